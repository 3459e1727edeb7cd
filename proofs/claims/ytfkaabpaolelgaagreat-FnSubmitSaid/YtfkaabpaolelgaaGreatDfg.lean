/- Documents: what is forgotten. -/
import Derived.Test.YtfkaabpaolelgaaGreatDfo
import Derived.Test.YtfkaabpaolelgaaGreatRo
import Derived.Deep.Cut
namespace Go.Proofs.YtfkaabpaolelgaaGreat
open Go.RowKit
attribute [local go_sem ↓] Go.wp_at_zero Go.wp_at_succ
theorem forget_no {d : DDoc} {n : Int} (h : ¬ (docOk d = true ∧ 0 ≤ n)) : forget d n = (doc0, false) := if_neg h
theorem forget_all {d : DDoc} {n : Int} (h : docOk d = true ∧ 0 ≤ n) (h2 : ¬ 0 < (d.list.length : Int) - n) : forget d n = (d, true) := by unfold forget; rw [if_pos h, if_neg h2]
theorem forget_some {d : DDoc} {n : Int} (h : docOk d = true ∧ 0 ≤ n) (h2 : 0 < (d.list.length : Int) - n) : forget d n = (⟨d.name, d.from_ + ((d.list.length : Int) - n), (textAt d (d.from_ + ((d.list.length : Int) - n))).1, d.list.drop ((d.list.length : Int) - n).toNat, d.seen⟩, true) := by
  unfold forget; rw [if_pos h, if_pos h2]
theorem Fresh.three {B : Nat} {w : World} {a b c : List Pos} (h1 : Fresh B w a) (h2 : Fresh B w b) (h3 : Fresh B w c) (d12 : ∀ p ∈ a, p ∉ b) (d13 : ∀ p ∈ a, p ∉ c) (d23 : ∀ p ∈ b, p ∉ c) : Fresh B w (a ++ (b ++ c)) :=
  h1.join (h2.join h3 fun p hp q hq e => d23 p hp (e ▸ hq)) fun p hp q hq e => by
    subst e
    rcases List.mem_append.1 hq with hq | hq
    · exact d12 p hp hq
    · exact d13 p hp hq
theorem Fresh.subset {B : Nat} {w : World} {a b : List Pos} (h : Fresh B w b) (nd : a.Nodup) (hs : ∀ p ∈ a, p ∈ b) : Fresh B w a := ⟨nd, fun p hp => h.ge p (hs p hp), fun p hp => h.free p (hs p hp)⟩
theorem docOk_sizes {d : DDoc} (h : docOk d = true) : d.text.length ≤ 4000000 ∧ szL d.list ≤ 4000000 ∧ d.seen.length ≤ 4000000 := by
  have hp := docOk_iff.1 h
  have := hp.tlen; have := hp.sz; have := hp.slen
  omega
theorem forget_cnt (d : DDoc) (n : Int) : cntL (forget d n).1.text + (cntL (forget d n).1.list + cntL (forget d n).1.seen) ≤ 5 * (200 + szL d.text + szL d.list + szL d.seen) := by
  have h1 := cntL_le d.text; have h2 := cntL_le d.list; have h3 := cntL_le d.seen
  unfold forget
  split
  · split
    · have h4 := cntL_le (textAt d (d.from_ + ((d.list.length : Int) - n))).1
      have h5 := textAt_len d (d.from_ + ((d.list.length : Int) - n))
      have h6 := cntL_le (d.list.drop ((d.list.length : Int) - n).toNat)
      have h7 := (szL_sub d.list ((d.list.length : Int) - n).toNat).2
      rw [szL_int] at h4
      simp only
      omega
    · simp only; omega
  · simp [doc0, cntL]

end Go.Proofs.YtfkaabpaolelgaaGreat
