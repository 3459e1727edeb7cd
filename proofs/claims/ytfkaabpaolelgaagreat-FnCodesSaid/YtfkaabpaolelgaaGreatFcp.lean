/- FnCodes: what the functions answer (plain). -/
import Derived.Test.YtfkaabpaolelgaaGreatMdp
import Derived.Test.YtfkaabpaolelgaaGreatKpg
namespace Go.Proofs.YtfkaabpaolelgaaGreat
open Go.RowKit
theorem keep1 {n : Int} (h0 : 0 ≤ n) (h : n ≤ 200) : opOk [(⟨1, n, []⟩ : DPart)] = true ∧ opFrom [(⟨1, n, []⟩ : DPart)] = n := by
  have ok : opOk [(⟨1, n, []⟩ : DPart)] = true := opOk_iff.2 ⟨by simp [partOk, within]; omega, by simp, by simp [sumBut, psize]; omega, by simp [sumBut, psize]; omega⟩
  exact ⟨ok, by rw [opFrom_of ok]; simp [sumBut, psize]⟩
theorem keeping_ok {n : Nat} (h : n ≤ 200) : opOk (keeping n) = true ∧ opFrom (keeping n) = n := by
  unfold keeping
  by_cases h1 : within (n : Int) 1 200 = true
  · rw [if_pos h1]
    exact keep1 (by omega) (by omega)
  · rw [if_neg h1]
    have : n = 0 := by rw [within_iff] at h1; omega
    subst this
    decide
theorem keeping_over {n : Nat} (h : n ≤ 200) : ¬ opFrom (keeping ((n : Int) + 1)) = n := by
  unfold keeping
  by_cases h1 : within ((n : Int) + 1) 1 200 = true
  · rw [if_pos h1, (keep1 (n := (n : Int) + 1) (by omega) (within_iff.1 h1).2).2]
    omega
  · rw [if_neg h1]
    have : n = 200 := by rw [within_iff] at h1; omega
    subst this
    decide
section
variable {d : DDoc} (h : DrD d)
include h
theorem head_len : (headText d).length ≤ 200 := (textOk_iff.1 (headText_yes h.ok).2).1
theorem codes_future : (rebase d (headRev d + 1) (keeping (headText d).length)).2 = 2 := by
  unfold rebase
  rw [if_pos ⟨h.ok, (keeping_ok (head_len h)).1⟩, if_pos (by omega)]
theorem codes_old : (rebase d (d.from_ - 1) (keeping (headText d).length)).2 = 3 := by
  unfold rebase headRev
  rw [if_pos ⟨h.ok, (keeping_ok (head_len h)).1⟩, if_neg (by omega), if_pos (by omega)]
theorem codes_odd : (rebase d (headRev d) (keeping ((headText d).length + 1))).2 = 1 := by
  unfold rebase
  split
  · rw [if_neg (by omega), if_neg (by unfold headRev; omega), if_neg (show ¬ opFrom (keeping (((headText d).length : Int) + 1)) = ((textAt d (headRev d)).1.length : Int) from keeping_over (head_len h))]
  · rfl
theorem codes_seen : seenOf d 7 = (⟨0, 0, 0⟩, false) := seenOf_no fun j _ y hy => by have := h.cl y (List.mem_of_getElem? hy); simp; omega
theorem codes_seq : (submit d 7 2 (headRev d) (keeping (headText d).length)).2.2 = 4 := by
  have e : (seenOf d 7).1.seq = 0 := by rw [codes_seen h]
  rw [submit_seq ⟨h.ok, by decide, by decide, (keeping_ok (head_len h)).1⟩ (by rw [e]; decide) (by rw [e]; decide)]
omit h in
theorem codes_bad : (submit d 9 1 (headRev d) (keeping (headText d).length)).2.2 = 1 := by
  rw [submit_no (fun g => by have := g.2.1; exact absurd this (by decide))]
theorem codes_late : (fetch d (headRev d + 1)).2 = 2 := by
  unfold fetch
  rw [if_pos h.ok, if_pos (by omega)]
theorem codes_m0 : missed d (headRev d) = 0 := by
  have e : fetch d (headRev d) = ([], 0) := by
    unfold fetch
    rw [if_pos h.ok, if_neg (by omega), if_neg (by unfold headRev; omega), show revK d (headRev d) = d.list.length by unfold revK headRev; omega, List.drop_length]
  unfold missed
  rw [e]; rfl
theorem codes_m1 : missed d d.from_ = d.list.length := by
  have e : fetch d d.from_ = (d.list, 0) := by
    unfold fetch
    rw [if_pos h.ok, if_neg (by unfold headRev; omega), if_neg (by omega), show revK d d.from_ = 0 by unfold revK; omega, List.drop_zero]
  unfold missed
  rw [e]; rfl
theorem codes_m2 : missed d (d.from_ - 1) = -1 := by
  have e : fetch d (d.from_ - 1) = ([], 3) := by
    unfold fetch
    rw [if_pos h.ok, if_neg (by unfold headRev; omega), if_pos (by omega)]
  unfold missed
  rw [e]; rfl
end
end Go.Proofs.YtfkaabpaolelgaaGreat
