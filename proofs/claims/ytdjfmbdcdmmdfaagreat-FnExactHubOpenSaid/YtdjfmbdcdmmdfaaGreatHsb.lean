/- Hubs: subscribe. -/
import Derived.Test.YtdjfmbdcdmmdfaaGreatHow
import Derived.Deep.Cut
import Derived.BigRegion
namespace Go.Proofs.YtdjfmbdcdmmdfaaGreat
open Go.RowKit
attribute [local go_sem ↓] Go.wp_at_zero Go.wp_at_succ
theorem Sl.nilS {α : Type} [GoT α] {M : Nat} {w : World} {v : Value} {f : List Pos} (h : Sl M w v ([] : List α) f) : ∃ a c, v = .slice a 0 c := h.isS
def subNew (z : DHub) (name : ByteArray) (room n : Int) : DSub := ⟨z.last + 1, name, ⟨room, n + 1, false, []⟩⟩
theorem hubSubscribe_no {z : DHub} {name : ByteArray} {room : Int} (h : ¬ (hubOk z = true ∧ within room 1 6 = true)) : hubSubscribe z name room = (hub0, 0, 1) := if_neg h
theorem hubSubscribe_shut {z : DHub} {name : ByteArray} {room : Int} (h : hubOk z = true ∧ within room 1 6 = true) (h2 : z.shut = true) : hubSubscribe z name room = (hub0, 0, 12) := by unfold hubSubscribe; rw [if_pos h, if_pos h2]
theorem hubSubscribe_doc {z : DHub} {name : ByteArray} {room : Int} (h : hubOk z = true ∧ within room 1 6 = true) (h2 : z.shut = false) (h3 : hubDoc z name < 0) : hubSubscribe z name room = (hub0, 0, 6) := by unfold hubSubscribe; rw [if_pos h, if_neg (by simp [h2]), if_pos h3]
theorem hubSubscribe_full {z : DHub} {name : ByteArray} {room : Int} (h : hubOk z = true ∧ within room 1 6 = true) (h2 : z.shut = false) (h3 : ¬ hubDoc z name < 0) (h4 : z.subs.length = 6 ∨ z.last = 1000000000) : hubSubscribe z name room = (hub0, 0, 10) := by unfold hubSubscribe; rw [if_pos h, if_neg (by simp [h2]), if_neg h3, if_pos h4]
theorem ringNew_at {room n : Int} (h : within room 1 6 = true) (h0 : 0 ≤ n) (h1 : n ≤ 999999008) : ringNew room n = (⟨room, n + 1, false, []⟩, true) := by
  have := within_iff.1 h
  refine ringNew_yes (by omega) ?_
  simp [ringOk, ringHead, within]
  omega
theorem hubSubscribe_yes {z : DHub} {name : ByteArray} {room : Int} {k : Nat} {d : DDoc} (h : hubOk z = true ∧ within room 1 6 = true) (h2 : z.shut = false) (hk : hubDoc z name = k) (hd : z.docs[k]? = some d) (h4 : ¬ (z.subs.length = 6 ∨ z.last = 1000000000)) :
    hubSubscribe z name room = (⟨false, z.docs, z.subs ++ [subNew z name room (headRev d)], z.last + 1⟩, z.last + 1, 0) := by
  unfold hubSubscribe
  have hh : headOf z name = headRev d := by simp [headOf, hk, hd]
  have hb := headRev_bd ((hubOk_iff.1 h.1).doc (List.mem_of_getElem? hd))
  rw [if_pos h, if_neg (by simp [h2]), if_neg (by omega), if_neg h4, hh, ringNew_at h.2 hb.1 hb.2.1, h2]
  rfl
theorem hubSubscribe_cnt (z : DHub) (name : ByteArray) (room : Int) : cntL (hubSubscribe z name room).1.docs + cntL (hubSubscribe z name room).1.subs ≤ 5 * (szL z.docs + szL z.subs) + 5 := by
  have := hub_cnt z
  by_cases h : hubOk z = true ∧ within room 1 6 = true
  rotate_left
  · rw [hubSubscribe_no h]; simp [hub0, cntL]
  cases h2 : z.shut
  rotate_left
  · rw [hubSubscribe_shut h h2]; simp [hub0, cntL]
  by_cases h3 : hubDoc z name < 0
  · rw [hubSubscribe_doc h h2 h3]; simp [hub0, cntL]
  by_cases h4 : z.subs.length = 6 ∨ z.last = 1000000000
  · rw [hubSubscribe_full h h2 h3 h4]; simp [hub0, cntL]
  obtain ⟨k, d, hk, hd⟩ := hubDoc_get h3
  rw [hubSubscribe_yes h h2 hk hd h4]
  have e : GoM.cnt (subNew z name room (headRev d)) = 5 := rfl
  simp only [cntL_append, cntL, e]
  omega

end Go.Proofs.YtdjfmbdcdmmdfaaGreat
