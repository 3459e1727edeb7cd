/- Hubs: poll. -/
import Derived.Test.YtdjfmbdcdmmdfaaGreatHow
import Derived.Test.YtdjfmbdcdmmdfaaGreatTwo
import Derived.Test.YtdjfmbdcdmmdfaaGreatRpl
import Derived.Deep.Cut
namespace Go.Proofs.YtdjfmbdcdmmdfaaGreat
open Go.RowKit
attribute [local go_sem ↓] Go.wp_at_zero Go.wp_at_succ
def subRing (s : DSub) (r : DRing) : DSub := ⟨s.id, s.doc, r⟩
def hubPoll (z : DHub) (id n : Int) : DHub × List DEntry × Int :=
  if hubOk z = true ∧ 1 ≤ n then
    (if hubSub z id < 0 then (hub0, [], 8) else match z.subs[(hubSub z id).toNat]? with
      | some s => if (ringPoll s.r n).2.2 = 0 then (⟨z.shut, z.docs, z.subs.set (hubSub z id).toNat (subRing s (ringPoll s.r n).1), z.last⟩, (ringPoll s.r n).2.1, 0) else (hub0, [], (ringPoll s.r n).2.2)
      | none => (hub0, [], 8))
  else (hub0, [], 1)
theorem hubPoll_no {z : DHub} {id n : Int} (h : ¬ (hubOk z = true ∧ 1 ≤ n)) : hubPoll z id n = (hub0, [], 1) := if_neg h
theorem hubPoll_sub {z : DHub} {id n : Int} (h : hubOk z = true ∧ 1 ≤ n) (h2 : hubSub z id < 0) : hubPoll z id n = (hub0, [], 8) := by unfold hubPoll; rw [if_pos h, if_pos h2]
theorem hubPoll_code {z : DHub} {id n c : Int} {k : Nat} {s : DSub} {r : DRing} {l : List DEntry} (h : hubOk z = true ∧ 1 ≤ n) (hk : hubSub z id = k) (hs : z.subs[k]? = some s) (hp : ringPoll s.r n = (r, l, c)) (hc : c ≠ 0) : hubPoll z id n = (hub0, [], c) := by
  unfold hubPoll
  rw [if_pos h, if_neg (by omega), hk, Int.toNat_natCast, hs]
  simp only [hp]
  rw [if_neg hc]
theorem hubPoll_yes {z : DHub} {id n : Int} {k : Nat} {s : DSub} {r : DRing} {l : List DEntry} (h : hubOk z = true ∧ 1 ≤ n) (hk : hubSub z id = k) (hs : z.subs[k]? = some s) (hp : ringPoll s.r n = (r, l, 0)) :
    hubPoll z id n = (⟨z.shut, z.docs, z.subs.set k (subRing s r), z.last⟩, l, 0) := by
  unfold hubPoll
  rw [if_pos h, if_neg (by omega), hk, Int.toNat_natCast, hs]
  simp [hp]
theorem cntL_set {α : Type} [GoM α] : ∀ {l : List α} {k : Nat} {x y : α}, l[k]? = some x → cntL (l.set k y) + GoM.cnt x = cntL l + GoM.cnt y
  | [], k, x, y, h => by simp at h
  | z :: l, 0, x, y, h => by simp at h; subst h; simp [cntL]; omega
  | z :: l, k + 1, x, y, h => by simp at h; have := cntL_set (y := y) h; simp only [List.set_cons_succ, cntL]; omega
theorem cntL_get {α : Type} [GoM α] : ∀ {l : List α} {k : Nat} {x : α}, l[k]? = some x → GoM.cnt x ≤ cntL l
  | [], k, x, h => by simp at h
  | z :: l, 0, x, h => by simp at h; subst h; simp [cntL]
  | z :: l, k + 1, x, h => by simp at h; have := cntL_get h; simp only [cntL]; omega
theorem ringPoll_cnts (r : DRing) (n : Int) : cntL (ringPoll r n).1.list + cntL (ringPoll r n).2.1 ≤ cntL r.list := by
  unfold ringPoll
  split
  · split
    · simp [cntL]
    · have := cntL_append (r.list.take (pollK r n)) (r.list.drop (pollK r n)); rw [List.take_append_drop] at this; simp only; omega
  · simp [cntL]
theorem hubPoll_cnt (z : DHub) (id n : Int) : cntL (hubPoll z id n).1.docs + cntL (hubPoll z id n).1.subs + cntL (hubPoll z id n).2.1 ≤ 5 * (szL z.docs + szL z.subs) := by
  have := hub_cnt z
  by_cases h : hubOk z = true ∧ 1 ≤ n
  rotate_left
  · rw [hubPoll_no h]; simp [hub0, cntL]
  by_cases h2 : hubSub z id < 0
  · rw [hubPoll_sub h h2]; simp [hub0, cntL]
  obtain ⟨k, s, hk, hs⟩ := hubSub_get h2
  by_cases hc : (ringPoll s.r n).2.2 = 0
  · rw [hubPoll_yes (r := (ringPoll s.r n).1) (l := (ringPoll s.r n).2.1) h hk hs (by rw [← hc])]
    have e1 := cntL_set (y := subRing s (ringPoll s.r n).1) hs
    have e2 := ringPoll_cnts s.r n
    have e3 : GoM.cnt s = 5 + cntL s.r.list := rfl
    have e4 : GoM.cnt (subRing s (ringPoll s.r n).1) = 5 + cntL (ringPoll s.r n).1.list := rfl
    simp only
    omega
  · rw [hubPoll_code (r := (ringPoll s.r n).1) (l := (ringPoll s.r n).2.1) h hk hs rfl hc]; simp [hub0, cntL]

end Go.Proofs.YtdjfmbdcdmmdfaaGreat
