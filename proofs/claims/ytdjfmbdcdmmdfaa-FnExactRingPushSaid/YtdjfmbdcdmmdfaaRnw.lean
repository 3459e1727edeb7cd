/- New rings and rings that begin anew. -/
import Derived.Test.YtdjfmbdcdmmdfaaRok
import Derived.Test.YtdjfmbdcdmmdfaaCp
import Derived.IntWalk
namespace Go.Proofs.Ytdjfmbdcdmmdfaa
open Go.RowKit
def ring0 : DRing := ⟨0, 0, false, []⟩
def ringNew (room rev : Int) : DRing × Bool := if rev ≤ 1000000000 ∧ ringOk ⟨room, rev + 1, false, []⟩ = true then (⟨room, rev + 1, false, []⟩, true) else (ring0, false)
theorem ringNew_yes {room rev : Int} (h1 : rev ≤ 1000000000) (h2 : ringOk ⟨room, rev + 1, false, []⟩ = true) : ringNew room rev = (⟨room, rev + 1, false, []⟩, true) := if_pos ⟨h1, h2⟩
theorem ringNew_no {room rev : Int} (h : ¬ (rev ≤ 1000000000 ∧ ringOk ⟨room, rev + 1, false, []⟩ = true)) : ringNew room rev = (ring0, false) := if_neg h
theorem ringOk_next {r : DRing} (h : ringOk r = true) : 1 ≤ r.next ∧ r.next ≤ 1000000000 ∧ 1 ≤ r.cap ∧ r.cap ≤ 6 := by
  simp only [ringOk, ringHead, Bool.and_eq_true, within_iff] at h
  omega
theorem wrap_succ {n : Int} (h1 : -9223372036854775808 ≤ n) (h2 : n ≤ 9223372036854775807) : ∃ m, IntKind.i64.wrap (n + 1) = m ∧ ((n ≤ 9223372036854775806 ∧ m = n + 1) ∨ (n = 9223372036854775807 ∧ m = -9223372036854775808)) := by
  refine ⟨_, rfl, ?_⟩
  by_cases h : n ≤ 9223372036854775806
  · exact .inl ⟨h, IntWalk.i64_in _ (by omega)⟩
  · have : n = 9223372036854775807 := by omega
    subst this
    exact .inr ⟨rfl, rfl⟩
def ringResync (r : DRing) (rev : Int) : DRing × Bool := if ringOk r = true then ringNew r.cap rev else (ring0, false)
theorem ringResync_yes {r : DRing} (rev : Int) (h : ringOk r = true) : ringResync r rev = ringNew r.cap rev := if_pos h
theorem ringResync_no {r : DRing} (rev : Int) (h : ¬ ringOk r = true) : ringResync r rev = (ring0, false) := if_neg h
theorem ringNew_list (room rev : Int) : (ringNew room rev).1.list = [] := by unfold ringNew; split <;> rfl
theorem ringResync_list (r : DRing) (rev : Int) : (ringResync r rev).1.list = [] := by unfold ringResync; split; exact ringNew_list _ _; rfl
theorem Fresh.poke {B : Nat} {w : World} {f : List Pos} (h : Fresh B w f) (a : Addr) (u : Value) : Fresh B (w.setCell a u) f := h.put a u
theorem Sl.poke {α : Type} [GoT α] {M B : Nat} {w : World} {v : Value} {l : List α} {f : List Pos} (h : Sl M w v l f) (hf : Fresh B w f) {b o : Nat} (hb : b < B) (u : Value) : Sl M (w.setCell ⟨b, o, none⟩ u) v l f := by
  refine h.keep fun p hp => ?_
  rw [cell_setCell, if_neg]
  rintro ⟨e, _⟩
  have := hf.ge p hp
  omega
end Go.Proofs.Ytdjfmbdcdmmdfaa
