/- Comparisons: they decide whether two data are alike. -/
import Derived.Test.YtiahgjnpinjblaaCm
import Derived.Test.YtiahgjnpinjblaaEz
import Derived.Deep.RegionHeld3
import Derived.StillTailTactics
namespace Go.Proofs.Ytiahgjnpinjblaa
open Go.RowKit

/-- the place of the first that fits, or -1 -/
def firstIdx {α : Type} (p : α → Bool) (l : List α) : Int := match l.findIdx? p with | some k => k | none => -1
theorem firstIdx_at {α : Type} {p : α → Bool} {l : List α} {k : Nat} {x : α} (hj : ∀ j < k, ∀ y, l[j]? = some y → p y = false) (hx : l[k]? = some x) (hp : p x = true) : firstIdx p l = k := by
  have hk := (List.getElem?_eq_some_iff.1 hx).1
  have : l.findIdx? p = some k := by
    rw [List.findIdx?_eq_some_iff_getElem]
    obtain ⟨_, e⟩ := List.getElem?_eq_some_iff.1 hx
    refine ⟨hk, by rw [e]; exact hp, fun j hjk => ?_⟩
    rw [hj j hjk _ (List.getElem?_eq_getElem (by omega))]
    decide
  unfold firstIdx
  rw [this]
theorem firstIdx_no {α : Type} {p : α → Bool} {l : List α} (hj : ∀ j < l.length, ∀ y, l[j]? = some y → p y = false) : firstIdx p l = -1 := by
  have : l.findIdx? p = none := by
    rw [List.findIdx?_eq_none_iff]
    intro x hx
    obtain ⟨j, hjl, e⟩ := List.mem_iff_getElem.1 hx
    exact hj j hjl x (by rw [List.getElem?_eq_getElem hjl, e])
  unfold firstIdx
  rw [this]
theorem no_step {α : Type} {p : α → Bool} {l : List α} {k : Nat} {x : α} (hx : l[k]? = some x) (hp : p x = false) (hj : ∀ j < k, ∀ y, l[j]? = some y → p y = false) : ∀ j < k + 1, ∀ y, l[j]? = some y → p y = false := by
  intro j hlt y hy
  by_cases e : j = k
  · subst e; rw [hx] at hy; cases hy; exact hp
  · exact hj j (by omega) y hy
theorem firstIdx_lt {α : Type} (p : α → Bool) (l : List α) : -1 ≤ firstIdx p l ∧ firstIdx p l < l.length := by
  unfold firstIdx
  cases h : l.findIdx? p with
  | none => simp; omega
  | some k =>
    obtain ⟨hk, _⟩ := List.findIdx?_eq_some_iff_getElem.1 h
    simp; omega
def hubDoc (x : DHub) (name : ByteArray) : Int := firstIdx (fun d => decide (d.name = name)) x.docs
def hubSub (x : DHub) (id : Int) : Int := firstIdx (fun d => decide (d.id = id)) x.subs





end Go.Proofs.Ytiahgjnpinjblaa
