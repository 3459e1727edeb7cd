/- What the program's predicates on signs, parts and operations compute, in plain Lean. -/
import Derived.Test.YtihbmefidbmmdaaTypes
import Derived.Test.YtihbmefidbmmdaaBasic
namespace Go.Proofs.Ytihbmefidbmmdaa
open Go.RowKit

def within (n lo hi : Int) : Bool := decide (lo ≤ n) && decide (n ≤ hi)
theorem within_iff {n lo hi : Int} : within n lo hi = true ↔ lo ≤ n ∧ n ≤ hi := by simp [within]
def signOk (n : Int) : Bool := within n 0 1114111 && !within n 55296 57343
def signsOk (l : List Int) : Bool := l.all signOk
def partOk (p : DPart) : Bool :=
  if p.kind = 1 then within p.n 0 200 && decide (p.signs.length = 0)
  else if p.kind = 3 then within p.n 0 200 && decide (p.signs.length = 0)
  else if p.kind = 2 then decide (p.n = 0) && decide (p.signs.length ≤ 200) && signsOk p.signs
  else false
def partsOk (o : List DPart) : Bool := o.all partOk && decide (o.length ≤ 600)
def psize (p : DPart) : Int := p.n + p.signs.length
def sumBut (but : Int) : List DPart → Int
  | [] => 0
  | p :: o => (if p.kind = but then 0 else psize p) + sumBut but o
def sumOf (kind : Int) : List DPart → Int
  | [] => 0
  | p :: o => (if p.kind = kind then psize p else 0) + sumOf kind o
def sizeBut (but : Int) (o : List DPart) : Int := if partsOk o = true then sumBut but o else 0
def sum1 (kind : Int) (o : List DPart) : Int := if partsOk o = true then sumOf kind o else 0
def opFrom (o : List DPart) : Int := sizeBut 2 o
def opTo (o : List DPart) : Int := sizeBut 3 o
def opOk (o : List DPart) : Bool := partsOk o && decide (opFrom o ≤ 200) && decide (opTo o ≤ 200)
def textOk (t : List Int) : Bool := decide (t.length ≤ 200) && signsOk t

/-- a loop that asks each element -/
theorem all_no {α : Type} {p : α → Bool} {l : List α} {k : Nat} {x : α} (hx : l[k]? = some x) (hp : p x = false) : l.all p = false := by
  rw [List.all_eq_false]
  exact ⟨x, List.mem_of_getElem? hx, by simp [hp]⟩
theorem all_yes {α : Type} {p : α → Bool} {l : List α} (hj : ∀ j < l.length, ∀ y, l[j]? = some y → p y = true) : l.all p = true := by
  rw [List.all_eq_true]
  intro x hx
  obtain ⟨j, hjl, e⟩ := List.mem_iff_getElem.1 hx
  exact hj j hjl x (by rw [List.getElem?_eq_getElem hjl, e])
theorem yes_step {α : Type} {p : α → Bool} {l : List α} {k : Nat} {x : α} (hx : l[k]? = some x) (hp : p x = true) (hj : ∀ j < k, ∀ y, l[j]? = some y → p y = true) : ∀ j < k + 1, ∀ y, l[j]? = some y → p y = true := by
  intro j hlt y hy
  by_cases e : j = k
  · subst e; rw [hx] at hy; cases hy; exact hp
  · exact hj j (by omega) y hy
theorem all_at {α : Type} {p : α → Bool} {l : List α} (h : l.all p = true) {k : Nat} {x : α} (hx : l[k]? = some x) : p x = true := List.all_eq_true.1 h x (List.mem_of_getElem? hx)

theorem partOk_cases {p : DPart} (h : partOk p = true) : (p.kind = 1 ∧ 0 ≤ p.n ∧ p.n ≤ 200 ∧ p.signs = []) ∨ (p.kind = 2 ∧ p.n = 0 ∧ p.signs.length ≤ 200 ∧ signsOk p.signs = true) ∨ (p.kind = 3 ∧ 0 ≤ p.n ∧ p.n ≤ 200 ∧ p.signs = []) := by
  unfold partOk at h
  split at h
  · simp [within_iff] at h; exact .inl ⟨‹_›, h.1.1, h.1.2, h.2⟩
  · split at h
    · simp [within_iff] at h; exact .inr (.inr ⟨‹_›, h.1.1, h.1.2, h.2⟩)
    · split at h
      · simp at h; exact .inr (.inl ⟨‹_›, h.1.1, h.1.2, h.2⟩)
      · cases h
theorem psize_bd {p : DPart} (h : partOk p = true) : 0 ≤ psize p ∧ psize p ≤ 200 := by
  unfold psize
  rcases partOk_cases h with ⟨_, h1, h2, h3⟩ | ⟨_, h1, h2, _⟩ | ⟨_, h1, h2, h3⟩
  · rw [h3]; simp; omega
  · omega
  · rw [h3]; simp; omega
theorem sumBut_append (b : Int) : ∀ (x y : List DPart), sumBut b (x ++ y) = sumBut b x + sumBut b y
  | [], y => by simp [sumBut]
  | p :: x, y => by simp only [List.cons_append, sumBut, sumBut_append b x y]; omega
theorem sumOf_append (b : Int) : ∀ (x y : List DPart), sumOf b (x ++ y) = sumOf b x + sumOf b y
  | [], y => by simp [sumOf]
  | p :: x, y => by simp only [List.cons_append, sumOf, sumOf_append b x y]; omega
theorem sumBut_bd (b : Int) : ∀ (x : List DPart), x.all partOk = true → 0 ≤ sumBut b x ∧ sumBut b x ≤ 200 * x.length
  | [], _ => by simp [sumBut]
  | p :: x, h => by
    simp only [List.all_cons, Bool.and_eq_true] at h
    have h1 := psize_bd h.1
    have h2 := sumBut_bd b x h.2
    simp only [sumBut, List.length_cons]
    split <;> omega
theorem sumOf_bd (b : Int) : ∀ (x : List DPart), x.all partOk = true → 0 ≤ sumOf b x ∧ sumOf b x ≤ 200 * x.length
  | [], _ => by simp [sumOf]
  | p :: x, h => by
    simp only [List.all_cons, Bool.and_eq_true] at h
    have h1 := psize_bd h.1
    have h2 := sumOf_bd b x h.2
    simp only [sumOf, List.length_cons]
    split <;> omega
theorem all_take {α : Type} {p : α → Bool} {l : List α} (h : l.all p = true) (k : Nat) : (l.take k).all p = true := by
  rw [List.all_eq_true] at *
  exact fun x hx => h x (List.mem_of_mem_take hx)
theorem all_drop {α : Type} {p : α → Bool} {l : List α} (h : l.all p = true) (k : Nat) : (l.drop k).all p = true := by
  rw [List.all_eq_true] at *
  exact fun x hx => h x (List.mem_of_mem_drop hx)
theorem sumBut_snoc {o : List DPart} {k : Nat} {p : DPart} (b : Int) (h : o[k]? = some p) : sumBut b (o.take (k + 1)) = sumBut b (o.take k) + (if p.kind = b then 0 else psize p) := by
  rw [take_snoc h, sumBut_append]; simp [sumBut]
theorem sumOf_snoc {o : List DPart} {k : Nat} {p : DPart} (b : Int) (h : o[k]? = some p) : sumOf b (o.take (k + 1)) = sumOf b (o.take k) + (if p.kind = b then psize p else 0) := by
  rw [take_snoc h, sumOf_append]; simp [sumOf]
theorem partsOk_iff {o : List DPart} : partsOk o = true ↔ o.all partOk = true ∧ o.length ≤ 600 := by simp [partsOk]
theorem sumBut_of : ∀ (o : List DPart), o.all partOk = true → sumBut 2 o = sumOf 1 o + sumOf 3 o ∧ sumBut 3 o = sumOf 1 o + sumOf 2 o
  | [], _ => by simp [sumBut, sumOf]
  | p :: o, h => by
    simp only [List.all_cons, Bool.and_eq_true] at h
    have ih := sumBut_of o h.2
    simp only [sumBut, sumOf]
    rcases partOk_cases h.1 with ⟨k, _⟩ | ⟨k, _⟩ | ⟨k, _⟩ <;> rw [k] <;> simp <;> omega
end Go.Proofs.Ytihbmefidbmmdaa
