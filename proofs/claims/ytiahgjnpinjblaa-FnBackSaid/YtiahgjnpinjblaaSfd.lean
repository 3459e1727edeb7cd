/- What is seen of a client, laid anew by a walk through the list: plain Lean. -/
import Derived.Test.YtiahgjnpinjblaaSbp
namespace Go.Proofs.Ytiahgjnpinjblaa
open Go.RowKit
def sfStep (s : DSeen) (a : List DSeen × Bool) (y : DSeen) : List DSeen × Bool :=
  if y.client = s.client then a else if a.2 = false ∧ s.client < y.client then (a.1 ++ [s] ++ [y], true) else (a.1 ++ [y], a.2)
def sfEnd (s : DSeen) (a : List DSeen × Bool) : List DSeen := if a.2 = false then a.1 ++ [s] else a.1
def sfTo (l : List DSeen) (s : DSeen) (k : Nat) : List DSeen × Bool := (l.take k).foldl (sfStep s) ([], false)
theorem sfTo_succ {l : List DSeen} {s y : DSeen} {k : Nat} (h : l[k]? = some y) : sfTo l s (k + 1) = sfStep s (sfTo l s k) y := by
  unfold sfTo; rw [take_snoc h, List.foldl_append]; rfl
/-- the clients rise -/
def Rise : List DSeen → Prop
  | [] => True
  | x :: l => (∀ y ∈ l, x.client < y.client) ∧ Rise l
theorem sf_true (s : DSeen) : ∀ (l : List DSeen) (acc : List DSeen), (∀ y ∈ l, s.client < y.client) → l.foldl (sfStep s) (acc, true) = (acc ++ l, true)
  | [], acc, _ => by simp
  | y :: l, acc, h => by
    have h1 := h y (by simp)
    have e : sfStep s (acc, true) y = (acc ++ [y], true) := by unfold sfStep; rw [if_neg (by omega), if_neg (by simp)]
    rw [List.foldl_cons, e, sf_true s l _ fun z hz => h z (by simp [hz])]
    simp
theorem seenSet_above {s : DSeen} : ∀ {l : List DSeen}, (∀ y ∈ l, s.client < y.client) → seenSet l s = s :: l
  | [], _ => rfl
  | y :: l, h => by
    have := h y (by simp)
    unfold seenSet
    rw [if_neg (by omega), if_neg (by omega)]
theorem sf_above (s : DSeen) : ∀ (l : List DSeen) (acc : List DSeen), (∀ y ∈ l, s.client < y.client) → sfEnd s (l.foldl (sfStep s) (acc, false)) = acc ++ s :: l
  | [], acc, _ => by simp [sfEnd]
  | y :: l, acc, h => by
    have h1 := h y (by simp)
    have e : sfStep s (acc, false) y = (acc ++ [s] ++ [y], true) := by unfold sfStep; rw [if_neg (by omega), if_pos ⟨rfl, h1⟩]
    rw [List.foldl_cons, e, sf_true s l _ fun z hz => h z (by simp [hz])]
    simp [sfEnd]
theorem sf_all (s : DSeen) : ∀ (l : List DSeen) (acc : List DSeen), Rise l → sfEnd s (l.foldl (sfStep s) (acc, false)) = acc ++ seenSet l s
  | [], acc, _ => by simp [sfEnd, seenSet]
  | y :: l, acc, h => by
    by_cases h1 : y.client < s.client
    · have e : sfStep s (acc, false) y = (acc ++ [y], false) := by unfold sfStep; rw [if_neg (by omega), if_neg (by simp; omega)]
      have e2 : seenSet (y :: l) s = y :: seenSet l s := by rw [seenSet, if_pos h1]
      rw [List.foldl_cons, e, sf_all s l _ h.2, e2]
      simp
    · by_cases h2 : y.client = s.client
      · have e : sfStep s (acc, false) y = (acc, false) := by unfold sfStep; rw [if_pos h2]
        have e2 : seenSet (y :: l) s = s :: l := by rw [seenSet, if_neg h1, if_pos h2]
        rw [List.foldl_cons, e, sf_above s l _ fun z hz => by have := h.1 z hz; omega, e2]
      · have hall : ∀ z ∈ y :: l, s.client < z.client := fun z hz => by
          rcases List.mem_cons.1 hz with rfl | hz
          · omega
          · have := h.1 z hz; omega
        rw [sf_above s (y :: l) acc hall, seenSet_above hall]
theorem rise_of : ∀ {l : List DSeen}, (∀ j a b, l[j]? = some a → l[j + 1]? = some b → a.client < b.client) → Rise l
  | [], _ => trivial
  | x :: l, h => by
    have ih : Rise l := rise_of fun j a b ha hb => h (j + 1) a b (by simpa using ha) (by simpa using hb)
    refine ⟨fun y hy => ?_, ih⟩
    cases l with
    | nil => cases hy
    | cons z l =>
      have h0 := h 0 x z rfl rfl
      rcases List.mem_cons.1 hy with rfl | hy
      · exact h0
      · have := ih.1 y hy; omega
theorem seenOk_rise {hd : Int} {l : List DSeen} (h : seenOk hd l = true) : Rise l := rise_of fun j a b ha hb => by
  have h1 := seenOk_iff.1 h (j + 1) b hb
  simp only [seenI, ha, Bool.and_eq_true, decide_eq_true_eq] at h1
  exact h1.2
theorem sf_seenSet {hd : Int} {l : List DSeen} (h : seenOk hd l = true) (s : DSeen) : sfEnd s (sfTo l s l.length) = seenSet l s := by
  unfold sfTo
  rw [List.take_length, sf_all s l [] (seenOk_rise h), List.nil_append]
theorem sfTo_len (l : List DSeen) (s : DSeen) : ∀ k, k ≤ l.length → (sfTo l s k).1.length ≤ 2 * k
  | 0, _ => by simp [sfTo]
  | k + 1, hk => by
    obtain ⟨y, hy⟩ := get_some (l := l) (k := k) (by omega)
    have ih := sfTo_len l s k (by omega)
    rw [sfTo_succ hy]
    unfold sfStep
    split
    · omega
    · split <;> simp <;> omega
end Go.Proofs.Ytiahgjnpinjblaa
