/- What applying operations computes, in plain Lean. -/
import Derived.Test.YtiahgjnpinjblaaWri
namespace Go.Proofs.Ytiahgjnpinjblaa
open Go.RowKit
def signsOf (p : DPart) : List Int := p.signs
def applyP (o : List DPart) (t : List Int) : List Int × Bool := if opOk o = true ∧ textOk t = true ∧ opFrom o = t.length then ((appFold signsOf t o).2, true) else ([], false)
theorem applyP_yes {o : List DPart} {t : List Int} (h : opOk o = true) (h2 : textOk t = true) (h3 : opFrom o = t.length) : applyP o t = ((appFold signsOf t o).2, true) := if_pos ⟨h, h2, h3⟩
theorem applyP_no {o : List DPart} {t : List Int} (h : ¬ (opOk o = true ∧ textOk t = true ∧ opFrom o = t.length)) : applyP o t = ([], false) := if_neg h
theorem textOk_iff {t : List Int} : textOk t = true ↔ t.length ≤ 200 ∧ t.all signOk = true := by simp [textOk, signsOk]
theorem appFold_all {sub : DPart → List Int} {t : List Int} (ht : t.all signOk = true) (hs : ∀ p, partOk p = true → p.kind = 2 → (sub p).all signOk = true) {o : List DPart} (hall : o.all partOk = true) : ∀ k, k ≤ o.length → (appFold sub t (o.take k)).2.all signOk = true
  | 0, _ => by simp [appFold]
  | k + 1, hk => by
    obtain ⟨x, hx⟩ := get_some (l := o) (k := k) (by omega)
    have ih := appFold_all ht hs hall k (by omega)
    rw [appFold_snoc hx]
    have hp := all_at hall hx
    rcases partOk_cases hp with ⟨kx, _⟩ | ⟨kx, _⟩ | ⟨kx, _⟩
    · simp only [appStep, kx, if_true, List.all_append, Bool.and_eq_true]
      exact ⟨ih, all_drop (all_take ht _) _⟩
    · simp only [appStep, kx]
      simp only [show ¬ ((2 : Int) = 1) from by decide, show ¬ ((2 : Int) = 3) from by decide, if_false, List.all_append, Bool.and_eq_true]
      exact ⟨ih, hs x hp kx⟩
    · simpa [appStep, kx] using ih
theorem signsOf_len (p : DPart) (_ : partOk p = true) (_ : p.kind = 2) : (signsOf p).length = p.signs.length := rfl
theorem signsOf_ok (p : DPart) (h : partOk p = true) (hk : p.kind = 2) : (signsOf p).all signOk = true := by
  rcases partOk_cases h with ⟨kx, _⟩ | ⟨_, _, _, h4⟩ | ⟨kx, _⟩
  · omega
  · exact h4
  · omega
/-- what comes out is a text -/
theorem applyP_text {o : List DPart} {t : List Int} (h : (applyP o t).2 = true) : textOk (applyP o t).1 = true ∧ ((applyP o t).1.length : Int) = opTo o := by
  by_cases hc : opOk o = true ∧ textOk t = true ∧ opFrom o = t.length
  · obtain ⟨h1, h2, h3⟩ := hc
    rw [applyP_yes h1 h2 h3]
    obtain ⟨hall, _, hf, hto⟩ := opOk_iff.1 h1
    have hfr : sumBut 2 o = t.length := by rw [← opFrom_of h1]; exact h3
    have hl := appFold_len signsOf t (fun p a b => signsOf_len p a b) hall hfr o.length (Nat.le_refl _)
    have ha := appFold_all (textOk_iff.1 h2).2 signsOf_ok hall o.length (Nat.le_refl _)
    rw [List.take_length] at hl ha
    refine ⟨textOk_iff.2 ⟨by simp only; omega, ha⟩, ?_⟩
    rw [opTo_of h1]; exact hl
  · rw [applyP_no hc] at h; cases h
theorem applyP_len (o : List DPart) (t : List Int) : (applyP o t).1.length ≤ 200 := by
  by_cases hc : opOk o = true ∧ textOk t = true ∧ opFrom o = t.length
  · have := (applyP_text (o := o) (t := t) (by rw [applyP_yes hc.1 hc.2.1 hc.2.2])).1
    exact (textOk_iff.1 this).1
  · rw [applyP_no hc]; simp
/-- operations one behind the other -/
def stepA (s : Option (List Int)) (o : List DPart) : Option (List Int) := s.bind fun t => if (applyP o t).2 = true then some (applyP o t).1 else none
def appTo (l : List (List DPart)) (t : List Int) : Option (List Int) := l.foldl stepA (some t)
theorem foldA_none : ∀ (l : List (List DPart)), l.foldl stepA none = none
  | [] => rfl
  | _ :: l => foldA_none l
theorem appTo_take_none {l : List (List DPart)} {t : List Int} {k : Nat} (h : appTo (l.take k) t = none) : appTo l t = none := by
  unfold appTo at *
  rw [← List.take_append_drop k l, List.foldl_append, h, foldA_none]
theorem appTo_succ {l : List (List DPart)} {t u : List Int} {k : Nat} {o : List DPart} (hk : l[k]? = some o) (h : appTo (l.take k) t = some u) : appTo (l.take (k + 1)) t = if (applyP o u).2 = true then some (applyP o u).1 else none := by
  unfold appTo at *
  rw [take_snoc hk, List.foldl_append, h]
  rfl
def applyAllP (l : List (List DPart)) (t : List Int) : List Int × Bool := if textOk t = true then (match appTo l t with
  | some u => (u, true)
  | none => ([], false)) else ([], false)
end Go.Proofs.Ytiahgjnpinjblaa
