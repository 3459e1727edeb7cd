/- A cursor in the parts of an operation, and what is left behind it: plain Lean. -/
import Derived.Test.YtiahgjnpinjblaaTfw
namespace Go.Proofs.Ytiahgjnpinjblaa
open Go.RowKit
def curRem (o : List DPart) (k d : Nat) : List DPart := match o.drop k with
  | [] => []
  | p :: l => cutR p d :: l
structure Cok (o : List DPart) (k d : Nat) : Prop where
  le : k ≤ o.length
  dn : ∀ p, o[k]? = some p → d ≤ nsz p
def hd (l : List DPart) : DPart := l.headD ⟨0, 0, []⟩
/-- a part's size as the reference tells it -/
def szOf (p : DPart) : Int := if p.kind = 2 then p.signs.length else p.n
theorem szOf_nsz {p : DPart} (h : partOk p = true) : szOf p = nsz p := by
  have hz := nsz_eq h
  unfold szOf
  rcases partOk_cases h with ⟨k, n1, n2, n3⟩ | ⟨k, n1, n2, n3⟩ | ⟨k, n1, n2, n3⟩
  · rw [if_neg (by omega), hz]; simp [psize, n3]
  · rw [if_pos k, hz]; simp [psize, n1]
  · rw [if_neg (by omega), hz]; simp [psize, n3]
theorem nsz_le {p : DPart} (h : partOk p = true) : nsz p ≤ 200 := by
  have hz := nsz_eq h
  rcases partOk_cases h with ⟨k, n1, n2, n3⟩ | ⟨k, n1, n2, n3⟩ | ⟨k, n1, n2, n3⟩
  · have : psize p = p.n := by simp [psize, n3]
    omega
  · have : psize p = p.signs.length := by simp [psize, n1]
    omega
  · have : psize p = p.n := by simp [psize, n3]
    omega
theorem drop_some {o : List DPart} {k : Nat} {p : DPart} (h : o[k]? = some p) : o.drop k = p :: o.drop (k + 1) := by
  obtain ⟨hl, rfl⟩ := List.getElem?_eq_some_iff.1 h
  exact List.drop_eq_getElem_cons hl
theorem curRem_some {o : List DPart} {k d : Nat} {p : DPart} (h : o[k]? = some p) : curRem o k d = cutR p d :: o.drop (k + 1) := by
  unfold curRem; rw [drop_some h]
theorem curRem_end {o : List DPart} {k d : Nat} (h : o.length ≤ k) : curRem o k d = [] := by
  unfold curRem; rw [List.drop_eq_nil_of_le h]
theorem cutR_zero (p : DPart) : cutR p 0 = p := by
  unfold cutR; split <;> simp
theorem cutR_cutR (p : DPart) (d n : Nat) : cutR (cutR p d) n = cutR p (d + n) := by
  by_cases h : p.kind = 2
  · simp [cutR, h, List.drop_drop]
  · simp [cutR, h]; omega
theorem curRem_zero (o : List DPart) (k : Nat) : curRem o k 0 = o.drop k := by
  unfold curRem
  split
  · rename_i h; rw [h]
  · rename_i h; rw [h, cutR_zero]
theorem Cok.zero {o : List DPart} {k : Nat} (h : k ≤ o.length) : Cok o k 0 := ⟨h, fun _ _ => Nat.zero_le _⟩
theorem cur_next {o : List DPart} {k d : Nat} {p : DPart} (h : o[k]? = some p) (hp : partOk p = true) (hd : d = nsz p) : skip (curRem o k d) = skip (curRem o (k + 1) 0) := by
  subst hd
  rw [curRem_some h, curRem_zero]
  have := nsz_cutR hp (Nat.le_refl (nsz p))
  simp [skip, this]
theorem cur_stay {o : List DPart} {k d : Nat} {p : DPart} (h : o[k]? = some p) (hp : partOk p = true) (hd : d < nsz p) : skip (curRem o k d) = curRem o k d := by
  rw [curRem_some h]
  have := nsz_cutR hp (Nat.le_of_lt hd)
  exact skip_id (by omega)
theorem cur_atEnd {o : List DPart} {k d : Nat} (h : o.length ≤ k) : skip (curRem o k d) = [] := by rw [curRem_end h]; rfl
/-- where the cursor stands, what is left begins -/
theorem cur_head {o : List DPart} {k d : Nat} {p : DPart} {l : List DPart} (h : curRem o k d = p :: l) : ∃ q, o[k]? = some q ∧ p = cutR q d ∧ l = o.drop (k + 1) := by
  by_cases hk : k < o.length
  · obtain ⟨q, hq⟩ := get_some hk
    rw [curRem_some hq] at h
    cases h
    exact ⟨q, hq, rfl, rfl⟩
  · rw [curRem_end (by omega)] at h; cases h
theorem cur_kind {o : List DPart} {k d : Nat} {p : DPart} {l : List DPart} (h : curRem o k d = p :: l) : ∃ q, o[k]? = some q ∧ p.kind = q.kind := by
  obtain ⟨q, hq, rfl, _⟩ := cur_head h
  refine ⟨q, hq, ?_⟩
  unfold cutR; split <;> rfl
theorem cur_step {o : List DPart} {k d : Nat} {p : DPart} {l : List DPart} (h : curRem o k d = p :: l) (n : Nat) : curRem o k (d + n) = cutR p n :: l := by
  obtain ⟨q, hq, rfl, rfl⟩ := cur_head h
  rw [curRem_some hq, cutR_cutR]
/-- the size that is left of the part where the cursor stands -/
theorem cur_left {o : List DPart} (hall : o.all partOk = true) {k d : Nat} {p : DPart} {l : List DPart} (hc : Cok o k d) (h : curRem o k d = p :: l) : ∃ q, o[k]? = some q ∧ partOk q = true ∧ szOf q = nsz q ∧ nsz q ≤ 200 ∧ d ≤ nsz q ∧ nsz p = nsz q - d ∧ p.kind = q.kind ∧ (∀ n, n ≤ nsz p → Cok o k (d + n)) ∧ (q.kind = 2 → p.signs = q.signs.drop d ∧ q.signs.length = nsz q) := by
  obtain ⟨q, hq, rfl, rfl⟩ := cur_head h
  have hp := all_at hall hq
  have hd := hc.dn q hq
  have hz := nsz_cutR hp hd
  refine ⟨q, hq, hp, szOf_nsz hp, nsz_le hp, hd, hz, ?_, fun n hn => ⟨hc.le, fun p' hp' => ?_⟩, fun k2 => ⟨?_, ?_⟩⟩
  · unfold cutR; split <;> rfl
  · rw [hq] at hp'; cases hp'; omega
  · simp [cutR, k2]
  · have := (put_sz hp k2).1; omega
theorem cur_cok {o : List DPart} (hall : o.all partOk = true) {k d : Nat} {p : DPart} {l : List DPart} (hc : Cok o k d) (h : curRem o k d = p :: l) {n : Nat} (hn : n ≤ nsz p) : Cok o k (d + n) := by
  obtain ⟨_, _, _, _, _, _, _, _, h1, _⟩ := cur_left hall hc h
  exact h1 n hn
theorem cur_dle {o : List DPart} (hall : o.all partOk = true) {k d : Nat} {p : DPart} {l : List DPart} (hc : Cok o k d) (h : curRem o k d = p :: l) : d ≤ 200 := by
  obtain ⟨q, _, _, _, h1, h2, _⟩ := cur_left hall hc h
  omega
theorem skip_ne {p : DPart} {l : List DPart} (h : nsz p = 0) : skip (p :: l) ≠ p :: l := by
  intro e
  have e1 : skip (p :: l) = skip l := by simp [skip, h]
  have := skip_len l
  rw [e1] at e
  rw [e, List.length_cons] at this
  omega
theorem skip_hd_ne {l : List DPart} (h : skip l = l) : l = [] ∨ ∃ p t, l = p :: t ∧ nsz p ≠ 0 := by
  rcases skip_case l with h1 | ⟨p, t, h1, h2⟩
  · exact .inl (by rw [← h]; exact h1)
  · exact .inr ⟨p, t, by rw [← h]; exact h1, h2⟩
end Go.Proofs.Ytiahgjnpinjblaa
