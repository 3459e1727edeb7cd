/- The steps of putting two operations together, as a walk makes them: plain Lean. -/
import Derived.Test.YtiahgjnpinjblaaTfw
namespace Go.Proofs.Ytiahgjnpinjblaa
open Go.RowKit
/-- what the parts of two operations, one behind the other, become in one -/
def cf : Nat → List DPart → List DPart → List DPart
  | 0, _, _ => []
  | m + 1, r, s => match skip r with
    | [] => (match skip s with
      | [] => []
      | q :: s' => if q.kind = 2 then cutL q (nsz q) :: cf m [] (cutR q (nsz q) :: s') else [])
    | p :: r' => if p.kind = 3 then cutL p (nsz p) :: cf m (cutR p (nsz p) :: r') s else (match skip s with
      | [] => []
      | q :: s' => if q.kind = 2 then cutL q (nsz q) :: cf m (p :: r') (cutR q (nsz q) :: s') else
          (if q.kind = 1 then [cutL p (min (nsz p) (nsz q))] else if p.kind = 1 then [cutL q (min (nsz p) (nsz q))] else []) ++ cf m (cutR p (min (nsz p) (nsz q)) :: r') (cutR q (min (nsz p) (nsz q)) :: s'))
def cfz (a b : List DPart) : List DPart := cf (mu a + mu b + 1) a b
def compose (a b : List DPart) : Option (List DPart) :=
  if opOk a = true ∧ opOk b = true ∧ opTo a = opFrom b then (if opOk (normal (cfz a b)) = true then some (normal (cfz a b)) else none) else none
theorem cf_skipR (m : Nat) (r s : List DPart) : cf m (skip r) s = cf m r s := by
  cases m with
  | zero => rfl
  | succ m => simp only [cf, skip_idem]
theorem cf_skipS : ∀ (m : Nat) (r s : List DPart), cf m r (skip s) = cf m r s
  | 0, _, _ => rfl
  | m + 1, r, s => by
    rcases hr : skip r with _ | ⟨p, r'⟩
    · simp only [cf, hr, skip_idem]
    · by_cases k : p.kind = 3
      · have ih := cf_skipS m (cutR p (nsz p) :: r') s
        simp only [cf, hr, if_pos k]
        rw [ih]
      · simp only [cf, hr, if_neg k, skip_idem]
structure CInv (x y : List DPart) : Prop where
  r : x.all partOk = true
  s : y.all partOk = true
  e : sumBut 3 x = sumBut 2 y
structure CR (a b r s X : List DPart) : Prop where
  i : CInv r s
  ok : X.all partOk = true
  m : ∃ m, mu r + mu s < m ∧ X ++ cf m r s = cfz a b ∧ X.length + m ≤ mu a + mu b + 1
theorem CR.new {a b : List DPart} (ha : opOk a = true) (hb : opOk b = true) (h : opTo a = opFrom b) : CR a b a b [] :=
  ⟨⟨(opOk_iff'.1 ha).1, (opOk_iff'.1 hb).1, by rw [← opTo_of ha, ← opFrom_of hb]; exact h⟩, rfl, mu a + mu b + 1, by omega, rfl, by simp⟩
section
variable {a b r s X : List DPart}
theorem CR.skipR (h : CR a b r s X) : CR a b (skip r) s X := by
  obtain ⟨m, h1, h2, h3⟩ := h.m
  have := skip_mu r
  exact ⟨⟨skip_all h.i.r, h.i.s, by rw [skip_sum 3 h.i.r]; exact h.i.e⟩, h.ok, m, by omega, by rw [cf_skipR]; exact h2, h3⟩
theorem CR.skipS (h : CR a b r s X) : CR a b r (skip s) X := by
  obtain ⟨m, h1, h2, h3⟩ := h.m
  have := skip_mu s
  exact ⟨⟨h.i.r, skip_all h.i.s, by rw [skip_sum 2 h.i.s]; exact h.i.e⟩, h.ok, m, by omega, by rw [cf_skipS]; exact h2, h3⟩
theorem CR.len (h : CR a b r s X) (ha : opOk a = true) (hb : opOk b = true) : X.length ≤ 2000 := by
  obtain ⟨m, h1, h2, h3⟩ := h.m
  have := mu_le ha
  have := mu_le hb
  omega
theorem CR.rlen (h : CR a b r s X) (ha : opOk a = true) (hb : opOk b = true) : mu r ≤ 2001 ∧ mu s ≤ 2001 := by
  obtain ⟨m, h1, h2, h3⟩ := h.m
  have := mu_le ha
  have := mu_le hb
  omega
theorem CR.end_ (h : CR a b [] [] X) : X = cfz a b := by
  obtain ⟨m, h1, h2, h3⟩ := h.m
  obtain ⟨m, rfl⟩ : ∃ k, m = k + 1 := ⟨m - 1, by omega⟩
  have e : cf (m + 1) [] [] = [] := by simp only [cf, skip]
  rw [e, List.append_nil] at h2
  exact h2
/-- the first operation drops -/
theorem CR.dropR {p : DPart} {r' : List DPart} (h : CR a b (p :: r') s X) (hp : nsz p ≠ 0) (k : p.kind = 3) :
    partOk p = true ∧ nsz p = p.n ∧ cutL p (nsz p) = p ∧ p.signs = [] ∧ nsz p ≤ 200 ∧ CR a b (cutR p (nsz p) :: r') s (X ++ [p]) ∧ mu (cutR p (nsz p) :: r') < mu (p :: r') := by
  have hall := h.i.r
  simp only [List.all_cons, Bool.and_eq_true] at hall
  obtain ⟨c1, c2, c3, c4, c5, c6⟩ := cut_ok hall.1 (Nat.le_refl (nsz p))
  have hz := nsz_eq hall.1
  have hpn : p.signs = [] ∧ 0 ≤ p.n ∧ p.n ≤ 200 := by
    rcases partOk_cases hall.1 with ⟨k', _⟩ | ⟨k', _⟩ | ⟨_, n1, n2, n3⟩
    · omega
    · omega
    · exact ⟨n3, by omega, by omega⟩
  have hps : psize p = p.n := by simp [psize, hpn.1]
  have hcl : cutL p (nsz p) = p := by
    obtain ⟨pk, pn, ps⟩ := p
    simp only at k hpn hps hz
    unfold cutL
    rw [if_neg (by simp only; omega)]
    simp only
    congr 1
    omega
  have z5 := nsz_cutR hall.1 (Nat.le_refl (nsz p))
  have hr := skip_id (l := r') hp
  obtain ⟨m, h1, h2, h3⟩ := h.m
  obtain ⟨m, rfl⟩ : ∃ k, m = k + 1 := ⟨m - 1, by omega⟩
  have e : cf (m + 1) (p :: r') s = cutL p (nsz p) :: cf m (cutR p (nsz p) :: r') s := by simp only [cf, hr]; rw [if_pos k]
  rw [e, hcl] at h2
  have he := h.i.e
  rw [sumBut_cons, if_pos k] at he
  rw [mu_cons] at h1
  refine ⟨hall.1, by omega, hcl, hpn.1, by omega, ⟨⟨by simp [c2, hall.2], h.i.s, by rw [sumBut_cons, if_pos (by omega)]; exact he⟩, by simp [h.ok, hall.1], m, by rw [mu_cons]; omega, by rw [List.append_assoc]; exact h2, by simp only [List.length_append, List.length_singleton]; omega⟩, by rw [mu_cons, mu_cons]; omega⟩
/-- the second one puts, the first one does not drop -/
theorem CR.putS {q : DPart} {s' : List DPart} (h : CR a b r (q :: s') X) (hr : r = [] ∨ ∃ p r', r = p :: r' ∧ nsz p ≠ 0 ∧ p.kind ≠ 3) (hq : nsz q ≠ 0) (k : q.kind = 2) :
    partOk q = true ∧ nsz q = q.signs.length ∧ cutL q (nsz q) = q ∧ q.n = 0 ∧ q.signs.length ≤ 200 ∧ CR a b r (cutR q (nsz q) :: s') (X ++ [q]) ∧ mu (cutR q (nsz q) :: s') < mu (q :: s') := by
  have hall := h.i.s
  simp only [List.all_cons, Bool.and_eq_true] at hall
  obtain ⟨c1, c2, c3, c4, c5, c6⟩ := cut_ok hall.1 (Nat.le_refl (nsz q))
  obtain ⟨z1, z2, z3, z4⟩ := put_sz hall.1 k
  have z5 := nsz_cutR hall.1 (Nat.le_refl (nsz q))
  have hs := skip_id (l := s') hq
  obtain ⟨m, h1, h2, h3⟩ := h.m
  obtain ⟨m, rfl⟩ : ∃ k, m = k + 1 := ⟨m - 1, by omega⟩
  have e : cf (m + 1) r (q :: s') = cutL q (nsz q) :: cf m r (cutR q (nsz q) :: s') := by
    rcases hr with rfl | ⟨p, r', rfl, hp, kp⟩
    · have e0 : skip ([] : List DPart) = [] := rfl
      simp only [cf, hs, e0]; rw [if_pos k]
    · simp only [cf, hs, skip_id (l := r') hp]; rw [if_neg kp, if_pos k]
  have hn : q.n = 0 := by
    rcases partOk_cases hall.1 with ⟨k', _⟩ | ⟨_, n, _⟩ | ⟨k', _⟩
    · omega
    · exact n
    · omega
  rw [e, z2] at h2
  have he := h.i.e
  rw [sumBut_cons, if_pos k] at he
  rw [mu_cons] at h1
  refine ⟨hall.1, z1, z2, hn, z4, ⟨⟨h.i.r, by simp [c2, hall.2], by rw [sumBut_cons, if_pos (by omega)]; exact he⟩, by simp [h.ok, hall.1], m, by rw [mu_cons]; omega, by rw [List.append_assoc]; exact h2, by simp only [List.length_append, List.length_singleton]; omega⟩, by rw [mu_cons, mu_cons]; omega⟩
/-- neither: both are there -/
theorem CR.others (h : CR a b r s X) (hr : r = [] ∨ ∃ p r', r = p :: r' ∧ nsz p ≠ 0 ∧ p.kind ≠ 3) (hs : s = [] ∨ ∃ q s', s = q :: s' ∧ nsz q ≠ 0 ∧ q.kind ≠ 2) (hne : r ≠ [] ∨ s ≠ []) :
    (∃ p r', r = p :: r' ∧ nsz p ≠ 0 ∧ p.kind ≠ 3) ∧ ∃ q s', s = q :: s' ∧ nsz q ≠ 0 ∧ q.kind ≠ 2 := by
  have he := h.i.e
  have h1 := h.i.r
  have h2 := h.i.s
  rcases hr with rfl | ⟨p, r', rfl, hp, kp⟩
  · rcases hs with rfl | ⟨q, s', rfl, hq, kq⟩
    · simp at hne
    · exfalso
      simp only [List.all_cons, Bool.and_eq_true] at h2
      have bb := sumBut_bd 2 s' h2.2
      have hz := nsz_eq h2.1
      rw [sumBut_nil, sumBut_cons, if_neg kq] at he
      omega
  · rcases hs with rfl | ⟨q, s', rfl, hq, kq⟩
    · exfalso
      simp only [List.all_cons, Bool.and_eq_true] at h1
      have bb := sumBut_bd 3 r' h1.2
      have hz := nsz_eq h1.1
      rw [sumBut_nil, sumBut_cons, if_neg kp] at he
      omega
    · exact ⟨⟨p, r', rfl, hp, kp⟩, q, s', rfl, hq, kq⟩
def cfB (p q : DPart) (n : Nat) : List DPart := if q.kind = 1 then [cutL p n] else if p.kind = 1 then [cutL q n] else []
theorem nsz_200 {p : DPart} (hp : partOk p = true) : nsz p ≤ 200 := by
  have hz := nsz_eq hp
  rcases partOk_cases hp with ⟨_, n1, n2, n3⟩ | ⟨_, n1, n2, _⟩ | ⟨_, n1, n2, n3⟩
  · have : psize p = p.n := by simp [psize, n3]
    omega
  · have : psize p = p.signs.length := by simp [psize, n1]
    omega
  · have : psize p = p.n := by simp [psize, n3]
    omega
theorem CR.both {p q : DPart} {r' s' : List DPart} (h : CR a b (p :: r') (q :: s') X) (hp : nsz p ≠ 0) (hq : nsz q ≠ 0) (kp : p.kind ≠ 3) (kq : q.kind ≠ 2) :
    partOk p = true ∧ partOk q = true ∧ (p.kind = 1 ∨ p.kind = 2) ∧ (q.kind = 1 ∨ q.kind = 3) ∧ nsz p ≤ 200 ∧ nsz q ≤ 200 ∧
    CR a b (cutR p (min (nsz p) (nsz q)) :: r') (cutR q (min (nsz p) (nsz q)) :: s') (X ++ cfB p q (min (nsz p) (nsz q))) ∧
    mu (cutR p (min (nsz p) (nsz q)) :: r') < mu (p :: r') ∧ mu (cutR q (min (nsz p) (nsz q)) :: s') < mu (q :: s') := by
  have h1 := h.i.r
  have h2 := h.i.s
  have he := h.i.e
  simp only [List.all_cons, Bool.and_eq_true] at h1 h2
  have hr := skip_id (l := r') hp
  have hs := skip_id (l := s') hq
  obtain ⟨m, m1, m2, m3⟩ := h.m
  obtain ⟨m, rfl⟩ : ∃ k, m = k + 1 := ⟨m - 1, by omega⟩
  have e : cf (m + 1) (p :: r') (q :: s') = cfB p q (min (nsz p) (nsz q)) ++ cf m (cutR p (min (nsz p) (nsz q)) :: r') (cutR q (min (nsz p) (nsz q)) :: s') := by
    unfold cfB
    simp only [cf, hr, hs]; rw [if_neg kp, if_neg kq]
  have p1 : p.kind = 1 ∨ p.kind = 2 := by
    rcases partOk_cases h1.1 with ⟨k, _⟩ | ⟨k, _⟩ | ⟨k, _⟩
    · exact .inl k
    · exact .inr k
    · exact absurd k kp
  have q1 : q.kind = 1 ∨ q.kind = 3 := by
    rcases partOk_cases h2.1 with ⟨k, _⟩ | ⟨k, _⟩ | ⟨k, _⟩
    · exact .inl k
    · exact absurd k kq
    · exact .inr k
  have hn1 : min (nsz p) (nsz q) ≤ nsz p := Nat.min_le_left _ _
  have hn2 : min (nsz p) (nsz q) ≤ nsz q := Nat.min_le_right _ _
  have hn0 : 0 < min (nsz p) (nsz q) := by omega
  rw [e] at m2
  generalize min (nsz p) (nsz q) = n at hn1 hn2 hn0 m2 ⊢
  obtain ⟨c1, c2, c3, c4, c5, c6⟩ := cut_ok h1.1 hn1
  obtain ⟨d1, d2, d3, d4, d5, d6⟩ := cut_ok h2.1 hn2
  have z5 := nsz_cutR h1.1 hn1
  have z6 := nsz_cutR h2.1 hn2
  rw [sumBut_cons, sumBut_cons, if_neg kp, if_neg kq] at he
  rw [mu_cons, mu_cons] at m1
  have hB : (cfB p q n).all partOk = true ∧ (cfB p q n).length ≤ 1 := by
    unfold cfB
    split
    · simp [c1]
    · split
      · simp [d1]
      · simp
  refine ⟨h1.1, h2.1, p1, q1, nsz_200 h1.1, nsz_200 h2.1, ⟨⟨by simp [c2, h1.2], by simp [d2, h2.2], ?_⟩, by simp only [List.all_append, h.ok, hB.1, Bool.and_self], m, by rw [mu_cons, mu_cons]; omega, by rw [List.append_assoc]; exact m2, by rw [List.length_append]; omega⟩, by rw [mu_cons, mu_cons]; omega, by rw [mu_cons, mu_cons]; omega⟩
  rw [sumBut_cons, sumBut_cons, if_neg (by omega), if_neg (by omega)]
  omega
end
end Go.Proofs.Ytiahgjnpinjblaa
