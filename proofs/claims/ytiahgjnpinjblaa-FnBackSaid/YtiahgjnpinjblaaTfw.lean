/- The steps of leading two operations past one another, as a walk makes them: plain Lean. -/
import Derived.Test.YtiahgjnpinjblaaSbp
namespace Go.Proofs.Ytiahgjnpinjblaa
open Go.RowKit
theorem mu_sum : ∀ {l : List DPart}, l.all partOk = true → (mu l : Int) ≤ sumBut 2 l + sumBut 3 l + l.length
  | [], _ => by simp [mu, sumBut]
  | p :: l, h => by
    simp only [List.all_cons, Bool.and_eq_true] at h
    have ih := mu_sum h.2
    have hz := nsz_eq h.1
    simp only [mu, sumBut, List.length_cons]
    split <;> split <;> omega
theorem mu_le {a : List DPart} (h : opOk a = true) : mu a ≤ 1000 := by
  obtain ⟨h1, h2, h3, h4⟩ := opOk_iff'.1 h
  have := mu_sum h1
  omega
theorem skip_id {p : DPart} {l : List DPart} (h : nsz p ≠ 0) : skip (p :: l) = p :: l := by simp [skip, h]
theorem skip_case (l : List DPart) : skip l = [] ∨ ∃ p t, skip l = p :: t ∧ nsz p ≠ 0 := by
  rcases h : skip l with _ | ⟨p, t⟩
  · exact .inl rfl
  · exact .inr ⟨p, t, rfl, skip_cons h⟩
theorem tf_skipR (m : Nat) (r s : List DPart) : tf m (skip r) s = tf m r s := by
  cases m with
  | zero => rfl
  | succ m => simp only [tf, skip_idem]
theorem tf_skipS : ∀ (m : Nat) (r s : List DPart), tf m r (skip s) = tf m r s
  | 0, _, _ => rfl
  | m + 1, r, s => by
    rcases hr : skip r with _ | ⟨p, r'⟩
    · simp only [tf, hr, skip_idem]
    · by_cases k : p.kind = 2
      · have ih := tf_skipS m (cutR p (nsz p) :: r') s
        simp only [tf, hr, if_pos k]
        rw [ih]
      · simp only [tf, hr, if_neg k, skip_idem]
/-- what is done of two operations, and what is left -/
structure TR (a b r s X Y : List DPart) : Prop where
  i : TInv r s
  z : (tfz a b).1.all partOk = true ∧ (tfz a b).2.all partOk = true
  m : ∃ m, mu r + mu s < m ∧ X ++ (tf m r s).1 = (tfz a b).1 ∧ Y ++ (tf m r s).2 = (tfz a b).2 ∧ X.length + m ≤ mu a + mu b + 1 ∧ Y.length + m ≤ mu a + mu b + 1
theorem TR.new {a b : List DPart} (ha : opOk a = true) (hb : opOk b = true) (h : opFrom a = opFrom b) : TR a b a b [] [] :=
  have ht : TOut (mu a + mu b + 1) a b (tfz a b) := tf_ok (mu a + mu b + 1) a b (opOk_tinv ha hb h) (by omega)
  ⟨opOk_tinv ha hb h, ⟨ht.ax, ht.ay⟩, mu a + mu b + 1, by omega, rfl, rfl, by simp, by simp⟩
section
variable {a b r s X Y : List DPart}
theorem TR.skipR (h : TR a b r s X Y) : TR a b (skip r) s X Y := by
  obtain ⟨m, h1, h2, h3, h4⟩ := h.m
  have := skip_mu r
  exact ⟨h.i.skipR, h.z, m, by omega, by rw [tf_skipR]; exact h2, by rw [tf_skipR]; exact h3, h4⟩
theorem TR.skipS (h : TR a b r s X Y) : TR a b r (skip s) X Y := by
  obtain ⟨m, h1, h2, h3, h4⟩ := h.m
  have := skip_mu s
  exact ⟨h.i.symm.skipR.symm, h.z, m, by omega, by rw [tf_skipS]; exact h2, by rw [tf_skipS]; exact h3, h4⟩
theorem TR.lens (h : TR a b r s X Y) (ha : opOk a = true) (hb : opOk b = true) : X.length ≤ 2000 ∧ Y.length ≤ 2000 := by
  obtain ⟨m, h1, h2, h3, h4⟩ := h.m
  have := mu_le ha
  have := mu_le hb
  omega
theorem TR.oks (h : TR a b r s X Y) : X.all partOk = true ∧ Y.all partOk = true := by
  obtain ⟨m, h1, h2, h3, h4⟩ := h.m
  obtain ⟨z1, z2⟩ := h.z
  rw [← h2, List.all_append, Bool.and_eq_true] at z1
  rw [← h3, List.all_append, Bool.and_eq_true] at z2
  exact ⟨z1.1, z2.1⟩
/-- nothing is left -/
theorem TR.end_ (h : TR a b [] [] X Y) : X = (tfz a b).1 ∧ Y = (tfz a b).2 := by
  obtain ⟨m, h1, h2, h3, h4⟩ := h.m
  obtain ⟨m, rfl⟩ : ∃ k, m = k + 1 := ⟨m - 1, by omega⟩
  have e : tf (m + 1) [] [] = ([], []) := by simp only [tf, skip]
  rw [e, List.append_nil] at h2 h3
  exact ⟨h2, h3⟩
/-- the first operation puts -/
theorem TR.putR {p : DPart} {r' : List DPart} (h : TR a b (p :: r') s X Y) (hp : nsz p ≠ 0) (k : p.kind = 2) :
    partOk p = true ∧ nsz p = p.signs.length ∧ cutL p (nsz p) = p ∧ p.n = 0 ∧ p.signs.length ≤ 200 ∧ TR a b (cutR p (nsz p) :: r') s (X ++ [p]) (Y ++ [⟨1, p.signs.length, []⟩]) ∧ mu (cutR p (nsz p) :: r') < mu (p :: r') := by
  have hr := skip_id (l := r') hp
  obtain ⟨i1, i2, i3, i4⟩ := tinv_putR h.i hr k
  obtain ⟨z1, z2, z3, z4⟩ := put_sz i4 k
  obtain ⟨m, h1, h2, h3, h4, h5⟩ := h.m
  obtain ⟨m, rfl⟩ : ∃ k, m = k + 1 := ⟨m - 1, by omega⟩
  have e : tf (m + 1) (p :: r') s = (cutL p (nsz p) :: (tf m (cutR p (nsz p) :: r') s).1, ⟨1, p.signs.length, []⟩ :: (tf m (cutR p (nsz p) :: r') s).2) := by simp only [tf, hr]; rw [if_pos k]
  have hn : p.n = 0 := by
    rcases partOk_cases i4 with ⟨k', _⟩ | ⟨_, n, _⟩ | ⟨k', _⟩
    · omega
    · exact n
    · omega
  rw [e] at h2 h3
  rw [z2] at h2
  refine ⟨i4, z1, z2, hn, z4, ⟨i1, h.z, m, by omega, ?_, ?_, ?_, ?_⟩, i2⟩
  · rw [List.append_assoc]; exact h2
  · rw [List.append_assoc]; exact h3
  · simp only [List.length_append, List.length_singleton]; omega
  · simp only [List.length_append, List.length_singleton]; omega
/-- the second one puts, the first one does not -/
theorem TR.putS {q : DPart} {s' : List DPart} (h : TR a b r (q :: s') X Y) (hr : r = [] ∨ ∃ p r', r = p :: r' ∧ nsz p ≠ 0 ∧ p.kind ≠ 2) (hq : nsz q ≠ 0) (k : q.kind = 2) :
    partOk q = true ∧ nsz q = q.signs.length ∧ cutL q (nsz q) = q ∧ q.n = 0 ∧ q.signs.length ≤ 200 ∧ TR a b r (cutR q (nsz q) :: s') (X ++ [⟨1, q.signs.length, []⟩]) (Y ++ [q]) ∧ mu (cutR q (nsz q) :: s') < mu (q :: s') := by
  have hs := skip_id (l := s') hq
  obtain ⟨i1, i2, i3, i4⟩ := tinv_putR h.i.symm hs k
  obtain ⟨z1, z2, z3, z4⟩ := put_sz i4 k
  obtain ⟨m, h1, h2, h3, h4, h5⟩ := h.m
  obtain ⟨m, rfl⟩ : ∃ k, m = k + 1 := ⟨m - 1, by omega⟩
  have e : tf (m + 1) r (q :: s') = (⟨1, q.signs.length, []⟩ :: (tf m r (cutR q (nsz q) :: s')).1, cutL q (nsz q) :: (tf m r (cutR q (nsz q) :: s')).2) := by
    rcases hr with rfl | ⟨p, r', rfl, hp, kp⟩
    · have e0 : skip ([] : List DPart) = [] := rfl
      simp only [tf, hs, e0]; rw [if_pos k]
    · simp only [tf, hs, skip_id (l := r') hp]; rw [if_neg kp, if_pos k]
  have hn : q.n = 0 := by
    rcases partOk_cases i4 with ⟨k', _⟩ | ⟨_, n, _⟩ | ⟨k', _⟩
    · omega
    · exact n
    · omega
  rw [e] at h2 h3
  rw [z2] at h3
  refine ⟨i4, z1, z2, hn, z4, ⟨i1.symm, h.z, m, by omega, ?_, ?_, ?_, ?_⟩, i2⟩
  · rw [List.append_assoc]; exact h2
  · rw [List.append_assoc]; exact h3
  · simp only [List.length_append, List.length_singleton]; omega
  · simp only [List.length_append, List.length_singleton]; omega
/-- neither puts: both are there -/
theorem TR.others (h : TR a b r s X Y) (hr : r = [] ∨ ∃ p r', r = p :: r' ∧ nsz p ≠ 0 ∧ p.kind ≠ 2) (hs : s = [] ∨ ∃ q s', s = q :: s' ∧ nsz q ≠ 0 ∧ q.kind ≠ 2) (hne : r ≠ [] ∨ s ≠ []) :
    (∃ p r', r = p :: r' ∧ nsz p ≠ 0 ∧ p.kind ≠ 2) ∧ ∃ q s', s = q :: s' ∧ nsz q ≠ 0 ∧ q.kind ≠ 2 := by
  rcases hr with rfl | ⟨p, r', rfl, hp, kp⟩
  · rcases hs with rfl | ⟨q, s', rfl, hq, kq⟩
    · simp at hne
    · exact (tinv_end h.i.symm (skip_id hq) rfl kq).elim
  · rcases hs with rfl | ⟨q, s', rfl, hq, kq⟩
    · exact (tinv_end h.i (skip_id hp) rfl kp).elim
    · exact ⟨⟨p, r', rfl, hp, kp⟩, q, s', rfl, hq, kq⟩
theorem TR.both {p q : DPart} {r' s' : List DPart} (h : TR a b (p :: r') (q :: s') X Y) (hp : nsz p ≠ 0) (hq : nsz q ≠ 0) (kp : p.kind ≠ 2) (kq : q.kind ≠ 2) :
    partOk p = true ∧ partOk q = true ∧ (p.kind = 1 ∨ p.kind = 3) ∧ (q.kind = 1 ∨ q.kind = 3) ∧ nsz p = p.n ∧ nsz q = q.n ∧ p.signs = [] ∧ q.signs = [] ∧ nsz p ≤ 200 ∧ nsz q ≤ 200 ∧
    TR a b (cutR p (min (nsz p) (nsz q)) :: r') (cutR q (min (nsz p) (nsz q)) :: s') (X ++ (if q.kind = 1 then [cutL p (min (nsz p) (nsz q))] else [])) (Y ++ (if p.kind = 1 then [cutL q (min (nsz p) (nsz q))] else [])) ∧
    mu (cutR p (min (nsz p) (nsz q)) :: r') < mu (p :: r') ∧ mu (cutR q (min (nsz p) (nsz q)) :: s') < mu (q :: s') := by
  have hr := skip_id (l := r') hp
  have hs := skip_id (l := s') hq
  obtain ⟨i1, i2, i3, ip, iq⟩ := tinv_both h.i hr hs kp kq
  obtain ⟨m, h1, h2, h3, h4, h5⟩ := h.m
  obtain ⟨m, rfl⟩ : ∃ k, m = k + 1 := ⟨m - 1, by omega⟩
  have e : tf (m + 1) (p :: r') (q :: s') = ((if q.kind = 1 then [cutL p (min (nsz p) (nsz q))] else []) ++ (tf m (cutR p (min (nsz p) (nsz q)) :: r') (cutR q (min (nsz p) (nsz q)) :: s')).1,
           (if p.kind = 1 then [cutL q (min (nsz p) (nsz q))] else []) ++ (tf m (cutR p (min (nsz p) (nsz q)) :: r') (cutR q (min (nsz p) (nsz q)) :: s')).2) := by simp only [tf, hr, hs]; rw [if_neg kp, if_neg kq]
  have hz : ∀ {p : DPart}, partOk p = true → p.kind ≠ 2 → (p.kind = 1 ∨ p.kind = 3) ∧ (nsz p : Int) = p.n ∧ p.signs = [] ∧ nsz p ≤ 200 := by
    intro p hp kp
    have hz := nsz_eq hp
    rcases partOk_cases hp with ⟨k, n1, n2, n3⟩ | ⟨k, _⟩ | ⟨k, n1, n2, n3⟩
    · have : psize p = p.n := by simp [psize, n3]
      exact ⟨.inl k, by omega, n3, by omega⟩
    · exact absurd k kp
    · have : psize p = p.n := by simp [psize, n3]
      exact ⟨.inr k, by omega, n3, by omega⟩
  obtain ⟨p1, p2, p3, p4⟩ := hz ip kp
  obtain ⟨q1, q2, q3, q4⟩ := hz iq kq
  rw [e] at h2 h3
  refine ⟨ip, iq, p1, q1, p2, q2, p3, q3, p4, q4, ⟨i1, h.z, m, by omega, ?_, ?_, ?_, ?_⟩, i2, i3⟩
  · rw [List.append_assoc]; exact h2
  · rw [List.append_assoc]; exact h3
  · rw [List.length_append]; split <;> simp <;> omega
  · rw [List.length_append]; split <;> simp <;> omega
end
end Go.Proofs.Ytiahgjnpinjblaa
