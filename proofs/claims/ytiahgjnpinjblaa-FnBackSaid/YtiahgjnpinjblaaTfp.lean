/- Transforming operations: plain Lean. -/
import Derived.Test.YtiahgjnpinjblaaApn
import Derived.Test.YtiahgjnpinjblaaBu
namespace Go.Proofs.Ytiahgjnpinjblaa
open Go.RowKit
/-- a part's size -/
def nsz (p : DPart) : Nat := (psize p).toNat
/-- parts without effect at the front are dropped -/
def skip : List DPart → List DPart
  | [] => []
  | p :: l => if nsz p = 0 then skip l else p :: l
/-- the first n signs of a part; what is left of it -/
def cutL (p : DPart) (n : Nat) : DPart := if p.kind = 2 then ⟨p.kind, p.n, p.signs.take n⟩ else ⟨p.kind, n, p.signs⟩
def cutR (p : DPart) (n : Nat) : DPart := if p.kind = 2 then ⟨p.kind, p.n, p.signs.drop n⟩ else ⟨p.kind, p.n - n, p.signs⟩
/-- what the parts of two operations on one text become, led past one another -/
def tf : Nat → List DPart → List DPart → List DPart × List DPart
  | 0, _, _ => ([], [])
  | m + 1, r, s => match skip r with
    | [] => (match skip s with
      | [] => ([], [])
      | q :: s' => if q.kind = 2 then
          (⟨1, q.signs.length, []⟩ :: (tf m [] (cutR q (nsz q) :: s')).1, cutL q (nsz q) :: (tf m [] (cutR q (nsz q) :: s')).2) else ([], []))
    | p :: r' => if p.kind = 2 then
          (cutL p (nsz p) :: (tf m (cutR p (nsz p) :: r') s).1, ⟨1, p.signs.length, []⟩ :: (tf m (cutR p (nsz p) :: r') s).2) else (match skip s with
      | [] => ([], [])
      | q :: s' => if q.kind = 2 then
          (⟨1, q.signs.length, []⟩ :: (tf m (p :: r') (cutR q (nsz q) :: s')).1, cutL q (nsz q) :: (tf m (p :: r') (cutR q (nsz q) :: s')).2) else
          ((if q.kind = 1 then [cutL p (min (nsz p) (nsz q))] else []) ++ (tf m (cutR p (min (nsz p) (nsz q)) :: r') (cutR q (min (nsz p) (nsz q)) :: s')).1,
           (if p.kind = 1 then [cutL q (min (nsz p) (nsz q))] else []) ++ (tf m (cutR p (min (nsz p) (nsz q)) :: r') (cutR q (min (nsz p) (nsz q)) :: s')).2))
def mu : List DPart → Nat
  | [] => 0
  | p :: l => nsz p + 1 + mu l
theorem skip_idem : ∀ l, skip (skip l) = skip l
  | [] => rfl
  | p :: l => by
    by_cases h : nsz p = 0
    · have e : skip (p :: l) = skip l := by simp [skip, h]
      rw [e]; exact skip_idem l
    · have e : skip (p :: l) = p :: l := by simp [skip, h]
      rw [e, e]
theorem skip_cons {l : List DPart} {p : DPart} {t : List DPart} (h : skip l = p :: t) : nsz p ≠ 0 := by
  induction l with
  | nil => cases h
  | cons q l ih =>
    unfold skip at h
    split at h
    · exact ih h
    · cases h; assumption
theorem skip_all {l : List DPart} (h : l.all partOk = true) : (skip l).all partOk = true := by
  induction l with
  | nil => exact h
  | cons q l ih =>
    unfold skip
    split
    · simp only [List.all_cons, Bool.and_eq_true] at h; exact ih h.2
    · exact h
theorem skip_mu : ∀ l, mu (skip l) ≤ mu l
  | [] => Nat.le_refl _
  | p :: l => by
    unfold skip
    split
    · have := skip_mu l; simp only [mu]; omega
    · exact Nat.le_refl _
theorem skip_len : ∀ l, (skip l).length ≤ l.length
  | [] => Nat.le_refl _
  | p :: l => by
    unfold skip
    split
    · have := skip_len l; simp only [List.length_cons]; omega
    · exact Nat.le_refl _
theorem nsz_eq {p : DPart} (h : partOk p = true) : (nsz p : Int) = psize p := by unfold nsz; have := psize_bd h; omega
theorem skip_sum (b : Int) {l : List DPart} (h : l.all partOk = true) : sumBut b (skip l) = sumBut b l := by
  induction l with
  | nil => rfl
  | cons q l ih =>
    simp only [List.all_cons, Bool.and_eq_true] at h
    unfold skip
    split
    · rename_i h0
      have := nsz_eq h.1
      rw [ih h.2]; simp only [sumBut]; split <;> omega
    · rfl
theorem cut_ok {p : DPart} (h : partOk p = true) {n : Nat} (hn : n ≤ nsz p) : partOk (cutL p n) = true ∧ partOk (cutR p n) = true ∧ (cutL p n).kind = p.kind ∧ (cutR p n).kind = p.kind ∧ psize (cutL p n) = n ∧ psize (cutR p n) = psize p - n := by
  have hz := nsz_eq h
  rcases partOk_cases h with ⟨k, h1, h2, h3⟩ | ⟨k, h1, h2, h3⟩ | ⟨k, h1, h2, h3⟩
  · unfold psize at hz
    rw [h3] at hz
    simp at hz
    simp [cutL, cutR, k, partOk, psize, within, h3]
    omega
  · unfold psize at hz
    simp only [h1, Int.zero_add] at hz
    have hz' : nsz p = p.signs.length := by omega
    have h4 : (p.signs.take n).all signOk = true := all_take h3 n
    have h5 : (p.signs.drop n).all signOk = true := all_drop h3 n
    simp [cutL, cutR, k, partOk, psize, h1, signsOk, h4, h5]
    omega
  · unfold psize at hz
    rw [h3] at hz
    simp at hz
    simp [cutL, cutR, k, partOk, psize, within, h3]
    omega
theorem put_sz {p : DPart} (h : partOk p = true) (k : p.kind = 2) : nsz p = p.signs.length ∧ cutL p (nsz p) = p ∧ psize p = p.signs.length ∧ p.signs.length ≤ 200 := by
  rcases partOk_cases h with ⟨k', _⟩ | ⟨_, h1, h2, _⟩ | ⟨k', _⟩
  · omega
  · have e : nsz p = p.signs.length := by unfold nsz psize; omega
    refine ⟨e, ?_, by unfold psize; omega, h2⟩
    rw [e]; unfold cutL; rw [if_pos k, List.take_length]
  · omega
theorem keep_ok (n : Nat) (h : n ≤ 200) : partOk ⟨1, n, []⟩ = true := by simp [partOk, within]; omega
/-- what holds of the parts that are left -/
structure TInv (a b : List DPart) : Prop where
  r : a.all partOk = true
  s : b.all partOk = true
  e : sumBut 2 a = sumBut 2 b
/-- what comes of a step -/
structure TOut (m : Nat) (r s : List DPart) (z : List DPart × List DPart) : Prop where
  ax : z.1.all partOk = true
  ay : z.2.all partOk = true
  lx : z.1.length ≤ m
  ly : z.2.length ≤ m
  fx : sumBut 2 z.1 = sumBut 3 s
  fy : sumBut 2 z.2 = sumBut 3 r
theorem part_nk {p : DPart} (h : partOk p = true) (k : ¬ p.kind = 2) : (p.kind = 1 ∨ p.kind = 3) ∧ psize p = p.n := by
  rcases partOk_cases h with ⟨k', _, _, h3⟩ | ⟨k', _⟩ | ⟨k', _, _, h3⟩
  · exact ⟨.inl k', by simp [psize, h3]⟩
  · exact absurd k' k
  · exact ⟨.inr k', by simp [psize, h3]⟩
theorem sumBut_cons (b : Int) (p : DPart) (l : List DPart) : sumBut b (p :: l) = (if p.kind = b then 0 else psize p) + sumBut b l := rfl
theorem sumBut_nil (b : Int) : sumBut b [] = 0 := rfl
theorem mu_cons (p : DPart) (l : List DPart) : mu (p :: l) = nsz p + 1 + mu l := rfl
theorem nsz_cutR {p : DPart} (h : partOk p = true) {n : Nat} (hn : n ≤ nsz p) : nsz (cutR p n) = nsz p - n := by
  have := (cut_ok h hn).2.2.2.2.2
  have hz := nsz_eq h
  unfold nsz at *
  omega
/-- the step's cases: what is left is in order, and less -/
theorem tinv_putR {r s r' : List DPart} {p : DPart} (h : TInv r s) (hr : skip r = p :: r') (k : p.kind = 2) : TInv (cutR p (nsz p) :: r') s ∧ mu (cutR p (nsz p) :: r') < mu r ∧ sumBut 3 r = p.signs.length + sumBut 3 (cutR p (nsz p) :: r') ∧ partOk p = true := by
  have h1 := skip_all h.r
  have h2 := skip_sum 2 h.r
  have h3 := skip_sum 3 h.r
  have h4 := skip_mu r
  have h5 := skip_cons hr
  rw [hr] at h1 h2 h3 h4
  simp only [List.all_cons, Bool.and_eq_true] at h1
  obtain ⟨c1, c2, c3, c4, c5, c6⟩ := cut_ok h1.1 (Nat.le_refl (nsz p))
  obtain ⟨z1, z2, z3, z4⟩ := put_sz h1.1 k
  have z5 := nsz_cutR h1.1 (Nat.le_refl (nsz p))
  have he := h.e
  rw [sumBut_cons, if_pos k] at h2
  rw [sumBut_cons, if_neg (by omega)] at h3
  rw [mu_cons] at h4
  refine ⟨⟨by simp [c2, h1.2], h.s, ?_⟩, ?_, ?_, h1.1⟩
  · rw [sumBut_cons, if_pos (by omega)]; omega
  · rw [mu_cons]; omega
  · rw [sumBut_cons, if_neg (by omega)]; omega
theorem TInv.symm {r s : List DPart} (h : TInv r s) : TInv s r := ⟨h.s, h.r, h.e.symm⟩
theorem TInv.skipR {r s : List DPart} (h : TInv r s) : TInv (skip r) s := ⟨skip_all h.r, h.s, by rw [skip_sum 2 h.r]; exact h.e⟩
theorem tinv_both {r s r' s' : List DPart} {p q : DPart} (h : TInv r s) (hr : skip r = p :: r') (hs : skip s = q :: s') (kp : ¬ p.kind = 2) (kq : ¬ q.kind = 2) :
    TInv (cutR p (min (nsz p) (nsz q)) :: r') (cutR q (min (nsz p) (nsz q)) :: s') ∧ mu (cutR p (min (nsz p) (nsz q)) :: r') < mu r ∧ mu (cutR q (min (nsz p) (nsz q)) :: s') < mu s ∧ partOk p = true ∧ partOk q = true := by
  have h1 := skip_all h.r
  have h2 := skip_sum 2 h.r
  have h4 := skip_mu r
  have h5 := skip_cons hr
  rw [hr] at h1 h2 h4
  have g1 := skip_all h.s
  have g2 := skip_sum 2 h.s
  have g4 := skip_mu s
  have g5 := skip_cons hs
  rw [hs] at g1 g2 g4
  simp only [List.all_cons, Bool.and_eq_true] at h1 g1
  have hn1 : min (nsz p) (nsz q) ≤ nsz p := Nat.min_le_left _ _
  have hn2 : min (nsz p) (nsz q) ≤ nsz q := Nat.min_le_right _ _
  have hn0 : 0 < min (nsz p) (nsz q) := by omega
  generalize min (nsz p) (nsz q) = n at hn1 hn2 hn0 ⊢
  obtain ⟨c1, c2, c3, c4, c5, c6⟩ := cut_ok h1.1 hn1
  obtain ⟨d1, d2, d3, d4, d5, d6⟩ := cut_ok g1.1 hn2
  have z5 := nsz_cutR h1.1 hn1
  have z6 := nsz_cutR g1.1 hn2
  have he := h.e
  rw [sumBut_cons, if_neg kp] at h2
  rw [sumBut_cons, if_neg kq] at g2
  rw [mu_cons] at h4 g4
  refine ⟨⟨by simp [c2, h1.2], by simp [d2, g1.2], ?_⟩, ?_, ?_, h1.1, g1.1⟩
  · rw [sumBut_cons, if_neg (by omega), sumBut_cons, if_neg (by omega)]; omega
  · rw [mu_cons]; omega
  · rw [mu_cons]; omega
/-- one side is at its end: so is the other, but for what is put -/
theorem tinv_end {r s r' : List DPart} {p : DPart} (h : TInv r s) (hr : skip r = p :: r') (hs : skip s = []) (kp : ¬ p.kind = 2) : False := by
  have h1 := skip_all h.r
  have h2 := skip_sum 2 h.r
  have h5 := skip_cons hr
  have g2 := skip_sum 2 h.s
  have he := h.e
  rw [hr] at h1 h2
  rw [hs] at g2
  simp only [List.all_cons, Bool.and_eq_true] at h1
  have b := sumBut_bd 2 r' h1.2
  have hz := nsz_eq h1.1
  rw [sumBut_cons, if_neg kp] at h2
  simp only [sumBut] at g2
  omega
theorem tf_ok : ∀ (m : Nat) (r s : List DPart), TInv r s → mu r + mu s < m → TOut m r s (tf m r s)
  | 0, r, s, _, hm => absurd hm (Nat.not_lt_zero _)
  | m + 1, r, s, h, hm => by
    rcases hr : skip r with _ | ⟨p, r'⟩
    · rcases hs : skip s with _ | ⟨q, s'⟩
      · have e : tf (m + 1) r s = ([], []) := by simp only [tf, hr, hs]
        have h2 := skip_sum 3 h.r
        have g2 := skip_sum 3 h.s
        rw [hr] at h2
        rw [hs] at g2
        rw [e]
        exact ⟨rfl, rfl, Nat.zero_le _, Nat.zero_le _, g2, h2⟩
      · by_cases k : q.kind = 2
        · have e : tf (m + 1) r s = (⟨1, q.signs.length, []⟩ :: (tf m [] (cutR q (nsz q) :: s')).1, cutL q (nsz q) :: (tf m [] (cutR q (nsz q) :: s')).2) := by simp only [tf, hr, hs]; rw [if_pos k]
          obtain ⟨i1, i2, i3, i4⟩ := tinv_putR h.symm hs k
          have hrr := h.skipR
          rw [hr] at hrr
          have i5 := (tinv_putR hrr.symm hs k).1
          have ih := tf_ok m [] _ i5.symm (by have : mu ([] : List DPart) = 0 := rfl; omega)
          obtain ⟨z1, z2, z3, z4⟩ := put_sz i4 k
          have h2 := skip_sum 3 h.r
          rw [hr] at h2
          rw [e]
          refine ⟨?_, ?_, ?_, ?_, ?_, ?_⟩
          · simp [ih.ax, keep_ok _ z4]
          · simp [ih.ay, (cut_ok i4 (Nat.le_refl _)).1]
          · have := ih.lx; simp; omega
          · have := ih.ly; simp; omega
          · have := ih.fx; simp only [sumBut_cons]; rw [if_neg (by decide), this, i3]; simp [psize]
          · have := ih.fy; simp only [sumBut_cons]; rw [z2, if_pos k, this, ← h2]; simp
        · exact (tinv_end h.symm hs hr k).elim
    · by_cases k : p.kind = 2
      · have e : tf (m + 1) r s = (cutL p (nsz p) :: (tf m (cutR p (nsz p) :: r') s).1, ⟨1, p.signs.length, []⟩ :: (tf m (cutR p (nsz p) :: r') s).2) := by simp only [tf, hr]; rw [if_pos k]
        obtain ⟨i1, i2, i3, i4⟩ := tinv_putR h hr k
        have ih := tf_ok m _ _ i1 (by omega)
        obtain ⟨z1, z2, z3, z4⟩ := put_sz i4 k
        rw [e]
        refine ⟨?_, ?_, ?_, ?_, ?_, ?_⟩
        · simp [ih.ax, (cut_ok i4 (Nat.le_refl _)).1]
        · simp [ih.ay, keep_ok _ z4]
        · have := ih.lx; simp; omega
        · have := ih.ly; simp; omega
        · have := ih.fx; simp only [sumBut_cons]; rw [z2, if_pos k, this]; simp
        · have := ih.fy; simp only [sumBut_cons]; rw [if_neg (by decide), this, i3]; simp [psize]
      · rcases hs : skip s with _ | ⟨q, s'⟩
        · exact (tinv_end h hr hs k).elim
        · by_cases k2 : q.kind = 2
          · have e : tf (m + 1) r s = (⟨1, q.signs.length, []⟩ :: (tf m (p :: r') (cutR q (nsz q) :: s')).1, cutL q (nsz q) :: (tf m (p :: r') (cutR q (nsz q) :: s')).2) := by simp only [tf, hr, hs]; rw [if_neg k, if_pos k2]
            obtain ⟨i1, i2, i3, i4⟩ := tinv_putR h.symm hs k2
            have hrr := h.skipR
            have hmu := skip_mu r
            rw [hr] at hrr hmu
            have i5 := (tinv_putR hrr.symm hs k2).1
            have ih := tf_ok m (p :: r') _ i5.symm (by omega)
            obtain ⟨z1, z2, z3, z4⟩ := put_sz i4 k2
            have h2 := skip_sum 3 h.r
            rw [hr] at h2
            rw [e]
            refine ⟨?_, ?_, ?_, ?_, ?_, ?_⟩
            · simp [ih.ax, keep_ok _ z4]
            · simp [ih.ay, (cut_ok i4 (Nat.le_refl _)).1]
            · have := ih.lx; simp; omega
            · have := ih.ly; simp; omega
            · have := ih.fx; simp only [sumBut_cons]; rw [if_neg (by decide), this, i3]; simp [psize]
            · have := ih.fy; rw [sumBut_cons, z2, if_pos k2, this, h2]; simp
          · have e : tf (m + 1) r s = ((if q.kind = 1 then [cutL p (min (nsz p) (nsz q))] else []) ++ (tf m (cutR p (min (nsz p) (nsz q)) :: r') (cutR q (min (nsz p) (nsz q)) :: s')).1,
           (if p.kind = 1 then [cutL q (min (nsz p) (nsz q))] else []) ++ (tf m (cutR p (min (nsz p) (nsz q)) :: r') (cutR q (min (nsz p) (nsz q)) :: s')).2) := by simp only [tf, hr, hs]; rw [if_neg k, if_neg k2]
            obtain ⟨i1, i2, i3, ip, iq⟩ := tinv_both h hr hs k k2
            have ih := tf_ok m _ _ i1 (by omega)
            have h2 := skip_sum 3 h.r
            have g2 := skip_sum 3 h.s
            rw [hr, sumBut_cons] at h2
            rw [hs, sumBut_cons] at g2
            have hn1 : min (nsz p) (nsz q) ≤ nsz p := Nat.min_le_left _ _
            have hn2 : min (nsz p) (nsz q) ≤ nsz q := Nat.min_le_right _ _
            rw [e]
            generalize min (nsz p) (nsz q) = n at hn1 hn2 i1 i2 i3 ih ⊢
            obtain ⟨c1, c2, c3, c4, c5, c6⟩ := cut_ok ip hn1
            obtain ⟨d1, d2, d3, d4, d5, d6⟩ := cut_ok iq hn2
            have p1 := (part_nk ip k).1
            have q1 := (part_nk iq k2).1
            have jx := ih.fx
            have jy := ih.fy
            rw [sumBut_cons] at jx jy
            have a1 := ih.ax
            have a2 := ih.ay
            have l1 := ih.lx
            have l2 := ih.ly
            rw [d4, d6] at jx
            rw [c4, c6] at jy
            refine ⟨?_, ?_, ?_, ?_, ?_, ?_⟩
            · by_cases e1 : q.kind = 1 <;> simp [e1, a1, c1]
            · by_cases e1 : p.kind = 1 <;> simp [e1, a2, d1]
            · by_cases e1 : q.kind = 1 <;> simp [e1] <;> omega
            · by_cases e1 : p.kind = 1 <;> simp [e1] <;> omega
            · rw [sumBut_append, jx, ← g2]
              rcases q1 with q1 | q1
              · rw [if_pos q1]; simp only [sumBut_cons, sumBut_nil, c3, if_neg k, c5, q1]; simp; omega
              · rw [if_neg (by omega), if_pos q1, if_pos q1]; simp [sumBut_nil]
            · rw [sumBut_append, jy, ← h2]
              rcases p1 with p1 | p1
              · rw [if_pos p1]; simp only [sumBut_cons, sumBut_nil, d3, if_neg k2, d5, p1]; simp; omega
              · rw [if_neg (by omega), if_pos p1, if_pos p1]; simp [sumBut_nil]
end Go.Proofs.Ytiahgjnpinjblaa
