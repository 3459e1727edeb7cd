/- What operations make of texts. -/
import Derived.Test.YtiahgjnpinjblaaCmw
import Derived.Test.YtiahgjnpinjblaaApn
import Derived.Test.YtiahgjnpinjblaaIv
import Derived.Test.YtiahgjnpinjblaaDm
namespace Go.Proofs.Ytiahgjnpinjblaa
open Go.RowKit
def run : List DPart → List Int → List Int
  | [], _ => []
  | p :: o, t => if p.kind = 1 then t.take p.n.toNat ++ run o (t.drop p.n.toNat) else if p.kind = 3 then run o (t.drop p.n.toNat) else p.signs ++ run o t
def used : List DPart → Nat
  | [] => 0
  | p :: o => (if p.kind = 1 ∨ p.kind = 3 then p.n.toNat else 0) + used o
theorem run_keep {p : DPart} (k : p.kind = 1) (o : List DPart) (t : List Int) : run (p :: o) t = t.take p.n.toNat ++ run o (t.drop p.n.toNat) := by simp [run, k]
theorem run_drop {p : DPart} (k : p.kind = 3) (o : List DPart) (t : List Int) : run (p :: o) t = run o (t.drop p.n.toNat) := by simp [run, k]
theorem run_put {p : DPart} (k : p.kind = 2) (o : List DPart) (t : List Int) : run (p :: o) t = p.signs ++ run o t := by simp [run, k]
theorem run_cons (p : DPart) (o : List DPart) (t : List Int) : run (p :: o) t = if p.kind = 1 then t.take p.n.toNat ++ run o (t.drop p.n.toNat) else if p.kind = 3 then run o (t.drop p.n.toNat) else p.signs ++ run o t := rfl
theorem used_cons (p : DPart) (o : List DPart) : used (p :: o) = (if p.kind = 1 ∨ p.kind = 3 then p.n.toNat else 0) + used o := rfl
theorem run_append : ∀ (a b : List DPart) (t : List Int), run (a ++ b) t = run a t ++ run b (t.drop (used a))
  | [], b, t => by simp [run, used]
  | p :: a, b, t => by
    rw [List.cons_append, run_cons, run_cons, used_cons]
    split
    · rename_i k
      rw [run_append a b, if_pos (.inl k), List.append_assoc, List.drop_drop]
    · rename_i k1
      split
      · rename_i k
        rw [run_append a b, if_pos (.inr k), List.drop_drop]
      · rename_i k3
        rw [run_append a b, if_neg (by rintro (h | h) <;> contradiction), List.append_assoc, Nat.zero_add]
theorem used_append : ∀ (a b : List DPart), used (a ++ b) = used a + used b
  | [], b => by simp [used]
  | p :: a, b => by rw [List.cons_append, used_cons, used_cons, used_append a b]; omega
theorem appFold_run (t : List Int) : ∀ (o : List DPart) (k : Nat) (acc : List Int), (o.foldl (appStep signsOf t) (k, acc)).2 = acc ++ run o (t.drop k)
  | [], k, acc => by simp [run]
  | p :: o, k, acc => by
    have e : appStep signsOf t (k, acc) p = if p.kind = 1 then (k + p.n.toNat, acc ++ (t.take (k + p.n.toNat)).drop k) else if p.kind = 3 then (k + p.n.toNat, acc) else (k, acc ++ signsOf p) := rfl
    rw [List.foldl_cons, run_cons, e]
    split
    · rw [appFold_run t o, List.append_assoc, List.drop_drop, List.drop_take]
      congr 3
      omega
    · split
      · rw [appFold_run t o, List.drop_drop]
      · rw [appFold_run t o, List.append_assoc]
        rfl
theorem applyP_run {o : List DPart} {t : List Int} (h : opOk o = true) (h2 : textOk t = true) (h3 : opFrom o = t.length) : applyP o t = (run o t, true) := by
  rw [applyP_yes h h2 h3]
  unfold appFold
  rw [appFold_run t o 0 []]
  rfl
/-! normal forms -/
theorem run_flush {s : Bst} (h : 0 ≤ s.drop) (X : List DPart) (t : List Int) : run (s.flush.list ++ X) t = run s.list t ++ (s.put ++ run X (t.drop (used s.list + s.drop.toNat))) := by
  unfold Bst.flush
  simp only
  rw [List.append_assoc, List.append_assoc, run_append s.list]
  congr 1
  have e2 : ∀ u, run ((if 0 < s.drop then [(⟨3, s.drop, []⟩ : DPart)] else []) ++ X) u = run X (u.drop s.drop.toNat) := fun u => by
    split
    · rfl
    · rw [show s.drop.toNat = 0 by omega]; rfl
  have e1 : ∀ u Y, run ((if s.put = [] then [] else [(⟨2, 0, s.put⟩ : DPart)]) ++ Y) u = s.put ++ run Y u := fun u Y => by
    split
    · rename_i e; rw [e]; rfl
    · rfl
  rw [e1, e2, List.drop_drop]
theorem run_keepOn {L : List DPart} (hL : NF L) {n : Int} (hn : 0 ≤ n) (X : List DPart) (t : List Int) : run (keepOn L n ++ X) t = run (L ++ ⟨1, n, []⟩ :: X) t := by
  unfold keepOn
  split
  · rename_i p hp
    obtain ⟨m, rfl⟩ := List.getLast?_eq_some_iff.1 hp
    split
    · rename_i k
      obtain ⟨_, _, g, _⟩ := hL.last k
      rw [List.dropLast_concat, List.append_assoc, List.append_assoc, run_append m, run_append m]
      congr 1
      rw [List.singleton_append, List.singleton_append, run_keep (p := ⟨p.kind, p.n + n, p.signs⟩) k, run_keep k, run_keep rfl]
      simp only
      rw [show (p.n + n).toNat = p.n.toNat + n.toNat by omega, List.take_add, List.append_assoc]
      simp only [List.drop_drop, Nat.add_assoc]
    · rw [List.append_assoc, List.singleton_append]
  · rw [List.append_assoc, List.singleton_append]
theorem run_step {s : Bst} (h : BNF s) {p : DPart} (hp : partOk p = true) (X : List DPart) (t : List Int) : run ((s.step p).flush.list ++ X) t = run (s.flush.list ++ p :: X) t := by
  have hd : 0 ≤ s.drop := h.d
  rcases partOk_cases hp with ⟨k, g1, _, g3⟩ | ⟨k, _, _, _⟩ | ⟨k, g1, _, _⟩
  · unfold Bst.step
    rw [if_pos k]
    unfold Bst.keep
    split
    · rename_i e
      rw [run_flush hd, run_flush hd, run_keep k, e]
      simp
    · rw [run_flush (s := ⟨keepOn s.flush.list p.n, [], 0⟩) (Int.le_refl _)]
      simp only [List.nil_append]
      have := run_keepOn h.flush.1 g1 X t
      rw [run_append] at this
      rw [show (0 : Int).toNat = 0 from rfl, Nat.add_zero, this]
      have e : p = ⟨1, p.n, []⟩ := by cases p; simp_all
      rw [← e]
  · unfold Bst.step
    rw [if_neg (by omega), if_pos k]
    unfold Bst.puts
    rw [run_flush hd, run_flush (s := ⟨s.list, s.put ++ p.signs, s.drop⟩) hd, run_put k]
    simp only [List.append_assoc]
  · unfold Bst.step
    rw [if_neg (by omega), if_neg (by omega)]
    unfold Bst.drops
    rw [run_flush hd, run_flush (s := ⟨s.list, s.put, s.drop + p.n⟩) (by show 0 ≤ s.drop + p.n; omega), run_drop k, List.drop_drop]
    simp only
    rw [show (s.drop + p.n).toNat = s.drop.toNat + p.n.toNat by omega, Nat.add_assoc]
theorem run_fold (t : List Int) : ∀ (o : List DPart) (s : Bst), BNF s → o.all partOk = true → run (o.foldl Bst.step s).flush.list t = run (s.flush.list ++ o) t
  | [], s, _, _ => by simp
  | p :: o, s, h, ha => by
    simp only [List.all_cons, Bool.and_eq_true] at ha
    rw [List.foldl_cons, run_fold t o _ (h.step ha.1) ha.2, run_step h ha.1]
theorem run_normal {o : List DPart} (h : o.all partOk = true) (t : List Int) : run (normal o) t = run o t := by
  unfold normal
  rw [run_fold t o ⟨[], [], 0⟩ ⟨.nil, .inl rfl, Int.le_refl _⟩ h]
  rfl
end Go.Proofs.Ytiahgjnpinjblaa

namespace Go.Proofs.Ytiahgjnpinjblaa
open Go.RowKit
theorem sumBut_nn (b : Int) : ∀ {o : List DPart}, o.all partOk = true → 0 ≤ sumBut b o
  | [], _ => Int.le_refl _
  | p :: o, h => by
    simp only [List.all_cons, Bool.and_eq_true] at h
    have := sumBut_nn b h.2
    have := nsz_eq h.1
    rw [sumBut_cons]
    split <;> omega
theorem run_zero {p : DPart} (hp : partOk p = true) (hz : nsz p = 0) (o : List DPart) (t : List Int) : run (p :: o) t = run o t := by
  have e := nsz_eq hp
  rcases partOk_cases hp with ⟨k, g1, _, g3⟩ | ⟨k, g1, _, _⟩ | ⟨k, g1, _, g3⟩
  · rw [run_keep k]
    have : p.n = 0 := by simp [psize, g3] at e; omega
    rw [this]; simp
  · rw [run_put k]
    have : p.signs = [] := by simp [psize, g1] at e; exact List.eq_nil_of_length_eq_zero (by omega)
    rw [this]; rfl
  · rw [run_drop k]
    have : p.n = 0 := by simp [psize, g3] at e; omega
    rw [this]; simp
theorem run_skip (t : List Int) : ∀ {l : List DPart}, l.all partOk = true → run (skip l) t = run l t
  | [], _ => rfl
  | p :: l, h => by
    simp only [List.all_cons, Bool.and_eq_true] at h
    by_cases hz : nsz p = 0
    · have e : skip (p :: l) = skip l := by simp [skip, hz]
      rw [e, run_skip t h.2, run_zero h.1 hz]
    · rw [skip_id hz]
theorem run_cut {p : DPart} (hp : partOk p = true) {n : Nat} (hn : n ≤ nsz p) (o : List DPart) (t : List Int) : run (cutL p n :: cutR p n :: o) t = run (p :: o) t := by
  have e := nsz_eq hp
  obtain ⟨_, _, k1, k2, _, _⟩ := cut_ok hp hn
  rcases partOk_cases hp with ⟨k, g1, _, g3⟩ | ⟨k, g1, _, _⟩ | ⟨k, g1, _, g3⟩
  · have hz : p.n = nsz p := by simp [psize, g3] at e; omega
    rw [run_keep (k1.trans k), run_keep (k2.trans k), run_keep k]
    have e1 : (cutL p n).n.toNat = n := by simp [cutL, k]
    have e2 : (cutR p n).n.toNat = p.n.toNat - n := by simp [cutR, k] <;> omega
    rw [e1, e2, ← List.append_assoc, List.drop_drop, ← List.take_add, show n + (p.n.toNat - n) = p.n.toNat by omega]
  · rw [run_put (k1.trans k), run_put (k2.trans k), run_put k]
    have e1 : (cutL p n).signs = p.signs.take n := by simp [cutL, k]
    have e2 : (cutR p n).signs = p.signs.drop n := by simp [cutR, k]
    rw [e1, e2, ← List.append_assoc, List.take_append_drop]
  · have hz : p.n = nsz p := by simp [psize, g3] at e; omega
    rw [run_drop (k1.trans k), run_drop (k2.trans k), run_drop k, List.drop_drop]
    have e1 : (cutL p n).n.toNat = n := by simp [cutL, k]
    have e2 : (cutR p n).n.toNat = p.n.toNat - n := by simp [cutR, k] <;> omega
    rw [e1, e2, show n + (p.n.toNat - n) = p.n.toNat by omega]
theorem run_all {p : DPart} (hp : partOk p = true) (o : List DPart) (t : List Int) : run (cutR p (nsz p) :: o) t = run o t :=
  run_zero (cut_ok hp (Nat.le_refl _)).2.1 (by rw [nsz_cutR hp (Nat.le_refl _)]; omega) o t
/-- the first n signs that come out of a part -/
theorem run_first {p : DPart} (hp : partOk p = true) {n : Nat} (hn : n ≤ nsz p) (k3 : p.kind ≠ 3) (t : List Int) (hl : p.kind = 1 → n ≤ t.length) : ∃ O : List Int, O.length = n ∧ ∀ X, run (cutL p n :: X) t = O ++ run X (if p.kind = 1 then t.drop n else t) := by
  have e := nsz_eq hp
  obtain ⟨_, _, k1, _, _, _⟩ := cut_ok hp hn
  rcases partOk_cases hp with ⟨k, g1, _, g3⟩ | ⟨k, g1, _, _⟩ | ⟨k, g1, _, g3⟩
  · have e1 : (cutL p n).n.toNat = n := by simp [cutL, k]
    refine ⟨t.take n, by rw [List.length_take]; have := hl k; omega, fun X => ?_⟩
    rw [run_keep (k1.trans k), e1, if_pos k]
  · have e1 : (cutL p n).signs = p.signs.take n := by simp [cutL, k]
    refine ⟨p.signs.take n, by rw [List.length_take]; simp [psize, g1] at e; omega, fun X => ?_⟩
    rw [run_put (k1.trans k), e1, if_neg (by omega)]
  · exact absurd k k3
theorem cf_run : ∀ (m : Nat) (r s : List DPart) (t : List Int), CInv r s → mu r + mu s < m → sumBut 2 r ≤ t.length → run (cf m r s) t = run s (run r t)
  | 0, r, s, t, _, hm, _ => absurd hm (Nat.not_lt_zero _)
  | m + 1, r, s, t, h, hm, hl => by
    rw [← run_skip t h.r, ← run_skip _ h.s]
    have hr := skip_all h.r
    have hs := skip_all h.s
    have he : sumBut 3 (skip r) = sumBut 2 (skip s) := by rw [skip_sum 3 h.r, skip_sum 2 h.s]; exact h.e
    have hl' : sumBut 2 (skip r) ≤ t.length := by rw [skip_sum 2 h.r]; exact hl
    have m1 := skip_mu r
    have m2 := skip_mu s
    rcases skip_case r with er | ⟨p, r', er, zp⟩
    · rw [er] at hr he hl' m1
      rcases skip_case s with es | ⟨q, s', es, zq⟩
      · simp only [cf, er, es]; rfl
      · rw [es] at hs he m2
        simp only [List.all_cons, Bool.and_eq_true] at hs
        have nq := nsz_eq hs.1
        have n2 := sumBut_nn 2 hs.2
        rw [sumBut_cons, sumBut_nil] at he
        rw [mu_cons] at m2
        have kq : q.kind = 2 := by
          by_cases k : q.kind = 2
          · exact k
          · rw [if_neg k] at he; omega
        rw [if_pos kq] at he
        obtain ⟨_, c2, c3, c4, _, _⟩ := cut_ok hs.1 (Nat.le_refl (nsz q))
        simp only [cf, er, es, if_pos kq]
        have hi : CInv [] (cutR q (nsz q) :: s') := ⟨rfl, by simp [c2, hs.2], by rw [sumBut_nil, sumBut_cons, if_pos (c4.trans kq)]; omega⟩
        have z5 := nsz_cutR hs.1 (Nat.le_refl (nsz q))
        have ih := cf_run m [] (cutR q (nsz q) :: s') t hi (by rw [mu_cons, z5]; simp only [mu]; omega) (by rw [sumBut_nil]; omega)
        rw [run_put (c3.trans kq), ih, ← run_put (c3.trans kq) (cutR q (nsz q) :: s') (run [] t), run_cut hs.1 (Nat.le_refl _)]
    · rw [er] at hr he hl' m1
      simp only [List.all_cons, Bool.and_eq_true] at hr
      have np := nsz_eq hr.1
      rw [mu_cons] at m1
      rw [sumBut_cons] at he hl'
      have nr2 := sumBut_nn 2 hr.2
      have nr3 := sumBut_nn 3 hr.2
      by_cases kp : p.kind = 3
      · rw [if_pos kp] at he
        rw [if_neg (by omega)] at hl'
        obtain ⟨_, c2, c3, c4, c5, _⟩ := cut_ok hr.1 (Nat.le_refl (nsz p))
        simp only [cf, er, if_pos kp]
        have z5 := nsz_cutR hr.1 (Nat.le_refl (nsz p))
        have hi : CInv (cutR p (nsz p) :: r') s := ⟨by simp [c2, hr.2], h.s, by rw [sumBut_cons, if_pos (c4.trans kp)]; rw [skip_sum 2 h.s] at he; omega⟩
        have en : (cutL p (nsz p)).n.toNat = nsz p := by simp [cutL, kp]
        have hp2 : psize (cutR p (nsz p)) = 0 := by have := nsz_eq c2; omega
        have ih := cf_run m (cutR p (nsz p) :: r') s (t.drop (nsz p)) hi (by rw [mu_cons, z5]; omega) (by rw [sumBut_cons, if_neg (by omega), hp2, List.length_drop]; omega)
        rw [run_drop (c3.trans kp), en, ih, run_skip _ h.s]
        congr 1
        rw [← run_cut hr.1 (Nat.le_refl (nsz p)) r' t, run_drop (c3.trans kp), en]
      · rw [if_neg kp] at he
        rcases skip_case s with es | ⟨q, s', es, zq⟩
        · rw [es, sumBut_nil] at he
          omega
        · rw [es] at hs he m2
          simp only [List.all_cons, Bool.and_eq_true] at hs
          have nq := nsz_eq hs.1
          have n2 := sumBut_nn 2 hs.2
          rw [sumBut_cons] at he
          rw [mu_cons] at m2
          by_cases kq : q.kind = 2
          · rw [if_pos kq] at he
            obtain ⟨_, c2, c3, c4, _, _⟩ := cut_ok hs.1 (Nat.le_refl (nsz q))
            simp only [cf, er, es, if_neg kp, if_pos kq]
            have z5 := nsz_cutR hs.1 (Nat.le_refl (nsz q))
            have hi : CInv (p :: r') (cutR q (nsz q) :: s') := ⟨by simp [hr.1, hr.2], by simp [c2, hs.2], by rw [sumBut_cons, sumBut_cons, if_neg kp, if_pos (c4.trans kq)]; omega⟩
            have ih := cf_run m (p :: r') (cutR q (nsz q) :: s') t hi (by rw [mu_cons, mu_cons, z5]; omega) (by rw [sumBut_cons]; exact hl')
            rw [run_put (c3.trans kq), ih, ← run_put (c3.trans kq) (cutR q (nsz q) :: s') (run (p :: r') t), run_cut hs.1 (Nat.le_refl _)]
          · rw [if_neg kq] at he
            simp only [cf, er, es, if_neg kp, if_neg kq]
            have hn1 : min (nsz p) (nsz q) ≤ nsz p := Nat.min_le_left _ _
            have hn2 : min (nsz p) (nsz q) ≤ nsz q := Nat.min_le_right _ _
            have hn0 : 0 < min (nsz p) (nsz q) := by omega
            generalize min (nsz p) (nsz q) = n at hn1 hn2 hn0 ⊢
            obtain ⟨c1, c2, c3, c4, c5, c6⟩ := cut_ok hr.1 hn1
            obtain ⟨d1, d2, d3, d4, d5, d6⟩ := cut_ok hs.1 hn2
            have z5 := nsz_cutR hr.1 hn1
            have z6 := nsz_cutR hs.1 hn2
            have hlp : p.kind = 1 → n ≤ t.length := fun k => by rw [if_neg (by omega)] at hl'; omega
            obtain ⟨O, hO, hX⟩ := run_first hr.1 hn1 kp t hlp
            have hi : CInv (cutR p n :: r') (cutR q n :: s') := ⟨by simp [c2, hr.2], by simp [d2, hs.2], by rw [sumBut_cons, sumBut_cons, if_neg (by omega), if_neg (by omega)]; omega⟩
            have ih := cf_run m (cutR p n :: r') (cutR q n :: s') (if p.kind = 1 then t.drop n else t) hi (by rw [mu_cons, mu_cons, z5, z6]; omega) (by
              rw [sumBut_cons]
              rcases partOk_cases hr.1 with ⟨k, _⟩ | ⟨k, _⟩ | ⟨k, _⟩
              · rw [if_pos k, if_neg (show ¬ (cutR p n).kind = 2 by omega), List.length_drop]; rw [if_neg (show ¬ p.kind = 2 by omega)] at hl'; have := hlp k; omega
              · rw [if_neg (show ¬ p.kind = 1 by omega), if_pos (show (cutR p n).kind = 2 by omega)]; rw [if_pos k] at hl'; omega
              · exact absurd k kp)
            rw [← run_cut hr.1 hn1 r' t, hX, ← run_cut hs.1 hn2 s']
            rcases partOk_cases hs.1 with ⟨k, _⟩ | ⟨k, _⟩ | ⟨k, _⟩
            · have en : (cutL q n).n.toNat = n := by simp [cutL, k]
              rw [if_pos k, List.singleton_append, hX, ih, run_keep (d3.trans k), en, List.take_left' hO, List.drop_left' hO]
            · exact absurd k kq
            · have en : (cutL q n).n.toNat = n := by simp [cutL, k]
              rw [if_neg (by omega), run_drop (d3.trans k), en, List.drop_left' hO, ← ih]
              split
              · rename_i k1
                rw [List.singleton_append, run_drop (d3.trans k), en]
              · rfl
end Go.Proofs.Ytiahgjnpinjblaa

namespace Go.Proofs.Ytiahgjnpinjblaa
open Go.RowKit
theorem psz {p : DPart} (hp : partOk p = true) {n : Nat} (hn : n ≤ nsz p) : psize (cutL p n) = n ∧ psize (cutR p n) = psize p - n := let ⟨_, _, _, _, a, b⟩ := cut_ok hp hn; ⟨a, b⟩
theorem cf_ok : ∀ (m : Nat) (r s : List DPart), CInv r s → mu r + mu s < m → (cf m r s).all partOk = true ∧ sumBut 2 (cf m r s) = sumBut 2 r ∧ sumBut 3 (cf m r s) = sumBut 3 s
  | 0, r, s, _, hm => absurd hm (Nat.not_lt_zero _)
  | m + 1, r, s, h, hm => by
    rw [← skip_sum 2 h.r, ← skip_sum 3 h.s]
    have hr := skip_all h.r
    have hs := skip_all h.s
    have he : sumBut 3 (skip r) = sumBut 2 (skip s) := by rw [skip_sum 3 h.r, skip_sum 2 h.s]; exact h.e
    have m1 := skip_mu r
    have m2 := skip_mu s
    rcases skip_case r with er | ⟨p, r', er, zp⟩
    · rw [er] at hr he m1
      rcases skip_case s with es | ⟨q, s', es, zq⟩
      · simp only [cf, er, es]; refine ⟨?_, ?_, ?_⟩ <;> first | trivial | rfl
      · rw [es] at hs he m2
        simp only [List.all_cons, Bool.and_eq_true] at hs
        have nq := nsz_eq hs.1
        have n2 := sumBut_nn 2 hs.2
        rw [sumBut_cons, sumBut_nil] at he
        rw [mu_cons] at m2
        have kq : q.kind = 2 := by
          by_cases k : q.kind = 2
          · exact k
          · rw [if_neg k] at he; omega
        rw [if_pos kq] at he
        obtain ⟨c1, c2, c3, c4, c5, c6⟩ := cut_ok hs.1 (Nat.le_refl (nsz q))
        simp only [cf, er, es, if_pos kq]
        have hi : CInv [] (cutR q (nsz q) :: s') := ⟨rfl, by simp [c2, hs.2], by rw [sumBut_nil, sumBut_cons, if_pos (c4.trans kq)]; omega⟩
        have z5 := nsz_cutR hs.1 (Nat.le_refl (nsz q))
        obtain ⟨i1, i2, i3⟩ := cf_ok m [] (cutR q (nsz q) :: s') hi (by rw [mu_cons, z5]; simp only [mu]; omega)
        rw [sumBut_cons, if_neg (show ¬ (cutR q (nsz q)).kind = 3 by omega)] at i3
        refine ⟨by simp [c1, i1], by rw [sumBut_cons, if_pos (c3.trans kq), i2]; simp, ?_⟩
        rw [sumBut_cons, sumBut_cons, if_neg (show ¬ (cutL q (nsz q)).kind = 3 by omega), if_neg (show ¬ q.kind = 3 by omega), i3]
        omega
    · rw [er] at hr he m1
      simp only [List.all_cons, Bool.and_eq_true] at hr
      have np := nsz_eq hr.1
      rw [mu_cons] at m1
      rw [sumBut_cons] at he
      have nr3 := sumBut_nn 3 hr.2
      by_cases kp : p.kind = 3
      · rw [if_pos kp] at he
        obtain ⟨c1, c2, c3, c4, c5, c6⟩ := cut_ok hr.1 (Nat.le_refl (nsz p))
        simp only [cf, er, if_pos kp]
        have z5 := nsz_cutR hr.1 (Nat.le_refl (nsz p))
        have hi : CInv (cutR p (nsz p) :: r') s := ⟨by simp [c2, hr.2], h.s, by rw [sumBut_cons, if_pos (c4.trans kp)]; rw [skip_sum 2 h.s] at he; omega⟩
        obtain ⟨i1, i2, i3⟩ := cf_ok m (cutR p (nsz p) :: r') s hi (by rw [mu_cons, z5]; omega)
        rw [sumBut_cons, if_neg (show ¬ (cutR p (nsz p)).kind = 2 by omega)] at i2
        refine ⟨by simp [c1, i1], ?_, by rw [sumBut_cons, if_pos (c3.trans kp), i3, skip_sum 3 h.s]; simp⟩
        rw [sumBut_cons, sumBut_cons, if_neg (show ¬ (cutL p (nsz p)).kind = 2 by omega), if_neg (show ¬ p.kind = 2 by omega), i2]
        omega
      · rw [if_neg kp] at he
        rcases skip_case s with es | ⟨q, s', es, zq⟩
        · rw [es, sumBut_nil] at he
          omega
        · rw [es] at hs he m2
          simp only [List.all_cons, Bool.and_eq_true] at hs
          have nq := nsz_eq hs.1
          rw [sumBut_cons] at he
          rw [mu_cons] at m2
          by_cases kq : q.kind = 2
          · rw [if_pos kq] at he
            obtain ⟨c1, c2, c3, c4, c5, c6⟩ := cut_ok hs.1 (Nat.le_refl (nsz q))
            simp only [cf, er, es, if_neg kp, if_pos kq]
            have z5 := nsz_cutR hs.1 (Nat.le_refl (nsz q))
            have hi : CInv (p :: r') (cutR q (nsz q) :: s') := ⟨by simp [hr.1, hr.2], by simp [c2, hs.2], by rw [sumBut_cons, sumBut_cons, if_neg kp, if_pos (c4.trans kq)]; omega⟩
            obtain ⟨i1, i2, i3⟩ := cf_ok m (p :: r') (cutR q (nsz q) :: s') hi (by rw [mu_cons, mu_cons, z5]; omega)
            rw [sumBut_cons, if_neg (show ¬ (cutR q (nsz q)).kind = 3 by omega)] at i3
            refine ⟨by simp [c1, i1], by rw [sumBut_cons, if_pos (c3.trans kq), i2]; simp, ?_⟩
            rw [sumBut_cons, sumBut_cons, if_neg (show ¬ (cutL q (nsz q)).kind = 3 by omega), if_neg (show ¬ q.kind = 3 by omega), i3]
            omega
          · rw [if_neg kq] at he
            simp only [cf, er, es, if_neg kp, if_neg kq]
            have hn1 : min (nsz p) (nsz q) ≤ nsz p := Nat.min_le_left _ _
            have hn2 : min (nsz p) (nsz q) ≤ nsz q := Nat.min_le_right _ _
            have hn0 : 0 < min (nsz p) (nsz q) := by omega
            generalize min (nsz p) (nsz q) = n at hn1 hn2 hn0 ⊢
            obtain ⟨c1, c2, c3, c4, c5, c6⟩ := cut_ok hr.1 hn1
            obtain ⟨d1, d2, d3, d4, d5, d6⟩ := cut_ok hs.1 hn2
            have z5 := nsz_cutR hr.1 hn1
            have z6 := nsz_cutR hs.1 hn2
            have hi : CInv (cutR p n :: r') (cutR q n :: s') := ⟨by simp [c2, hr.2], by simp [d2, hs.2], by rw [sumBut_cons, sumBut_cons, if_neg (show ¬ (cutR p n).kind = 3 by omega), if_neg (show ¬ (cutR q n).kind = 2 by omega)]; omega⟩
            obtain ⟨i1, i2, i3⟩ := cf_ok m (cutR p n :: r') (cutR q n :: s') hi (by rw [mu_cons, mu_cons, z5, z6]; omega)
            rw [sumBut_cons] at i2 i3
            have p12 : p.kind = 1 ∨ p.kind = 2 := by
              rcases partOk_cases hr.1 with ⟨k, _⟩ | ⟨k, _⟩ | ⟨k, _⟩
              · exact .inl k
              · exact .inr k
              · exact absurd k kp
            have q13 : q.kind = 1 ∨ q.kind = 3 := by
              rcases partOk_cases hs.1 with ⟨k, _⟩ | ⟨k, _⟩ | ⟨k, _⟩
              · exact .inl k
              · exact absurd k kq
              · exact .inr k
            rcases q13 with k | k
            · rw [if_pos k, List.singleton_append]
              rw [if_neg (show ¬ (cutR q n).kind = 3 by omega)] at i3
              refine ⟨by simp [c1, i1], ?_, ?_⟩
              · rw [sumBut_cons, sumBut_cons, i2, c3, c4]
                split <;> omega
              · rw [sumBut_cons, sumBut_cons, i3, if_neg (show ¬ (cutL p n).kind = 3 by omega), if_neg (show ¬ q.kind = 3 by omega)]
                omega
            · rw [if_neg (show ¬ q.kind = 1 by omega)]
              rw [if_pos (d4.trans k)] at i3
              split
              · rename_i k1
                rw [List.singleton_append]
                rw [if_neg (show ¬ (cutR p n).kind = 2 by omega)] at i2
                refine ⟨by simp [d1, i1], ?_, ?_⟩
                · rw [sumBut_cons, sumBut_cons, i2, if_neg (show ¬ (cutL q n).kind = 2 by omega), if_neg (show ¬ p.kind = 2 by omega)]
                  omega
                · rw [sumBut_cons, sumBut_cons, i3, if_pos (d3.trans k), if_pos k]
                  omega
              · rename_i k1
                rw [List.nil_append]
                rw [if_pos (show (cutR p n).kind = 2 by omega)] at i2
                refine ⟨i1, ?_, ?_⟩
                · rw [sumBut_cons, i2, if_pos (show p.kind = 2 by omega)]
                · rw [sumBut_cons, i3, if_pos k]
/-! taken back -/
def inv : List DPart → List Int → List DPart
  | [], _ => []
  | p :: o, u => if p.kind = 1 then p :: inv o (u.drop p.n.toNat) else if p.kind = 2 then ⟨3, p.signs.length, []⟩ :: inv o u else ⟨2, 0, u.take p.n.toNat⟩ :: inv o (u.drop p.n.toNat)
theorem inv_cons (p : DPart) (o : List DPart) (u : List Int) : inv (p :: o) u = if p.kind = 1 then p :: inv o (u.drop p.n.toNat) else if p.kind = 2 then ⟨3, p.signs.length, []⟩ :: inv o u else ⟨2, 0, u.take p.n.toNat⟩ :: inv o (u.drop p.n.toNat) := rfl
theorem inv_run : ∀ (o : List DPart) (u : List Int), o.all partOk = true → sumBut 2 o = u.length → run (inv o u) (run o u) = u
  | [], u, _, h => by
    rw [sumBut_nil] at h
    exact (List.eq_nil_of_length_eq_zero (by omega)).symm
  | p :: o, u, ha, h => by
    simp only [List.all_cons, Bool.and_eq_true] at ha
    have n2 := sumBut_nn 2 ha.2
    rw [sumBut_cons] at h
    rcases partOk_cases ha.1 with ⟨k, g1, _, g3⟩ | ⟨k, g1, _, _⟩ | ⟨k, g1, _, g3⟩
    · have hz : psize p = p.n := by simp [psize, g3]
      rw [if_neg (show ¬ p.kind = 2 by omega)] at h
      rw [inv_cons, if_pos k, run_keep k, run_keep k]
      have hl : (u.take p.n.toNat).length = p.n.toNat := by rw [List.length_take]; omega
      rw [List.take_left' hl, List.drop_left' hl, inv_run o _ ha.2 (by rw [List.length_drop]; omega), List.take_append_drop]
    · rw [if_pos k] at h
      rw [inv_cons, if_neg (show ¬ p.kind = 1 by omega), if_pos k, run_drop rfl, run_put k]
      simp only
      rw [show ((p.signs.length : Int)).toNat = p.signs.length by omega, List.drop_left, inv_run o _ ha.2 (by omega)]
    · have hz : psize p = p.n := by simp [psize, g3]
      rw [if_neg (show ¬ p.kind = 2 by omega)] at h
      rw [inv_cons, if_neg (show ¬ p.kind = 1 by omega), if_neg (show ¬ p.kind = 2 by omega), run_put rfl, run_drop k]
      simp only
      rw [inv_run o _ ha.2 (by rw [List.length_drop]; omega), List.take_append_drop]
end Go.Proofs.Ytiahgjnpinjblaa

namespace Go.Proofs.Ytiahgjnpinjblaa
open Go.RowKit
/-- an operation that takes t to u -/
structure To (x : List DPart) (t u : List Int) : Prop where
  ok : opOk x = true
  fr : opFrom x = t.length
  tt : opTo x = u.length
  rn : run x t = u
  tx : textOk t = true
theorem To.app {x : List DPart} {t u : List Int} (h : To x t u) : applyP x t = (u, true) := by rw [applyP_run h.ok h.tx h.fr, h.rn]
theorem app_ok {o : List DPart} {t : List Int} (h : (applyP o t).2 = true) : opOk o = true ∧ opFrom o = t.length ∧ opTo o = (applyP o t).1.length ∧ applyP o t = (run o t, true) := by
  by_cases hc : opOk o = true ∧ textOk t = true ∧ opFrom o = t.length
  · exact ⟨hc.1, hc.2.2, (applyP_text h).2.symm, applyP_run hc.1 hc.2.1 hc.2.2⟩
  · rw [applyP_no hc] at h
    cases h
theorem norm_to {z : List DPart} {t u : List Int} (ha : z.all partOk = true) (h2 : sumBut 2 z = t.length) (h3 : sumBut 3 z = u.length) (hr : run z t = u) (ht : textOk t = true) (hu : u.length ≤ 200) : To (normal z) t u := by
  have htl := (textOk_iff.1 ht).1
  have ok : opOk (normal z) = true := by
    rw [normal_ok ha]
    simp only [Bool.and_eq_true, decide_eq_true_eq]
    omega
  exact ⟨ok, by rw [opFrom_of ok, normal_sum 2 (by decide) ha]; exact h2, by rw [opTo_of ok, normal_sum 3 (by decide) ha]; exact h3, by rw [run_normal ha]; exact hr, ht⟩
theorem compose_to {x o : List DPart} {t u : List Int} (h : To x t u) (ho : (applyP o u).2 = true) : ∃ z, compose x o = some z ∧ To z t (applyP o u).1 := by
  obtain ⟨o1, o2, o3, o4⟩ := app_ok ho
  have hx := opOk_iff.1 h.ok
  have ho' := opOk_iff.1 o1
  have e : opTo x = opFrom o := by rw [h.tt, o2]
  have hi : CInv x o := ⟨hx.1, ho'.1, by rw [← opTo_of h.ok, ← opFrom_of o1]; exact e⟩
  obtain ⟨c1, c2, c3⟩ := cf_ok (mu x + mu o + 1) x o hi (by omega)
  have hr := cf_run (mu x + mu o + 1) x o t hi (by omega) (by rw [← opFrom_of h.ok, h.fr]; omega)
  have hz : To (normal (cfz x o)) t (applyP o u).1 := norm_to c1 (by show sumBut 2 (cf _ x o) = _; rw [c2, ← opFrom_of h.ok, h.fr]) (by show sumBut 3 (cf _ x o) = _; rw [c3, ← opTo_of o1, o3]) (by show run (cf _ x o) t = _; rw [hr, h.rn, o4]) h.tx (applyP_len o u)
  refine ⟨normal (cfz x o), ?_, hz⟩
  unfold compose
  rw [if_pos ⟨h.ok, o1, e⟩, if_pos hz.ok]
theorem coAll_to : ∀ (l : List (List DPart)) (x : List DPart) (t u v : List Int), To x t u → appTo l u = some v → ∃ z, l.foldl coStep (some x) = some z ∧ To z t v
  | [], x, t, u, v, h, e => by
    have e' : u = v := Option.some.inj e
    exact ⟨x, rfl, e' ▸ h⟩
  | o :: l, x, t, u, v, h, e => by
    obtain ⟨a1, a2⟩ := appTo_cons e
    obtain ⟨z, z1, z2⟩ := compose_to h a1
    obtain ⟨y, y1, y2⟩ := coAll_to l z t _ v z2 a2
    refine ⟨y, ?_, y2⟩
    rw [List.foldl_cons, show coStep (some x) o = some z from z1]
    exact y1
theorem keeping_to {t : List Int} (ht : textOk t = true) : To (keeping t.length) t t := by
  have hl := (textOk_iff.1 ht).1
  unfold keeping
  by_cases h1 : within (t.length : Int) 1 200 = true
  · rw [if_pos h1]
    have ok : opOk [(⟨1, (t.length : Int), []⟩ : DPart)] = true := opOk_iff.2 ⟨by simp [partOk, within]; omega, by simp, by simp [sumBut, psize]; omega, by simp [sumBut, psize]; omega⟩
    exact ⟨ok, by rw [opFrom_of ok]; simp [sumBut, psize], by rw [opTo_of ok]; simp [sumBut, psize], by rw [run_keep rfl]; simp [run], ht⟩
  · rw [if_neg h1]
    have : t = [] := List.eq_nil_of_length_eq_zero (by rw [within_iff] at h1; omega)
    subst this
    exact ⟨by decide, by decide, by decide, rfl, ht⟩
theorem invF_inv (t : List Int) : ∀ (o : List DPart) (k : Nat) (acc : List DPart), (o.foldl (invStep t) (acc, k)).1 = acc ++ inv o (t.drop k)
  | [], k, acc => by simp [inv]
  | p :: o, k, acc => by
    have e : invStep t (acc, k) p = if p.kind = 1 then (acc ++ [p], k + p.n.toNat) else if p.kind = 2 then (acc ++ [⟨3, p.signs.length, []⟩], k) else (acc ++ [⟨2, 0, (t.take (k + p.n.toNat)).drop k⟩], k + p.n.toNat) := rfl
    rw [List.foldl_cons, inv_cons, e]
    split
    · rw [invF_inv t o, List.append_assoc, List.drop_drop]; rfl
    · split
      · rw [invF_inv t o, List.append_assoc]; rfl
      · rw [invF_inv t o, List.append_assoc, List.drop_drop, List.drop_take, show k + p.n.toNat - k = p.n.toNat by omega]; rfl
theorem invert_to {c : List DPart} {t u : List Int} (h : To c t u) (hu : textOk u = true) : ∃ b, invert c t = some b ∧ To b u t := by
  have hc := opOk_iff.1 h.ok
  obtain ⟨n1, n2, n3, _⟩ := opNorm_ok h.ok
  have hn := opOk_iff.1 n1
  have hN : opNorm c = normal c := if_pos h.ok
  have hrun : run (opNorm c) t = u := by rw [hN, run_normal hc.1]; exact h.rn
  have ht := textOk_iff.1 h.tx
  have hfr : sumBut 2 (opNorm c) = t.length := by rw [n2, ← opFrom_of h.ok]; exact h.fr
  have hto : sumBut 3 (opNorm c) = u.length := by rw [n3, ← opTo_of h.ok]; exact h.tt
  have hI : invF t (opNorm c) = invF t ((opNorm c).take (opNorm c).length) := by rw [List.take_length]
  obtain ⟨i1, i2, i3⟩ := invF_ok hn.1 ht.2 hfr (opNorm c).length (Nat.le_refl _)
  rw [List.take_length] at i1 i2 i3
  have hir : run (invF t (opNorm c)).1 u = t := by
    have e : (invF t (opNorm c)).1 = inv (opNorm c) t := by
      unfold invF
      rw [invF_inv t (opNorm c) 0 []]
      rfl
    rw [e, ← hrun]
    exact inv_run _ _ hn.1 hfr
  refine ⟨normal (invF t (opNorm c)).1, invert_yes ?_, norm_to i1 (by rw [i2, hto]) (by rw [i3, hfr]) hir hu ht.1⟩
  rw [← fits_app, h.app]
theorem back_ok {d : DDoc} {rev : Int} (hr : atRev d rev) : ∃ (c b : List DPart), changed d rev = some c ∧ reverted d rev = some b ∧ (textAt d rev).2 = true ∧
    applyP c (textAt d rev).1 = (headText d, true) ∧ applyP b (headText d) = ((textAt d rev).1, true) := by
  obtain ⟨u, hu, e, ht⟩ := textAt_yes hr
  obtain ⟨hh, hht⟩ := headText_yes hr.1
  rw [← List.take_append_drop (revK d rev) (opsL d.list), appTo_append, hu] at hh
  obtain ⟨c, c1, c2⟩ := coAll_to (opsSince d rev).1 (keeping u.length) u u (headText d) (keeping_to ht) (by rw [opsSince_yes hr]; simp only; rw [opsL_drop]; exact hh)
  obtain ⟨b, b1, b2⟩ := invert_to c2 hht
  have hl := (textOk_iff.1 ht).1
  have hc : changed d rev = some c := by rw [changed_yes hr, e, composeAll_yes (within_iff.2 (by simp only; omega))]; exact c1
  refine ⟨c, b, hc, by rw [reverted_yes hc, e]; exact b1, by rw [e], by rw [e]; exact c2.app, by rw [e]; exact b2.app⟩
end Go.Proofs.Ytiahgjnpinjblaa

