/- The shape of a normal form: what is normal stays as it is; sums are kept. -/
import Derived.Test.YtiahgjnpinjblaaApn
import Derived.Test.YtiahgjnpinjblaaBu
namespace Go.Proofs.Ytiahgjnpinjblaa
open Go.RowKit
/-- the list's last part is of kind k -/
def endK (k : Int) (l : List DPart) : Prop := ∃ m p, l = m ++ [p] ∧ p.kind = k
inductive NF : List DPart → Prop
  | nil : NF []
  | keep (l : List DPart) (n : Int) : NF l → ¬ endK 1 l → 0 < n → NF (l ++ [⟨1, n, []⟩])
  | put (l : List DPart) (g : List Int) : NF l → (l = [] ∨ endK 1 l) → g ≠ [] → NF (l ++ [⟨2, 0, g⟩])
  | drop (l : List DPart) (n : Int) : NF l → ¬ endK 3 l → 0 < n → NF (l ++ [⟨3, n, []⟩])
theorem endK_snoc {k : Int} {l : List DPart} {p : DPart} : endK k (l ++ [p]) ↔ p.kind = k := by
  constructor
  · rintro ⟨m, q, e, h⟩
    have := List.append_inj_right' e (by simp)
    simp at this; rw [this]; exact h
  · intro h; exact ⟨l, p, rfl, h⟩
theorem endK_nil {k : Int} : ¬ endK k [] := by rintro ⟨m, p, e, _⟩; simp at e
theorem endK_ne {k j : Int} {l : List DPart} (h : endK k l) (hk : k ≠ j) : ¬ endK j l := by
  obtain ⟨m, p, rfl, h⟩ := h
  rw [endK_snoc]; omega
/-- what a builder of normal forms is like -/
structure BNF (s : Bst) : Prop where
  nf : NF s.list
  e : s.list = [] ∨ endK 1 s.list
  d : 0 ≤ s.drop
theorem BNF.flush {s : Bst} (h : BNF s) : NF s.flush.list ∧ (s.flush.list = s.list ∨ ¬ endK 1 s.flush.list) := by
  unfold Bst.flush
  simp only
  by_cases hp : s.put = []
  · by_cases hd : 0 < s.drop
    · rw [if_pos hp, if_pos hd, List.append_nil]
      refine ⟨.drop _ _ h.nf ?_ hd, .inr (by rw [endK_snoc]; simp)⟩
      rcases h.e with e | e
      · rw [e]; exact endK_nil
      · exact endK_ne e (by decide)
    · rw [if_pos hp, if_neg hd]; simp only [List.append_nil]; exact ⟨h.nf, .inl trivial⟩
  · have h1 : NF (s.list ++ [⟨2, 0, s.put⟩]) := .put _ _ h.nf h.e hp
    by_cases hd : 0 < s.drop
    · rw [if_neg hp, if_pos hd]
      exact ⟨.drop _ _ h1 (by rw [endK_snoc]; simp) hd, .inr (by rw [endK_snoc]; simp)⟩
    · rw [if_neg hp, if_neg hd, List.append_nil]
      exact ⟨h1, .inr (by rw [endK_snoc]; simp)⟩
theorem NF.last {l : List DPart} {p : DPart} (h : NF (l ++ [p])) (k : p.kind = 1) : NF l ∧ ¬ endK 1 l ∧ 0 < p.n ∧ p.signs = [] := by
  generalize e : l ++ [p] = L at h
  cases h with
  | nil => simp at e
  | keep l' n h1 h2 h3 =>
    obtain ⟨rfl, e2⟩ := List.append_inj' e (by simp)
    simp at e2; subst e2
    exact ⟨h1, h2, h3, rfl⟩
  | put l' g h1 h2 h3 =>
    obtain ⟨rfl, e2⟩ := List.append_inj' e (by simp)
    simp at e2; subst e2; simp at k
  | drop l' n h1 h2 h3 =>
    obtain ⟨rfl, e2⟩ := List.append_inj' e (by simp)
    simp at e2; subst e2; simp at k
theorem BNF.keep {s : Bst} (h : BNF s) {n : Int} (hn : 0 ≤ n) : BNF (s.keep n) := by
  unfold Bst.keep
  split
  · exact h
  · rename_i h0
    have hn : 0 < n := by omega
    obtain ⟨f1, f2⟩ := h.flush
    rcases List.eq_nil_or_concat s.flush.list with e | ⟨m, q, e⟩
    · rw [e, keepOn_nil]
      exact ⟨.keep [] n .nil endK_nil hn, .inr ⟨[], _, rfl, rfl⟩, Int.le_refl _⟩
    · rw [List.concat_eq_append] at e
      rw [e] at f1 ⊢
      by_cases hq : q.kind = 1
      · rw [keepOn_keep m q n hq]
        obtain ⟨g1, g2, g3, g4⟩ := f1.last hq
        refine ⟨?_, .inr ⟨m, _, rfl, hq⟩, Int.le_refl _⟩
        simp only [hq, g4]
        exact .keep m (q.n + n) g1 g2 (by omega)
      · rw [keepOn_other m q n hq]
        refine ⟨.keep _ n f1 (by rw [endK_snoc]; exact hq) hn, .inr ⟨_, _, rfl, rfl⟩, Int.le_refl _⟩
theorem BNF.step {s : Bst} (h : BNF s) {p : DPart} (hp : partOk p = true) : BNF (s.step p) := by
  unfold Bst.step
  rcases partOk_cases hp with ⟨kx, g1, g2, g3⟩ | ⟨kx, g1, g2, _⟩ | ⟨kx, g1, g2, g3⟩
  · rw [if_pos kx]; exact h.keep g1
  · rw [if_neg (by omega), if_pos kx]; exact ⟨h.nf, h.e, h.d⟩
  · rw [if_neg (by omega), if_neg (by omega)]; exact ⟨h.nf, h.e, by have := h.d; simp only [Bst.drops]; omega⟩
theorem BNF.fold : ∀ (o : List DPart) (s : Bst), BNF s → o.all partOk = true → BNF (o.foldl Bst.step s)
  | [], s, h, _ => h
  | p :: o, s, h, ho => by
    simp only [List.all_cons, Bool.and_eq_true] at ho
    exact BNF.fold o _ (h.step ho.1) ho.2
theorem normal_nf {o : List DPart} (h : o.all partOk = true) : NF (normal o) := (BNF.fold o ⟨[], [], 0⟩ ⟨.nil, .inl rfl, Int.le_refl _⟩ h).flush.1
/-- the builder over what is normal -/
theorem NF.fold {l : List DPart} (h : NF l) : (l.foldl Bst.step ⟨[], [], 0⟩).flush.list = l ∧ 0 ≤ (l.foldl Bst.step ⟨[], [], 0⟩).drop := by
  induction h with
  | nil => exact ⟨rfl, Int.le_refl _⟩
  | keep l n h1 h2 h3 ih =>
    rw [List.foldl_append]
    generalize l.foldl Bst.step ⟨[], [], 0⟩ = s at ih
    have e : [(⟨1, n, []⟩ : DPart)].foldl Bst.step s = ⟨l ++ [⟨1, n, []⟩], [], 0⟩ := by
      simp only [List.foldl_cons, List.foldl_nil, Bst.step, if_true, Bst.keep]
      rw [if_neg (by omega), ih.1]
      rcases List.eq_nil_or_concat l with e | ⟨m, q, e⟩
      · rw [e]; rfl
      · rw [List.concat_eq_append] at e
        rw [e] at h2 ⊢
        rw [keepOn_other m q n (by rwa [endK_snoc] at h2)]
    rw [e]
    exact ⟨by simp [Bst.flush], Int.le_refl _⟩
  | put l g h1 h2 h3 ih =>
    rw [List.foldl_append]
    generalize l.foldl Bst.step ⟨[], [], 0⟩ = s at ih
    obtain ⟨i1, i2⟩ := ih
    have hs : s.put = [] ∧ s.drop = 0 := by
      unfold Bst.flush at i1
      simp only at i1
      by_cases hd : 0 < s.drop
      · rw [if_pos hd] at i1
        rcases h2 with h2 | h2
        · rw [h2] at i1; simp at i1
        · rw [← i1, endK_snoc] at h2; simp at h2
      · rw [if_neg hd, List.append_nil] at i1
        by_cases hp : s.put = []
        · exact ⟨hp, by omega⟩
        · rw [if_neg hp] at i1
          rcases h2 with h2 | h2
          · rw [h2] at i1; simp at i1
          · rw [← i1, endK_snoc] at h2; simp at h2
    have hl : s.list = l := by
      rw [← i1]; simp [Bst.flush, hs.1, hs.2]
    have e : [(⟨2, 0, g⟩ : DPart)].foldl Bst.step s = ⟨l, g, 0⟩ := by
      simp only [List.foldl_cons, List.foldl_nil, Bst.step, Bst.puts]
      rw [if_neg (by decide), if_pos trivial, hl, hs.1, hs.2]; rfl
    rw [e]
    exact ⟨by simp [Bst.flush, h3], Int.le_refl _⟩
  | drop l n h1 h2 h3 ih =>
    rw [List.foldl_append]
    generalize l.foldl Bst.step ⟨[], [], 0⟩ = s at ih
    obtain ⟨i1, i2⟩ := ih
    have hs : s.drop = 0 := by
      unfold Bst.flush at i1
      simp only at i1
      by_cases hd : 0 < s.drop
      · rw [if_pos hd] at i1
        rw [← i1, endK_snoc] at h2; simp at h2
      · omega
    have e : [(⟨3, n, []⟩ : DPart)].foldl Bst.step s = ⟨s.list, s.put, n⟩ := by
      simp only [List.foldl_cons, List.foldl_nil, Bst.step, Bst.drops]
      rw [if_neg (by decide), if_neg (by decide), hs]; simp
    rw [e]
    refine ⟨?_, Int.le_of_lt h3⟩
    unfold Bst.flush at i1 ⊢
    simp only at i1 ⊢
    simp only [hs, show ¬ ((0 : Int) < 0) from by decide, if_false, List.append_nil] at i1
    simp only [h3, if_true, i1]
theorem normal_idem {o : List DPart} (h : o.all partOk = true) : normal (normal o) = normal o := (normal_nf h).fold.1
/-- sums are kept -/
def bsum (b : Int) (s : Bst) : Int := sumBut b s.list + (if b = 2 then 0 else (s.put.length : Int)) + (if b = 3 then 0 else s.drop)
theorem bsum_flush (b : Int) {s : Bst} (h : 0 ≤ s.drop) : sumBut b s.flush.list = bsum b s := by
  unfold Bst.flush bsum
  simp only [sumBut_append]
  have e1 : sumBut b (if s.put = [] then [] else [⟨2, 0, s.put⟩]) = if b = 2 then 0 else (s.put.length : Int) := by
    by_cases hp : s.put = []
    · rw [if_pos hp, hp]; simp [sumBut]
    · rw [if_neg hp]; simp only [sumBut, psize]
      by_cases hb : b = 2
      · rw [if_pos hb, if_pos hb.symm]; simp
      · rw [if_neg hb, if_neg (Ne.symm hb)]; simp
  have e2 : sumBut b (if 0 < s.drop then [⟨3, s.drop, []⟩] else []) = if b = 3 then 0 else s.drop := by
    by_cases hd : 0 < s.drop
    · rw [if_pos hd]; simp only [sumBut, psize]
      by_cases hb : b = 3
      · rw [if_pos hb, if_pos hb.symm]; simp
      · rw [if_neg hb, if_neg (Ne.symm hb)]; simp
    · rw [if_neg hd]; simp only [sumBut]; split <;> omega
  rw [e1, e2]
theorem sumBut_keepOn (b : Int) (hb : b ≠ 1) (l : List DPart) (n : Int) : sumBut b (keepOn l n) = sumBut b l + n := by
  rcases List.eq_nil_or_concat l with e | ⟨m, q, e⟩
  · rw [e, keepOn_nil]; simp [sumBut, psize, Ne.symm hb]
  · rw [List.concat_eq_append] at e
    rw [e]
    by_cases hq : q.kind = 1
    · rw [keepOn_keep m q n hq, sumBut_append, sumBut_append]; simp only [sumBut, psize, hq, if_neg (Ne.symm hb)]; omega
    · rw [keepOn_other m q n hq, sumBut_append]; simp [sumBut, psize, Ne.symm hb]
theorem bsum_step (b : Int) (hb : b ≠ 1) {s : Bst} (hd : 0 ≤ s.drop) {p : DPart} (hp : partOk p = true) : bsum b (s.step p) = bsum b s + (if p.kind = b then 0 else psize p) := by
  unfold Bst.step
  rcases partOk_cases hp with ⟨kx, g1, g2, g3⟩ | ⟨kx, g1, g2, _⟩ | ⟨kx, g1, g2, g3⟩
  · rw [if_pos kx, kx, if_neg (Ne.symm hb)]
    unfold Bst.keep
    have hz : psize p = p.n := by simp [psize, g3]
    split
    · omega
    · unfold bsum
      simp only [sumBut_keepOn b hb, bsum_flush b hd]
      rw [hz]; unfold bsum
      simp; try (split <;> split <;> omega)
  · rw [if_neg (by omega), if_pos kx, kx]
    unfold bsum Bst.puts
    have hz : psize p = p.signs.length := by simp [psize, g1]
    by_cases h2 : b = 2
    · subst h2; simp
    · simp only [if_neg h2, if_neg (Ne.symm h2), List.length_append, hz]; omega
  · rw [if_neg (by omega), if_neg (by omega), kx]
    unfold bsum Bst.drops
    have hz : psize p = p.n := by simp [psize, g3]
    by_cases h2 : b = 3
    · subst h2; simp
    · simp only [if_neg h2, if_neg (Ne.symm h2), hz]; omega
theorem bsum_fold (b : Int) (hb : b ≠ 1) : ∀ (o : List DPart) (s : Bst), BNF s → o.all partOk = true → bsum b (o.foldl Bst.step s) = bsum b s + sumBut b o
  | [], s, _, _ => by simp [sumBut]
  | p :: o, s, h, ho => by
    simp only [List.all_cons, Bool.and_eq_true] at ho
    rw [List.foldl_cons, bsum_fold b hb o _ (h.step ho.1) ho.2, bsum_step b hb h.d ho.1]
    simp only [sumBut]; omega
theorem normal_sum (b : Int) (hb : b ≠ 1) {o : List DPart} (h : o.all partOk = true) : sumBut b (normal o) = sumBut b o := by
  have h0 : BNF ⟨[], [], 0⟩ := ⟨.nil, .inl rfl, Int.le_refl _⟩
  unfold normal
  rw [bsum_flush b (BNF.fold o _ h0 h).d, bsum_fold b hb o _ h0 h]
  simp [bsum, sumBut]
/-- all signs are signs -/
def sgOk (l : List DPart) : Prop := ∀ p ∈ l, p.signs.all signOk = true
theorem sg_flush {s : Bst} (h1 : sgOk s.list) (h2 : s.put.all signOk = true) : sgOk s.flush.list := by
  intro p hp
  unfold Bst.flush at hp
  simp only [List.mem_append] at hp
  rcases hp with (hp | hp) | hp
  · exact h1 p hp
  · split at hp
    · cases hp
    · simp at hp; subst hp; exact h2
  · split at hp
    · simp at hp; subst hp; rfl
    · cases hp
theorem sg_step {s : Bst} (h1 : sgOk s.list) (h2 : s.put.all signOk = true) {p : DPart} (hp : partOk p = true) : sgOk (s.step p).list ∧ (s.step p).put.all signOk = true := by
  unfold Bst.step
  rcases partOk_cases hp with ⟨kx, g1, g2, g3⟩ | ⟨kx, g1, g2, g3⟩ | ⟨kx, g1, g2, g3⟩
  · rw [if_pos kx]
    unfold Bst.keep
    split
    · exact ⟨h1, h2⟩
    · have hf := sg_flush h1 h2
      refine ⟨?_, rfl⟩
      simp only
      rcases List.eq_nil_or_concat s.flush.list with e | ⟨m, q, e⟩
      · rw [e, keepOn_nil]; intro x hx; simp at hx; subst hx; rfl
      · rw [List.concat_eq_append] at e
        rw [e] at hf ⊢
        by_cases hq : q.kind = 1
        · rw [keepOn_keep m q p.n hq]
          intro x hx
          rcases List.mem_append.1 hx with hx | hx
          · exact hf x (by simp [hx])
          · simp at hx; subst hx; exact hf q (by simp)
        · rw [keepOn_other m q p.n hq]
          intro x hx
          rcases List.mem_append.1 hx with hx | hx
          · exact hf x hx
          · simp at hx; subst hx; rfl
  · rw [if_neg (by omega), if_pos kx]
    exact ⟨h1, by simp only [Bst.puts, List.all_append, h2, Bool.true_and]; exact g3⟩
  · rw [if_neg (by omega), if_neg (by omega)]
    exact ⟨h1, h2⟩
theorem sg_fold : ∀ (o : List DPart) (s : Bst), sgOk s.list → s.put.all signOk = true → o.all partOk = true → sgOk (o.foldl Bst.step s).list ∧ (o.foldl Bst.step s).put.all signOk = true
  | [], _, h1, h2, _ => ⟨h1, h2⟩
  | p :: o, s, h1, h2, ho => by
    simp only [List.all_cons, Bool.and_eq_true] at ho
    obtain ⟨k1, k2⟩ := sg_step h1 h2 ho.1
    exact sg_fold o _ k1 k2 ho.2
theorem normal_sg {o : List DPart} (h : o.all partOk = true) : sgOk (normal o) := by
  obtain ⟨h1, h2⟩ := sg_fold o ⟨[], [], 0⟩ (fun _ h => by cases h) rfl h
  exact sg_flush h1 h2
/-- a normal form's parts have their effects -/
theorem NF.parts {l : List DPart} (h : NF l) : ∀ p ∈ l, (p.kind = 1 ∧ 0 < p.n ∧ p.signs = []) ∨ (p.kind = 2 ∧ p.n = 0 ∧ p.signs ≠ []) ∨ (p.kind = 3 ∧ 0 < p.n ∧ p.signs = []) := by
  induction h with
  | nil => intro p hp; cases hp
  | keep l n _ _ hn ih => intro p hp; rcases List.mem_append.1 hp with hp | hp; exact ih p hp; simp at hp; subst hp; exact .inl ⟨rfl, hn, rfl⟩
  | put l g _ _ hg ih => intro p hp; rcases List.mem_append.1 hp with hp | hp; exact ih p hp; simp at hp; subst hp; exact .inr (.inl ⟨rfl, rfl, hg⟩)
  | drop l n _ _ hn ih => intro p hp; rcases List.mem_append.1 hp with hp | hp; exact ih p hp; simp at hp; subst hp; exact .inr (.inr ⟨rfl, hn, rfl⟩)
theorem nf_bounds : ∀ {l : List DPart}, (∀ p ∈ l, (p.kind = 1 ∧ 0 < p.n ∧ p.signs = []) ∨ (p.kind = 2 ∧ p.n = 0 ∧ p.signs ≠ []) ∨ (p.kind = 3 ∧ 0 < p.n ∧ p.signs = [])) →
    0 ≤ sumBut 2 l ∧ 0 ≤ sumBut 3 l ∧ (l.length : Int) ≤ sumBut 2 l + sumBut 3 l ∧ ∀ p ∈ l, psize p ≤ (if p.kind = 2 then sumBut 3 l else sumBut 2 l)
  | [], _ => ⟨Int.le_refl _, Int.le_refl _, by simp [sumBut], fun _ h => by cases h⟩
  | q :: l, h => by
    obtain ⟨i1, i2, i3, i4⟩ := nf_bounds (l := l) fun p hp => h p (List.mem_cons_of_mem _ hp)
    simp only [sumBut, List.length_cons]
    have hq := h q (by simp)
    have hps : 0 < psize q := by
      unfold psize
      rcases hq with ⟨_, a, b⟩ | ⟨_, a, b⟩ | ⟨_, a, b⟩
      · rw [b]; simpa using a
      · have := List.length_pos_iff.2 b; omega
      · rw [b]; simpa using a
    have hk : q.kind = 1 ∨ q.kind = 2 ∨ q.kind = 3 := by rcases hq with ⟨a, _⟩ | ⟨a, _⟩ | ⟨a, _⟩ <;> simp [a]
    refine ⟨by split <;> omega, by split <;> omega, by rcases hk with hk | hk | hk <;> rw [hk] <;> simp <;> omega, fun p hp => ?_⟩
    rcases List.mem_cons.1 hp with rfl | hp
    · rcases hk with hk | hk | hk <;> rw [hk] <;> simp <;> omega
    · have := i4 p hp
      split at this
      · rename_i k; rw [if_pos k]; split <;> omega
      · rename_i k; rw [if_neg k]; split <;> omega
/-- a normal form is an operation if its sums are small -/
theorem normal_ok {o : List DPart} (h : o.all partOk = true) : opOk (normal o) = (decide (sumBut 2 o ≤ 200) && decide (sumBut 3 o ≤ 200)) := by
  rw [← normal_sum 2 (by decide) h, ← normal_sum 3 (by decide) h]
  by_cases h2 : sumBut 2 (normal o) ≤ 200
  · by_cases h3 : sumBut 3 (normal o) ≤ 200
    · have hp := (normal_nf h).parts
      obtain ⟨b1, b2, b3, b4⟩ := nf_bounds hp
      have hs := normal_sg h
      have : opOk (normal o) = true := by
        rw [opOk_iff]
        refine ⟨List.all_eq_true.2 fun p hm => ?_, by omega, h2, h3⟩
        have k4 := b4 p hm
        unfold psize at k4
        rcases hp p hm with ⟨a, b, c⟩ | ⟨a, b, c⟩ | ⟨a, b, c⟩
        · rw [a, c] at k4; simp at k4
          simp [partOk, a, within, c]; omega
        · rw [a, b] at k4; simp at k4
          have h5 : signsOk p.signs = true := hs p hm
          simp [partOk, a, b, h5]; omega
        · rw [a, c] at k4; simp at k4
          simp [partOk, a, within, c]; omega
      rw [this]; simp [h2, h3]
    · have : opOk (normal o) = false := by
        rw [Bool.eq_false_iff]; intro hk; exact h3 (opOk_iff.1 hk).2.2.2
      rw [this]; simp [h3]
  · have : opOk (normal o) = false := by
      rw [Bool.eq_false_iff]; intro hk; exact h2 (opOk_iff.1 hk).2.2.1
    rw [this]; simp [h2]
theorem opNorm_ok {o : List DPart} (h : opOk o = true) : opOk (opNorm o) = true ∧ sumBut 2 (opNorm o) = sumBut 2 o ∧ sumBut 3 (opNorm o) = sumBut 3 o ∧ opNorm (opNorm o) = opNorm o := by
  obtain ⟨h1, _, h2, h3⟩ := opOk_iff.1 h
  have e : opNorm o = normal o := if_pos h
  have hk : opOk (normal o) = true := by rw [normal_ok h1]; simp [h2, h3]
  rw [e]
  exact ⟨hk, normal_sum 2 (by decide) h1, normal_sum 3 (by decide) h1, (if_pos hk).trans (normal_idem h1)⟩
theorem normal_norm {o : List DPart} (h : o.all partOk = true) (hk : opOk (normal o) = true) : isNorm (normal o) = true := by
  unfold isNorm opNorm
  rw [hk, if_pos rfl, normal_idem h]; simp
end Go.Proofs.Ytiahgjnpinjblaa
