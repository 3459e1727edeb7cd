/- Writers: who has put each sign, when an operation has been applied. -/
import Derived.Test.YtiahgjnpinjblaaRo
import Derived.Test.YtiahgjnpinjblaaPr
import Derived.Deep.QuietTactic
import Derived.BigQuiet
namespace Go.Proofs.Ytiahgjnpinjblaa
open Go.RowKit
/-- one part: how far it has come in the text, and what has come out -/
def appStep (sub : DPart → List Int) (t : List Int) (s : Nat × List Int) (p : DPart) : Nat × List Int :=
  if p.kind = 1 then (s.1 + p.n.toNat, s.2 ++ (t.take (s.1 + p.n.toNat)).drop s.1) else if p.kind = 3 then (s.1 + p.n.toNat, s.2) else (s.1, s.2 ++ sub p)
def appFold (sub : DPart → List Int) (t : List Int) (o : List DPart) : Nat × List Int := o.foldl (appStep sub t) (0, [])
theorem appFold_snoc {sub : DPart → List Int} {t : List Int} {o : List DPart} {k : Nat} {p : DPart} (h : o[k]? = some p) : appFold sub t (o.take (k + 1)) = appStep sub t (appFold sub t (o.take k)) p := by
  unfold appFold
  rw [take_snoc h, List.foldl_append]
  rfl
theorem appFold_at (sub : DPart → List Int) (t : List Int) {o : List DPart} (hall : o.all partOk = true) : ∀ k, k ≤ o.length → ((appFold sub t (o.take k)).1 : Int) = sumBut 2 (o.take k)
  | 0, _ => by simp [appFold, sumBut]
  | k + 1, hk => by
    obtain ⟨x, hx⟩ := get_some (l := o) (k := k) (by omega)
    have ih := appFold_at sub t hall k (by omega)
    rw [appFold_snoc hx, sumBut_snoc 2 hx, ← ih]
    rcases partOk_cases (all_at hall hx) with ⟨kx, g1, g2, g3⟩ | ⟨kx, g1, g2, _⟩ | ⟨kx, g1, g2, g3⟩
    · simp [appStep, kx, psize, g3]; omega
    · simp [appStep, kx]
    · simp [appStep, kx, psize, g3]; omega
theorem appFold_len (sub : DPart → List Int) (t : List Int) {o : List DPart} (hsub : ∀ p, partOk p = true → p.kind = 2 → (sub p).length = p.signs.length) (hall : o.all partOk = true) (hfrom : sumBut 2 o = t.length) : ∀ k, k ≤ o.length → ((appFold sub t (o.take k)).2.length : Int) = sumBut 3 (o.take k)
  | 0, _ => by simp [appFold, sumBut]
  | k + 1, hk => by
    obtain ⟨x, hx⟩ := get_some (l := o) (k := k) (by omega)
    have ih := appFold_len sub t hsub hall hfrom k (by omega)
    have ha := appFold_at sub t hall k (by omega)
    have ha1 := appFold_at sub t hall (k + 1) hk
    have hle : sumBut 2 (o.take (k + 1)) ≤ sumBut 2 o := by
      have := sumBut_append 2 (o.take (k + 1)) (o.drop (k + 1))
      rw [List.take_append_drop] at this
      have := sumBut_bd 2 (o.drop (k + 1)) (all_drop hall _)
      omega
    rw [appFold_snoc hx] at ha1 ⊢
    rw [sumBut_snoc 3 hx, ← ih]
    rcases partOk_cases (all_at hall hx) with ⟨kx, g1, g2, g3⟩ | ⟨kx, g1, g2, _⟩ | ⟨kx, g1, g2, g3⟩
    · simp only [appStep, kx, if_true] at ha1
      simp [appStep, kx, psize, g3]
      omega
    · have := hsub x (all_at hall hx) kx
      simp [appStep, kx, psize, g1, this]
    · simp [appStep, kx]
theorem sumBut_mono {o : List DPart} (hall : o.all partOk = true) (b : Int) (k : Nat) : sumBut b (o.take k) ≤ sumBut b o := by
  have := sumBut_append b (o.take k) (o.drop k)
  rw [List.take_append_drop] at this
  have := sumBut_bd b (o.drop k) (all_drop hall _)
  omega
def writers (o : List DPart) (x : List Int) (client : Int) : List Int × Bool :=
  if opOk o = true ∧ opFrom o = x.length then ((appFold (fun p => List.replicate p.signs.length client) x o).2, true) else ([], false)
theorem opOk_iff {o : List DPart} : opOk o = true ↔ o.all partOk = true ∧ o.length ≤ 600 ∧ sumBut 2 o ≤ 200 ∧ sumBut 3 o ≤ 200 := by
  unfold opOk opFrom opTo sizeBut
  constructor
  · intro h
    simp only [Bool.and_eq_true, decide_eq_true_eq] at h
    obtain ⟨⟨h1, h2⟩, h3⟩ := h
    rw [if_pos h1] at h2 h3
    obtain ⟨h4, h5⟩ := partsOk_iff.1 h1
    exact ⟨h4, h5, h2, h3⟩
  · rintro ⟨h1, h2, h3, h4⟩
    have hp := partsOk_iff.2 ⟨h1, h2⟩
    simp only [Bool.and_eq_true, decide_eq_true_eq]
    rw [if_pos hp, if_pos hp]
    exact ⟨⟨hp, h3⟩, h4⟩
theorem opFrom_of {o : List DPart} (h : opOk o = true) : opFrom o = sumBut 2 o := by
  obtain ⟨h1, h2, _⟩ := opOk_iff.1 h
  unfold opFrom sizeBut
  rw [if_pos (partsOk_iff.2 ⟨h1, h2⟩)]
theorem opTo_of {o : List DPart} (h : opOk o = true) : opTo o = sumBut 3 o := by
  obtain ⟨h1, h2, _⟩ := opOk_iff.1 h
  unfold opTo sizeBut
  rw [if_pos (partsOk_iff.2 ⟨h1, h2⟩)]
theorem writers_len (o : List DPart) (x : List Int) (client : Int) : (writers o x client).1.length ≤ 200 := by
  unfold writers
  split
  · rename_i h
    obtain ⟨h1, h2, h3, h4⟩ := opOk_iff.1 h.1
    have := appFold_len (fun p => List.replicate p.signs.length client) x (fun p _ _ => by simp) h1 (by rw [← opFrom_of h.1]; exact h.2) o.length (Nat.le_refl _)
    rw [List.take_length] at this
    simp only
    omega
  · simp
theorem info_int1 : (Try.prog.info? 3).map (fun i => (i.zero, i.size, i.bytes)) = some (some (.int .i64 0), 1, 8) := by kernel_rfl
theorem rdInt_fp {M : Nat} {w : World} {c : List Value} {x : Int} {f : List Pos} (h : GoT.rd M w c x f) : f = [] := h.2
theorem app_fits (sub : DPart → List Int) {t : List Int} {o : List DPart} {k : Nat} {p : DPart} (hall : o.all partOk = true) (hfr : sumBut 2 o = t.length) (hp : o[k]? = some p) (_hk : p.kind = 1 ∨ p.kind = 3) :
    (appFold sub t (o.take k)).1 + p.n.toNat ≤ t.length := by
  have hlt := (List.getElem?_eq_some_iff.1 hp).1
  have ha := appFold_at sub t hall k (by omega)
  have hm := sumBut_mono hall 2 (k + 1)
  rw [sumBut_snoc 2 hp] at hm
  rcases partOk_cases (all_at hall hp) with ⟨kx, g1, g2, g3⟩ | ⟨kx, g1, g2, _⟩ | ⟨kx, g1, g2, g3⟩
  · simp [kx, psize, g3] at hm; omega
  · omega
  · simp [kx, psize, g3] at hm; omega
theorem app_small (sub : DPart → List Int) {t : List Int} {o : List DPart} (hsub : ∀ p, partOk p = true → p.kind = 2 → (sub p).length = p.signs.length) (hall : o.all partOk = true) (hfr : sumBut 2 o = t.length) (hto : sumBut 3 o ≤ 200) (k : Nat) (hk : k ≤ o.length) :
    (appFold sub t (o.take k)).2.length ≤ 200 := by
  have := appFold_len sub t hsub hall hfr k hk
  have := sumBut_mono hall 3 k
  omega
/-- a row of ints of one's own that has grown -/
theorem Row.ints {B : Nat} {w : World} {v : Value} {l : List Int} {fs : List Pos} (h : Row B w v l fs) : fs = [] ∧ OwnS B w v l := by
  have : fs = [] := by
    have := Sl.flat (α := Int) rdInt_fp h.1
    exact List.append_right_eq_self.1 this
  subst this
  exact ⟨rfl, h.owns (Fresh.nil _ _)⟩
theorem OwnS.ints {B : Nat} {w : World} {v : Value} {l : List Int} (h : OwnS B w v l) : Row B w v l [] := by
  obtain ⟨fs, h, _⟩ := h.row
  obtain ⟨rfl, _⟩ := h.ints
  exact h
theorem Src.ints {w : World} {v : Value} {l : List Int} (h : RdS w v l) : Src w v l [] := by
  obtain ⟨gs, ao, c, news, h1, h2, h3⟩ := h.src
  have := Els.flat (α := Int) rdInt_fp h2
  subst this
  exact ⟨ao, c, news, h1, h2, h3⟩
theorem built_int (w : World) (x : Int) (E : TypeId) : Src (w.alloc (.cells #[.int .i64 x] E)) (.slice (some ⟨w.heap.size, 0, none⟩) 1 1) [x] [] := by
  refine Src.one (c := [.int .i64 x]) ?_ ⟨rfl, rfl⟩
  intro j u hj
  cases j with
  | zero => simp at hj; subst hj; simp
  | succ j => simp at hj
theorem writers_yes {o : List DPart} {x : List Int} (client : Int) (h : opOk o = true) (h2 : opFrom o = x.length) : writers o x client = ((appFold (fun p => List.replicate p.signs.length client) x o).2, true) := if_pos ⟨h, h2⟩
theorem writers_no {o : List DPart} {x : List Int} (client : Int) (h : ¬ (opOk o = true ∧ opFrom o = x.length)) : writers o x client = ([], false) := if_neg h
theorem repl_snoc (n : Nat) (c : Int) (l : List Int) : l ++ List.replicate (n + 1) c = l ++ (List.replicate n c ++ [c]) := by rw [List.replicate_succ']
end Go.Proofs.Ytiahgjnpinjblaa
