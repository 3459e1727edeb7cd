/- Writers: who has put each sign, when an operation has been applied. -/
import Derived.Test.YtkbhlgmgjpbloaaRo
import Derived.Test.YtkbhlgmgjpbloaaPr
import Derived.Deep.QuietTactic
import Derived.BigQuiet
namespace Go.Proofs.Ytkbhlgmgjpbloaa
open Go.RowKit
/-- one part: how far it has come in the text, and what has come out -/
def appStep (sub : DPart → List Int) (t : List Int) (s : Nat × List Int) (p : DPart) : Nat × List Int :=
  if p.kind = 1 then (s.1 + p.n.toNat, s.2 ++ (t.take (s.1 + p.n.toNat)).drop s.1) else if p.kind = 3 then (s.1 + p.n.toNat, s.2) else (s.1, s.2 ++ sub p)
def appFold (sub : DPart → List Int) (t : List Int) (o : List DPart) : Nat × List Int := o.foldl (appStep sub t) (0, [])
theorem appFold_snoc {sub : DPart → List Int} {t : List Int} {o : List DPart} {k : Nat} {p : DPart} (h : o[k]? = some p) : appFold sub t (o.take (k + 1)) = appStep sub t (appFold sub t (o.take k)) p := by
  unfold appFold
  rw [take_snoc h, List.foldl_append]
  rfl
theorem appFold_at (sub : DPart → List Int) (t : List Int) {o : List DPart} (hall : o.all partOk = true) : ∀ k, k ≤ o.length → ((appFold sub t (o.take k)).1 : Int) = sumBut 2 (o.take k)
  | 0, _ => by simp [appFold, sumBut]
  | k + 1, hk => by
    obtain ⟨x, hx⟩ := get_some (l := o) (k := k) (by omega)
    have ih := appFold_at sub t hall k (by omega)
    rw [appFold_snoc hx, sumBut_snoc 2 hx, ← ih]
    rcases partOk_cases (all_at hall hx) with ⟨kx, g1, g2, g3⟩ | ⟨kx, g1, g2, _⟩ | ⟨kx, g1, g2, g3⟩
    · simp [appStep, kx, psize, g3]; omega
    · simp [appStep, kx]
    · simp [appStep, kx, psize, g3]; omega
theorem appFold_len (sub : DPart → List Int) (t : List Int) {o : List DPart} (hsub : ∀ p, partOk p = true → p.kind = 2 → (sub p).length = p.signs.length) (hall : o.all partOk = true) (hfrom : sumBut 2 o = t.length) : ∀ k, k ≤ o.length → ((appFold sub t (o.take k)).2.length : Int) = sumBut 3 (o.take k)
  | 0, _ => by simp [appFold, sumBut]
  | k + 1, hk => by
    obtain ⟨x, hx⟩ := get_some (l := o) (k := k) (by omega)
    have ih := appFold_len sub t hsub hall hfrom k (by omega)
    have ha := appFold_at sub t hall k (by omega)
    have ha1 := appFold_at sub t hall (k + 1) hk
    have hle : sumBut 2 (o.take (k + 1)) ≤ sumBut 2 o := by
      have := sumBut_append 2 (o.take (k + 1)) (o.drop (k + 1))
      rw [List.take_append_drop] at this
      have := sumBut_bd 2 (o.drop (k + 1)) (all_drop hall _)
      omega
    rw [appFold_snoc hx] at ha1 ⊢
    rw [sumBut_snoc 3 hx, ← ih]
    rcases partOk_cases (all_at hall hx) with ⟨kx, g1, g2, g3⟩ | ⟨kx, g1, g2, _⟩ | ⟨kx, g1, g2, g3⟩
    · simp only [appStep, kx, if_true] at ha1
      simp [appStep, kx, psize, g3]
      omega
    · have := hsub x (all_at hall hx) kx
      simp [appStep, kx, psize, g1, this]
    · simp [appStep, kx]
theorem sumBut_mono {o : List DPart} (hall : o.all partOk = true) (b : Int) (k : Nat) : sumBut b (o.take k) ≤ sumBut b o := by
  have := sumBut_append b (o.take k) (o.drop k)
  rw [List.take_append_drop] at this
  have := sumBut_bd b (o.drop k) (all_drop hall _)
  omega
def writers (o : List DPart) (x : List Int) (client : Int) : List Int × Bool :=
  if opOk o = true ∧ opFrom o = x.length then ((appFold (fun p => List.replicate p.signs.length client) x o).2, true) else ([], false)
theorem opOk_iff {o : List DPart} : opOk o = true ↔ o.all partOk = true ∧ o.length ≤ 600 ∧ sumBut 2 o ≤ 200 ∧ sumBut 3 o ≤ 200 := by
  unfold opOk opFrom opTo sizeBut
  constructor
  · intro h
    simp only [Bool.and_eq_true, decide_eq_true_eq] at h
    obtain ⟨⟨h1, h2⟩, h3⟩ := h
    rw [if_pos h1] at h2 h3
    obtain ⟨h4, h5⟩ := partsOk_iff.1 h1
    exact ⟨h4, h5, h2, h3⟩
  · rintro ⟨h1, h2, h3, h4⟩
    have hp := partsOk_iff.2 ⟨h1, h2⟩
    simp only [Bool.and_eq_true, decide_eq_true_eq]
    rw [if_pos hp, if_pos hp]
    exact ⟨⟨hp, h3⟩, h4⟩
theorem opFrom_of {o : List DPart} (h : opOk o = true) : opFrom o = sumBut 2 o := by
  obtain ⟨h1, h2, _⟩ := opOk_iff.1 h
  unfold opFrom sizeBut
  rw [if_pos (partsOk_iff.2 ⟨h1, h2⟩)]
theorem opTo_of {o : List DPart} (h : opOk o = true) : opTo o = sumBut 3 o := by
  obtain ⟨h1, h2, _⟩ := opOk_iff.1 h
  unfold opTo sizeBut
  rw [if_pos (partsOk_iff.2 ⟨h1, h2⟩)]
theorem writers_len (o : List DPart) (x : List Int) (client : Int) : (writers o x client).1.length ≤ 200 := by
  unfold writers
  split
  · rename_i h
    obtain ⟨h1, h2, h3, h4⟩ := opOk_iff.1 h.1
    have := appFold_len (fun p => List.replicate p.signs.length client) x (fun p _ _ => by simp) h1 (by rw [← opFrom_of h.1]; exact h.2) o.length (Nat.le_refl _)
    rw [List.take_length] at this
    simp only
    omega
  · simp
theorem info_int1 : (Try.prog.info? 3).map (fun i => (i.zero, i.size, i.bytes)) = some (some (.int .i64 0), 1, 8) := by kernel_rfl
theorem rdInt_fp {M : Nat} {w : World} {c : List Value} {x : Int} {f : List Pos} (h : GoT.rd M w c x f) : f = [] := h.2
theorem app_fits (sub : DPart → List Int) {t : List Int} {o : List DPart} {k : Nat} {p : DPart} (hall : o.all partOk = true) (hfr : sumBut 2 o = t.length) (hp : o[k]? = some p) (_hk : p.kind = 1 ∨ p.kind = 3) :
    (appFold sub t (o.take k)).1 + p.n.toNat ≤ t.length := by
  have hlt := (List.getElem?_eq_some_iff.1 hp).1
  have ha := appFold_at sub t hall k (by omega)
  have hm := sumBut_mono hall 2 (k + 1)
  rw [sumBut_snoc 2 hp] at hm
  rcases partOk_cases (all_at hall hp) with ⟨kx, g1, g2, g3⟩ | ⟨kx, g1, g2, _⟩ | ⟨kx, g1, g2, g3⟩
  · simp [kx, psize, g3] at hm; omega
  · omega
  · simp [kx, psize, g3] at hm; omega
theorem app_small (sub : DPart → List Int) {t : List Int} {o : List DPart} (hsub : ∀ p, partOk p = true → p.kind = 2 → (sub p).length = p.signs.length) (hall : o.all partOk = true) (hfr : sumBut 2 o = t.length) (hto : sumBut 3 o ≤ 200) (k : Nat) (hk : k ≤ o.length) :
    (appFold sub t (o.take k)).2.length ≤ 200 := by
  have := appFold_len sub t hsub hall hfr k hk
  have := sumBut_mono hall 3 k
  omega
/-- a row of ints of one's own that has grown -/
theorem Row.ints {B : Nat} {w : World} {v : Value} {l : List Int} {fs : List Pos} (h : Row B w v l fs) : fs = [] ∧ OwnS B w v l := by
  have : fs = [] := by
    have := Sl.flat (α := Int) rdInt_fp h.1
    exact List.append_right_eq_self.1 this
  subst this
  exact ⟨rfl, h.owns (Fresh.nil _ _)⟩
theorem OwnS.ints {B : Nat} {w : World} {v : Value} {l : List Int} (h : OwnS B w v l) : Row B w v l [] := by
  obtain ⟨fs, h, _⟩ := h.row
  obtain ⟨rfl, _⟩ := h.ints
  exact h
theorem Src.ints {w : World} {v : Value} {l : List Int} (h : RdS w v l) : Src w v l [] := by
  obtain ⟨gs, ao, c, news, h1, h2, h3⟩ := h.src
  have := Els.flat (α := Int) rdInt_fp h2
  subst this
  exact ⟨ao, c, news, h1, h2, h3⟩
theorem built_int (w : World) (x : Int) (E : TypeId) : Src (w.alloc (.cells #[.int .i64 x] E)) (.slice (some ⟨w.heap.size, 0, none⟩) 1 1) [x] [] := by
  refine Src.one (c := [.int .i64 x]) ?_ ⟨rfl, rfl⟩
  intro j u hj
  cases j with
  | zero => simp at hj; subst hj; simp
  | succ j => simp at hj
theorem writers_yes {o : List DPart} {x : List Int} (client : Int) (h : opOk o = true) (h2 : opFrom o = x.length) : writers o x client = ((appFold (fun p => List.replicate p.signs.length client) x o).2, true) := if_pos ⟨h, h2⟩
theorem writers_no {o : List DPart} {x : List Int} (client : Int) (h : ¬ (opOk o = true ∧ opFrom o = x.length)) : writers o x client = ([], false) := if_neg h
theorem repl_snoc (n : Nat) (c : Int) (l : List Int) : l ++ List.replicate (n + 1) c = l ++ (List.replicate n c ++ [c]) := by rw [List.replicate_succ']
set_option maxHeartbeats 4000000 in
set_option maxRecDepth 100000 in
theorem spec_Writers_c (o : List DPart) (x : List Int) (client : Int) (vo vx : Value) (w : World) (ho : RdS w vo o) (hx : RdS w vx x) : Calls Try.prog 67 #[vo, vx, .int .i64 client] w (Out_IntS_b w (writers o x client).1 (writers o x client).2) := by
  have hlo := fun w1 ty => ho.len Try.underlying62 w1 ty
  have hlx := fun w1 ty => hx.len Try.underlying22 w1 ty
  have bo := ho.le
  have bx := hx.le
  obtain ⟨i0, hi, hz0, hz1, hz2⟩ := info_parts info_int1
  by_cases h1 : opOk o = true
  · by_cases h2 : opFrom o = x.length
    · have HV := Lib.hid (writers_yes client h1 h2)
      obtain ⟨hall, h600, h200, h300⟩ := opOk_iff.1 h1
      have HALL := Lib.hid hall
      have hfr : sumBut 2 o = x.length := by rw [← opFrom_of h1]; exact h2
      have HFR := Lib.hid hfr
      have e2 : (((x.length : Int) != (x.length : Int))) = false := by simp
      have H2 := Lib.hid h2
      have hxl : x.length ≤ 200 := by omega
      clear hall hfr h2
      go_enter Try.func67, Try.ntmps67
      go_wp2_with fail
      refine (spec_OpOk_c _ o _ (ho.below (by repeat' (first | (with_reducible exact Below.refl _ _) | (with_reducible assumption) | (with_reducible refine Below.setCell ?_ ?_ _) | (with_reducible refine Below.alloc ?_ ?_ _) | (with_reducible refine Below.drew ?_) | (with_reducible refine belowN ?_ _) | (with_reducible refine below_after ?_ (by assumption) ?_) | omega | (simp; done) | (simp; omega))))).mono ?_
      rintro e w1 ⟨rfl, hb1⟩
      have s1 := hb1.size
      (try simp at s1)
      obtain ⟨hc1, hf1⟩ := bcell hb1
      go_wp2_with fail
      refine (spec_OpFrom_c _ o _ (ho.below (by repeat' (first | (with_reducible exact Below.refl _ _) | (with_reducible assumption) | (with_reducible refine Below.setCell ?_ ?_ _) | (with_reducible refine Below.alloc ?_ ?_ _) | (with_reducible refine Below.drew ?_) | (with_reducible refine belowN ?_ _) | (with_reducible refine below_after ?_ (by assumption) ?_) | omega | (simp; done) | (simp; omega))))).mono ?_
      rintro e w2 ⟨rfl, hb2⟩
      have s2 := hb2.size
      (try simp at s2)
      obtain ⟨hc2, hf2⟩ := bcell hb2
      rw [H2.out]
      clear hc1 hf1 hc2 hf2
      go_wp2
      go_loopw [8, 9, 25] (fun z at_ i wr => ∃ (k : Nat) (u : Value), u = z ∧ k ≤ o.length ∧ i = .int .i64 k ∧ at_ = .int .i64 (appFold (fun p => List.replicate p.signs.length client) x (o.take k)).1 ∧ OwnS w.heap.size wr u (appFold (fun p => List.replicate p.signs.length client) x (o.take k)).2 ∧ Below w.heap.size w wr) (fun _ _ i _ => o.length - (intOf i).toNat)
      case atStart => exact ⟨0, _, rfl, Nat.zero_le _, rfl, rfl, OwnS.empty _ _ _, (by repeat' (first | (with_reducible exact Below.refl _ _) | (with_reducible assumption) | (with_reducible refine Below.setCell ?_ ?_ _) | (with_reducible refine Below.alloc ?_ ?_ _) | (with_reducible refine Below.drew ?_) | (with_reducible refine belowN ?_ _) | (with_reducible refine below_after ?_ (by assumption) ?_) | omega | (simp; done) | (simp; omega)))⟩
      case round =>
        obtain ⟨k, u, rfl, hk, rfl, rfl, hu, hbw⟩ := hrel
        have hsz := hbw.size
        by_cases hlt : k < o.length
        · obtain ⟨p, hp⟩ := get_some hlt
          have hpo := all_at HALL.out hp
          have hst := appFold_snoc (sub := fun p => List.replicate p.signs.length client) (t := x) hp
          have hsm := app_small (fun p => List.replicate p.signs.length client) (t := x) (fun p _ _ => by simp) HALL.out HFR.out h300 k (by omega)
          have hfit := fun h => app_fits (fun p => List.replicate p.signs.length client) HALL.out HFR.out hp h
          obtain ⟨b1, o1, cs, g1, g2, g3⟩ := (ho.below hbw).idx Try.underlying62 szi_DPart k hp
          obtain ⟨v_signs, rfl, r_signs⟩ := inv_DPart g3
          have q0 := g2.zero
          have q1 := g2 1 _ rfl
          have q2 := g2 2 _ rfl
          obtain ⟨aa, ca, rfl⟩ := r_signs.isSlice
          obtain ⟨a, S, haS⟩ : ∃ a S, appFold (fun p => List.replicate p.signs.length client) x (o.take k) = (a, S) := ⟨_, _, rfl⟩
          rw [haS] at hst hu hsm hfit
          rw [haS]
          simp only at hu hst hsm hfit ⊢
          clear haS hp
          have HSR := Lib.hid hu.ints
          clear hu
          rcases partOk_cases hpo with ⟨kx, n1, n2, n3⟩ | ⟨kx, n1, n2, _⟩ | ⟨kx, n1, n2, n3⟩
          · obtain ⟨n, hn⟩ : ∃ n : Nat, p.n = n := ⟨p.n.toNat, by omega⟩
            have han := hfit (.inl kx)
            rw [kx] at q0
            rw [hn] at q1 han
            simp only [appStep, kx, hn, if_true, Int.toNat_natCast] at hst han
            obtain ⟨vc, hcut, hcr⟩ := (hx.below hbw).cut Try.underlying22 sz_int (lo := a) (hi := a + n) (by omega) han
            simp only [Int.natCast_add] at hcut
            have hcl : ((x.take (a + n)).drop a).length = n := by simp; omega
            have HCR := Lib.hid hcr
            have HST := Lib.hid hst
            have HCL := Lib.hid hcl
            have b2 : n ≤ 200 := by omega
            clear hst hcr hcl hpo kx n1 n2 n3 hn hfit
            go_wp2_with (at_builtin; refine wpList_append_row rfl _ _ 22 rfl Try.underlying22 hi hz0 hz1 hz2 rfl rfl rfl (HSR.out.below (by repeat' (first | (with_reducible exact Below.refl _ _) | (with_reducible assumption) | (with_reducible refine Below.setCell ?_ ?_ _) | (with_reducible refine Below.alloc ?_ ?_ _) | (with_reducible refine Below.drew ?_) | (with_reducible refine belowN ?_ _) | (with_reducible refine below_after ?_ (by assumption) ?_) | omega | (simp; done) | (simp; omega)))) (Src.ints (HCR.out.below (by repeat' (first | (with_reducible exact Below.refl _ _) | (with_reducible assumption) | (with_reducible refine Below.setCell ?_ ?_ _) | (with_reducible refine Below.alloc ?_ ?_ _) | (with_reducible refine Below.drew ?_) | (with_reducible refine belowN ?_ _) | (with_reducible refine below_after ?_ (by assumption) ?_) | omega | (simp; done) | (simp; omega))))) (fun _ h => by cases h) ?c1 ?c2 ?c3 ?_)
            case c1 => rw [HCL.out]; exact le_BIG (by omega)
            case c2 => rw [HCL.out]; omega
            case c3 => simp; omega
            intro v' w1 hr hw _
            have HO := Lib.hid hr.ints.2
            have HB : Hid (Below w.heap.size w w1) := Lib.hid (below_after2 hbw (wrb (C := w.heap.size) hw (by repeat' (first | (with_reducible exact Below.refl _ _) | (with_reducible assumption) | (with_reducible refine Below.setCell ?_ ?_ _) | (with_reducible refine Below.alloc ?_ ?_ _) | (with_reducible refine Below.drew ?_) | (with_reducible refine belowN ?_ _) | (with_reducible refine below_after ?_ (by assumption) ?_) | omega | (simp; done) | (simp; omega))) hsz (fun p hp => HSR.out.2.1.ge p hp)) (Nat.le_refl _))
            have s1 := wrs hw (w := wr) (by repeat' (first | (with_reducible exact Below.refl _ _) | (with_reducible assumption) | (with_reducible refine Below.setCell ?_ ?_ _) | (with_reducible refine Below.alloc ?_ ?_ _) | (with_reducible refine Below.drew ?_) | (with_reducible refine belowN ?_ _) | (with_reducible refine below_after ?_ (by assumption) ?_) | omega | (simp; done) | (simp; omega)))
            have zb : wr.heap.size < w1.heap.size := Nat.lt_of_lt_of_le (by simp) hw.size
            have k0 : w1.cell? ⟨wr.heap.size, 1, none⟩ = some (.int .i64 n) := by
              rw [hw.cell (wr.heap.size, 1) (by simp) (fun hm => by have := Live.lt (Live.append.1 HSR.out.1.live).1 _ hm; simp at this)]
              simp
            clear hr hw
            go_wp2
            go_roundw
            case rel => exact ⟨k + 1, _, rfl, by omega, by go_num, by rw [HST.out]; go_num, by rw [HST.out]; exact HO.out, HB.out⟩
            case measure => simp [intOf]; omega
          · rw [kx] at q0
            simp only [appStep, kx] at hst
            have HST := Lib.hid hst
            have hlen := fun w1 ty => r_signs.len Try.underlying22 w1 ty
            clear hst hpo kx n1 hfit
            go_wp2
            obtain ⟨wo, rfl⟩ : ∃ wo : World, wo = wr := ⟨_, rfl⟩
            go_loopw [8, 55] (fun z i wq => ∃ (j : Nat) (u : Value), u = z ∧ j ≤ p.signs.length ∧ i = .int .i64 j ∧ OwnS w.heap.size wq u (S ++ List.replicate j client) ∧ Below w.heap.size w wq) (fun _ i _ => p.signs.length - (intOf i).toNat)
            case atStart => exact ⟨0, _, rfl, Nat.zero_le _, rfl, by simpa using (HSR.out.below (by repeat' (first | (with_reducible exact Below.refl _ _) | (with_reducible assumption) | (with_reducible refine Below.setCell ?_ ?_ _) | (with_reducible refine Below.alloc ?_ ?_ _) | (with_reducible refine Below.drew ?_) | (with_reducible refine belowN ?_ _) | (with_reducible refine below_after ?_ (by assumption) ?_) | omega | (simp; done) | (simp; omega)))).ints.2, (by repeat' (first | (with_reducible exact Below.refl _ _) | (with_reducible assumption) | (with_reducible refine Below.setCell ?_ ?_ _) | (with_reducible refine Below.alloc ?_ ?_ _) | (with_reducible refine Below.drew ?_) | (with_reducible refine belowN ?_ _) | (with_reducible refine below_after ?_ (by assumption) ?_) | omega | (simp; done) | (simp; omega)))⟩
            case round =>
              obtain ⟨j, u, rfl, hj, rfl, hu, hbq⟩ := hrel
              have hsq := hbq.size
              have HR := Lib.hid hu.ints
              clear hu
              by_cases hlj : j < p.signs.length
              · go_wp2_with (at_builtin; refine wpList_append_row rfl _ _ 22 rfl Try.underlying22 hi hz0 hz1 hz2 rfl rfl rfl (HR.out.below (by repeat' (first | (with_reducible exact Below.refl _ _) | (with_reducible assumption) | (with_reducible refine Below.setCell ?_ ?_ _) | (with_reducible refine Below.alloc ?_ ?_ _) | (with_reducible refine Below.drew ?_) | (with_reducible refine belowN ?_ _) | (with_reducible refine below_after ?_ (by assumption) ?_) | omega | (simp; done) | (simp; omega)))) (built_int _ client _) (fun _ h => by cases h) ?c1 ?c2 ?c3 ?_)
                case c1 => simp; exact le_BIG (by omega)
                case c2 => simp; omega
                case c3 => simp; omega
                intro v' w1 hr hw _
                have HO := Lib.hid hr.ints.2
                have HB : Hid (Below w.heap.size w w1) := Lib.hid (below_after2 hbq (wrb (C := w.heap.size) hw (by repeat' (first | (with_reducible exact Below.refl _ _) | (with_reducible assumption) | (with_reducible refine Below.setCell ?_ ?_ _) | (with_reducible refine Below.alloc ?_ ?_ _) | (with_reducible refine Below.drew ?_) | (with_reducible refine belowN ?_ _) | (with_reducible refine below_after ?_ (by assumption) ?_) | omega | (simp; done) | (simp; omega))) hsq (fun p hp => HR.out.2.1.ge p hp)) (Nat.le_refl _))
                clear hr hw
                go_wp2
                go_roundw
                case rel => exact ⟨j + 1, _, rfl, by omega, by go_num, by rw [repl_snoc]; exact HO.out, HB.out⟩
                case measure => simp [intOf]; omega
              · obtain rfl : j = p.signs.length := by omega
                go_wp2
                go_roundw
                case rel => exact ⟨k + 1, _, rfl, by omega, by go_num, by rw [HST.out]; rfl, by rw [HST.out]; exact HR.out.ints.2, hbq⟩
                case measure => simp [intOf]; omega
          · obtain ⟨n, hn⟩ : ∃ n : Nat, p.n = n := ⟨p.n.toNat, by omega⟩
            have han := hfit (.inr kx)
            rw [kx] at q0
            rw [hn] at q1 han
            simp only [appStep, kx, hn, Int.toNat_natCast] at hst han
            have HST := Lib.hid hst
            have b2 : n ≤ 200 := by omega
            have HU := Lib.hid HSR.out.ints.2
            clear hst hpo kx n1 n2 n3 hn hfit
            go_wp2
            go_roundw
            case rel => exact ⟨k + 1, _, rfl, by omega, by go_num, by rw [HST.out]; go_num, by rw [HST.out]; exact HU.out.below (by repeat' (first | (with_reducible exact Below.refl _ _) | (with_reducible assumption) | (with_reducible refine Below.setCell ?_ ?_ _) | (with_reducible refine Below.alloc ?_ ?_ _) | (with_reducible refine Below.drew ?_) | (with_reducible refine belowN ?_ _) | (with_reducible refine below_after ?_ (by assumption) ?_) | omega | (simp; done) | (simp; omega))), (by repeat' (first | (with_reducible exact Below.refl _ _) | (with_reducible assumption) | (with_reducible refine Below.setCell ?_ ?_ _) | (with_reducible refine Below.alloc ?_ ?_ _) | (with_reducible refine Below.drew ?_) | (with_reducible refine belowN ?_ _) | (with_reducible refine below_after ?_ (by assumption) ?_) | omega | (simp; done) | (simp; omega)))⟩
            case measure => simp [intOf]; omega
        · obtain rfl : k = o.length := by omega
          rw [List.take_length] at hu
          obtain ⟨fp, hs, hf⟩ := hu
          go_wp2
          go_ret2
          rw [HV.out]
          exact ⟨_, _, rfl, hs, hf, hbw⟩
    · have HV := Lib.hid (writers_no client (o := o) (x := x) fun h => h2 h.2)
      have e2 : (((x.length : Int) != opFrom o)) = true := by simpa using fun e => h2 e.symm
      clear h2
      go_enter Try.func67, Try.ntmps67
      go_wp2_with fail
      refine (spec_OpOk_c _ o _ (ho.below (by repeat' (first | (with_reducible exact Below.refl _ _) | (with_reducible assumption) | (with_reducible refine Below.setCell ?_ ?_ _) | (with_reducible refine Below.alloc ?_ ?_ _) | (with_reducible refine Below.drew ?_) | (with_reducible refine belowN ?_ _) | (with_reducible refine below_after ?_ (by assumption) ?_) | omega | (simp; done) | (simp; omega))))).mono ?_
      rintro e w1 ⟨rfl, hb1⟩
      have s1 := hb1.size
      (try simp at s1)
      obtain ⟨hc1, hf1⟩ := bcell hb1
      go_wp2_with fail
      refine (spec_OpFrom_c _ o _ (ho.below (by repeat' (first | (with_reducible exact Below.refl _ _) | (with_reducible assumption) | (with_reducible refine Below.setCell ?_ ?_ _) | (with_reducible refine Below.alloc ?_ ?_ _) | (with_reducible refine Below.drew ?_) | (with_reducible refine belowN ?_ _) | (with_reducible refine below_after ?_ (by assumption) ?_) | omega | (simp; done) | (simp; omega))))).mono ?_
      rintro e w2 ⟨rfl, hb2⟩
      have s2 := hb2.size
      (try simp at s2)
      obtain ⟨hc2, hf2⟩ := bcell hb2
      go_wp2
      go_ret2
      rw [HV.out]
      exact ⟨_, _, rfl, Sl.nil, Fresh.nil _ _, (by repeat' (first | (with_reducible exact Below.refl _ _) | (with_reducible assumption) | (with_reducible refine Below.setCell ?_ ?_ _) | (with_reducible refine Below.alloc ?_ ?_ _) | (with_reducible refine Below.drew ?_) | (with_reducible refine belowN ?_ _) | (with_reducible refine below_after ?_ (by assumption) ?_) | omega | (simp; done) | (simp; omega)))⟩
  · have h1 : opOk o = false := by simpa using h1
    have HV := Lib.hid (writers_no client (o := o) (x := x) fun h => by rw [h1] at h; cases h.1)
    go_enter Try.func67, Try.ntmps67
    go_wp2_with fail
    refine (spec_OpOk_c _ o _ (ho.below (by repeat' (first | (with_reducible exact Below.refl _ _) | (with_reducible assumption) | (with_reducible refine Below.setCell ?_ ?_ _) | (with_reducible refine Below.alloc ?_ ?_ _) | (with_reducible refine Below.drew ?_) | (with_reducible refine belowN ?_ _) | (with_reducible refine below_after ?_ (by assumption) ?_) | omega | (simp; done) | (simp; omega))))).mono ?_
    rintro e w1 ⟨rfl, hb1⟩
    have s1 := hb1.size
    (try simp at s1)
    obtain ⟨hc1, hf1⟩ := bcell hb1
    go_wp2
    go_ret2
    rw [HV.out]
    exact ⟨_, _, rfl, Sl.nil, Fresh.nil _ _, (by repeat' (first | (with_reducible exact Below.refl _ _) | (with_reducible assumption) | (with_reducible refine Below.setCell ?_ ?_ _) | (with_reducible refine Below.alloc ?_ ?_ _) | (with_reducible refine Below.drew ?_) | (with_reducible refine belowN ?_ _) | (with_reducible refine below_after ?_ (by assumption) ?_) | omega | (simp; done) | (simp; omega)))⟩
set_option maxHeartbeats 4000000 in
set_option maxRecDepth 100000 in
theorem impl_Writers_c (o : List DPart) (x : List Int) (client : Int) (vo vx : Value) (w : World) (ho : RdS w vo o) (hx : RdS w vx x) : Calls Try.prog 68 #[vo, vx, .int .i64 client] w (Out_IntS_b w (writers o x client).1 (writers o x client).2) := by
  have hlo := fun w1 ty => ho.len Try.underlying62 w1 ty
  have hlx := fun w1 ty => hx.len Try.underlying22 w1 ty
  have bo := ho.le
  have bx := hx.le
  obtain ⟨i0, hi, hz0, hz1, hz2⟩ := info_parts info_int1
  by_cases h1 : opOk o = true
  · by_cases h2 : opFrom o = x.length
    · have HV := Lib.hid (writers_yes client h1 h2)
      obtain ⟨hall, h600, h200, h300⟩ := opOk_iff.1 h1
      have HALL := Lib.hid hall
      have hfr : sumBut 2 o = x.length := by rw [← opFrom_of h1]; exact h2
      have HFR := Lib.hid hfr
      have e2 : (((x.length : Int) != (x.length : Int))) = false := by simp
      have H2 := Lib.hid h2
      have hxl : x.length ≤ 200 := by omega
      clear hall hfr h2
      go_enter Try.func68, Try.ntmps68
      go_wp2_with fail
      refine (impl_OpOk_c _ o _ (ho.below (by repeat' (first | (with_reducible exact Below.refl _ _) | (with_reducible assumption) | (with_reducible refine Below.setCell ?_ ?_ _) | (with_reducible refine Below.alloc ?_ ?_ _) | (with_reducible refine Below.drew ?_) | (with_reducible refine belowN ?_ _) | (with_reducible refine below_after ?_ (by assumption) ?_) | omega | (simp; done) | (simp; omega))))).mono ?_
      rintro e w1 ⟨rfl, hb1⟩
      have s1 := hb1.size
      (try simp at s1)
      obtain ⟨hc1, hf1⟩ := bcell hb1
      go_wp2_with fail
      refine (impl_OpFrom_c _ o _ (ho.below (by repeat' (first | (with_reducible exact Below.refl _ _) | (with_reducible assumption) | (with_reducible refine Below.setCell ?_ ?_ _) | (with_reducible refine Below.alloc ?_ ?_ _) | (with_reducible refine Below.drew ?_) | (with_reducible refine belowN ?_ _) | (with_reducible refine below_after ?_ (by assumption) ?_) | omega | (simp; done) | (simp; omega))))).mono ?_
      rintro e w2 ⟨rfl, hb2⟩
      have s2 := hb2.size
      (try simp at s2)
      obtain ⟨hc2, hf2⟩ := bcell hb2
      rw [H2.out]
      clear hc1 hf1 hc2 hf2
      go_wp2
      go_loopw [8, 9, 24] (fun z at_ i wr => ∃ (k : Nat) (u : Value), u = z ∧ k ≤ o.length ∧ i = .int .i64 k ∧ at_ = .int .i64 (appFold (fun p => List.replicate p.signs.length client) x (o.take k)).1 ∧ OwnS w.heap.size wr u (appFold (fun p => List.replicate p.signs.length client) x (o.take k)).2 ∧ Below w.heap.size w wr) (fun _ _ i _ => o.length - (intOf i).toNat)
      case atStart => exact ⟨0, _, rfl, Nat.zero_le _, rfl, rfl, OwnS.empty _ _ _, (by repeat' (first | (with_reducible exact Below.refl _ _) | (with_reducible assumption) | (with_reducible refine Below.setCell ?_ ?_ _) | (with_reducible refine Below.alloc ?_ ?_ _) | (with_reducible refine Below.drew ?_) | (with_reducible refine belowN ?_ _) | (with_reducible refine below_after ?_ (by assumption) ?_) | omega | (simp; done) | (simp; omega)))⟩
      case round =>
        obtain ⟨k, u, rfl, hk, rfl, rfl, hu, hbw⟩ := hrel
        have hsz := hbw.size
        by_cases hlt : k < o.length
        · obtain ⟨p, hp⟩ := get_some hlt
          have hpo := all_at HALL.out hp
          have hst := appFold_snoc (sub := fun p => List.replicate p.signs.length client) (t := x) hp
          have hsm := app_small (fun p => List.replicate p.signs.length client) (t := x) (fun p _ _ => by simp) HALL.out HFR.out h300 k (by omega)
          have hfit := fun h => app_fits (fun p => List.replicate p.signs.length client) HALL.out HFR.out hp h
          obtain ⟨b1, o1, cs, g1, g2, g3⟩ := (ho.below hbw).idx Try.underlying62 szi_DPart k hp
          obtain ⟨v_signs, rfl, r_signs⟩ := inv_DPart g3
          have q0 := g2.zero
          have q1 := g2 1 _ rfl
          have q2 := g2 2 _ rfl
          obtain ⟨aa, ca, rfl⟩ := r_signs.isSlice
          obtain ⟨a, S, haS⟩ : ∃ a S, appFold (fun p => List.replicate p.signs.length client) x (o.take k) = (a, S) := ⟨_, _, rfl⟩
          rw [haS] at hst hu hsm hfit
          rw [haS]
          simp only at hu hst hsm hfit ⊢
          clear haS hp
          have HSR := Lib.hid hu.ints
          clear hu
          rcases partOk_cases hpo with ⟨kx, n1, n2, n3⟩ | ⟨kx, n1, n2, _⟩ | ⟨kx, n1, n2, n3⟩
          · obtain ⟨n, hn⟩ : ∃ n : Nat, p.n = n := ⟨p.n.toNat, by omega⟩
            have han := hfit (.inl kx)
            rw [kx] at q0
            rw [hn] at q1 han
            simp only [appStep, kx, hn, if_true, Int.toNat_natCast] at hst han
            obtain ⟨vc, hcut, hcr⟩ := (hx.below hbw).cut Try.underlying22 sz_int (lo := a) (hi := a + n) (by omega) han
            simp only [Int.natCast_add] at hcut
            have hcl : ((x.take (a + n)).drop a).length = n := by simp; omega
            have HCR := Lib.hid hcr
            have HST := Lib.hid hst
            have HCL := Lib.hid hcl
            have b2 : n ≤ 200 := by omega
            clear hst hcr hcl hpo kx n1 n2 n3 hn hfit
            go_wp2_with (at_builtin; refine wpList_append_row rfl _ _ 22 rfl Try.underlying22 hi hz0 hz1 hz2 rfl rfl rfl (HSR.out.below (by repeat' (first | (with_reducible exact Below.refl _ _) | (with_reducible assumption) | (with_reducible refine Below.setCell ?_ ?_ _) | (with_reducible refine Below.alloc ?_ ?_ _) | (with_reducible refine Below.drew ?_) | (with_reducible refine belowN ?_ _) | (with_reducible refine below_after ?_ (by assumption) ?_) | omega | (simp; done) | (simp; omega)))) (Src.ints (HCR.out.below (by repeat' (first | (with_reducible exact Below.refl _ _) | (with_reducible assumption) | (with_reducible refine Below.setCell ?_ ?_ _) | (with_reducible refine Below.alloc ?_ ?_ _) | (with_reducible refine Below.drew ?_) | (with_reducible refine belowN ?_ _) | (with_reducible refine below_after ?_ (by assumption) ?_) | omega | (simp; done) | (simp; omega))))) (fun _ h => by cases h) ?c1 ?c2 ?c3 ?_)
            case c1 => rw [HCL.out]; exact le_BIG (by omega)
            case c2 => rw [HCL.out]; omega
            case c3 => simp; omega
            intro v' w1 hr hw _
            have HO := Lib.hid hr.ints.2
            have HB : Hid (Below w.heap.size w w1) := Lib.hid (below_after2 hbw (wrb (C := w.heap.size) hw (by repeat' (first | (with_reducible exact Below.refl _ _) | (with_reducible assumption) | (with_reducible refine Below.setCell ?_ ?_ _) | (with_reducible refine Below.alloc ?_ ?_ _) | (with_reducible refine Below.drew ?_) | (with_reducible refine belowN ?_ _) | (with_reducible refine below_after ?_ (by assumption) ?_) | omega | (simp; done) | (simp; omega))) hsz (fun p hp => HSR.out.2.1.ge p hp)) (Nat.le_refl _))
            have s1 := wrs hw (w := wr) (by repeat' (first | (with_reducible exact Below.refl _ _) | (with_reducible assumption) | (with_reducible refine Below.setCell ?_ ?_ _) | (with_reducible refine Below.alloc ?_ ?_ _) | (with_reducible refine Below.drew ?_) | (with_reducible refine belowN ?_ _) | (with_reducible refine below_after ?_ (by assumption) ?_) | omega | (simp; done) | (simp; omega)))
            have zb : wr.heap.size < w1.heap.size := Nat.lt_of_lt_of_le (by simp) hw.size
            have k0 : w1.cell? ⟨wr.heap.size, 1, none⟩ = some (.int .i64 n) := by
              rw [hw.cell (wr.heap.size, 1) (by simp) (fun hm => by have := Live.lt (Live.append.1 HSR.out.1.live).1 _ hm; simp at this)]
              simp
            clear hr hw
            go_wp2
            go_roundw
            case rel => exact ⟨k + 1, _, rfl, by omega, by go_num, by rw [HST.out]; go_num, by rw [HST.out]; exact HO.out, HB.out⟩
            case measure => simp [intOf]; omega
          · rw [kx] at q0
            simp only [appStep, kx] at hst
            have HST := Lib.hid hst
            have hlen := fun w1 ty => r_signs.len Try.underlying22 w1 ty
            clear hst hpo kx n1 hfit
            go_wp2
            obtain ⟨wo, rfl⟩ : ∃ wo : World, wo = wr := ⟨_, rfl⟩
            go_loopw [8, 33] (fun z i wq => ∃ (j : Nat) (u : Value), u = z ∧ j ≤ p.signs.length ∧ i = .int .i64 j ∧ OwnS w.heap.size wq u (S ++ List.replicate j client) ∧ Below w.heap.size w wq) (fun _ i _ => p.signs.length - (intOf i).toNat)
            case atStart => exact ⟨0, _, rfl, Nat.zero_le _, rfl, by simpa using (HSR.out.below (by repeat' (first | (with_reducible exact Below.refl _ _) | (with_reducible assumption) | (with_reducible refine Below.setCell ?_ ?_ _) | (with_reducible refine Below.alloc ?_ ?_ _) | (with_reducible refine Below.drew ?_) | (with_reducible refine belowN ?_ _) | (with_reducible refine below_after ?_ (by assumption) ?_) | omega | (simp; done) | (simp; omega)))).ints.2, (by repeat' (first | (with_reducible exact Below.refl _ _) | (with_reducible assumption) | (with_reducible refine Below.setCell ?_ ?_ _) | (with_reducible refine Below.alloc ?_ ?_ _) | (with_reducible refine Below.drew ?_) | (with_reducible refine belowN ?_ _) | (with_reducible refine below_after ?_ (by assumption) ?_) | omega | (simp; done) | (simp; omega)))⟩
            case round =>
              obtain ⟨j, u, rfl, hj, rfl, hu, hbq⟩ := hrel
              have hsq := hbq.size
              have HR := Lib.hid hu.ints
              clear hu
              by_cases hlj : j < p.signs.length
              · go_wp2_with (at_builtin; refine wpList_append_row rfl _ _ 22 rfl Try.underlying22 hi hz0 hz1 hz2 rfl rfl rfl (HR.out.below (by repeat' (first | (with_reducible exact Below.refl _ _) | (with_reducible assumption) | (with_reducible refine Below.setCell ?_ ?_ _) | (with_reducible refine Below.alloc ?_ ?_ _) | (with_reducible refine Below.drew ?_) | (with_reducible refine belowN ?_ _) | (with_reducible refine below_after ?_ (by assumption) ?_) | omega | (simp; done) | (simp; omega)))) (built_int _ client _) (fun _ h => by cases h) ?c1 ?c2 ?c3 ?_)
                case c1 => simp; exact le_BIG (by omega)
                case c2 => simp; omega
                case c3 => simp; omega
                intro v' w1 hr hw _
                have HO := Lib.hid hr.ints.2
                have HB : Hid (Below w.heap.size w w1) := Lib.hid (below_after2 hbq (wrb (C := w.heap.size) hw (by repeat' (first | (with_reducible exact Below.refl _ _) | (with_reducible assumption) | (with_reducible refine Below.setCell ?_ ?_ _) | (with_reducible refine Below.alloc ?_ ?_ _) | (with_reducible refine Below.drew ?_) | (with_reducible refine belowN ?_ _) | (with_reducible refine below_after ?_ (by assumption) ?_) | omega | (simp; done) | (simp; omega))) hsq (fun p hp => HR.out.2.1.ge p hp)) (Nat.le_refl _))
                clear hr hw
                go_wp2
                go_roundw
                case rel => exact ⟨j + 1, _, rfl, by omega, by go_num, by rw [repl_snoc]; exact HO.out, HB.out⟩
                case measure => simp [intOf]; omega
              · obtain rfl : j = p.signs.length := by omega
                go_wp2
                go_roundw
                case rel => exact ⟨k + 1, _, rfl, by omega, by go_num, by rw [HST.out]; rfl, by rw [HST.out]; exact HR.out.ints.2, hbq⟩
                case measure => simp [intOf]; omega
          · obtain ⟨n, hn⟩ : ∃ n : Nat, p.n = n := ⟨p.n.toNat, by omega⟩
            have han := hfit (.inr kx)
            rw [kx] at q0
            rw [hn] at q1 han
            simp only [appStep, kx, hn, Int.toNat_natCast] at hst han
            have HST := Lib.hid hst
            have b2 : n ≤ 200 := by omega
            have HU := Lib.hid HSR.out.ints.2
            clear hst hpo kx n1 n2 n3 hn hfit
            go_wp2
            go_roundw
            case rel => exact ⟨k + 1, _, rfl, by omega, by go_num, by rw [HST.out]; go_num, by rw [HST.out]; exact HU.out.below (by repeat' (first | (with_reducible exact Below.refl _ _) | (with_reducible assumption) | (with_reducible refine Below.setCell ?_ ?_ _) | (with_reducible refine Below.alloc ?_ ?_ _) | (with_reducible refine Below.drew ?_) | (with_reducible refine belowN ?_ _) | (with_reducible refine below_after ?_ (by assumption) ?_) | omega | (simp; done) | (simp; omega))), (by repeat' (first | (with_reducible exact Below.refl _ _) | (with_reducible assumption) | (with_reducible refine Below.setCell ?_ ?_ _) | (with_reducible refine Below.alloc ?_ ?_ _) | (with_reducible refine Below.drew ?_) | (with_reducible refine belowN ?_ _) | (with_reducible refine below_after ?_ (by assumption) ?_) | omega | (simp; done) | (simp; omega)))⟩
            case measure => simp [intOf]; omega
        · obtain rfl : k = o.length := by omega
          rw [List.take_length] at hu
          obtain ⟨fp, hs, hf⟩ := hu
          go_wp2
          go_ret2
          rw [HV.out]
          exact ⟨_, _, rfl, hs, hf, hbw⟩
    · have HV := Lib.hid (writers_no client (o := o) (x := x) fun h => h2 h.2)
      have e2 : ((opFrom o != (x.length : Int))) = true := by simpa using h2
      clear h2
      go_enter Try.func68, Try.ntmps68
      go_wp2_with fail
      refine (impl_OpOk_c _ o _ (ho.below (by repeat' (first | (with_reducible exact Below.refl _ _) | (with_reducible assumption) | (with_reducible refine Below.setCell ?_ ?_ _) | (with_reducible refine Below.alloc ?_ ?_ _) | (with_reducible refine Below.drew ?_) | (with_reducible refine belowN ?_ _) | (with_reducible refine below_after ?_ (by assumption) ?_) | omega | (simp; done) | (simp; omega))))).mono ?_
      rintro e w1 ⟨rfl, hb1⟩
      have s1 := hb1.size
      (try simp at s1)
      obtain ⟨hc1, hf1⟩ := bcell hb1
      go_wp2_with fail
      refine (impl_OpFrom_c _ o _ (ho.below (by repeat' (first | (with_reducible exact Below.refl _ _) | (with_reducible assumption) | (with_reducible refine Below.setCell ?_ ?_ _) | (with_reducible refine Below.alloc ?_ ?_ _) | (with_reducible refine Below.drew ?_) | (with_reducible refine belowN ?_ _) | (with_reducible refine below_after ?_ (by assumption) ?_) | omega | (simp; done) | (simp; omega))))).mono ?_
      rintro e w2 ⟨rfl, hb2⟩
      have s2 := hb2.size
      (try simp at s2)
      obtain ⟨hc2, hf2⟩ := bcell hb2
      go_wp2
      go_ret2
      rw [HV.out]
      exact ⟨_, _, rfl, Sl.nil, Fresh.nil _ _, (by repeat' (first | (with_reducible exact Below.refl _ _) | (with_reducible assumption) | (with_reducible refine Below.setCell ?_ ?_ _) | (with_reducible refine Below.alloc ?_ ?_ _) | (with_reducible refine Below.drew ?_) | (with_reducible refine belowN ?_ _) | (with_reducible refine below_after ?_ (by assumption) ?_) | omega | (simp; done) | (simp; omega)))⟩
  · have h1 : opOk o = false := by simpa using h1
    have HV := Lib.hid (writers_no client (o := o) (x := x) fun h => by rw [h1] at h; cases h.1)
    go_enter Try.func68, Try.ntmps68
    go_wp2_with fail
    refine (impl_OpOk_c _ o _ (ho.below (by repeat' (first | (with_reducible exact Below.refl _ _) | (with_reducible assumption) | (with_reducible refine Below.setCell ?_ ?_ _) | (with_reducible refine Below.alloc ?_ ?_ _) | (with_reducible refine Below.drew ?_) | (with_reducible refine belowN ?_ _) | (with_reducible refine below_after ?_ (by assumption) ?_) | omega | (simp; done) | (simp; omega))))).mono ?_
    rintro e w1 ⟨rfl, hb1⟩
    have s1 := hb1.size
    (try simp at s1)
    obtain ⟨hc1, hf1⟩ := bcell hb1
    go_wp2
    go_ret2
    rw [HV.out]
    exact ⟨_, _, rfl, Sl.nil, Fresh.nil _ _, (by repeat' (first | (with_reducible exact Below.refl _ _) | (with_reducible assumption) | (with_reducible refine Below.setCell ?_ ?_ _) | (with_reducible refine Below.alloc ?_ ?_ _) | (with_reducible refine Below.drew ?_) | (with_reducible refine belowN ?_ _) | (with_reducible refine below_after ?_ (by assumption) ?_) | omega | (simp; done) | (simp; omega)))⟩
end Go.Proofs.Ytkbhlgmgjpbloaa
