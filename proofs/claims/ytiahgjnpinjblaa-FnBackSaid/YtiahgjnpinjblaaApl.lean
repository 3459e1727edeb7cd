/- Applying operations. -/
import Derived.Test.YtiahgjnpinjblaaApn
import Derived.Test.YtiahgjnpinjblaaCp
namespace Go.Proofs.Ytiahgjnpinjblaa
open Go.RowKit
theorem szPS : ∀ w1, (sizeOf 32).run Try.prog w1 = .ok 1 w1 := fun _ => by kernel_rfl
def allRes : Option (List Int) → List Int × Bool
  | some u => (u, true)
  | none => ([], false)
theorem applyAllP_yes {l : List (List DPart)} {t : List Int} (h : textOk t = true) : applyAllP l t = allRes (appTo l t) := by unfold applyAllP; rw [if_pos h]; cases appTo l t <;> rfl
def fits (o : List DPart) (t : List Int) : Bool := opOk o && textOk t && decide (opFrom o = t.length)
theorem fits_yes {o : List DPart} {t : List Int} (h : fits o t = true) : applyP o t = ((appFold signsOf t o).2, true) := by
  simp only [fits, Bool.and_eq_true, decide_eq_true_eq] at h
  exact applyP_yes h.1.1 h.1.2 h.2
theorem fits_no {o : List DPart} {t : List Int} (h : fits o t = false) : applyP o t = ([], false) := applyP_no fun hk => by
  simp [fits, hk.1, hk.2.1, hk.2.2] at h
theorem spec_l03Fits_c (o : List DPart) (t : List Int) (vo vt : Value) (w : World) (ho : RdS w vo o) (ht : RdS w vt t) : Calls Try.prog 68 #[vo, vt] w (Tells w (.bool (fits o t))) := by
  have hlx := fun w1 ty => ht.len Try.underlying23 w1 ty
  have bx := ht.le
  by_cases h1 : opOk o = true
  rotate_left
  · have h1 : opOk o = false := by simpa using h1
    have HV : Hid (fits o t = false) := Lib.hid (by simp [fits, h1])
    go_enter Try.func68, Try.ntmps68
    go_wp2_with fail
    refine (spec_OpOk_c _ o _ (ho.below blw)).mono ?_
    rintro e w1 ⟨rfl, hb1⟩
    have s1 := hb1.size
    (try simp at s1)
    obtain ⟨hc1, hf1⟩ := bcell hb1
    go_wp2
    go_ret
    exact ⟨ret_bool (by rw [HV.out]; first | done | (simp; done) | (simp; omega)), blw⟩
  by_cases h2 : textOk t = true
  rotate_left
  · have h2 : textOk t = false := by simpa using h2
    have HV : Hid (fits o t = false) := Lib.hid (by simp [fits, h2])
    go_enter Try.func68, Try.ntmps68
    go_wp2_with fail
    refine (spec_OpOk_c _ o _ (ho.below blw)).mono ?_
    rintro e w1 ⟨rfl, hb1⟩
    have s1 := hb1.size
    (try simp at s1)
    obtain ⟨hc1, hf1⟩ := bcell hb1
    go_wp2_with fail
    refine (spec_TextOk_c _ t _ (ht.below blw)).mono ?_
    rintro e w2 ⟨rfl, hb2⟩
    have s2 := hb2.size
    (try simp at s2)
    obtain ⟨hc2, hf2⟩ := bcell hb2
    go_wp2
    go_ret
    exact ⟨ret_bool (by rw [HV.out]; first | done | (simp; done) | (simp; omega)), blw⟩
  have HV : Hid (fits o t = decide (opFrom o = t.length)) := Lib.hid (by simp [fits, h1, h2])
  go_enter Try.func68, Try.ntmps68
  go_wp2_with fail
  refine (spec_OpOk_c _ o _ (ho.below blw)).mono ?_
  rintro e w1 ⟨rfl, hb1⟩
  have s1 := hb1.size
  (try simp at s1)
  obtain ⟨hc1, hf1⟩ := bcell hb1
  go_wp2_with fail
  refine (spec_TextOk_c _ t _ (ht.below blw)).mono ?_
  rintro e w2 ⟨rfl, hb2⟩
  have s2 := hb2.size
  (try simp at s2)
  obtain ⟨hc2, hf2⟩ := bcell hb2
  go_wp2_with fail
  refine (spec_OpFrom_c _ o _ (ho.below blw)).mono ?_
  rintro e w3 ⟨rfl, hb3⟩
  have s3 := hb3.size
  (try simp at s3)
  obtain ⟨hc3, hf3⟩ := bcell hb3
  go_wp2
  go_ret
  exact ⟨ret_bool (by rw [HV.out]; first | rfl | (rw [beq_eq_decide]) | (simp; done)), blw⟩
set_option maxHeartbeats 4000000 in
set_option maxRecDepth 100000 in
theorem spec_Apply_c (o : List DPart) (t : List Int) (vo vt : Value) (w : World) (ho : RdS w vo o) (ht : RdS w vt t) : Calls Try.prog 51 #[vo, vt] w (Out_IntS_b w (applyP o t).1 (applyP o t).2) := by
  have hlo := fun w1 ty => ho.len Try.underlying32 w1 ty
  have hlx := fun w1 ty => ht.len Try.underlying23 w1 ty
  have bo := ho.le
  have bx := ht.le
  obtain ⟨i0, hi, hz0, hz1, hz2⟩ := info_parts info_int1
  by_cases hf : fits o t = true
  · have HV := Lib.hid (fits_yes hf)
    simp only [fits, Bool.and_eq_true, decide_eq_true_eq] at hf
    obtain ⟨⟨h1, ht0⟩, h2⟩ := hf
    obtain ⟨hall, h600, h200, h300⟩ := opOk_iff.1 h1
    have HALL := Lib.hid hall
    have hfr : sumBut 2 o = t.length := by rw [← opFrom_of h1]; exact h2
    have HFR := Lib.hid hfr
    have H2 := Lib.hid h2
    have hxl : t.length ≤ 200 := by omega
    clear hall hfr h2
    have hft : fits o t = true := by simp [fits, h1, ht0, H2.out]
    go_enter Try.func51, Try.ntmps51
    go_wp2_with fail
    refine (spec_l03Fits_c o t _ _ _ (ho.below blw) (ht.below blw)).mono ?_
    rintro e w1 ⟨rfl, hb1⟩
    have s1 := hb1.size
    (try simp at s1)
    obtain ⟨hc1, hf1⟩ := bcell hb1
    clear hc1 hf1
    go_wp2
    go_loopw [6, 7, 17] (fun z at_ i wr => ∃ (k : Nat) (u : Value), u = z ∧ k ≤ o.length ∧ i = .int .i64 k ∧ at_ = .int .i64 (appFold signsOf t (o.take k)).1 ∧ OwnS w.heap.size wr u (appFold signsOf t (o.take k)).2 ∧ Below w.heap.size w wr) (fun _ _ i _ => o.length - (intOf i).toNat)
    case atStart => exact ⟨0, _, rfl, Nat.zero_le _, rfl, rfl, OwnS.empty _ _ _, blw⟩
    case round =>
      obtain ⟨k, u, rfl, hk, rfl, rfl, hu, hbw⟩ := hrel
      have hsz := hbw.size
      by_cases hlt : k < o.length
      · obtain ⟨p, hp⟩ := get_some hlt
        have hpo := all_at HALL.out hp
        have hst := appFold_snoc (sub := signsOf) (t := t) hp
        have hsm := app_small signsOf (t := t) signsOf_len HALL.out HFR.out h300 k (by omega)
        have hfit := fun h => app_fits signsOf HALL.out HFR.out hp h
        obtain ⟨b1, o1, cs, g1, g2, g3⟩ := (ho.below hbw).idx Try.underlying32 szi_DPart k hp
        obtain ⟨v_signs, rfl, r_signs⟩ := inv_DPart g3
        have q0 := g2.zero
        have q1 := g2 1 _ rfl
        have q2 := g2 2 _ rfl
        obtain ⟨aa, ca, rfl⟩ := r_signs.isSlice
        obtain ⟨a, S, haS⟩ : ∃ a S, appFold signsOf t (o.take k) = (a, S) := ⟨_, _, rfl⟩
        rw [haS] at hst hu hsm hfit
        rw [haS]
        simp only at hu hst hsm hfit ⊢
        clear haS hp
        have HSR := Lib.hid hu.ints
        clear hu
        rcases partOk_cases hpo with ⟨kx, n1, n2, n3⟩ | ⟨kx, n1, n2, _⟩ | ⟨kx, n1, n2, n3⟩
        · obtain ⟨n, hn⟩ : ∃ n : Nat, p.n = n := ⟨p.n.toNat, by omega⟩
          have han := hfit (.inl kx)
          rw [kx] at q0
          rw [hn] at q1 han
          simp only [appStep, kx, hn, if_true, Int.toNat_natCast] at hst han
          obtain ⟨vc, hcut, hcr⟩ := (ht.below hbw).cut Try.underlying23 sz_int (lo := a) (hi := a + n) (by omega) han
          simp only [Int.natCast_add] at hcut
          have hcl : ((t.take (a + n)).drop a).length = n := by simp; omega
          have HCR := Lib.hid hcr
          have HST := Lib.hid hst
          have HCL := Lib.hid hcl
          have b2 : n ≤ 200 := by omega
          clear hst hcr hcl hpo kx n1 n2 n3 hn hfit
          go_wp2_with (at_builtin; refine wpList_append_row rfl _ _ 23 rfl Try.underlying23 hi hz0 hz1 hz2 rfl rfl rfl (HSR.out.below blw) (Src.ints (HCR.out.below blw)) (fun _ h => by cases h) ?c1 ?c2 ?c3 ?_)
          case c1 => rw [HCL.out]; exact le_BIG (by omega)
          case c2 => rw [HCL.out]; omega
          case c3 => simp; omega
          intro v' w1 hr hw _
          have HO := Lib.hid hr.ints.2
          have HB : Hid (Below w.heap.size w w1) := Lib.hid (below_after2 hbw (wrb (C := w.heap.size) hw blw hsz (fun p hp => HSR.out.2.1.ge p hp)) (Nat.le_refl _))
          have s1 := wrs hw (w := wr) blw
          have zb : wr.heap.size < w1.heap.size := Nat.lt_of_lt_of_le (by simp) hw.size
          have k0 : w1.cell? ⟨wr.heap.size, 1, none⟩ = some (.int .i64 n) := by
            rw [hw.cell (wr.heap.size, 1) (by simp) (fun hm => by have := Live.lt (Live.append.1 HSR.out.1.live).1 _ hm; simp at this)]
            simp
          clear hr hw
          go_wp2
          go_roundw
          case rel => exact ⟨k + 1, _, rfl, by omega, by go_num, by rw [HST.out]; go_num, by rw [HST.out]; exact HO.out, HB.out⟩
          case measure => simp [intOf]; omega
        · rw [kx] at q0
          simp only [appStep, kx, signsOf] at hst
          have HST := Lib.hid hst
          have HPS := Lib.hid r_signs
          clear hst hpo kx n1 hfit
          go_wp2_with (at_builtin; refine wpList_append_row rfl _ _ 23 rfl Try.underlying23 hi hz0 hz1 hz2 rfl rfl rfl (HSR.out.below blw) (Src.ints (HPS.out.below blw)) (fun _ h => by cases h) ?c1 ?c2 ?c3 ?_)
          case c1 => exact le_BIG (by omega)
          case c2 => omega
          case c3 => simp; omega
          intro v' w1 hr hw _
          have HO := Lib.hid hr.ints.2
          have HB : Hid (Below w.heap.size w w1) := Lib.hid (below_after2 hbw (wrb (C := w.heap.size) hw blw hsz (fun p hp => HSR.out.2.1.ge p hp)) (Nat.le_refl _))
          clear hr hw
          go_wp2
          go_roundw
          case rel => exact ⟨k + 1, _, rfl, by omega, by go_num, by rw [HST.out]; rfl, by rw [HST.out]; exact HO.out, HB.out⟩
          case measure => simp [intOf]; omega
        · obtain ⟨n, hn⟩ : ∃ n : Nat, p.n = n := ⟨p.n.toNat, by omega⟩
          have han := hfit (.inr kx)
          rw [kx] at q0
          rw [hn] at q1 han
          simp only [appStep, kx, hn, Int.toNat_natCast] at hst han
          have HST := Lib.hid hst
          have b2 : n ≤ 200 := by omega
          have HU := Lib.hid HSR.out.ints.2
          clear hst hpo kx n1 n2 n3 hn hfit
          go_wp2
          go_roundw
          case rel => exact ⟨k + 1, _, rfl, by omega, by go_num, by rw [HST.out]; go_num, by rw [HST.out]; exact HU.out.below blw, blw⟩
          case measure => simp [intOf]; omega
      · obtain rfl : k = o.length := by omega
        rw [List.take_length] at hu
        obtain ⟨fp, hs, hf⟩ := hu
        go_wp2
        go_ret2
        rw [HV.out]
        exact ⟨_, _, rfl, hs, hf, hbw⟩
  · have hf : fits o t = false := by simpa using hf
    have HV := Lib.hid (fits_no hf)
    go_enter Try.func51, Try.ntmps51
    go_wp2_with fail
    refine (spec_l03Fits_c o t _ _ _ (ho.below blw) (ht.below blw)).mono ?_
    rintro e w1 ⟨rfl, hb1⟩
    have s1 := hb1.size
    (try simp at s1)
    obtain ⟨hc1, hf1⟩ := bcell hb1
    go_wp2
    go_ret2
    rw [HV.out]
    exact ⟨_, _, rfl, Sl.nil, Fresh.nil _ _, blw⟩
set_option maxHeartbeats 4000000 in
set_option maxRecDepth 100000 in
theorem impl_Apply_c (o : List DPart) (t : List Int) (vo vt : Value) (w : World) (ho : RdS w vo o) (ht : RdS w vt t) : Calls Try.prog 9 #[vo, vt] w (Out_IntS_b w (applyP o t).1 (applyP o t).2) := by
  have hlo := fun w1 ty => ho.len Try.underlying32 w1 ty
  have hlx := fun w1 ty => ht.len Try.underlying23 w1 ty
  have bo := ho.le
  have bx := ht.le
  obtain ⟨i0, hi, hz0, hz1, hz2⟩ := info_parts info_int1
  by_cases hf : fits o t = true
  · have HV := Lib.hid (fits_yes hf)
    simp only [fits, Bool.and_eq_true, decide_eq_true_eq] at hf
    obtain ⟨⟨h1, ht0⟩, h2⟩ := hf
    obtain ⟨hall, h600, h200, h300⟩ := opOk_iff.1 h1
    have HALL := Lib.hid hall
    have hfr : sumBut 2 o = t.length := by rw [← opFrom_of h1]; exact h2
    have HFR := Lib.hid hfr
    have H2 := Lib.hid h2
    have hxl : t.length ≤ 200 := by omega
    have e2 : (opFrom o != (t.length : Int)) = false := by simpa using h2
    clear hall hfr h2
    go_enter Try.func9, Try.ntmps9
    go_wp2_with fail
    refine (impl_OpOk_c _ o _ (ho.below blw)).mono ?_
    rintro e w1 ⟨rfl, hb1⟩
    have s1 := hb1.size
    (try simp at s1)
    obtain ⟨hc1, hf1⟩ := bcell hb1
    go_wp2_with fail
    refine (impl_TextOk_c _ t _ (ht.below blw)).mono ?_
    rintro e w2 ⟨rfl, hb2⟩
    have s2 := hb2.size
    (try simp at s2)
    obtain ⟨hc2, hf2⟩ := bcell hb2
    go_wp2_with fail
    refine (impl_OpFrom_c _ o _ (ho.below blw)).mono ?_
    rintro e w3 ⟨rfl, hb3⟩
    have s3 := hb3.size
    (try simp at s3)
    obtain ⟨hc3, hf3⟩ := bcell hb3
    clear hc1 hf1 hc2 hf2 hc3 hf3
    go_wp2
    go_loopw [6, 7, 27] (fun z at_ i wr => ∃ (k : Nat) (u : Value), u = z ∧ k ≤ o.length ∧ i = .int .i64 k ∧ at_ = .int .i64 (appFold signsOf t (o.take k)).1 ∧ OwnS w.heap.size wr u (appFold signsOf t (o.take k)).2 ∧ Below w.heap.size w wr) (fun _ _ i _ => o.length - (intOf i).toNat)
    case atStart => exact ⟨0, _, rfl, Nat.zero_le _, rfl, rfl, OwnS.empty _ _ _, blw⟩
    case round =>
      obtain ⟨k, u, rfl, hk, rfl, rfl, hu, hbw⟩ := hrel
      have hsz := hbw.size
      by_cases hlt : k < o.length
      · obtain ⟨p, hp⟩ := get_some hlt
        have hpo := all_at HALL.out hp
        have hst := appFold_snoc (sub := signsOf) (t := t) hp
        have hsm := app_small signsOf (t := t) signsOf_len HALL.out HFR.out h300 k (by omega)
        have hfit := fun h => app_fits signsOf HALL.out HFR.out hp h
        obtain ⟨b1, o1, cs, g1, g2, g3⟩ := (ho.below hbw).idx Try.underlying32 szi_DPart k hp
        obtain ⟨v_signs, rfl, r_signs⟩ := inv_DPart g3
        have q0 := g2.zero
        have q1 := g2 1 _ rfl
        have q2 := g2 2 _ rfl
        obtain ⟨aa, ca, rfl⟩ := r_signs.isSlice
        obtain ⟨a, S, haS⟩ : ∃ a S, appFold signsOf t (o.take k) = (a, S) := ⟨_, _, rfl⟩
        rw [haS] at hst hu hsm hfit
        rw [haS]
        simp only at hu hst hsm hfit ⊢
        clear haS hp
        have HSR := Lib.hid hu.ints
        clear hu
        rcases partOk_cases hpo with ⟨kx, n1, n2, n3⟩ | ⟨kx, n1, n2, _⟩ | ⟨kx, n1, n2, n3⟩
        · obtain ⟨n, hn⟩ : ∃ n : Nat, p.n = n := ⟨p.n.toNat, by omega⟩
          have han := hfit (.inl kx)
          rw [kx] at q0
          rw [hn] at q1 han
          simp only [appStep, kx, hn, if_true, Int.toNat_natCast] at hst han
          obtain ⟨vc, hcut, hcr⟩ := (ht.below hbw).cut Try.underlying23 sz_int (lo := a) (hi := a + n) (by omega) han
          simp only [Int.natCast_add] at hcut
          have hcl : ((t.take (a + n)).drop a).length = n := by simp; omega
          have HCR := Lib.hid hcr
          have HST := Lib.hid hst
          have HCL := Lib.hid hcl
          have b2 : n ≤ 200 := by omega
          clear hst hcr hcl hpo kx n1 n2 n3 hn hfit
          go_wp2_with (at_builtin; refine wpList_append_row rfl _ _ 23 rfl Try.underlying23 hi hz0 hz1 hz2 rfl rfl rfl (HSR.out.below blw) (Src.ints (HCR.out.below blw)) (fun _ h => by cases h) ?c1 ?c2 ?c3 ?_)
          case c1 => rw [HCL.out]; exact le_BIG (by omega)
          case c2 => rw [HCL.out]; omega
          case c3 => simp; omega
          intro v' w1 hr hw _
          have HO := Lib.hid hr.ints.2
          have HB : Hid (Below w.heap.size w w1) := Lib.hid (below_after2 hbw (wrb (C := w.heap.size) hw blw hsz (fun p hp => HSR.out.2.1.ge p hp)) (Nat.le_refl _))
          have s1 := wrs hw (w := wr) blw
          have zb : wr.heap.size < w1.heap.size := Nat.lt_of_lt_of_le (by simp) hw.size
          have k0 : w1.cell? ⟨wr.heap.size, 1, none⟩ = some (.int .i64 n) := by
            rw [hw.cell (wr.heap.size, 1) (by simp) (fun hm => by have := Live.lt (Live.append.1 HSR.out.1.live).1 _ hm; simp at this)]
            simp
          clear hr hw
          go_wp2
          go_roundw
          case rel => exact ⟨k + 1, _, rfl, by omega, by go_num, by rw [HST.out]; go_num, by rw [HST.out]; exact HO.out, HB.out⟩
          case measure => simp [intOf]; omega
        · rw [kx] at q0
          simp only [appStep, kx, signsOf] at hst
          have HST := Lib.hid hst
          have HPS := Lib.hid r_signs
          clear hst hpo kx n1 hfit
          go_wp2_with (at_builtin; refine wpList_append_row rfl _ _ 23 rfl Try.underlying23 hi hz0 hz1 hz2 rfl rfl rfl (HSR.out.below blw) (Src.ints (HPS.out.below blw)) (fun _ h => by cases h) ?c1 ?c2 ?c3 ?_)
          case c1 => exact le_BIG (by omega)
          case c2 => omega
          case c3 => simp; omega
          intro v' w1 hr hw _
          have HO := Lib.hid hr.ints.2
          have HB : Hid (Below w.heap.size w w1) := Lib.hid (below_after2 hbw (wrb (C := w.heap.size) hw blw hsz (fun p hp => HSR.out.2.1.ge p hp)) (Nat.le_refl _))
          clear hr hw
          go_wp2
          go_roundw
          case rel => exact ⟨k + 1, _, rfl, by omega, by go_num, by rw [HST.out]; rfl, by rw [HST.out]; exact HO.out, HB.out⟩
          case measure => simp [intOf]; omega
        · obtain ⟨n, hn⟩ : ∃ n : Nat, p.n = n := ⟨p.n.toNat, by omega⟩
          have han := hfit (.inr kx)
          rw [kx] at q0
          rw [hn] at q1 han
          simp only [appStep, kx, hn, Int.toNat_natCast] at hst han
          have HST := Lib.hid hst
          have b2 : n ≤ 200 := by omega
          have HU := Lib.hid HSR.out.ints.2
          clear hst hpo kx n1 n2 n3 hn hfit
          go_wp2
          go_roundw
          case rel => exact ⟨k + 1, _, rfl, by omega, by go_num, by rw [HST.out]; go_num, by rw [HST.out]; exact HU.out.below blw, blw⟩
          case measure => simp [intOf]; omega
      · obtain rfl : k = o.length := by omega
        rw [List.take_length] at hu
        obtain ⟨fp, hs, hf⟩ := hu
        go_wp2
        go_ret2
        rw [HV.out]
        exact ⟨_, _, rfl, hs, hf, hbw⟩
  · have HV := Lib.hid (fits_no (o := o) (t := t) (by simpa using hf))
    by_cases h1 : opOk o = true
    rotate_left
    · have h1 : opOk o = false := by simpa using h1
      go_enter Try.func9, Try.ntmps9
      go_wp2_with fail
      refine (impl_OpOk_c _ o _ (ho.below blw)).mono ?_
      rintro e w1 ⟨rfl, hb1⟩
      have s1 := hb1.size
      (try simp at s1)
      obtain ⟨hc1, hf1⟩ := bcell hb1
      go_wp2
      go_ret2
      rw [HV.out]
      exact ⟨_, _, rfl, Sl.nil, Fresh.nil _ _, blw⟩
    by_cases h2 : textOk t = true
    rotate_left
    · have h2 : textOk t = false := by simpa using h2
      go_enter Try.func9, Try.ntmps9
      go_wp2_with fail
      refine (impl_OpOk_c _ o _ (ho.below blw)).mono ?_
      rintro e w1 ⟨rfl, hb1⟩
      have s1 := hb1.size
      (try simp at s1)
      obtain ⟨hc1, hf1⟩ := bcell hb1
      go_wp2_with fail
      refine (impl_TextOk_c _ t _ (ht.below blw)).mono ?_
      rintro e w2 ⟨rfl, hb2⟩
      have s2 := hb2.size
      (try simp at s2)
      obtain ⟨hc2, hf2⟩ := bcell hb2
      go_wp2
      go_ret2
      rw [HV.out]
      exact ⟨_, _, rfl, Sl.nil, Fresh.nil _ _, blw⟩
    have e2 : (opFrom o != (t.length : Int)) = true := by simp [fits, h1, h2] at hf; simpa using hf
    clear hf
    go_enter Try.func9, Try.ntmps9
    go_wp2_with fail
    refine (impl_OpOk_c _ o _ (ho.below blw)).mono ?_
    rintro e w1 ⟨rfl, hb1⟩
    have s1 := hb1.size
    (try simp at s1)
    obtain ⟨hc1, hf1⟩ := bcell hb1
    go_wp2_with fail
    refine (impl_TextOk_c _ t _ (ht.below blw)).mono ?_
    rintro e w2 ⟨rfl, hb2⟩
    have s2 := hb2.size
    (try simp at s2)
    obtain ⟨hc2, hf2⟩ := bcell hb2
    go_wp2_with fail
    refine (impl_OpFrom_c _ o _ (ho.below blw)).mono ?_
    rintro e w3 ⟨rfl, hb3⟩
    have s3 := hb3.size
    (try simp at s3)
    obtain ⟨hc3, hf3⟩ := bcell hb3
    go_wp2
    go_ret2
    rw [HV.out]
    exact ⟨_, _, rfl, Sl.nil, Fresh.nil _ _, blw⟩
set_option maxHeartbeats 4000000 in
theorem impl_ApplyAll_c (l : List (List DPart)) (t : List Int) (vl vt : Value) (w : World) (hl : RdS w vl l) (ht : RdS w vt t) (hlen : t.length ≤ 4000000) : Calls Try.prog 19 #[vl, vt] w (Out_IntS_b w (applyAllP l t).1 (applyAllP l t).2) := by
  have hll := fun w1 ty => hl.len Try.underlying50 w1 ty
  have bl := hl.le
  by_cases h1 : textOk t = true
  rotate_left
  · have h1 : textOk t = false := by simpa using h1
    have HV : Hid (applyAllP l t = ([], false)) := Lib.hid (by simp [applyAllP, h1])
    go_enter Try.func19, Try.ntmps19
    go_wp2_with fail
    refine (impl_TextOk_c _ t _ (ht.below blw)).mono ?_
    rintro e w1 ⟨rfl, hb1⟩
    have s1 := hb1.size
    (try simp at s1)
    obtain ⟨hc1, hf1⟩ := bcell hb1
    go_wp2
    go_ret2
    rw [HV.out]
    exact ⟨_, _, rfl, Sl.nil, Fresh.nil _ _, blw⟩
  have HV := Lib.hid (applyAllP_yes (l := l) h1)
  go_enter Try.func19, Try.ntmps19
  go_wp2_with fail
  refine (impl_TextOk_c _ t _ (ht.below blw)).mono ?_
  rintro e w1 ⟨rfl, hb1⟩
  have s1 := hb1.size
  (try simp at s1)
  obtain ⟨hc1, hf1⟩ := bcell hb1
  clear hc1 hf1
  go_wp2_with fail
  refine (impl_copyInts_c _ t _ (ht.below blw) hlen).mono ?_
  rintro e w2 ⟨v2, rfl, ho2, hb2⟩
  have s2 := hb2.size
  have HO2 : Hid (OwnS w.heap.size w2 v2 t) := Lib.hid (ho2.mono (by omega))
  clear ho2
  go_wp2
  go_loopw [6, 18] (fun z i wr => ∃ (k : Nat) (u : Value) (x : List Int), u = z ∧ k ≤ l.length ∧ i = .int .i64 k ∧ appTo (l.take k) t = some x ∧ OwnS w.heap.size wr u x ∧ Below w.heap.size w wr) (fun _ i _ => l.length - (intOf i).toNat)
  case atStart => exact ⟨0, _, t, rfl, Nat.zero_le _, rfl, rfl, HO2.out, blw⟩
  case round =>
    obtain ⟨k, u, x, rfl, hk, rfl, hx, hu, hbw⟩ := hrel
    have hsz := hbw.size
    by_cases hlt : k < l.length
    · obtain ⟨o, ho⟩ := get_some hlt
      obtain ⟨b1, o1, cs, g1, g2, g3⟩ := (hl.below hbw).idx Try.underlying50 szPS k ho
      obtain ⟨fp, v_o, rfl, r_o⟩ := g3
      have q0 := g2.one
      obtain ⟨ao, co, rfl⟩ := RdS.isSlice ⟨_, r_o⟩
      have HST := Lib.hid (appTo_succ ho hx)
      have HU := Lib.hid hu
      have HRO : Hid (RdS wr (.slice ao o.length co) o) := Lib.hid ⟨_, r_o⟩
      clear hx ho hu r_o
      by_cases hy : (applyP o x).2 = true
      · have HS2 : Hid (appTo (l.take (k + 1)) t = some (applyP o x).1) := Lib.hid (by rw [HST.out, if_pos hy])
        go_wp2_with fail
        refine (impl_Apply_c o x _ _ _ (HRO.out.below blw) (HU.out.rd.below blw)).mono ?_
        rintro e w3 ⟨v3, f3, rfl, S3, F3, hb3⟩
        rw [hy]
        have HO3 : Hid (OwnS w.heap.size w3 v3 (applyP o x).1) := Lib.hid ⟨f3, S3, F3.mono hsz⟩
        have HB3 : Hid (Below w.heap.size w w3) := Lib.hid (hbw.trans (hb3.mono hsz))
        clear S3 F3
        go_wp2
        go_roundw
        case rel => exact ⟨k + 1, _, _, rfl, by omega, by go_num, HS2.out, HO3.out, HB3.out⟩
        case measure => simp [intOf]; omega
      · have HN : Hid (appTo l t = none) := Lib.hid (appTo_take_none (k := k + 1) (by rw [HST.out, if_neg hy]))
        have hy : (applyP o x).2 = false := by simpa using hy
        go_wp2_with fail
        refine (impl_Apply_c o x _ _ _ (HRO.out.below blw) (HU.out.rd.below blw)).mono ?_
        rintro e w3 ⟨v3, f3, rfl, S3, F3, hb3⟩
        rw [hy]
        have HB3 : Hid (Below w.heap.size w w3) := Lib.hid (hbw.trans (hb3.mono hsz))
        clear S3 F3
        go_wp2
        go_ret2
        rw [HV.out, HN.out]
        exact ⟨_, _, rfl, Sl.nil, Fresh.nil _ _, HB3.out⟩
    · obtain rfl : k = l.length := by omega
      rw [List.take_length] at hx
      have HX := Lib.hid hx
      obtain ⟨fp, hs, hf⟩ := hu
      clear hx
      go_wp2
      go_ret2
      rw [HV.out, HX.out]
      exact ⟨_, _, rfl, hs, hf, hbw⟩
end Go.Proofs.Ytiahgjnpinjblaa
