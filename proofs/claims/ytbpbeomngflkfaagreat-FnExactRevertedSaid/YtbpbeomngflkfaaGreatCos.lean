/- Compose, the reference's walk. -/
import Derived.Test.YtbpbeomngflkfaaGreatCms
namespace Go.Proofs.YtbpbeomngflkfaaGreat
open Go.RowKit
set_option maxHeartbeats 8000000 in
set_option maxRecDepth 100000 in
theorem spec_Compose_c (va vb : Value) (a b : List DPart) (w : World) (ha : RdS w va a) (hb : RdS w vb b) : Calls Tryz.prog 134 #[va, vb] w (OutCo w (compose a b)) := by
  obtain ⟨aa, ca, rfl⟩ := ha.isSlice
  obtain ⟨ab, cb, rfl⟩ := hb.isSlice
  go_enter Tryz.func134, Tryz.ntmps134
  go_wp2_with fail
  refine (spec_OpOk_c _ a _ ha).mono ?_
  rintro e' w1 ⟨rfl, hb1⟩
  by_cases h1 : opOk a = true
  rotate_left
  · have h1 : opOk a = false := by simpa using h1
    have HV := Lib.hid (compose_no (a := a) (b := b) fun h => by rw [h1] at h; cases h.1)
    rw [h1]
    go_wp2
    exact bodyPost_ret (v := .tuple #[.slice none 0 0, .bool false]) (by simp [results, Tryz.results134, go_sem, *]) rfl (OutCo.no HV.out hb1)
  rw [h1]
  go_wp2_with fail
  refine (spec_OpOk_c _ b _ (hb.below hb1)).mono ?_
  rintro e' w2 ⟨rfl, hb2⟩
  by_cases h2 : opOk b = true
  rotate_left
  · have h2 : opOk b = false := by simpa using h2
    have HV := Lib.hid (compose_no (a := a) (b := b) fun h => by rw [h2] at h; cases h.2.1)
    rw [h2]
    go_wp2
    exact bodyPost_ret (v := .tuple #[.slice none 0 0, .bool false]) (by simp [results, Tryz.results134, go_sem, *]) rfl (OutCo.no HV.out (hb1.trans (hb2.mono hb1.size)))
  rw [h2]
  go_wp2_with fail
  refine (spec_OpTo_c _ a _ ((ha.below hb1).below hb2)).mono ?_
  rintro e' w3 ⟨rfl, hb3⟩
  go_wp2_with fail
  refine (spec_OpFrom_c _ b _ (((hb.below hb1).below hb2).below hb3)).mono ?_
  rintro e' w4 ⟨rfl, hb4⟩
  have HBW : Hid (Below w.heap.size w w4) := Lib.hid (hb1.trans ((hb2.trans ((hb3.trans (hb4.mono hb3.size)).mono hb2.size)).mono hb1.size))
  clear hb1 hb2 hb3 hb4
  by_cases h3 : opTo a = opFrom b
  rotate_left
  · have HV := Lib.hid (compose_no (a := a) (b := b) fun h => h3 h.2.2)
    have h3 : (opTo a == opFrom b) = false := by simpa using h3
    go_wp2
    exact bodyPost_ret (v := .tuple #[.slice none 0 0, .bool false]) (by simp [results, Tryz.results134, go_sem, *]) rfl (OutCo.no HV.out HBW.out)
  have HAL := Lib.hid (opOk_iff'.1 h1).1
  have HBL := Lib.hid (opOk_iff'.1 h2).1
  have H0 := Lib.hid (CR.new h1 h2 h3)
  have HOK : Hid (opOk a = true ∧ opOk b = true ∧ opTo a = opFrom b) := Lib.hid ⟨h1, h2, h3⟩
  have h3 : (opTo a == opFrom b) = true := by simpa using h3
  go_wp2_with fail
  go_loopg [] (mu (curRem a 0 0) + mu (curRem b 0 0)) (fun n wr => ∃ (kp dp kq dq : Nat) (X : List DPart), n = mu (curRem a kp dp) + mu (curRem b kq dq) ∧ CS1 w w4.heap.size (w4.heap.size + 1) (w4.heap.size + 2) (.slice aa a.length ca) (.slice ab b.length cb) a b wr kp dp kq dq (bstOf X) ∧ CR a b (curRem a kp dp) (curRem b kq dq) X)
  case atStart => exact ⟨0, 0, 0, 0, [], rfl, CS1.new HBW.out, by rw [curRem_zero, curRem_zero]; exact H0.out⟩
  case round =>
    obtain ⟨kp, dp, kq, dq, X, rfl, hcs, htr⟩ := hrel
    have HCS := Lib.hid hcs
    have HTR := Lib.hid htr
    have HMU : Hid (mu (curRem a kp dp) + mu (curRem b kq dq) ≤ mu (curRem a kp dp) + mu (curRem b kq dq)) := Lib.hid (Nat.le_refl _)
    have XOK := Lib.hid htr.ok
    have XLE := Lib.hid (htr.len HOK.out.1 HOK.out.2.1)
    clear hcs htr h3
    have hC11 := spec_l04Kind_c w w4.heap.size (.slice aa a.length ca) a kp dp _ HCS.out.p ha (by have := HCS.out.o1; have := HCS.out.o2; omega) HCS.out.bel HAL.out HCS.out.cp (opOk_iff'.1 HOK.out.1).2.1
    have HC11 := Lib.hid hC11
    clear hC11
    go_wp2_with fail
    refine HC11.out.mono ?_
    rintro e' w11 ⟨k11, d11, he, hx, hc, hr, hw, hs⟩
    replace HCS : Hid (CS1 w w4.heap.size (w4.heap.size + 1) (w4.heap.size + 2) (.slice aa a.length ca) (.slice ab b.length cb) a b w11 k11 d11 kq dq (bstOf X)) := Lib.hid (HCS.out.stepP hw hx hc)
    replace HTR : Hid (CR a b (curRem a k11 d11) (curRem b kq dq) X) := Lib.hid (by rw [hr]; exact HTR.out.skipR)
    replace HMU : Hid (mu (curRem a k11 d11) + mu (curRem b kq dq) ≤ mu (curRem a kp dp) + mu (curRem b kq dq)) := Lib.hid (by have h1 := HMU.out; have h2 := skip_mu (curRem a kp dp); rw [← hr] at h2; omega)
    have HSp : Hid (skip (curRem a k11 d11) = curRem a k11 d11) := Lib.hid (by rw [hr, skip_idem])
    rw [← hr] at he
    clear hx hc hr hw hs HC11
    rcases hep : curRem a k11 d11 with _ | ⟨p, r'⟩
    · rw [hep] at he
      subst he
      try dsimp only [hd, List.headD]
      have HEp := Lib.hid hep
      clear hep
      have hC12 := spec_l04Kind_c w (w4.heap.size + 1) (.slice ab b.length cb) b kq dq _ HCS.out.q hb (by have := HCS.out.o1; have := HCS.out.o2; omega) HCS.out.bel HBL.out HCS.out.cq (opOk_iff'.1 HOK.out.2.1).2.1
      have HC12 := Lib.hid hC12
      clear hC12
      go_wp2_with fail
      refine HC12.out.mono ?_
      rintro e' w12 ⟨k12, d12, he, hx, hc, hr, hw, hs⟩
      replace HCS : Hid (CS1 w w4.heap.size (w4.heap.size + 1) (w4.heap.size + 2) (.slice aa a.length ca) (.slice ab b.length cb) a b w12 k11 d11 k12 d12 (bstOf X)) := Lib.hid (HCS.out.stepQ hw hx hc)
      replace HTR : Hid (CR a b (curRem a k11 d11) (curRem b k12 d12) X) := Lib.hid (by rw [hr]; exact HTR.out.skipS)
      replace HMU : Hid (mu (curRem a k11 d11) + mu (curRem b k12 d12) ≤ mu (curRem a kp dp) + mu (curRem b kq dq)) := Lib.hid (by have h1 := HMU.out; have h2 := skip_mu (curRem b kq dq); rw [← hr] at h2; omega)
      have HSq : Hid (skip (curRem b k12 d12) = curRem b k12 d12) := Lib.hid (by rw [hr, skip_idem])
      rw [← hr] at he
      clear hx hc hr hw hs HC12
      rcases heq : curRem b k12 d12 with _ | ⟨q, s'⟩
      · rw [heq] at he
        subst he
        try dsimp only [hd, List.headD]
        have htr := HTR.out
        rw [HEp.out, heq] at htr
        have ex := htr.end_
        obtain ⟨fx, j1, j4⟩ := HCS.out.xy
        obtain ⟨ix1, ix2, ix3, ix4, _⟩ := bstOf_inv XOK.out
        have x2 := XLE.out
        have hbel := HCS.out.bel
        have o1 := HCS.out.o1
        have o2 := HCS.out.o2
        have o3 := HCS.out.o3
        have o4 := HCS.out.o4
        have HJ := Lib.hid (And.intro j1 j4)
        have HBL2 := Lib.hid hbel
        have HEX := Lib.hid ex
        clear j1 j4 htr ex heq hbel
        go_wp2_with fail
        refine (spec_l02Done2_c (w4.heap.size + 2) (w4.heap.size + 2) (bstOf X) fx _ HJ.out.1 (by omega) (by omega) ix3 (by omega)).mono ?_
        rintro e' w20 ⟨vu, fu, rfl, su, ku, nu, wu⟩
        have hbw20 : Below w.heap.size w w20 := HBL2.out.trans (wu.below HBL2.out.size fun p hp => by have := HJ.out.1.fr.ge p hp; omega)
        have HU : Hid (OwnS (w4.heap.size + 2) w20 vu (normal (cfz a b))) := Lib.hid ⟨fu, by rw [bstOf_normal, HEX.out] at su; exact su, ku⟩
        have HB20 := Lib.hid hbw20
        have s20 := hbw20.size
        clear su ku nu wu hbw20 HJ HBL2
        go_wp2_with fail
        refine (spec_OpOk_c vu _ _ (let ⟨_, h, _⟩ := HU.out; ⟨_, h⟩)).mono ?_
        rintro e' w22 ⟨rfl, hb22⟩
        have HB22 := Lib.hid hb22
        clear hb22
        by_cases g1 : opOk (normal (cfz a b)) = true
        rotate_left
        · have g1 : opOk (normal (cfz a b)) = false := by simpa using g1
          have HV := Lib.hid (compose_bad (a := a) (b := b) g1)
          rw [g1]
          go_wp2
          exact bodyPost_ret (v := .tuple #[.slice none 0 0, .bool false]) (by simp [results, Tryz.results134, go_sem, *]) rfl (OutCo.no HV.out (HB20.out.trans (HB22.out.mono s20)))
        have HV := Lib.hid (compose_yes HOK.out g1)
        rw [g1]
        go_wp2
        exact bodyPost_ret (v := .tuple #[vu, .bool true]) (by simp [results, Tryz.results134, go_sem, *]) rfl (OutCo.yes HV.out ((HU.out.mono (by omega)).below HB22.out) (HB20.out.trans (HB22.out.mono s20)))
      have HEq := Lib.hid heq
      have HNq := Lib.hid (by have h := HSq.out; rw [heq] at h; exact skip_cons h : nsz q ≠ 0)
      have hk : q.kind = 2 := by
        by_cases k : q.kind = 2
        · exact k
        · have htr := HTR.out
          rw [HEp.out, heq] at htr
          obtain ⟨⟨p, r', hh, _⟩, _⟩ := htr.others (.inl rfl) (.inr ⟨q, s', rfl, HNq.out, k⟩) (.inr (by simp))
          cases hh
      have HK := Lib.hid hk
      rw [heq] at he
      subst he
      try dsimp only [hd, List.headD]
      rw [hk]
      clear heq hk
      have hC13 := spec_l04Kind_c w w4.heap.size (.slice aa a.length ca) a k11 d11 _ HCS.out.p ha (by have := HCS.out.o1; have := HCS.out.o2; omega) HCS.out.bel HAL.out HCS.out.cp (opOk_iff'.1 HOK.out.1).2.1
      rw [HSp.out] at hC13
      have HC13 := Lib.hid hC13
      clear hC13
      go_wp2_with fail
      refine HC13.out.mono ?_
      rintro e' w13 ⟨k13, d13, he, hx, hc, hr, hw, hs⟩
      obtain ⟨_, _, hbb⟩ := hs (by first | trivial | rfl)
      replace HCS : Hid (CS1 w w4.heap.size (w4.heap.size + 1) (w4.heap.size + 2) (.slice aa a.length ca) (.slice ab b.length cb) a b w13 k11 d11 k12 d12 (bstOf X)) := Lib.hid (HCS.out.below hbb)
      rw [HEp.out] at he
      clear hx hc hr hw hbb HC13
      subst he
      try dsimp only [hd, List.headD]
      have hC14 := spec_l04Kind_c w (w4.heap.size + 1) (.slice ab b.length cb) b k12 d12 _ HCS.out.q hb (by have := HCS.out.o1; have := HCS.out.o2; omega) HCS.out.bel HBL.out HCS.out.cq (opOk_iff'.1 HOK.out.2.1).2.1
      rw [HSq.out] at hC14
      have HC14 := Lib.hid hC14
      clear hC14
      go_wp2_with fail
      refine HC14.out.mono ?_
      rintro e' w14 ⟨k14, d14, he, hx, hc, hr, hw, hs⟩
      obtain ⟨_, _, hbb⟩ := hs (by first | trivial | rfl)
      replace HCS : Hid (CS1 w w4.heap.size (w4.heap.size + 1) (w4.heap.size + 2) (.slice aa a.length ca) (.slice ab b.length cb) a b w14 k11 d11 k12 d12 (bstOf X)) := Lib.hid (HCS.out.below hbb)
      rw [HEq.out] at he
      clear hx hc hr hw hbb HC14
      subst he
      try dsimp only [hd, List.headD]
      rw [HK.out]
      have htq := HTR.out
      rw [HEq.out] at htq
      obtain ⟨_, hnq, hcq, hq0, hq2, htr2, hmu2⟩ := htq.putS (by rw [HEp.out]; exact .inl rfl) HNq.out HK.out
      have hq200 : nsz q ≤ 200 := by omega
      have HTR2 := Lib.hid htr2
      have HNQ := Lib.hid hnq
      have HTK : Hid (q.signs.take (nsz q) = q.signs) := Lib.hid (by rw [hnq, List.take_length])
      have HDEC : Hid (mu (curRem a k11 d11) + mu (cutR q (nsz q) :: s') < mu (curRem a k11 d11) + mu (curRem b k12 d12)) := Lib.hid (by rw [HEq.out]; omega)
      clear htq htr2 hmu2 hcq hq0 hnq hq2
      go_wp2_with fail
      refine (spec_l04Left_c w (w4.heap.size + 1) (.slice ab b.length cb) b k12 d12 q s' _ HCS.out.q hb HCS.out.bel HBL.out HCS.out.cq HEq.out).mono ?_
      rintro e' w15 ⟨rfl, hbb⟩
      replace HCS : Hid (CS1 w w4.heap.size (w4.heap.size + 1) (w4.heap.size + 2) (.slice aa a.length ca) (.slice ab b.length cb) a b w15 k11 d11 k12 d12 (bstOf X)) := Lib.hid (HCS.out.below hbb)
      clear hbb
      go_wp2_with fail
      refine (spec_l04TakeN_c w (w4.heap.size + 1) (.slice ab b.length cb) b k12 d12 q s' _ HCS.out.q hb (by have := HCS.out.o1; have := HCS.out.o2; omega) HCS.out.bel HBL.out HCS.out.cq HEq.out HK.out (nsz q) (Nat.le_refl _)).mono ?_
      rintro e' w16 ⟨vs, rfl, hvs, hx, hw⟩
      replace HCS : Hid (CS1 w w4.heap.size (w4.heap.size + 1) (w4.heap.size + 2) (.slice aa a.length ca) (.slice ab b.length cb) a b w16 k11 d11 k12 (d12 + (nsz q)) (bstOf X)) := Lib.hid (HCS.out.stepQ hw hx (cur_cok HBL.out HCS.out.cq HEq.out (Nat.le_refl _)))
      have HVS := Lib.hid hvs
      clear hvs hx hw
      rw [HTK.out] at HVS
      have HCR : Hid (curRem b k12 (d12 + (nsz q)) = cutR q (nsz q) :: s') := Lib.hid (cur_step HEq.out _)
      replace HDEC : Hid (mu (curRem a k11 d11) + mu (curRem b k12 (d12 + (nsz q))) < mu (curRem a k11 d11) + mu (curRem b k12 d12)) := Lib.hid (by rw [HCR.out]; exact HDEC.out)
      obtain ⟨fx17, hb17, hn17⟩ := HCS.out.x
      have HB17 := Lib.hid hb17
      have HN17 := Lib.hid hn17
      have HI17 := Lib.hid (bstOf_inv XOK.out)
      obtain ⟨i17a, i17b, i17c, i17d, i17e⟩ := HI17.out
      have i17l := XLE.out
      clear hb17 hn17
      go_wp2_with fail
      refine (spec_l02Put_c (w4.heap.size + 2) (w4.heap.size + 2) (bstOf X) fx17 vs q.signs _ HB17.out (by have := HCS.out.o4; omega) HVS.out (by have := HNQ.out; omega)).mono ?_
      rintro e' w17 hb
      obtain ⟨rfl, hcs⟩ := HN17.out _ _ _ hb
      replace HCS : Hid (CS1 w w4.heap.size (w4.heap.size + 1) (w4.heap.size + 2) (.slice aa a.length ca) (.slice ab b.length cb) a b w17 k11 d11 k12 (d12 + (nsz q)) ((bstOf X).puts q.signs)) := Lib.hid hcs
      clear hb hcs HB17 HN17 HI17 i17a i17b i17c i17d i17e i17l
      go_wp2
      go_roundg (mu (curRem a k11 d11) + mu (curRem b k12 (d12 + (nsz q))))
      case measure => have := HMU.out; have := HDEC.out; omega
      case rel => exact ⟨k11, d11, k12, (d12 + (nsz q)), X ++ [q], rfl, by rw [bstOf_snoc, step_put _ HK.out]; exact HCS.out, by rw [HCR.out]; exact HTR2.out⟩
    have HEp := Lib.hid hep
    have HNp := Lib.hid (by have h := HSp.out; rw [hep] at h; exact skip_cons h : nsz p ≠ 0)
    rw [hep] at he
    subst he
    try dsimp only [hd, List.headD]
    have hk0 : (p.kind == 0) = false := by
      have hall := HTR.out.i.r
      rw [hep] at hall
      simp only [List.all_cons, Bool.and_eq_true] at hall
      rcases partOk_cases hall.1 with ⟨k, _⟩ | ⟨k, _⟩ | ⟨k, _⟩ <;> simp [k]
    clear hep
    have hk1 : ¬ p.kind = 0 := by simpa using hk0
    have hk3 : (p.kind != 0) = true := by simpa using hk0
    by_cases kp3 : p.kind = 3
    · have HK := Lib.hid kp3
      rw [kp3]
      clear kp3 hk0 hk1 hk3
      have hC12 := spec_l04Kind_c w w4.heap.size (.slice aa a.length ca) a k11 d11 _ HCS.out.p ha (by have := HCS.out.o1; have := HCS.out.o2; omega) HCS.out.bel HAL.out HCS.out.cp (opOk_iff'.1 HOK.out.1).2.1
      rw [HSp.out] at hC12
      have HC12 := Lib.hid hC12
      clear hC12
      go_wp2_with fail
      refine HC12.out.mono ?_
      rintro e' w12 ⟨k12, d12, he, hx, hc, hr, hw, hs⟩
      obtain ⟨_, _, hbb⟩ := hs (by first | trivial | rfl)
      replace HCS : Hid (CS1 w w4.heap.size (w4.heap.size + 1) (w4.heap.size + 2) (.slice aa a.length ca) (.slice ab b.length cb) a b w12 k11 d11 kq dq (bstOf X)) := Lib.hid (HCS.out.below hbb)
      rw [HEp.out] at he
      clear hx hc hr hw hbb HC12
      subst he
      try dsimp only [hd, List.headD]
      rw [HK.out]
      have htq := HTR.out
      rw [HEp.out] at htq
      obtain ⟨_, hnq, hcq, _, hp200, htr2, hmu2⟩ := htq.dropR HNp.out HK.out
      have HTR2 := Lib.hid htr2
      have HNQ := Lib.hid hnq
      have HDEC : Hid (mu (cutR p (nsz p) :: r') + mu (curRem b kq dq) < mu (curRem a k11 d11) + mu (curRem b kq dq)) := Lib.hid (by rw [HEp.out]; omega)
      clear htq htr2 hmu2 hcq hnq
      go_wp2_with fail
      refine (spec_l04Left_c w w4.heap.size (.slice aa a.length ca) a k11 d11 p r' _ HCS.out.p ha HCS.out.bel HAL.out HCS.out.cp HEp.out).mono ?_
      rintro e' w13 ⟨rfl, hbb⟩
      replace HCS : Hid (CS1 w w4.heap.size (w4.heap.size + 1) (w4.heap.size + 2) (.slice aa a.length ca) (.slice ab b.length cb) a b w13 k11 d11 kq dq (bstOf X)) := Lib.hid (HCS.out.below hbb)
      clear hbb
      obtain ⟨fx14, hb14, hn14⟩ := HCS.out.x
      have HB14 := Lib.hid hb14
      have HN14 := Lib.hid hn14
      have HI14 := Lib.hid (bstOf_inv XOK.out)
      obtain ⟨i14a, i14b, i14c, i14d, i14e⟩ := HI14.out
      have i14l := XLE.out
      clear hb14 hn14
      go_wp2_with fail
      refine (spec_l02Drop_c (w4.heap.size + 2) (w4.heap.size + 2) (bstOf X) fx14 (nsz p : Int) _ HB14.out i14c (by omega) (by omega) (by omega)).mono ?_
      rintro e' w14 hb
      obtain ⟨rfl, hcs⟩ := HN14.out _ _ _ hb
      replace HCS : Hid (CS1 w w4.heap.size (w4.heap.size + 1) (w4.heap.size + 2) (.slice aa a.length ca) (.slice ab b.length cb) a b w14 k11 d11 kq dq ((bstOf X).drops (nsz p))) := Lib.hid hcs
      clear hb hcs HB14 HN14 HI14 i14a i14b i14c i14d i14e i14l
      obtain ⟨z0, p0, p1, p2, y0, y1, y2⟩ := HCS.out.p.q3
      have HCK1 := Lib.hid (cur_cok HAL.out HCS.out.cp HEp.out (Nat.le_refl _))
      have dpb : d11 ≤ 200 := cur_dle HAL.out HCS.out.cp HEp.out
      go_wp2
      have hxp := HCS.out.p.set 2 (.int .i64 ((d11 : Int) + (nsz p)))
      have hcsp : CS1 w w4.heap.size (w4.heap.size + 1) (w4.heap.size + 2) (.slice aa a.length ca) (.slice ab b.length cb) a b (w14.setCell ⟨w4.heap.size, 2, none⟩ (.int .i64 ((d11 : Int) + (nsz p)))) k11 (d11 + (nsz p)) kq dq ((bstOf X).drops (nsz p)) := HCS.out.stepP ((Wr.refl _ _).put (b := w4.heap.size) (o := 2) (mem_own.2 ⟨rfl, by simp, by simp⟩) _) (by rw [Int.natCast_add]; exact hxp) HCK1.out
      have HCR : Hid (curRem a k11 (d11 + (nsz p)) = cutR p (nsz p) :: r') := Lib.hid (cur_step HEp.out _)
      replace HDEC : Hid (mu (curRem a k11 (d11 + (nsz p))) + mu (curRem b kq dq) < mu (curRem a k11 d11) + mu (curRem b kq dq)) := Lib.hid (by rw [HCR.out]; exact HDEC.out)
      go_roundg (mu (curRem a k11 (d11 + (nsz p))) + mu (curRem b kq dq))
      case measure => have := HMU.out; have := HDEC.out; omega
      case rel => exact ⟨k11, (d11 + (nsz p)), kq, dq, X ++ [p], rfl, (by rw [bstOf_snoc, step_drop _ HK.out, ← HNQ.out]; exact hcsp), by rw [HCR.out]; exact HTR2.out⟩
    have HKP := Lib.hid kp3
    have k2b : (p.kind == 3) = false := by simpa using kp3
    have k2c : ¬ p.kind = 3 := kp3
    clear kp3
    have hC12 := spec_l04Kind_c w w4.heap.size (.slice aa a.length ca) a k11 d11 _ HCS.out.p ha (by have := HCS.out.o1; have := HCS.out.o2; omega) HCS.out.bel HAL.out HCS.out.cp (opOk_iff'.1 HOK.out.1).2.1
    rw [HSp.out] at hC12
    have HC12 := Lib.hid hC12
    clear hC12
    go_wp2_with fail
    refine HC12.out.mono ?_
    rintro e' w12 ⟨k12, d12, he, hx, hc, hr, hw, hs⟩
    obtain ⟨_, _, hbb⟩ := hs (by first | trivial | rfl)
    replace HCS : Hid (CS1 w w4.heap.size (w4.heap.size + 1) (w4.heap.size + 2) (.slice aa a.length ca) (.slice ab b.length cb) a b w12 k11 d11 kq dq (bstOf X)) := Lib.hid (HCS.out.below hbb)
    rw [HEp.out] at he
    clear hx hc hr hw hbb HC12
    subst he
    try dsimp only [hd, List.headD]
    have hC13 := spec_l04Kind_c w (w4.heap.size + 1) (.slice ab b.length cb) b kq dq _ HCS.out.q hb (by have := HCS.out.o1; have := HCS.out.o2; omega) HCS.out.bel HBL.out HCS.out.cq (opOk_iff'.1 HOK.out.2.1).2.1
    have HC13 := Lib.hid hC13
    clear hC13
    go_wp2_with fail
    refine HC13.out.mono ?_
    rintro e' w13 ⟨k13, d13, he, hx, hc, hr, hw, hs⟩
    replace HCS : Hid (CS1 w w4.heap.size (w4.heap.size + 1) (w4.heap.size + 2) (.slice aa a.length ca) (.slice ab b.length cb) a b w13 k11 d11 k13 d13 (bstOf X)) := Lib.hid (HCS.out.stepQ hw hx hc)
    replace HTR : Hid (CR a b (curRem a k11 d11) (curRem b k13 d13) X) := Lib.hid (by rw [hr]; exact HTR.out.skipS)
    replace HMU : Hid (mu (curRem a k11 d11) + mu (curRem b k13 d13) ≤ mu (curRem a kp dp) + mu (curRem b kq dq)) := Lib.hid (by have h1 := HMU.out; have h2 := skip_mu (curRem b kq dq); rw [← hr] at h2; omega)
    have HSq : Hid (skip (curRem b k13 d13) = curRem b k13 d13) := Lib.hid (by rw [hr, skip_idem])
    rw [← hr] at he
    clear hx hc hr hw hs HC13
    rcases heq : curRem b k13 d13 with _ | ⟨q, s'⟩
    · have htr := HTR.out
      rw [HEp.out, heq] at htr
      obtain ⟨_, q, s', hh, _⟩ := htr.others (.inr ⟨p, r', rfl, HNp.out, HKP.out⟩) (.inl rfl) (.inl (by simp))
      cases hh
    have HEq := Lib.hid heq
    have HNq := Lib.hid (by have h := HSq.out; rw [heq] at h; exact skip_cons h : nsz q ≠ 0)
    rw [heq] at he
    subst he
    try dsimp only [hd, List.headD]
    clear heq
    by_cases kq2 : q.kind = 2
    · have HK := Lib.hid kq2
      rw [kq2]
      clear kq2
      have htq := HTR.out
      rw [HEq.out] at htq
      obtain ⟨_, hnq, hcq, hq0, hq2, htr2, hmu2⟩ := htq.putS (by rw [HEp.out]; exact .inr ⟨p, r', rfl, HNp.out, HKP.out⟩) HNq.out HK.out
      have hq200 : nsz q ≤ 200 := by omega
      have HTR2 := Lib.hid htr2
      have HNQ := Lib.hid hnq
      have HTK : Hid (q.signs.take (nsz q) = q.signs) := Lib.hid (by rw [hnq, List.take_length])
      have HDEC : Hid (mu (curRem a k11 d11) + mu (cutR q (nsz q) :: s') < mu (curRem a k11 d11) + mu (curRem b k13 d13)) := Lib.hid (by rw [HEq.out]; omega)
      clear htq htr2 hmu2 hcq hq0 hnq hq2
      go_wp2_with fail
      refine (spec_l04Left_c w (w4.heap.size + 1) (.slice ab b.length cb) b k13 d13 q s' _ HCS.out.q hb HCS.out.bel HBL.out HCS.out.cq HEq.out).mono ?_
      rintro e' w14 ⟨rfl, hbb⟩
      replace HCS : Hid (CS1 w w4.heap.size (w4.heap.size + 1) (w4.heap.size + 2) (.slice aa a.length ca) (.slice ab b.length cb) a b w14 k11 d11 k13 d13 (bstOf X)) := Lib.hid (HCS.out.below hbb)
      clear hbb
      go_wp2_with fail
      refine (spec_l04TakeN_c w (w4.heap.size + 1) (.slice ab b.length cb) b k13 d13 q s' _ HCS.out.q hb (by have := HCS.out.o1; have := HCS.out.o2; omega) HCS.out.bel HBL.out HCS.out.cq HEq.out HK.out (nsz q) (Nat.le_refl _)).mono ?_
      rintro e' w15 ⟨vs, rfl, hvs, hx, hw⟩
      replace HCS : Hid (CS1 w w4.heap.size (w4.heap.size + 1) (w4.heap.size + 2) (.slice aa a.length ca) (.slice ab b.length cb) a b w15 k11 d11 k13 (d13 + (nsz q)) (bstOf X)) := Lib.hid (HCS.out.stepQ hw hx (cur_cok HBL.out HCS.out.cq HEq.out (Nat.le_refl _)))
      have HVS := Lib.hid hvs
      clear hvs hx hw
      rw [HTK.out] at HVS
      have HCR : Hid (curRem b k13 (d13 + (nsz q)) = cutR q (nsz q) :: s') := Lib.hid (cur_step HEq.out _)
      replace HDEC : Hid (mu (curRem a k11 d11) + mu (curRem b k13 (d13 + (nsz q))) < mu (curRem a k11 d11) + mu (curRem b k13 d13)) := Lib.hid (by rw [HCR.out]; exact HDEC.out)
      obtain ⟨fx16, hb16, hn16⟩ := HCS.out.x
      have HB16 := Lib.hid hb16
      have HN16 := Lib.hid hn16
      have HI16 := Lib.hid (bstOf_inv XOK.out)
      obtain ⟨i16a, i16b, i16c, i16d, i16e⟩ := HI16.out
      have i16l := XLE.out
      clear hb16 hn16
      go_wp2_with fail
      refine (spec_l02Put_c (w4.heap.size + 2) (w4.heap.size + 2) (bstOf X) fx16 vs q.signs _ HB16.out (by have := HCS.out.o4; omega) HVS.out (by have := HNQ.out; omega)).mono ?_
      rintro e' w16 hb
      obtain ⟨rfl, hcs⟩ := HN16.out _ _ _ hb
      replace HCS : Hid (CS1 w w4.heap.size (w4.heap.size + 1) (w4.heap.size + 2) (.slice aa a.length ca) (.slice ab b.length cb) a b w16 k11 d11 k13 (d13 + (nsz q)) ((bstOf X).puts q.signs)) := Lib.hid hcs
      clear hb hcs HB16 HN16 HI16 i16a i16b i16c i16d i16e i16l
      go_wp2
      go_roundg (mu (curRem a k11 d11) + mu (curRem b k13 (d13 + (nsz q))))
      case measure => have := HMU.out; have := HDEC.out; omega
      case rel => exact ⟨k11, d11, k13, (d13 + (nsz q)), X ++ [q], rfl, by rw [bstOf_snoc, step_put _ HK.out]; exact HCS.out, by rw [HCR.out]; exact HTR2.out⟩
    have HKQ := Lib.hid kq2
    have q2b : (q.kind == 2) = false := by simpa using kq2
    have q2c : ¬ q.kind = 2 := kq2
    have htq := HTR.out
    rw [HEp.out, HEq.out] at htq
    obtain ⟨_, _, hkp, hkq, hp200, hq200, htr2, hm1, hm2⟩ := htq.both HNp.out HNq.out HKP.out HKQ.out
    obtain ⟨n, hn⟩ : ∃ n : Nat, n = min (nsz p) (nsz q) := ⟨_, rfl⟩
    rw [← hn] at htr2 hm1 hm2
    have HMIN : Hid (min (nsz p : Int) (nsz q : Int) = n) := Lib.hid (by omega)
    have hnb : n ≤ 200 := by omega
    have HNP1 : Hid (n ≤ nsz p) := Lib.hid (by omega)
    have HNQ1 : Hid (n ≤ nsz q) := Lib.hid (by omega)
    have HTR2 := Lib.hid htr2
    have HCRp : Hid (curRem a k11 (d11 + n) = cutR p n :: r') := Lib.hid (cur_step HEp.out _)
    have HCRq : Hid (curRem b k13 (d13 + n) = cutR q n :: s') := Lib.hid (cur_step HEq.out _)
    have HDEC : Hid (mu (curRem a k11 (d11 + n)) + mu (curRem b k13 (d13 + n)) < mu (curRem a k11 d11) + mu (curRem b k13 d13)) := Lib.hid (by rw [HEq.out, HEp.out, HCRp.out, HCRq.out]; omega)
    clear htq htr2 hm1 hm2 kq2 hn
    go_wp2_with fail
    refine (spec_l04Left_c w w4.heap.size (.slice aa a.length ca) a k11 d11 p r' _ HCS.out.p ha HCS.out.bel HAL.out HCS.out.cp HEp.out).mono ?_
    rintro e' w14 ⟨rfl, hbb⟩
    replace HCS : Hid (CS1 w w4.heap.size (w4.heap.size + 1) (w4.heap.size + 2) (.slice aa a.length ca) (.slice ab b.length cb) a b w14 k11 d11 k13 d13 (bstOf X)) := Lib.hid (HCS.out.below hbb)
    clear hbb
    go_wp2_with fail
    refine (spec_l04Left_c w (w4.heap.size + 1) (.slice ab b.length cb) b k13 d13 q s' _ HCS.out.q hb HCS.out.bel HBL.out HCS.out.cq HEq.out).mono ?_
    rintro e' w15 ⟨rfl, hbb⟩
    replace HCS : Hid (CS1 w w4.heap.size (w4.heap.size + 1) (w4.heap.size + 2) (.slice aa a.length ca) (.slice ab b.length cb) a b w15 k11 d11 k13 d13 (bstOf X)) := Lib.hid (HCS.out.below hbb)
    clear hbb
    go_wp2_with fail
    refine (spec_l04Min_c _ _ _).mono ?_
    rintro e' w16 ⟨rfl, hbb⟩
    rw [HMIN.out]
    replace HCS : Hid (CS1 w w4.heap.size (w4.heap.size + 1) (w4.heap.size + 2) (.slice aa a.length ca) (.slice ab b.length cb) a b w16 k11 d11 k13 d13 (bstOf X)) := Lib.hid (HCS.out.below hbb)
    clear hbb
    rcases hkp with kp1 | kp1
    · rcases hkq with kq1 | kq1
      · have HKp := Lib.hid kp1
        have HKq := Lib.hid kq1
        clear kp1 kq1
        have hC17 := spec_l04Kind_c w w4.heap.size (.slice aa a.length ca) a k11 d11 _ HCS.out.p ha (by have := HCS.out.o1; have := HCS.out.o2; omega) HCS.out.bel HAL.out HCS.out.cp (opOk_iff'.1 HOK.out.1).2.1
        rw [HSp.out] at hC17
        have HC17 := Lib.hid hC17
        clear hC17
        go_wp2_with fail
        refine HC17.out.mono ?_
        rintro e' w17 ⟨k17, d17, he, hx, hc, hr, hw, hs⟩
        obtain ⟨_, _, hbb⟩ := hs (by first | trivial | rfl)
        replace HCS : Hid (CS1 w w4.heap.size (w4.heap.size + 1) (w4.heap.size + 2) (.slice aa a.length ca) (.slice ab b.length cb) a b w17 k11 d11 k13 d13 (bstOf X)) := Lib.hid (HCS.out.below hbb)
        rw [HEp.out] at he
        clear hx hc hr hw hbb HC17
        subst he
        try dsimp only [hd, List.headD]
        rw [HKp.out]
        have hC18 := spec_l04Kind_c w (w4.heap.size + 1) (.slice ab b.length cb) b k13 d13 _ HCS.out.q hb (by have := HCS.out.o1; have := HCS.out.o2; omega) HCS.out.bel HBL.out HCS.out.cq (opOk_iff'.1 HOK.out.2.1).2.1
        rw [HSq.out] at hC18
        have HC18 := Lib.hid hC18
        clear hC18
        go_wp2_with fail
        refine HC18.out.mono ?_
        rintro e' w18 ⟨k18, d18, he, hx, hc, hr, hw, hs⟩
        obtain ⟨_, _, hbb⟩ := hs (by first | trivial | rfl)
        replace HCS : Hid (CS1 w w4.heap.size (w4.heap.size + 1) (w4.heap.size + 2) (.slice aa a.length ca) (.slice ab b.length cb) a b w18 k11 d11 k13 d13 (bstOf X)) := Lib.hid (HCS.out.below hbb)
        rw [HEq.out] at he
        clear hx hc hr hw hbb HC18
        subst he
        try dsimp only [hd, List.headD]
        rw [HKq.out]
        obtain ⟨fx19, hb19, hn19⟩ := HCS.out.x
        have HB19 := Lib.hid hb19
        have HN19 := Lib.hid hn19
        have HI19 := Lib.hid (bstOf_inv XOK.out)
        obtain ⟨i19a, i19b, i19c, i19d, i19e⟩ := HI19.out
        have i19l := XLE.out
        clear hb19 hn19
        go_wp2_with fail
        refine (spec_l02Keep_c (w4.heap.size + 2) (w4.heap.size + 2) (bstOf X) fx19 (n : Int) _ HB19.out (by have := HCS.out.o4; omega) (by omega) i19c (by omega) (by omega) (by omega) (fun q hq => by have := HI19.out.flushed q hq; omega)).mono ?_
        rintro e' w19 hb
        obtain ⟨rfl, hcs⟩ := HN19.out _ _ _ hb
        replace HCS : Hid (CS1 w w4.heap.size (w4.heap.size + 1) (w4.heap.size + 2) (.slice aa a.length ca) (.slice ab b.length cb) a b w19 k11 d11 k13 d13 ((bstOf X).keep n)) := Lib.hid hcs
        clear hb hcs HB19 HN19 HI19 i19a i19b i19c i19d i19e i19l
        obtain ⟨z0, p0, p1, p2, y0, y1, y2⟩ := HCS.out.p.q3
        have HCK1 := Lib.hid (cur_cok HAL.out HCS.out.cp HEp.out HNP1.out)
        have dpb : d11 ≤ 200 := cur_dle HAL.out HCS.out.cp HEp.out
        obtain ⟨zq, r0, r1, r2, x0, x1, x2⟩ := HCS.out.q.q3
        have HCK2 := Lib.hid (cur_cok HBL.out HCS.out.cq HEq.out HNQ1.out)
        have dqb : d13 ≤ 200 := cur_dle HBL.out HCS.out.cq HEq.out
        go_wp2
        have hxp := HCS.out.p.set 2 (.int .i64 ((d11 : Int) + n))
        have hcsp : CS1 w w4.heap.size (w4.heap.size + 1) (w4.heap.size + 2) (.slice aa a.length ca) (.slice ab b.length cb) a b (w19.setCell ⟨w4.heap.size, 2, none⟩ (.int .i64 ((d11 : Int) + n))) k11 (d11 + n) k13 d13 ((bstOf X).keep n) := HCS.out.stepP ((Wr.refl _ _).put (b := w4.heap.size) (o := 2) (mem_own.2 ⟨rfl, by simp, by simp⟩) _) (by rw [Int.natCast_add]; exact hxp) HCK1.out
        have hxq := hcsp.q.set 2 (.int .i64 ((d13 : Int) + n))
        have hcsq : CS1 w w4.heap.size (w4.heap.size + 1) (w4.heap.size + 2) (.slice aa a.length ca) (.slice ab b.length cb) a b ((w19.setCell ⟨w4.heap.size, 2, none⟩ (.int .i64 ((d11 : Int) + n))).setCell ⟨(w4.heap.size + 1), 2, none⟩ (.int .i64 ((d13 : Int) + n))) k11 (d11 + n) k13 (d13 + n) ((bstOf X).keep n) := hcsp.stepQ ((Wr.refl _ _).put (b := (w4.heap.size + 1)) (o := 2) (mem_own.2 ⟨rfl, by simp, by simp⟩) _) (by rw [Int.natCast_add]; exact hxq) HCK2.out
        have htr3 := HTR2.out
        unfold cfB at htr3
        simp only [HKp.out, HKq.out] at htr3
        go_roundg (mu (curRem a k11 (d11 + n)) + mu (curRem b k13 (d13 + n)))
        case measure => have := HMU.out; have := HDEC.out; omega
        case rel => exact ⟨k11, (d11 + n), k13, (d13 + n), X ++ [cutL p n], rfl, (by rw [bstOf_snoc, step_keep _ ((cutL_kind p n).trans HKp.out), cutL_n n (by rw [HKp.out]; decide)]; exact hcsq), by rw [HCRp.out, HCRq.out]; simpa using htr3⟩
      · have HKp := Lib.hid kp1
        have HKq := Lib.hid kq1
        clear kp1 kq1
        have hC17 := spec_l04Kind_c w w4.heap.size (.slice aa a.length ca) a k11 d11 _ HCS.out.p ha (by have := HCS.out.o1; have := HCS.out.o2; omega) HCS.out.bel HAL.out HCS.out.cp (opOk_iff'.1 HOK.out.1).2.1
        rw [HSp.out] at hC17
        have HC17 := Lib.hid hC17
        clear hC17
        go_wp2_with fail
        refine HC17.out.mono ?_
        rintro e' w17 ⟨k17, d17, he, hx, hc, hr, hw, hs⟩
        obtain ⟨_, _, hbb⟩ := hs (by first | trivial | rfl)
        replace HCS : Hid (CS1 w w4.heap.size (w4.heap.size + 1) (w4.heap.size + 2) (.slice aa a.length ca) (.slice ab b.length cb) a b w17 k11 d11 k13 d13 (bstOf X)) := Lib.hid (HCS.out.below hbb)
        rw [HEp.out] at he
        clear hx hc hr hw hbb HC17
        subst he
        try dsimp only [hd, List.headD]
        rw [HKp.out]
        have hC18 := spec_l04Kind_c w (w4.heap.size + 1) (.slice ab b.length cb) b k13 d13 _ HCS.out.q hb (by have := HCS.out.o1; have := HCS.out.o2; omega) HCS.out.bel HBL.out HCS.out.cq (opOk_iff'.1 HOK.out.2.1).2.1
        rw [HSq.out] at hC18
        have HC18 := Lib.hid hC18
        clear hC18
        go_wp2_with fail
        refine HC18.out.mono ?_
        rintro e' w18 ⟨k18, d18, he, hx, hc, hr, hw, hs⟩
        obtain ⟨_, _, hbb⟩ := hs (by first | trivial | rfl)
        replace HCS : Hid (CS1 w w4.heap.size (w4.heap.size + 1) (w4.heap.size + 2) (.slice aa a.length ca) (.slice ab b.length cb) a b w18 k11 d11 k13 d13 (bstOf X)) := Lib.hid (HCS.out.below hbb)
        rw [HEq.out] at he
        clear hx hc hr hw hbb HC18
        subst he
        try dsimp only [hd, List.headD]
        rw [HKq.out]
        obtain ⟨fx19, hb19, hn19⟩ := HCS.out.x
        have HB19 := Lib.hid hb19
        have HN19 := Lib.hid hn19
        have HI19 := Lib.hid (bstOf_inv XOK.out)
        obtain ⟨i19a, i19b, i19c, i19d, i19e⟩ := HI19.out
        have i19l := XLE.out
        clear hb19 hn19
        go_wp2_with fail
        refine (spec_l02Drop_c (w4.heap.size + 2) (w4.heap.size + 2) (bstOf X) fx19 (n : Int) _ HB19.out i19c (by omega) (by omega) (by omega)).mono ?_
        rintro e' w19 hb
        obtain ⟨rfl, hcs⟩ := HN19.out _ _ _ hb
        replace HCS : Hid (CS1 w w4.heap.size (w4.heap.size + 1) (w4.heap.size + 2) (.slice aa a.length ca) (.slice ab b.length cb) a b w19 k11 d11 k13 d13 ((bstOf X).drops n)) := Lib.hid hcs
        clear hb hcs HB19 HN19 HI19 i19a i19b i19c i19d i19e i19l
        obtain ⟨z0, p0, p1, p2, y0, y1, y2⟩ := HCS.out.p.q3
        have HCK1 := Lib.hid (cur_cok HAL.out HCS.out.cp HEp.out HNP1.out)
        have dpb : d11 ≤ 200 := cur_dle HAL.out HCS.out.cp HEp.out
        obtain ⟨zq, r0, r1, r2, x0, x1, x2⟩ := HCS.out.q.q3
        have HCK2 := Lib.hid (cur_cok HBL.out HCS.out.cq HEq.out HNQ1.out)
        have dqb : d13 ≤ 200 := cur_dle HBL.out HCS.out.cq HEq.out
        go_wp2
        have hxp := HCS.out.p.set 2 (.int .i64 ((d11 : Int) + n))
        have hcsp : CS1 w w4.heap.size (w4.heap.size + 1) (w4.heap.size + 2) (.slice aa a.length ca) (.slice ab b.length cb) a b (w19.setCell ⟨w4.heap.size, 2, none⟩ (.int .i64 ((d11 : Int) + n))) k11 (d11 + n) k13 d13 ((bstOf X).drops n) := HCS.out.stepP ((Wr.refl _ _).put (b := w4.heap.size) (o := 2) (mem_own.2 ⟨rfl, by simp, by simp⟩) _) (by rw [Int.natCast_add]; exact hxp) HCK1.out
        have hxq := hcsp.q.set 2 (.int .i64 ((d13 : Int) + n))
        have hcsq : CS1 w w4.heap.size (w4.heap.size + 1) (w4.heap.size + 2) (.slice aa a.length ca) (.slice ab b.length cb) a b ((w19.setCell ⟨w4.heap.size, 2, none⟩ (.int .i64 ((d11 : Int) + n))).setCell ⟨(w4.heap.size + 1), 2, none⟩ (.int .i64 ((d13 : Int) + n))) k11 (d11 + n) k13 (d13 + n) ((bstOf X).drops n) := hcsp.stepQ ((Wr.refl _ _).put (b := (w4.heap.size + 1)) (o := 2) (mem_own.2 ⟨rfl, by simp, by simp⟩) _) (by rw [Int.natCast_add]; exact hxq) HCK2.out
        have htr3 := HTR2.out
        unfold cfB at htr3
        simp only [HKp.out, HKq.out] at htr3
        go_roundg (mu (curRem a k11 (d11 + n)) + mu (curRem b k13 (d13 + n)))
        case measure => have := HMU.out; have := HDEC.out; omega
        case rel => exact ⟨k11, (d11 + n), k13, (d13 + n), X ++ [cutL q n], rfl, (by rw [bstOf_snoc, step_drop _ ((cutL_kind q n).trans HKq.out), cutL_n n HKQ.out]; exact hcsq), by rw [HCRp.out, HCRq.out]; simpa using htr3⟩
    · rcases hkq with kq1 | kq1
      · have HKp := Lib.hid kp1
        have HKq := Lib.hid kq1
        clear kp1 kq1
        have hC17 := spec_l04Kind_c w w4.heap.size (.slice aa a.length ca) a k11 d11 _ HCS.out.p ha (by have := HCS.out.o1; have := HCS.out.o2; omega) HCS.out.bel HAL.out HCS.out.cp (opOk_iff'.1 HOK.out.1).2.1
        rw [HSp.out] at hC17
        have HC17 := Lib.hid hC17
        clear hC17
        go_wp2_with fail
        refine HC17.out.mono ?_
        rintro e' w17 ⟨k17, d17, he, hx, hc, hr, hw, hs⟩
        obtain ⟨_, _, hbb⟩ := hs (by first | trivial | rfl)
        replace HCS : Hid (CS1 w w4.heap.size (w4.heap.size + 1) (w4.heap.size + 2) (.slice aa a.length ca) (.slice ab b.length cb) a b w17 k11 d11 k13 d13 (bstOf X)) := Lib.hid (HCS.out.below hbb)
        rw [HEp.out] at he
        clear hx hc hr hw hbb HC17
        subst he
        try dsimp only [hd, List.headD]
        rw [HKp.out]
        have hC18 := spec_l04Kind_c w (w4.heap.size + 1) (.slice ab b.length cb) b k13 d13 _ HCS.out.q hb (by have := HCS.out.o1; have := HCS.out.o2; omega) HCS.out.bel HBL.out HCS.out.cq (opOk_iff'.1 HOK.out.2.1).2.1
        rw [HSq.out] at hC18
        have HC18 := Lib.hid hC18
        clear hC18
        go_wp2_with fail
        refine HC18.out.mono ?_
        rintro e' w18 ⟨k18, d18, he, hx, hc, hr, hw, hs⟩
        obtain ⟨_, _, hbb⟩ := hs (by first | trivial | rfl)
        replace HCS : Hid (CS1 w w4.heap.size (w4.heap.size + 1) (w4.heap.size + 2) (.slice aa a.length ca) (.slice ab b.length cb) a b w18 k11 d11 k13 d13 (bstOf X)) := Lib.hid (HCS.out.below hbb)
        rw [HEq.out] at he
        clear hx hc hr hw hbb HC18
        subst he
        try dsimp only [hd, List.headD]
        rw [HKq.out]
        go_wp2_with fail
        refine (spec_l04TakeN_c w w4.heap.size (.slice aa a.length ca) a k11 d11 p r' _ HCS.out.p ha (by have := HCS.out.o1; have := HCS.out.o2; omega) HCS.out.bel HAL.out HCS.out.cp HEp.out HKp.out n HNP1.out).mono ?_
        rintro e' w19 ⟨vs, rfl, hvs, hx, hw⟩
        replace HCS : Hid (CS1 w w4.heap.size (w4.heap.size + 1) (w4.heap.size + 2) (.slice aa a.length ca) (.slice ab b.length cb) a b w19 k11 (d11 + n) k13 d13 (bstOf X)) := Lib.hid (HCS.out.stepP hw hx (cur_cok HAL.out HCS.out.cp HEp.out HNP1.out))
        have HVS := Lib.hid hvs
        clear hvs hx hw
        obtain ⟨fx20, hb20, hn20⟩ := HCS.out.x
        have HB20 := Lib.hid hb20
        have HN20 := Lib.hid hn20
        have HI20 := Lib.hid (bstOf_inv XOK.out)
        obtain ⟨i20a, i20b, i20c, i20d, i20e⟩ := HI20.out
        have i20l := XLE.out
        clear hb20 hn20
        go_wp2_with fail
        refine (spec_l02Put_c (w4.heap.size + 2) (w4.heap.size + 2) (bstOf X) fx20 vs (p.signs.take n) _ HB20.out (by have := HCS.out.o4; omega) HVS.out (by have : (p.signs.take n).length ≤ n := List.length_take_le _ _; omega)).mono ?_
        rintro e' w20 hb
        obtain ⟨rfl, hcs⟩ := HN20.out _ _ _ hb
        replace HCS : Hid (CS1 w w4.heap.size (w4.heap.size + 1) (w4.heap.size + 2) (.slice aa a.length ca) (.slice ab b.length cb) a b w20 k11 (d11 + n) k13 d13 ((bstOf X).puts (p.signs.take n))) := Lib.hid hcs
        clear hb hcs HB20 HN20 HI20 i20a i20b i20c i20d i20e i20l
        obtain ⟨zq, r0, r1, r2, x0, x1, x2⟩ := HCS.out.q.q3
        have HCK2 := Lib.hid (cur_cok HBL.out HCS.out.cq HEq.out HNQ1.out)
        have dqb : d13 ≤ 200 := cur_dle HBL.out HCS.out.cq HEq.out
        go_wp2
        have hxq := HCS.out.q.set 2 (.int .i64 ((d13 : Int) + n))
        have hcsq : CS1 w w4.heap.size (w4.heap.size + 1) (w4.heap.size + 2) (.slice aa a.length ca) (.slice ab b.length cb) a b (w20.setCell ⟨(w4.heap.size + 1), 2, none⟩ (.int .i64 ((d13 : Int) + n))) k11 (d11 + n) k13 (d13 + n) ((bstOf X).puts (p.signs.take n)) := HCS.out.stepQ ((Wr.refl _ _).put (b := (w4.heap.size + 1)) (o := 2) (mem_own.2 ⟨rfl, by simp, by simp⟩) _) (by rw [Int.natCast_add]; exact hxq) HCK2.out
        have htr3 := HTR2.out
        unfold cfB at htr3
        simp only [HKp.out, HKq.out] at htr3
        go_roundg (mu (curRem a k11 (d11 + n)) + mu (curRem b k13 (d13 + n)))
        case measure => have := HMU.out; have := HDEC.out; omega
        case rel => exact ⟨k11, (d11 + n), k13, (d13 + n), X ++ [cutL p n], rfl, (by rw [bstOf_snoc, step_put _ ((cutL_kind p n).trans HKp.out), cutL_put n HKp.out]; exact hcsq), by rw [HCRp.out, HCRq.out]; simpa using htr3⟩
      · have HKp := Lib.hid kp1
        have HKq := Lib.hid kq1
        clear kp1 kq1
        have hC17 := spec_l04Kind_c w w4.heap.size (.slice aa a.length ca) a k11 d11 _ HCS.out.p ha (by have := HCS.out.o1; have := HCS.out.o2; omega) HCS.out.bel HAL.out HCS.out.cp (opOk_iff'.1 HOK.out.1).2.1
        rw [HSp.out] at hC17
        have HC17 := Lib.hid hC17
        clear hC17
        go_wp2_with fail
        refine HC17.out.mono ?_
        rintro e' w17 ⟨k17, d17, he, hx, hc, hr, hw, hs⟩
        obtain ⟨_, _, hbb⟩ := hs (by first | trivial | rfl)
        replace HCS : Hid (CS1 w w4.heap.size (w4.heap.size + 1) (w4.heap.size + 2) (.slice aa a.length ca) (.slice ab b.length cb) a b w17 k11 d11 k13 d13 (bstOf X)) := Lib.hid (HCS.out.below hbb)
        rw [HEp.out] at he
        clear hx hc hr hw hbb HC17
        subst he
        try dsimp only [hd, List.headD]
        rw [HKp.out]
        have hC18 := spec_l04Kind_c w (w4.heap.size + 1) (.slice ab b.length cb) b k13 d13 _ HCS.out.q hb (by have := HCS.out.o1; have := HCS.out.o2; omega) HCS.out.bel HBL.out HCS.out.cq (opOk_iff'.1 HOK.out.2.1).2.1
        rw [HSq.out] at hC18
        have HC18 := Lib.hid hC18
        clear hC18
        go_wp2_with fail
        refine HC18.out.mono ?_
        rintro e' w18 ⟨k18, d18, he, hx, hc, hr, hw, hs⟩
        obtain ⟨_, _, hbb⟩ := hs (by first | trivial | rfl)
        replace HCS : Hid (CS1 w w4.heap.size (w4.heap.size + 1) (w4.heap.size + 2) (.slice aa a.length ca) (.slice ab b.length cb) a b w18 k11 d11 k13 d13 (bstOf X)) := Lib.hid (HCS.out.below hbb)
        rw [HEq.out] at he
        clear hx hc hr hw hbb HC18
        subst he
        try dsimp only [hd, List.headD]
        rw [HKq.out]
        obtain ⟨z0, p0, p1, p2, y0, y1, y2⟩ := HCS.out.p.q3
        have HCK1 := Lib.hid (cur_cok HAL.out HCS.out.cp HEp.out HNP1.out)
        have dpb : d11 ≤ 200 := cur_dle HAL.out HCS.out.cp HEp.out
        obtain ⟨zq, r0, r1, r2, x0, x1, x2⟩ := HCS.out.q.q3
        have HCK2 := Lib.hid (cur_cok HBL.out HCS.out.cq HEq.out HNQ1.out)
        have dqb : d13 ≤ 200 := cur_dle HBL.out HCS.out.cq HEq.out
        go_wp2
        have hxp := HCS.out.p.set 2 (.int .i64 ((d11 : Int) + n))
        have hcsp : CS1 w w4.heap.size (w4.heap.size + 1) (w4.heap.size + 2) (.slice aa a.length ca) (.slice ab b.length cb) a b (w18.setCell ⟨w4.heap.size, 2, none⟩ (.int .i64 ((d11 : Int) + n))) k11 (d11 + n) k13 d13 (bstOf X) := HCS.out.stepP ((Wr.refl _ _).put (b := w4.heap.size) (o := 2) (mem_own.2 ⟨rfl, by simp, by simp⟩) _) (by rw [Int.natCast_add]; exact hxp) HCK1.out
        have hxq := hcsp.q.set 2 (.int .i64 ((d13 : Int) + n))
        have hcsq : CS1 w w4.heap.size (w4.heap.size + 1) (w4.heap.size + 2) (.slice aa a.length ca) (.slice ab b.length cb) a b ((w18.setCell ⟨w4.heap.size, 2, none⟩ (.int .i64 ((d11 : Int) + n))).setCell ⟨(w4.heap.size + 1), 2, none⟩ (.int .i64 ((d13 : Int) + n))) k11 (d11 + n) k13 (d13 + n) (bstOf X) := hcsp.stepQ ((Wr.refl _ _).put (b := (w4.heap.size + 1)) (o := 2) (mem_own.2 ⟨rfl, by simp, by simp⟩) _) (by rw [Int.natCast_add]; exact hxq) HCK2.out
        have htr3 := HTR2.out
        unfold cfB at htr3
        simp only [HKp.out, HKq.out] at htr3
        go_roundg (mu (curRem a k11 (d11 + n)) + mu (curRem b k13 (d13 + n)))
        case measure => have := HMU.out; have := HDEC.out; omega
        case rel => exact ⟨k11, (d11 + n), k13, (d13 + n), X, rfl, (by exact hcsq), by rw [HCRp.out, HCRq.out]; simpa using htr3⟩
end Go.Proofs.YtbpbeomngflkfaaGreat
