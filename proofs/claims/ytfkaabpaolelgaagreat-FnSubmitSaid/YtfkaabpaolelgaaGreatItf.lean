/- Transform, the program's walk. -/
import Derived.Test.YtfkaabpaolelgaaGreatTxs
import Derived.Test.YtfkaabpaolelgaaGreatStf
import Derived.Test.YtfkaabpaolelgaaGreatCp
import Derived.Deep.CutRange
import Derived.Deep.LoopGhost
namespace Go.Proofs.YtfkaabpaolelgaaGreat
open Go.RowKit
theorem mu_len : ∀ l : List DPart, l.length ≤ mu l
  | [] => Nat.le_refl _
  | p :: l => by have := mu_len l; simp only [mu, List.length_cons]; omega
theorem TR.rlen {a b r s X Y : List DPart} (h : TR a b r s X Y) (ha : opOk a = true) (hb : opOk b = true) : r.length ≤ 2001 ∧ s.length ≤ 2001 := by
  obtain ⟨m, h1, h2, h3, h4, h5⟩ := h.m
  have := mu_le ha
  have := mu_le hb
  have := mu_len r
  have := mu_len s
  omega
theorem cutL_nk {p : DPart} (n : Nat) (k : p.kind ≠ 2) : cutL p n = ⟨p.kind, n, p.signs⟩ := by unfold cutL; rw [if_neg k]
theorem zp_keepX {br bs : Nat} {vx vx' vy : Value} {S : Nat} {q : Pos} (hn : ∀ p ∈ rowP (GoT.n DPart) vx', p ∈ rowP (GoT.n DPart) vx ∨ S ≤ p.1) (hq : ¬ ZP br bs vx vy q) (hl : q.1 < S) : ¬ ZP br bs vx' vy q := by
  rintro (h | h)
  · rcases hn q h with h | h
    · exact hq (.inl h)
    · omega
  · exact hq (.inr h)
theorem run_field0 (x y : Int) (a : Option Addr) (n c : Nat) (w : World) : (Instr.field 62 (.agg #[.int .i64 x, .int .i64 y, .slice a n c]) 0).run Tryz.prog w = .ok (.int .i64 x) w := by
  simp [Instr.field, run_underlying Tryz.underlying62, asAgg, part, go_sem]
attribute [local go_sem] run_field0
set_option maxHeartbeats 8000000 in
set_option maxRecDepth 100000 in
theorem impl_Transform_c (va vb : Value) (a b : List DPart) (w : World) (ha : RdS w va a) (hb : RdS w vb b) : Calls Tryz.prog 81 #[va, vb] w (OutTf w a b) := by
  by_cases h1 : opOk a = true
  rotate_left
  · have h1 : opOk a = false := by simpa using h1
    have HV := Lib.hid (transform_no (a := a) (b := b) fun h => by rw [h1] at h; cases h.1)
    go_enter Tryz.func81, Tryz.ntmps81
    go_wp2_with fail
    refine (impl_OpOk_c va a _ ha).mono ?_
    rintro e' w1 ⟨rfl, hb1⟩
    rw [h1]
    go_wp2
    exact bodyPost_ret (v := .tuple #[.slice none 0 0, .slice none 0 0, .bool false]) (by simp [results, Tryz.results81, go_sem, *]) rfl (OutTf.no HV.out hb1)
  by_cases h2 : opOk b = true
  rotate_left
  · have h2 : opOk b = false := by simpa using h2
    have HV := Lib.hid (transform_no (a := a) (b := b) fun h => by rw [h2] at h; cases h.2.1)
    go_enter Tryz.func81, Tryz.ntmps81
    go_wp2_with fail
    refine (impl_OpOk_c va a _ ha).mono ?_
    rintro e' w1 ⟨rfl, hb1⟩
    rw [h1]
    go_wp2_with fail
    refine (impl_OpOk_c vb b _ (hb.below hb1)).mono ?_
    rintro e' w2 ⟨rfl, hb2⟩
    rw [h2]
    go_wp2
    exact bodyPost_ret (v := .tuple #[.slice none 0 0, .slice none 0 0, .bool false]) (by simp [results, Tryz.results81, go_sem, *]) rfl (OutTf.no HV.out (hb1.trans (hb2.mono hb1.size)))
  have HAL := Lib.hid (opOk_iff'.1 h1).1
  have HBL := Lib.hid (opOk_iff'.1 h2).1
  have HB4 : Hid (∀ {w1 w2 w3 w4 : World}, Below w.heap.size w w1 → Below w1.heap.size w1 w2 → Below w2.heap.size w2 w3 → Below w3.heap.size w3 w4 → Below w.heap.size w w4) := Lib.hid fun x1 x2 x3 x4 => x1.trans ((x2.trans ((x3.trans (x4.mono x3.size)).mono x2.size)).mono x1.size)
  by_cases h3 : opFrom a = opFrom b
  rotate_left
  · have HV := Lib.hid (transform_no (a := a) (b := b) fun h => h3 h.2.2)
    have h3 : (opFrom a == opFrom b) = false := by simpa using h3
    go_enter Tryz.func81, Tryz.ntmps81
    go_wp2_with fail
    refine (impl_OpOk_c va a _ ha).mono ?_
    rintro e' w1 ⟨rfl, hb1⟩
    rw [h1]
    go_wp2_with fail
    refine (impl_OpOk_c vb b _ (hb.below hb1)).mono ?_
    rintro e' w2 ⟨rfl, hb2⟩
    rw [h2]
    go_wp2_with fail
    refine (impl_OpFrom_c va a _ ((ha.below hb1).below hb2)).mono ?_
    rintro e' w3 ⟨rfl, hb3⟩
    go_wp2_with fail
    refine (impl_OpFrom_c vb b _ (((hb.below hb1).below hb2).below hb3)).mono ?_
    rintro e' w4 ⟨rfl, hb4⟩
    have HBW := Lib.hid (HB4.out hb1 hb2 hb3 hb4)
    clear hb1 hb2 hb3 hb4
    go_wp2
    exact bodyPost_ret (v := .tuple #[.slice none 0 0, .slice none 0 0, .bool false]) (by simp [results, Tryz.results81, go_sem, *]) rfl (OutTf.no HV.out HBW.out)
  obtain ⟨aa, ca, rfl⟩ := ha.isSlice
  obtain ⟨ab, cb, rfl⟩ := hb.isSlice
  have H0 := Lib.hid (TR.new h1 h2 h3)
  have HOK : Hid (opOk a = true ∧ opOk b = true ∧ opFrom a = opFrom b) := Lib.hid ⟨h1, h2, h3⟩
  have h3 : (opFrom a == opFrom b) = true := by simpa using h3
  go_enter Tryz.func81, Tryz.ntmps81
  go_wp2_with fail
  refine (impl_OpOk_c _ a _ ha).mono ?_
  rintro e' w1 ⟨rfl, hb1⟩
  rw [h1]
  go_wp2_with fail
  refine (impl_OpOk_c _ b _ (hb.below hb1)).mono ?_
  rintro e' w2 ⟨rfl, hb2⟩
  rw [h2]
  go_wp2_with fail
  refine (impl_OpFrom_c _ a _ ((ha.below hb1).below hb2)).mono ?_
  rintro e' w3 ⟨rfl, hb3⟩
  go_wp2_with fail
  refine (impl_OpFrom_c _ b _ (((hb.below hb1).below hb2).below hb3)).mono ?_
  rintro e' w4 ⟨rfl, hb4⟩
  have HBW := Lib.hid (HB4.out hb1 hb2 hb3 hb4)
  clear hb1 hb2 hb3 hb4
  obtain ⟨i0, hi, hz0, hz1, hz2⟩ := info_parts info_part
  have HTX0 := Lib.hid (TX.new (E := 115) HBW.out ha hb)
  go_wp2_with fail
  go_loopg [9, 10] (mu a + mu b) (fun n x9 x10 wr => ∃ (vr vs vx vy : Value) (r s X Y : List DPart), vx = x9 ∧ vy = x10 ∧ n = mu r + mu s ∧ TX w (w4.heap.size + 2) w4.heap.size (w4.heap.size + 1) vr vs vx vy r s X Y wr ∧ TR a b r s X Y)
  case atStart => exact ⟨_, _, _, _, a, b, [], [], rfl, rfl, rfl, HTX0.out, H0.out⟩
  case round =>
    obtain ⟨vr, vs, vx, vy, r, s, X, Y, rfl, rfl, rfl, htx, htr⟩ := hrel
    have HTX := Lib.hid htx
    have HTR := Lib.hid htr
    have HMU : Hid (mu r + mu s ≤ mu r + mu s) := Lib.hid (Nat.le_refl _)
    have XOK := Lib.hid htr.oks.1
    have YOK := Lib.hid htr.oks.2
    have XLE := Lib.hid (htr.lens HOK.out.1 HOK.out.2.1).1
    have YLE := Lib.hid (htr.lens HOK.out.1 HOK.out.2.1).2
    clear htx htr h3 HTX0
    obtain ⟨f11, j111, j112, j113, j114⟩ := HTX.out.rd
    have hC11 := impl_next_c w4.heap.size vr (r) f11 _ HTX.out.p j111 j112 HTR.out.i.r
    have HC11 := Lib.hid hC11
    have HJ11 := Lib.hid j113
    clear hC11 j111 j112 j113 j114
    go_wp2_with fail
    refine HC11.out.mono ?_
    rintro e' w11 ⟨v11, f', vh11, he, hv, hx, hsl, hm, hw, hst⟩
    obtain ⟨ah11, qh11, rfl⟩ := hv.isSlice
    obtain ⟨r11, hr11⟩ : ∃ z, z = skip (r) := ⟨_, rfl⟩
    rw [← hr11] at he hv hsl
    have HSr : Hid (skip r11 = r11) := Lib.hid (by rw [hr11, skip_idem])
    have hmu := skip_mu (r)
    rw [← hr11] at hmu
    replace HTX : Hid (TX w (w4.heap.size + 2) w4.heap.size (w4.heap.size + 1) v11 vs vx vy (r11) (s) (X) (Y) w11) := Lib.hid ((HTX.out.stepR HJ11.out hw hx hsl (fun q hq => .inl (hm q hq))))
    replace HTR : Hid (TR a b (r11) (s) (X) (Y)) := Lib.hid (by rw [hr11]; exact HTR.out.skipR)
    replace HMU : Hid (mu (r11) + mu (s) ≤ mu r + mu s) := Lib.hid (by have h1 := HMU.out; omega)
    clear hx hsl hm hw hst hmu hr11 HC11 HJ11 hv
    rcases r11 with _ | ⟨p, r'⟩
    · subst he
      try dsimp only [hd, List.headD]
      obtain ⟨f12, j121, j122, j123, j124⟩ := HTX.out.swap.rd
      have hC12 := impl_next_c (w4.heap.size + 1) vs (s) f12 _ HTX.out.swap.p j121 j122 HTR.out.i.s
      have HC12 := Lib.hid hC12
      have HJ12 := Lib.hid j123
      clear hC12 j121 j122 j123 j124
      go_wp2_with fail
      refine HC12.out.mono ?_
      rintro e' w12 ⟨v12, f', vh12, he, hv, hx, hsl, hm, hw, hst⟩
      obtain ⟨ah12, qh12, rfl⟩ := hv.isSlice
      obtain ⟨s12, hs12⟩ : ∃ z, z = skip (s) := ⟨_, rfl⟩
      rw [← hs12] at he hv hsl
      have HSs : Hid (skip s12 = s12) := Lib.hid (by rw [hs12, skip_idem])
      have hmu := skip_mu (s)
      rw [← hs12] at hmu
      replace HTX : Hid (TX w (w4.heap.size + 2) w4.heap.size (w4.heap.size + 1) v11 v12 vx vy ([]) (s12) (X) (Y) w12) := Lib.hid ((HTX.out.swap.stepR HJ12.out hw hx hsl (fun q hq => .inl (hm q hq))).swap)
      replace HTR : Hid (TR a b ([]) (s12) (X) (Y)) := Lib.hid (by rw [hs12]; exact HTR.out.skipS)
      replace HMU : Hid (mu ([]) + mu (s12) ≤ mu r + mu s) := Lib.hid (by have h1 := HMU.out; omega)
      clear hx hsl hm hw hst hmu hs12 HC12 HJ12 hv
      rcases s12 with _ | ⟨q, s'⟩
      · subst he
        try dsimp only [hd, List.headD]
        obtain ⟨ex, ey⟩ := HTR.out.end_
        have HEX := Lib.hid ex
        have HEY := Lib.hid ey
        clear ex ey
        have HRX : Hid (RdS w12 vx X) := Lib.hid (let ⟨_, h, _⟩ := HTX.out.t.x; h.rd)
        have HRY : Hid (RdS w12 vy Y) := Lib.hid (let ⟨_, h, _⟩ := HTX.out.t.y; h.rd)
        have HB0 := Lib.hid HTX.out.bel
        go_wp2_with fail
        refine (impl_normal_c vx X _ HRX.out XOK.out (by have := XLE.out; omega)).mono ?_
        rintro e' w20 ⟨vu, rfl, hu, hb20⟩
        have HU := Lib.hid hu
        have HB20 := Lib.hid hb20
        have s20 := hb20.size
        have s12 := HB0.out.size
        clear hu hb20
        go_wp2_with fail
        refine (impl_normal_c vy Y _ (HRY.out.below HB20.out) YOK.out (by have := YLE.out; omega)).mono ?_
        rintro e' w21 ⟨vv, rfl, hv, hb21⟩
        have HB21 := Lib.hid (HB0.out.trans ((HB20.out.trans (hb21.mono s20)).mono s12))
        have HU2 : Hid (OwnS w.heap.size w21 vu (normal (tfz a b).1)) := Lib.hid (by rw [← HEX.out]; exact (HU.out.mono s12).below hb21)
        have HVV : Hid (OwnS w.heap.size w21 vv (normal (tfz a b).2)) := Lib.hid (by rw [← HEY.out]; exact hv.mono (by omega))
        have s21 : w.heap.size ≤ w21.heap.size := HB21.out.size
        clear hv hb21 HU HB0 HB20 HRX HRY s20 s12
        by_cases g1 : opOk (normal (tfz a b).1) = true
        rotate_left
        · have HV := Lib.hid (transform_bad (a := a) (b := b) fun h => g1 h.1)
          have g1 : opOk (normal (tfz a b).1) = false := by simpa using g1
          go_wp2_with fail
          refine (impl_OpOk_c vu _ _ (let ⟨_, h, _⟩ := HU2.out; ⟨_, h⟩)).mono ?_
          rintro e' w22 ⟨rfl, hb22⟩
          rw [g1]
          go_wp2
          exact bodyPost_ret (v := .tuple #[.slice none 0 0, .slice none 0 0, .bool false]) (by simp [results, Tryz.results81, go_sem, *]) rfl (OutTf.no HV.out (HB21.out.trans (hb22.mono s21)))
        go_wp2_with fail
        refine (impl_OpOk_c vu _ _ (let ⟨_, h, _⟩ := HU2.out; ⟨_, h⟩)).mono ?_
        rintro e' w22 ⟨rfl, hb22⟩
        rw [g1]
        have HB22 := Lib.hid hb22
        clear hb22
        by_cases g2 : opOk (normal (tfz a b).2) = true
        rotate_left
        · have HV := Lib.hid (transform_bad (a := a) (b := b) fun h => g2 h.2)
          have g2 : opOk (normal (tfz a b).2) = false := by simpa using g2
          go_wp2_with fail
          refine (impl_OpOk_c vv _ _ ((let ⟨_, h, _⟩ := HVV.out; ⟨_, h⟩ : RdS w21 vv _).below HB22.out)).mono ?_
          rintro e' w23 ⟨rfl, hb23⟩
          rw [g2]
          go_wp2
          exact bodyPost_ret (v := .tuple #[.slice none 0 0, .slice none 0 0, .bool false]) (by simp [results, Tryz.results81, go_sem, *]) rfl (OutTf.no HV.out (HB21.out.trans ((HB22.out.trans (hb23.mono HB22.out.size)).mono s21)))
        have HV := Lib.hid (transform_yes HOK.out ⟨g1, g2⟩)
        go_wp2_with fail
        refine (impl_OpOk_c vv _ _ ((let ⟨_, h, _⟩ := HVV.out; ⟨_, h⟩ : RdS w21 vv _).below HB22.out)).mono ?_
        rintro e' w23 ⟨rfl, hb23⟩
        rw [g2]
        have HB23 := Lib.hid (HB22.out.trans (hb23.mono HB22.out.size))
        clear hb23
        go_wp2
        exact bodyPost_ret (v := .tuple #[vu, vv, .bool true]) (by simp [results, Tryz.results81, go_sem, *]) rfl <| OutTf.yes HV.out (HU2.out.below HB23.out) (HVV.out.below HB23.out) (HB21.out.trans (HB23.out.mono s21))
      have HNq := Lib.hid (skip_cons HSs.out : nsz q ≠ 0)
      have hk : q.kind = 2 := by
        by_cases k : q.kind = 2
        · exact k
        · obtain ⟨⟨p, r', hh, _⟩, _⟩ := HTR.out.others (.inl rfl) (.inr ⟨q, s', rfl, HNq.out, k⟩) (.inr (by simp))
          cases hh
      have HK := Lib.hid hk
      subst he
      try dsimp only [hd, List.headD]
      rw [hk]
      clear hk
      obtain ⟨f13, j131, j132, j133, j134⟩ := HTX.out.rd
      have hC13 := impl_next_c w4.heap.size v11 ([]) f13 _ HTX.out.p j131 j132 HTR.out.i.r
      rw [HSr.out] at hC13
      have HC13 := Lib.hid hC13
      have HJ13 := Lib.hid j133
      clear hC13 j131 j132 j133 j134
      go_wp2_with fail
      refine HC13.out.mono ?_
      rintro e' w13 ⟨v13, f', vh13, he, hv, hx, hsl, hm, hw, hst⟩
      obtain ⟨ah13, qh13, rfl⟩ := hv.isSlice
      obtain ⟨_, _, hbb⟩ := hst (by first | trivial | rfl)
      replace HTX : Hid (TX w (w4.heap.size + 2) w4.heap.size (w4.heap.size + 1) v11 v12 vx vy ([]) (q :: s') (X) (Y) w13) := Lib.hid (HTX.out.below hbb)
      have HVH13 := Lib.hid hv
      clear hv hx hsl hm hw hbb HC13 HJ13
      subst he
      try dsimp only [hd, List.headD]
      obtain ⟨f14, j141, j142, j143, j144⟩ := HTX.out.swap.rd
      have hC14 := impl_next_c (w4.heap.size + 1) v12 (q :: s') f14 _ HTX.out.swap.p j141 j142 HTR.out.i.s
      rw [HSs.out] at hC14
      have HC14 := Lib.hid hC14
      have HJ14 := Lib.hid j143
      clear hC14 j141 j142 j143 j144
      go_wp2_with fail
      refine HC14.out.mono ?_
      rintro e' w14 ⟨v14, f', vh14, he, hv, hx, hsl, hm, hw, hst⟩
      obtain ⟨ah14, qh14, rfl⟩ := hv.isSlice
      obtain ⟨_, _, hbb⟩ := hst (by first | trivial | rfl)
      replace HTX : Hid (TX w (w4.heap.size + 2) w4.heap.size (w4.heap.size + 1) v11 v12 vx vy ([]) (q :: s') (X) (Y) w14) := Lib.hid (HTX.out.below hbb)
      have HVH14 := Lib.hid hv
      clear hv hx hsl hm hw hbb HC14 HJ14
      subst he
      try dsimp only [hd, List.headD]
      rw [HK.out]
      obtain ⟨hop, hnp, hcp, hp0, hp2, htr2, hmu2⟩ := HTR.out.putS (.inl rfl) HNq.out HK.out
      have HOq := Lib.hid hop
      have HTR2 := Lib.hid htr2
      have HCP := Lib.hid hcp
      have HLEs : Hid (s'.length ≤ 5000) := Lib.hid (by have h := (HTR.out.rlen HOK.out.1 HOK.out.2.1).2; simp only [List.length_cons] at h; omega)
      have HDEC : Hid (mu (cutR q (nsz q) :: s') < mu (q :: s')) := Lib.hid hmu2
      have hpsl : q.signs.length ≤ 200 := hp2
      clear hop hnp hcp hp0 hp2 htr2 hmu2
      obtain ⟨f15, j151, j152, j153, j154⟩ := HTX.out.swap.rd
      have HJ15 := Lib.hid j153
      have hC15 := (impl_whole_c (w4.heap.size + 1) v12 q s' f15 _ HTX.out.swap.p j151 j152 HOq.out HLEs.out)
      rw [HCP.out] at hC15
      have HC15 := Lib.hid hC15
      clear hC15
      clear j151 j152 j153 j154
      go_wp2_with fail
      refine HC15.out.mono ?_
      rintro e' w15 ⟨v15, f', vs15, fs15, rfl, hv, hx, hsl, hm, hw⟩
      obtain ⟨as15, qs15, rfl⟩ := hv.isS
      have hzo : ∀ {q : Pos}, w14.heap.size ≤ q.1 → ¬ ZP w4.heap.size (w4.heap.size + 1) vx vy q := fun h => HTX.out.zout h
      have hz : ∀ q ∈ f15, ¬ ZP w4.heap.size (w4.heap.size + 1) vx vy q := fun q hq h => HJ15.out q hq h.swap
      have HGq : Hid (∀ q ∈ fs15, ¬ ZP w4.heap.size (w4.heap.size + 1) vx vy q) := Lib.hid (fun q hq => by rcases hm q (by simp [hq]) with h | h; exact hz q h; exact hzo h.1)
      have HVq := Lib.hid hv
      replace HTX : Hid (TX w (w4.heap.size + 2) w4.heap.size (w4.heap.size + 1) v11 v15 vx vy ([]) (cutR q (nsz q) :: s') (X) (Y) w15) := Lib.hid ((HTX.out.swap.stepR HJ15.out hw hx hsl (fun q hq => (hm q (by simp [hq])).imp id (fun h => h.1))).swap)
      clear hv hx hsl hm hw hzo hz HC15 HJ15
      have hB16 : Below w15.heap.size w15 (w15.alloc (.cells #[.int .i64 q.kind, .int .i64 q.n, .slice as15 q.signs.length qs15] 62)) := (Below.refl _ _).alloc (Nat.le_refl _) _
      have HBB16 := Lib.hid hB16
      have hrd16 : GoT.rd BIG (w15.alloc (.cells #[.int .i64 q.kind, .int .i64 q.n, .slice as15 q.signs.length qs15] 62)) [.int .i64 1, .int .i64 q.signs.length, .slice none 0 0] ((⟨1, q.signs.length, []⟩ : DPart)) [] := ⟨_, [], rfl, Sl.nil, rfl⟩
      obtain ⟨gx16, j161, j162, j163, j164, j165⟩ := HTX.out.appX 62 hB16 hrd16 (fun _ h => by cases h)
      have e16 : (w15.alloc (.cells #[.int .i64 q.kind, .int .i64 q.n, .slice as15 q.signs.length qs15] 62)).heap.size = w15.heap.size + 1 := by simp
      rw [e16] at j162
      clear e16
      have H161 := Lib.hid j161
      have H162 := Lib.hid j162
      have H163 := Lib.hid j163
      have H164 := Lib.hid j164
      have H165 := Lib.hid j165
      have HK16 : Hid ((X).length ≤ 2001) := Lib.hid (by have := XLE.out; omega)
      clear hB16 hrd16 j161 j162 j163 j164 j165
      go_wp2_with (at_builtin; go_must (refine wpList_append_row rfl _ _ 29 rfl Tryz.underlying29 hi hz0 hz1 hz2 rfl rfl rfl H161.out H162.out H163.out ?c1 ?c2 ?c3 ?_))
      case c1 => have := HK16.out; exact le_BIG (by simp at this ⊢; omega)
      case c2 => have := HK16.out; simp at this ⊢; omega
      case c3 => exact H164.out
      intro vv16 w16 hr16 hw16 hn16
      
      have hx11 : Bx w16 w15.heap.size [.int .i64 q.kind, .int .i64 q.n, .slice as15 q.signs.length qs15] := ((Bx.new (w := w15) (c := #[.int .i64 q.kind, .int .i64 q.n, .slice as15 q.signs.length qs15]) (t := 62) rfl).alloc _).wr hw16 (fun q hq => by have := (HTX.out.t.x.ge q hq).2; omega)
      obtain ⟨z11, b110, b111, b112⟩ := hx11.o3
      clear hx11
      have hvl : ∀ q' ∈ fs15, q'.1 < w15.heap.size := Live.lt HVq.out.live
      replace HVq := Lib.hid (((HVq.out.belowW ((Below.refl _ _).alloc (Nat.le_refl _) _)).belowW ((Below.refl _ _).alloc (Nat.le_refl _) _)).wr hw16 fun q' hq' hm' => HGq.out q' hq' (.inl hm'))
      replace HGq : Hid (∀ q' ∈ fs15, ¬ ZP w4.heap.size (w4.heap.size + 1) vv16 vy q') := Lib.hid fun q' hq' => zp_keepX (S := w15.heap.size) (fun q hq => (hn16 q.1 q.2 hq).imp_right fun h => by (try simp at h); omega) (HGq.out q' hq') (hvl q' hq')
      clear hvl
      replace HTX : Hid (TX w (w4.heap.size + 2) w4.heap.size (w4.heap.size + 1) v11 v15 vv16 vy ([]) (cutR q (nsz q) :: s') (X ++ [⟨1, q.signs.length, []⟩]) (Y) w16) := Lib.hid (H165.out _ _ (by first | exact hr16 | (rw [List.append_nil]; exact hr16)) hw16 (fun q hq => (hn16 q.1 q.2 hq).imp_right fun h => by first | (simp; omega) | simpa using h))
      clear hr16 hw16 hn16 H161 H162 H163 H164 H165 HK16 HBB16
      have hB17 : Below w16.heap.size w16 w16 := Below.refl _ _
      have HBB17 := Lib.hid hB17
      have hrd17 : GoT.rd BIG w16 [.int .i64 q.kind, .int .i64 q.n, .slice as15 q.signs.length qs15] (q) fs15 := ⟨_, fs15, rfl, HVq.out, rfl⟩
      obtain ⟨gx17, j171, j172, j173, j174, j175⟩ := HTX.out.appY 62 hB17 hrd17 HGq.out
      have H171 := Lib.hid j171
      have H172 := Lib.hid j172
      have H173 := Lib.hid j173
      have H174 := Lib.hid j174
      have H175 := Lib.hid j175
      have HK17 : Hid ((Y).length ≤ 2001) := Lib.hid (by have := YLE.out; omega)
      clear hB17 hrd17 j171 j172 j173 j174 j175
      go_wp2_with (at_builtin; go_must (refine wpList_append_row rfl _ _ 29 rfl Tryz.underlying29 hi hz0 hz1 hz2 rfl rfl rfl H171.out H172.out H173.out ?c1 ?c2 ?c3 ?_))
      case c1 => have := HK17.out; exact le_BIG (by simp at this ⊢; omega)
      case c2 => have := HK17.out; simp at this ⊢; omega
      case c3 => exact H174.out
      intro vv17 w17 hr17 hw17 hn17
      
      replace HTX : Hid (TX w (w4.heap.size + 2) w4.heap.size (w4.heap.size + 1) v11 v15 vv16 vv17 ([]) (cutR q (nsz q) :: s') (X ++ [⟨1, q.signs.length, []⟩]) (Y ++ [q]) w17) := Lib.hid (H175.out _ _ (by first | exact hr17 | (rw [List.append_nil]; exact hr17)) hw17 (fun q hq => (hn17 q.1 q.2 hq).imp_right fun h => by first | (simp; omega) | simpa using h))
      clear hr17 hw17 hn17 H171 H172 H173 H174 H175 HK17 HBB17
      go_wp2_with fail
      go_roundg (mu ([]) + mu (cutR q (nsz q) :: s'))
      case measure => have := HMU.out; have := HDEC.out; omega
      case rel => exact ⟨v11, v15, vv16, vv17, [], cutR q (nsz q) :: s', X ++ [⟨1, q.signs.length, []⟩], Y ++ [q], rfl, rfl, rfl, HTX.out, HTR2.out⟩
    have HNp := Lib.hid (skip_cons HSr.out : nsz p ≠ 0)
    have hk0 : (p.kind == 0) = false := by
      have hall := HTR.out.i.r
      simp only [List.all_cons, Bool.and_eq_true] at hall
      rcases partOk_cases hall.1 with ⟨k, _⟩ | ⟨k, _⟩ | ⟨k, _⟩ <;> simp [k]
    have hk1 : ¬ p.kind = 0 := by simpa using hk0
    have hk3 : (p.kind != 0) = true := by simpa using hk0
    subst he
    try dsimp only [hd, List.headD]
    by_cases kp2 : p.kind = 2
    · have HK := Lib.hid kp2
      rw [kp2]
      clear kp2 hk0 hk1 hk3
      obtain ⟨f12, j121, j122, j123, j124⟩ := HTX.out.rd
      have hC12 := impl_next_c w4.heap.size v11 (p :: r') f12 _ HTX.out.p j121 j122 HTR.out.i.r
      rw [HSr.out] at hC12
      have HC12 := Lib.hid hC12
      have HJ12 := Lib.hid j123
      clear hC12 j121 j122 j123 j124
      go_wp2_with fail
      refine HC12.out.mono ?_
      rintro e' w12 ⟨v12, f', vh12, he, hv, hx, hsl, hm, hw, hst⟩
      obtain ⟨ah12, qh12, rfl⟩ := hv.isSlice
      obtain ⟨_, _, hbb⟩ := hst (by first | trivial | rfl)
      replace HTX : Hid (TX w (w4.heap.size + 2) w4.heap.size (w4.heap.size + 1) v11 vs vx vy (p :: r') (s) (X) (Y) w12) := Lib.hid (HTX.out.below hbb)
      have HVH12 := Lib.hid hv
      clear hv hx hsl hm hw hbb HC12 HJ12
      subst he
      try dsimp only [hd, List.headD]
      rw [HK.out]
      obtain ⟨hop, hnp, hcp, hp0, hp2, htr2, hmu2⟩ := HTR.out.putR HNp.out HK.out
      have HOp := Lib.hid hop
      have HTR2 := Lib.hid htr2
      have HCP := Lib.hid hcp
      have HLEr : Hid (r'.length ≤ 5000) := Lib.hid (by have h := (HTR.out.rlen HOK.out.1 HOK.out.2.1).1; simp only [List.length_cons] at h; omega)
      have HDEC : Hid (mu (cutR p (nsz p) :: r') < mu (p :: r')) := Lib.hid hmu2
      have hpsl : p.signs.length ≤ 200 := hp2
      clear hop hnp hcp hp0 hp2 htr2 hmu2
      obtain ⟨f13, j131, j132, j133, j134⟩ := HTX.out.rd
      have HJ13 := Lib.hid j133
      have hC13 := (impl_whole_c w4.heap.size v11 p r' f13 _ HTX.out.p j131 j132 HOp.out HLEr.out)
      rw [HCP.out] at hC13
      have HC13 := Lib.hid hC13
      clear hC13
      clear j131 j132 j133 j134
      go_wp2_with fail
      refine HC13.out.mono ?_
      rintro e' w13 ⟨v13, f', vs13, fs13, rfl, hv, hx, hsl, hm, hw⟩
      obtain ⟨as13, qs13, rfl⟩ := hv.isS
      have hzo : ∀ {q : Pos}, w12.heap.size ≤ q.1 → ¬ ZP w4.heap.size (w4.heap.size + 1) vx vy q := fun h => HTX.out.zout h
      have hz : ∀ q ∈ f13, ¬ ZP w4.heap.size (w4.heap.size + 1) vx vy q := fun q hq h => HJ13.out q hq h
      have HGp : Hid (∀ q ∈ fs13, ¬ ZP w4.heap.size (w4.heap.size + 1) vx vy q) := Lib.hid (fun q hq => by rcases hm q (by simp [hq]) with h | h; exact hz q h; exact hzo h.1)
      have HVp := Lib.hid hv
      replace HTX : Hid (TX w (w4.heap.size + 2) w4.heap.size (w4.heap.size + 1) v13 vs vx vy (cutR p (nsz p) :: r') (s) (X) (Y) w13) := Lib.hid ((HTX.out.stepR HJ13.out hw hx hsl (fun q hq => (hm q (by simp [hq])).imp id (fun h => h.1))))
      clear hv hx hsl hm hw hzo hz HC13 HJ13
      have hB14 : Below w13.heap.size w13 (w13.alloc (.cells #[.int .i64 p.kind, .int .i64 p.n, .slice as13 p.signs.length qs13] 62)) := (Below.refl _ _).alloc (Nat.le_refl _) _
      have HBB14 := Lib.hid hB14
      have hrd14 : GoT.rd BIG (w13.alloc (.cells #[.int .i64 p.kind, .int .i64 p.n, .slice as13 p.signs.length qs13] 62)) [.int .i64 p.kind, .int .i64 p.n, .slice as13 p.signs.length qs13] (p) fs13 := ⟨_, fs13, rfl, HVp.out.belowW ((Below.refl _ _).alloc (Nat.le_refl _) _), rfl⟩
      obtain ⟨gx14, j141, j142, j143, j144, j145⟩ := HTX.out.appX 62 hB14 hrd14 HGp.out
      have e14 : (w13.alloc (.cells #[.int .i64 p.kind, .int .i64 p.n, .slice as13 p.signs.length qs13] 62)).heap.size = w13.heap.size + 1 := by simp
      rw [e14] at j142
      clear e14
      have H141 := Lib.hid j141
      have H142 := Lib.hid j142
      have H143 := Lib.hid j143
      have H144 := Lib.hid j144
      have H145 := Lib.hid j145
      have HK14 : Hid ((X).length ≤ 2001) := Lib.hid (by have := XLE.out; omega)
      clear hB14 hrd14 j141 j142 j143 j144 j145
      go_wp2_with (at_builtin; go_must (refine wpList_append_row rfl _ _ 29 rfl Tryz.underlying29 hi hz0 hz1 hz2 rfl rfl rfl H141.out H142.out H143.out ?c1 ?c2 ?c3 ?_))
      case c1 => have := HK14.out; exact le_BIG (by simp at this ⊢; omega)
      case c2 => have := HK14.out; simp at this ⊢; omega
      case c3 => exact H144.out
      intro vv14 w14 hr14 hw14 hn14
      
      have hx11 : Bx w14 w13.heap.size [.int .i64 p.kind, .int .i64 p.n, .slice as13 p.signs.length qs13] := ((Bx.new (w := w13) (c := #[.int .i64 p.kind, .int .i64 p.n, .slice as13 p.signs.length qs13]) (t := 62) rfl).alloc _).wr hw14 (fun q hq => by have := (HTX.out.t.x.ge q hq).2; omega)
      obtain ⟨z11, b110, b111, b112⟩ := hx11.o3
      clear hx11
      replace HTX : Hid (TX w (w4.heap.size + 2) w4.heap.size (w4.heap.size + 1) v13 vs vv14 vy (cutR p (nsz p) :: r') (s) (X ++ [p]) (Y) w14) := Lib.hid (H145.out _ _ (by first | exact hr14 | (rw [List.append_nil]; exact hr14)) hw14 (fun q hq => (hn14 q.1 q.2 hq).imp_right fun h => by first | (simp; omega) | simpa using h))
      clear hr14 hw14 hn14 H141 H142 H143 H144 H145 HK14 HBB14
      have hB15 : Below w14.heap.size w14 w14 := Below.refl _ _
      have HBB15 := Lib.hid hB15
      have hrd15 : GoT.rd BIG w14 [.int .i64 1, .int .i64 p.signs.length, .slice none 0 0] ((⟨1, p.signs.length, []⟩ : DPart)) [] := ⟨_, [], rfl, Sl.nil, rfl⟩
      obtain ⟨gx15, j151, j152, j153, j154, j155⟩ := HTX.out.appY 62 hB15 hrd15 (fun _ h => by cases h)
      have H151 := Lib.hid j151
      have H152 := Lib.hid j152
      have H153 := Lib.hid j153
      have H154 := Lib.hid j154
      have H155 := Lib.hid j155
      have HK15 : Hid ((Y).length ≤ 2001) := Lib.hid (by have := YLE.out; omega)
      clear hB15 hrd15 j151 j152 j153 j154 j155
      go_wp2_with (at_builtin; go_must (refine wpList_append_row rfl _ _ 29 rfl Tryz.underlying29 hi hz0 hz1 hz2 rfl rfl rfl H151.out H152.out H153.out ?c1 ?c2 ?c3 ?_))
      case c1 => have := HK15.out; exact le_BIG (by simp at this ⊢; omega)
      case c2 => have := HK15.out; simp at this ⊢; omega
      case c3 => exact H154.out
      intro vv15 w15 hr15 hw15 hn15
      
      replace HTX : Hid (TX w (w4.heap.size + 2) w4.heap.size (w4.heap.size + 1) v13 vs vv14 vv15 (cutR p (nsz p) :: r') (s) (X ++ [p]) (Y ++ [⟨1, p.signs.length, []⟩]) w15) := Lib.hid (H155.out _ _ (by first | exact hr15 | (rw [List.append_nil]; exact hr15)) hw15 (fun q hq => (hn15 q.1 q.2 hq).imp_right fun h => by first | (simp; omega) | simpa using h))
      clear hr15 hw15 hn15 H151 H152 H153 H154 H155 HK15 HBB15
      go_wp2_with fail
      go_roundg (mu (cutR p (nsz p) :: r') + mu (s))
      case measure => have := HMU.out; have := HDEC.out; omega
      case rel => exact ⟨v13, vs, vv14, vv15, cutR p (nsz p) :: r', s, X ++ [p], Y ++ [⟨1, p.signs.length, []⟩], rfl, rfl, rfl, HTX.out, HTR2.out⟩
    have HKP := Lib.hid kp2
    have k2b : (p.kind == 2) = false := by simpa using kp2
    have k2c : ¬ p.kind = 2 := kp2
    clear kp2
    obtain ⟨f12, j121, j122, j123, j124⟩ := HTX.out.rd
    have hC12 := impl_next_c w4.heap.size v11 (p :: r') f12 _ HTX.out.p j121 j122 HTR.out.i.r
    rw [HSr.out] at hC12
    have HC12 := Lib.hid hC12
    have HJ12 := Lib.hid j123
    clear hC12 j121 j122 j123 j124
    go_wp2_with fail
    refine HC12.out.mono ?_
    rintro e' w12 ⟨v12, f', vh12, he, hv, hx, hsl, hm, hw, hst⟩
    obtain ⟨ah12, qh12, rfl⟩ := hv.isSlice
    obtain ⟨_, _, hbb⟩ := hst (by first | trivial | rfl)
    replace HTX : Hid (TX w (w4.heap.size + 2) w4.heap.size (w4.heap.size + 1) v11 vs vx vy (p :: r') (s) (X) (Y) w12) := Lib.hid (HTX.out.below hbb)
    have HVH12 := Lib.hid hv
    clear hv hx hsl hm hw hbb HC12 HJ12
    subst he
    try dsimp only [hd, List.headD]
    obtain ⟨f13, j131, j132, j133, j134⟩ := HTX.out.swap.rd
    have hC13 := impl_next_c (w4.heap.size + 1) vs (s) f13 _ HTX.out.swap.p j131 j132 HTR.out.i.s
    have HC13 := Lib.hid hC13
    have HJ13 := Lib.hid j133
    clear hC13 j131 j132 j133 j134
    go_wp2_with fail
    refine HC13.out.mono ?_
    rintro e' w13 ⟨v13, f', vh13, he, hv, hx, hsl, hm, hw, hst⟩
    obtain ⟨ah13, qh13, rfl⟩ := hv.isSlice
    obtain ⟨s13, hs13⟩ : ∃ z, z = skip (s) := ⟨_, rfl⟩
    rw [← hs13] at he hv hsl
    have HSs : Hid (skip s13 = s13) := Lib.hid (by rw [hs13, skip_idem])
    have hmu := skip_mu (s)
    rw [← hs13] at hmu
    replace HTX : Hid (TX w (w4.heap.size + 2) w4.heap.size (w4.heap.size + 1) v11 v13 vx vy (p :: r') (s13) (X) (Y) w13) := Lib.hid ((HTX.out.swap.stepR HJ13.out hw hx hsl (fun q hq => .inl (hm q hq))).swap)
    replace HTR : Hid (TR a b (p :: r') (s13) (X) (Y)) := Lib.hid (by rw [hs13]; exact HTR.out.skipS)
    replace HMU : Hid (mu (p :: r') + mu (s13) ≤ mu r + mu s) := Lib.hid (by have h1 := HMU.out; omega)
    clear hx hsl hm hw hst hmu hs13 HC13 HJ13 hv
    rcases s13 with _ | ⟨q, s'⟩
    · obtain ⟨_, q, s', hh, _⟩ := HTR.out.others (.inr ⟨p, r', rfl, HNp.out, HKP.out⟩) (.inl rfl) (.inl (by simp))
      cases hh
    have HNq := Lib.hid (skip_cons HSs.out : nsz q ≠ 0)
    subst he
    try dsimp only [hd, List.headD]
    by_cases kq2 : q.kind = 2
    · have HK := Lib.hid kq2
      rw [kq2]
      clear kq2
      obtain ⟨hop, hnp, hcp, hp0, hp2, htr2, hmu2⟩ := HTR.out.putS (.inr ⟨p, r', rfl, HNp.out, HKP.out⟩) HNq.out HK.out
      have HOq := Lib.hid hop
      have HTR2 := Lib.hid htr2
      have HCP := Lib.hid hcp
      have HLEs : Hid (s'.length ≤ 5000) := Lib.hid (by have h := (HTR.out.rlen HOK.out.1 HOK.out.2.1).2; simp only [List.length_cons] at h; omega)
      have HDEC : Hid (mu (cutR q (nsz q) :: s') < mu (q :: s')) := Lib.hid hmu2
      have hpsl : q.signs.length ≤ 200 := hp2
      clear hop hnp hcp hp0 hp2 htr2 hmu2
      obtain ⟨f14, j141, j142, j143, j144⟩ := HTX.out.swap.rd
      have HJ14 := Lib.hid j143
      have hC14 := (impl_whole_c (w4.heap.size + 1) v13 q s' f14 _ HTX.out.swap.p j141 j142 HOq.out HLEs.out)
      rw [HCP.out] at hC14
      have HC14 := Lib.hid hC14
      clear hC14
      clear j141 j142 j143 j144
      go_wp2_with fail
      refine HC14.out.mono ?_
      rintro e' w14 ⟨v14, f', vs14, fs14, rfl, hv, hx, hsl, hm, hw⟩
      obtain ⟨as14, qs14, rfl⟩ := hv.isS
      have hzo : ∀ {q : Pos}, w13.heap.size ≤ q.1 → ¬ ZP w4.heap.size (w4.heap.size + 1) vx vy q := fun h => HTX.out.zout h
      have hz : ∀ q ∈ f14, ¬ ZP w4.heap.size (w4.heap.size + 1) vx vy q := fun q hq h => HJ14.out q hq h.swap
      have HGq : Hid (∀ q ∈ fs14, ¬ ZP w4.heap.size (w4.heap.size + 1) vx vy q) := Lib.hid (fun q hq => by rcases hm q (by simp [hq]) with h | h; exact hz q h; exact hzo h.1)
      have HVq := Lib.hid hv
      replace HTX : Hid (TX w (w4.heap.size + 2) w4.heap.size (w4.heap.size + 1) v11 v14 vx vy (p :: r') (cutR q (nsz q) :: s') (X) (Y) w14) := Lib.hid ((HTX.out.swap.stepR HJ14.out hw hx hsl (fun q hq => (hm q (by simp [hq])).imp id (fun h => h.1))).swap)
      clear hv hx hsl hm hw hzo hz HC14 HJ14
      have hB15 : Below w14.heap.size w14 (w14.alloc (.cells #[.int .i64 q.kind, .int .i64 q.n, .slice as14 q.signs.length qs14] 62)) := (Below.refl _ _).alloc (Nat.le_refl _) _
      have HBB15 := Lib.hid hB15
      have hrd15 : GoT.rd BIG (w14.alloc (.cells #[.int .i64 q.kind, .int .i64 q.n, .slice as14 q.signs.length qs14] 62)) [.int .i64 1, .int .i64 q.signs.length, .slice none 0 0] ((⟨1, q.signs.length, []⟩ : DPart)) [] := ⟨_, [], rfl, Sl.nil, rfl⟩
      obtain ⟨gx15, j151, j152, j153, j154, j155⟩ := HTX.out.appX 62 hB15 hrd15 (fun _ h => by cases h)
      have e15 : (w14.alloc (.cells #[.int .i64 q.kind, .int .i64 q.n, .slice as14 q.signs.length qs14] 62)).heap.size = w14.heap.size + 1 := by simp
      rw [e15] at j152
      clear e15
      have H151 := Lib.hid j151
      have H152 := Lib.hid j152
      have H153 := Lib.hid j153
      have H154 := Lib.hid j154
      have H155 := Lib.hid j155
      have HK15 : Hid ((X).length ≤ 2001) := Lib.hid (by have := XLE.out; omega)
      clear hB15 hrd15 j151 j152 j153 j154 j155
      go_wp2_with (at_builtin; go_must (refine wpList_append_row rfl _ _ 29 rfl Tryz.underlying29 hi hz0 hz1 hz2 rfl rfl rfl H151.out H152.out H153.out ?c1 ?c2 ?c3 ?_))
      case c1 => have := HK15.out; exact le_BIG (by simp at this ⊢; omega)
      case c2 => have := HK15.out; simp at this ⊢; omega
      case c3 => exact H154.out
      intro vv15 w15 hr15 hw15 hn15
      
      have hx11 : Bx w15 w14.heap.size [.int .i64 q.kind, .int .i64 q.n, .slice as14 q.signs.length qs14] := ((Bx.new (w := w14) (c := #[.int .i64 q.kind, .int .i64 q.n, .slice as14 q.signs.length qs14]) (t := 62) rfl).alloc _).wr hw15 (fun q hq => by have := (HTX.out.t.x.ge q hq).2; omega)
      obtain ⟨z11, b110, b111, b112⟩ := hx11.o3
      clear hx11
      have hvl : ∀ q' ∈ fs14, q'.1 < w14.heap.size := Live.lt HVq.out.live
      replace HVq := Lib.hid (((HVq.out.belowW ((Below.refl _ _).alloc (Nat.le_refl _) _)).belowW ((Below.refl _ _).alloc (Nat.le_refl _) _)).wr hw15 fun q' hq' hm' => HGq.out q' hq' (.inl hm'))
      replace HGq : Hid (∀ q' ∈ fs14, ¬ ZP w4.heap.size (w4.heap.size + 1) vv15 vy q') := Lib.hid fun q' hq' => zp_keepX (S := w14.heap.size) (fun q hq => (hn15 q.1 q.2 hq).imp_right fun h => by (try simp at h); omega) (HGq.out q' hq') (hvl q' hq')
      clear hvl
      replace HTX : Hid (TX w (w4.heap.size + 2) w4.heap.size (w4.heap.size + 1) v11 v14 vv15 vy (p :: r') (cutR q (nsz q) :: s') (X ++ [⟨1, q.signs.length, []⟩]) (Y) w15) := Lib.hid (H155.out _ _ (by first | exact hr15 | (rw [List.append_nil]; exact hr15)) hw15 (fun q hq => (hn15 q.1 q.2 hq).imp_right fun h => by first | (simp; omega) | simpa using h))
      clear hr15 hw15 hn15 H151 H152 H153 H154 H155 HK15 HBB15
      have hB16 : Below w15.heap.size w15 w15 := Below.refl _ _
      have HBB16 := Lib.hid hB16
      have hrd16 : GoT.rd BIG w15 [.int .i64 q.kind, .int .i64 q.n, .slice as14 q.signs.length qs14] (q) fs14 := ⟨_, fs14, rfl, HVq.out, rfl⟩
      obtain ⟨gx16, j161, j162, j163, j164, j165⟩ := HTX.out.appY 62 hB16 hrd16 HGq.out
      have H161 := Lib.hid j161
      have H162 := Lib.hid j162
      have H163 := Lib.hid j163
      have H164 := Lib.hid j164
      have H165 := Lib.hid j165
      have HK16 : Hid ((Y).length ≤ 2001) := Lib.hid (by have := YLE.out; omega)
      clear hB16 hrd16 j161 j162 j163 j164 j165
      go_wp2_with (at_builtin; go_must (refine wpList_append_row rfl _ _ 29 rfl Tryz.underlying29 hi hz0 hz1 hz2 rfl rfl rfl H161.out H162.out H163.out ?c1 ?c2 ?c3 ?_))
      case c1 => have := HK16.out; exact le_BIG (by simp at this ⊢; omega)
      case c2 => have := HK16.out; simp at this ⊢; omega
      case c3 => exact H164.out
      intro vv16 w16 hr16 hw16 hn16
      
      replace HTX : Hid (TX w (w4.heap.size + 2) w4.heap.size (w4.heap.size + 1) v11 v14 vv15 vv16 (p :: r') (cutR q (nsz q) :: s') (X ++ [⟨1, q.signs.length, []⟩]) (Y ++ [q]) w16) := Lib.hid (H165.out _ _ (by first | exact hr16 | (rw [List.append_nil]; exact hr16)) hw16 (fun q hq => (hn16 q.1 q.2 hq).imp_right fun h => by first | (simp; omega) | simpa using h))
      clear hr16 hw16 hn16 H161 H162 H163 H164 H165 HK16 HBB16
      go_wp2_with fail
      go_roundg (mu (p :: r') + mu (cutR q (nsz q) :: s'))
      case measure => have := HMU.out; have := HDEC.out; omega
      case rel => exact ⟨v11, v14, vv15, vv16, p :: r', cutR q (nsz q) :: s', X ++ [⟨1, q.signs.length, []⟩], Y ++ [q], rfl, rfl, rfl, HTX.out, HTR2.out⟩
    have HKQ := Lib.hid kq2
    have q2b : (q.kind == 2) = false := by simpa using kq2
    have q2c : ¬ q.kind = 2 := kq2
    obtain ⟨hop, hoq, hkp, hkq, hnp, hnq, hps, hqs, hp200, hq200, htr2, hm1, hm2⟩ := HTR.out.both HNp.out HNq.out HKP.out HKQ.out
    obtain ⟨n, hn⟩ : ∃ n : Nat, n = min (nsz p) (nsz q) := ⟨_, rfl⟩
    rw [← hn] at htr2 hm1 hm2
    have HOp := Lib.hid hop
    have HOq := Lib.hid hoq
    have HMIN : Hid (min (nsz p : Int) (nsz q : Int) = n) := Lib.hid (by omega)
    have hnb : n ≤ 200 := by omega
    have HNp1 : Hid (n ≤ nsz p) := Lib.hid (by omega)
    have HNq1 : Hid (n ≤ nsz q) := Lib.hid (by omega)
    have HTR2 := Lib.hid htr2
    have HDEC : Hid (mu (cutR p n :: r') + mu (cutR q n :: s') < mu (p :: r') + mu (q :: s')) := Lib.hid (by omega)
    have HLEr : Hid (r'.length ≤ 5000) := Lib.hid (by have h := (HTR.out.rlen HOK.out.1 HOK.out.2.1).1; simp only [List.length_cons] at h; omega)
    have HLEs : Hid (s'.length ≤ 5000) := Lib.hid (by have h := (HTR.out.rlen HOK.out.1 HOK.out.2.1).2; simp only [List.length_cons] at h; omega)
    have HBDp := Lib.hid (nsz_bd hop)
    have HBDq := Lib.hid (nsz_bd hoq)
    have HZp := Lib.hid (nsz_eq hop)
    have HZq := Lib.hid (nsz_eq hoq)
    clear htr2 hm1 hm2 kq2 hnp hnq hps hqs hop hoq hn
    go_upto_region 6 with (fail)
    go_cut [13] from 37 to 109 (fun z wx => z = .int .i64 n ∧ TX w (w4.heap.size + 2) w4.heap.size (w4.heap.size + 1) v11 v13 vx vy (p :: r') (q :: s') (X) (Y) wx)
    case first =>
      obtain ⟨f14, j141, j142, j143, j144⟩ := HTX.out.rd
      have hC14 := impl_next_c w4.heap.size v11 (p :: r') f14 _ HTX.out.p j141 j142 HTR.out.i.r
      rw [HSr.out] at hC14
      have HC14 := Lib.hid hC14
      have HJ14 := Lib.hid j143
      clear hC14 j141 j142 j143 j144
      go_wp2_with fail
      refine HC14.out.mono ?_
      rintro e' w14 ⟨v14, f', vh14, he, hv, hx, hsl, hm, hw, hst⟩
      obtain ⟨ah14, qh14, rfl⟩ := hv.isSlice
      obtain ⟨_, _, hbb⟩ := hst (by first | trivial | rfl)
      replace HTX : Hid (TX w (w4.heap.size + 2) w4.heap.size (w4.heap.size + 1) v11 v13 vx vy (p :: r') (q :: s') (X) (Y) w14) := Lib.hid (HTX.out.below hbb)
      have HVH14 := Lib.hid hv
      clear hv hx hsl hm hw hbb HC14 HJ14
      subst he
      try dsimp only [hd, List.headD]
      go_wp2_with fail
      refine (impl_size_c p _ _ HBDp.out.1 HBDp.out.2.1 HBDp.out.2.2 HVH14.out).mono ?_
      rintro e' w15 ⟨rfl, hbb⟩
      rw [← HZp.out]
      replace HTX : Hid (TX w (w4.heap.size + 2) w4.heap.size (w4.heap.size + 1) v11 v13 vx vy (p :: r') (q :: s') (X) (Y) w15) := Lib.hid (HTX.out.below hbb)
      clear hbb
      obtain ⟨f16, j161, j162, j163, j164⟩ := HTX.out.swap.rd
      have hC16 := impl_next_c (w4.heap.size + 1) v13 (q :: s') f16 _ HTX.out.swap.p j161 j162 HTR.out.i.s
      rw [HSs.out] at hC16
      have HC16 := Lib.hid hC16
      have HJ16 := Lib.hid j163
      clear hC16 j161 j162 j163 j164
      go_wp2_with fail
      refine HC16.out.mono ?_
      rintro e' w16 ⟨v16, f', vh16, he, hv, hx, hsl, hm, hw, hst⟩
      obtain ⟨ah16, qh16, rfl⟩ := hv.isSlice
      obtain ⟨_, _, hbb⟩ := hst (by first | trivial | rfl)
      replace HTX : Hid (TX w (w4.heap.size + 2) w4.heap.size (w4.heap.size + 1) v11 v13 vx vy (p :: r') (q :: s') (X) (Y) w16) := Lib.hid (HTX.out.below hbb)
      have HVH16 := Lib.hid hv
      clear hv hx hsl hm hw hbb HC16 HJ16
      subst he
      try dsimp only [hd, List.headD]
      go_wp2_with fail
      refine (impl_size_c q _ _ HBDq.out.1 HBDq.out.2.1 HBDq.out.2.2 HVH16.out).mono ?_
      rintro e' w17 ⟨rfl, hbb⟩
      rw [← HZq.out]
      replace HTX : Hid (TX w (w4.heap.size + 2) w4.heap.size (w4.heap.size + 1) v11 v13 vx vy (p :: r') (q :: s') (X) (Y) w17) := Lib.hid (HTX.out.below hbb)
      clear hbb
      go_wp2_with fail
      all_goals
        go_meet
        exact ⟨by have := HMIN.out; first | rfl | (congr 1; omega), HTX.out⟩
    case rest =>
      obtain ⟨w18, rfl⟩ : ∃ wq : World, wq = wc := ⟨_, rfl⟩
      obtain ⟨rfl, htx2⟩ := hcut
      replace HTX := Lib.hid htx2
      clear htx2
      
      rcases hkp with kp1 | kp1
      · rcases hkq with kq1 | kq1
        · have HKp := Lib.hid kp1
          have HKq := Lib.hid kq1
          have hpb : (p.kind == 1) = true := by simp [kp1]
          have hqb : (q.kind == 1) = true := by simp [kq1]
          clear kp1 kq1
          obtain ⟨f19, j191, j192, j193, j194⟩ := HTX.out.rd
          have HJ19 := Lib.hid j193
          have hC19 := (impl_take_c w4.heap.size n v11 p r' f19 _ HTX.out.p j191 j192 HOp.out HNp1.out HLEr.out)
          rw [cutL_nk n HKP.out] at hC19
          have HC19 := Lib.hid hC19
          clear hC19
          clear j191 j192 j193 j194
          go_wp2_with fail
          refine HC19.out.mono ?_
          rintro e' w19 ⟨v19, f', vs19, fs19, rfl, hv, hx, hsl, hm, hw⟩
          obtain ⟨as19, qs19, rfl⟩ := hv.isS
          have hzo : ∀ {q : Pos}, w18.heap.size ≤ q.1 → ¬ ZP w4.heap.size (w4.heap.size + 1) vx vy q := fun h => HTX.out.zout h
          have hz : ∀ q ∈ f19, ¬ ZP w4.heap.size (w4.heap.size + 1) vx vy q := fun q hq h => HJ19.out q hq h
          have HGp : Hid (∀ q ∈ fs19, ¬ ZP w4.heap.size (w4.heap.size + 1) vx vy q) := Lib.hid (fun q hq => by rcases hm q (by simp [hq]) with h | h; exact hz q h; exact hzo h)
          have HVp := Lib.hid hv
          replace HTX : Hid (TX w (w4.heap.size + 2) w4.heap.size (w4.heap.size + 1) v19 v13 vx vy (cutR p n :: r') (q :: s') (X) (Y) w19) := Lib.hid ((HTX.out.stepR HJ19.out hw hx hsl (fun q hq => hm q (by simp [hq]))))
          clear hv hx hsl hm hw hzo hz HC19 HJ19
          obtain ⟨f20, j201, j202, j203, j204⟩ := HTX.out.swap.rd
          have HJ20 := Lib.hid j203
          have hC20 := (impl_take_c (w4.heap.size + 1) n v13 q s' f20 _ HTX.out.swap.p j201 j202 HOq.out HNq1.out HLEs.out)
          rw [cutL_nk n HKQ.out] at hC20
          have HC20 := Lib.hid hC20
          clear hC20
          clear j201 j202 j203 j204
          go_wp2_with fail
          refine HC20.out.mono ?_
          rintro e' w20 ⟨v20, f', vs20, fs20, rfl, hv, hx, hsl, hm, hw⟩
          obtain ⟨as20, qs20, rfl⟩ := hv.isS
          have hzo : ∀ {q : Pos}, w19.heap.size ≤ q.1 → ¬ ZP w4.heap.size (w4.heap.size + 1) vx vy q := fun h => HTX.out.zout h
          have hz : ∀ q ∈ f20, ¬ ZP w4.heap.size (w4.heap.size + 1) vx vy q := fun q hq h => HJ20.out q hq h.swap
          have HGq : Hid (∀ q ∈ fs20, ¬ ZP w4.heap.size (w4.heap.size + 1) vx vy q) := Lib.hid (fun q hq => by rcases hm q (by simp [hq]) with h | h; exact hz q h; exact hzo h)
          have HVq := Lib.hid hv
          replace HVp := Lib.hid (HVp.out.wr hw fun q' hq' hm' => HGp.out q' hq' (by simp only [List.mem_singleton] at hm'; rw [hm']; exact .inr (.inr (.inr rfl))))
          replace HTX : Hid (TX w (w4.heap.size + 2) w4.heap.size (w4.heap.size + 1) v19 v20 vx vy (cutR p n :: r') (cutR q n :: s') (X) (Y) w20) := Lib.hid ((HTX.out.swap.stepR HJ20.out hw hx hsl (fun q hq => hm q (by simp [hq]))).swap)
          clear hv hx hsl hm hw hzo hz HC20 HJ20
          have hB21 : Below w20.heap.size w20 ((w20.alloc (.cells #[.int .i64 p.kind, .int .i64 n, .slice as19 p.signs.length qs19] 62)).alloc (.cells #[.int .i64 q.kind, .int .i64 n, .slice as20 q.signs.length qs20] 62)) := ((Below.refl _ _).alloc (Nat.le_refl _) _).alloc (by simp) _
          have HBB21 := Lib.hid hB21
          have hrd21 : GoT.rd BIG ((w20.alloc (.cells #[.int .i64 p.kind, .int .i64 n, .slice as19 p.signs.length qs19] 62)).alloc (.cells #[.int .i64 q.kind, .int .i64 n, .slice as20 q.signs.length qs20] 62)) [.int .i64 p.kind, .int .i64 n, .slice as19 p.signs.length qs19] ((⟨p.kind, n, p.signs⟩ : DPart)) fs19 := ⟨_, fs19, rfl, HVp.out.belowW (((Below.refl _ _).alloc (Nat.le_refl _) _).alloc (by simp) _), rfl⟩
          obtain ⟨gx21, j211, j212, j213, j214, j215⟩ := HTX.out.appX 62 hB21 hrd21 HGp.out
          have e21 : ((w20.alloc (.cells #[.int .i64 p.kind, .int .i64 n, .slice as19 p.signs.length qs19] 62)).alloc (.cells #[.int .i64 q.kind, .int .i64 n, .slice as20 q.signs.length qs20] 62)).heap.size = w20.heap.size + 2 := by simp
          rw [e21] at j212
          clear e21
          have H211 := Lib.hid j211
          have H212 := Lib.hid j212
          have H213 := Lib.hid j213
          have H214 := Lib.hid j214
          have H215 := Lib.hid j215
          have HK21 : Hid ((X).length ≤ 2001) := Lib.hid (by have := XLE.out; omega)
          clear hB21 hrd21 j211 j212 j213 j214 j215
          go_wp2_with (at_builtin; go_must (refine wpList_append_row rfl _ _ 29 rfl Tryz.underlying29 hi hz0 hz1 hz2 rfl rfl rfl H211.out H212.out H213.out ?c1 ?c2 ?c3 ?_))
          case c1 => have := HK21.out; exact le_BIG (by simp at this ⊢; omega)
          case c2 => have := HK21.out; simp at this ⊢; omega
          case c3 => exact H214.out
          intro vv21 w21 hr21 hw21 hn21
          
          have hx14 : Bx w21 w20.heap.size [.int .i64 p.kind, .int .i64 n, .slice as19 p.signs.length qs19] := (((Bx.new (w := w20) (c := #[.int .i64 p.kind, .int .i64 n, .slice as19 p.signs.length qs19]) (t := 62) rfl).alloc _).alloc _).wr hw21 (fun q hq => by have := (HTX.out.t.x.ge q hq).2; omega)
          have hx15 : Bx w21 (w20.heap.size + 1) [.int .i64 q.kind, .int .i64 n, .slice as20 q.signs.length qs20] := ((Bx.new (w := w20.alloc (.cells #[.int .i64 p.kind, .int .i64 n, .slice as19 p.signs.length qs19] 62)) (c := #[.int .i64 q.kind, .int .i64 n, .slice as20 q.signs.length qs20]) (t := 62) (by simp)).alloc _).wr hw21 (fun q hq => by have := (HTX.out.t.x.ge q hq).2; omega)
          obtain ⟨z14, b140, b141, b142⟩ := hx14.o3
          obtain ⟨z15, b150, b151, b152⟩ := hx15.o3
          clear hx14 hx15
          have hvl : ∀ q' ∈ fs20, q'.1 < w20.heap.size := Live.lt HVq.out.live
          replace HVq := Lib.hid (((HVq.out.belowW (((Below.refl _ _).alloc (Nat.le_refl _) _).alloc (by simp) _)).belowW ((Below.refl _ _).alloc (Nat.le_refl _) _)).wr hw21 fun q' hq' hm' => HGq.out q' hq' (.inl hm'))
          replace HGq : Hid (∀ q' ∈ fs20, ¬ ZP w4.heap.size (w4.heap.size + 1) vv21 vy q') := Lib.hid fun q' hq' => zp_keepX (S := w20.heap.size) (fun q hq => (hn21 q.1 q.2 hq).imp_right fun h => by (try simp at h); omega) (HGq.out q' hq') (hvl q' hq')
          clear hvl
          replace HTX : Hid (TX w (w4.heap.size + 2) w4.heap.size (w4.heap.size + 1) v19 v20 vv21 vy (cutR p n :: r') (cutR q n :: s') (X ++ [⟨p.kind, n, p.signs⟩]) (Y) w21) := Lib.hid (H215.out _ _ (by first | exact hr21 | (rw [List.append_nil]; exact hr21)) hw21 (fun q hq => (hn21 q.1 q.2 hq).imp_right fun h => by first | (simp; omega) | simpa using h))
          clear hr21 hw21 hn21 H211 H212 H213 H214 H215 HK21 HBB21
          have hB22 : Below w21.heap.size w21 w21 := Below.refl _ _
          have HBB22 := Lib.hid hB22
          have hrd22 : GoT.rd BIG w21 [.int .i64 q.kind, .int .i64 n, .slice as20 q.signs.length qs20] ((⟨q.kind, n, q.signs⟩ : DPart)) fs20 := ⟨_, fs20, rfl, HVq.out, rfl⟩
          obtain ⟨gx22, j221, j222, j223, j224, j225⟩ := HTX.out.appY 62 hB22 hrd22 HGq.out
          have H221 := Lib.hid j221
          have H222 := Lib.hid j222
          have H223 := Lib.hid j223
          have H224 := Lib.hid j224
          have H225 := Lib.hid j225
          have HK22 : Hid ((Y).length ≤ 2001) := Lib.hid (by have := YLE.out; omega)
          clear hB22 hrd22 j221 j222 j223 j224 j225
          go_wp2_with (at_builtin; go_must (refine wpList_append_row rfl _ _ 29 rfl Tryz.underlying29 hi hz0 hz1 hz2 rfl rfl rfl H221.out H222.out H223.out ?c1 ?c2 ?c3 ?_))
          case c1 => have := HK22.out; exact le_BIG (by simp at this ⊢; omega)
          case c2 => have := HK22.out; simp at this ⊢; omega
          case c3 => exact H224.out
          intro vv22 w22 hr22 hw22 hn22
          
          replace HTX : Hid (TX w (w4.heap.size + 2) w4.heap.size (w4.heap.size + 1) v19 v20 vv21 vv22 (cutR p n :: r') (cutR q n :: s') (X ++ [⟨p.kind, n, p.signs⟩]) (Y ++ [⟨q.kind, n, q.signs⟩]) w22) := Lib.hid (H225.out _ _ (by first | exact hr22 | (rw [List.append_nil]; exact hr22)) hw22 (fun q hq => (hn22 q.1 q.2 hq).imp_right fun h => by first | (simp; omega) | simpa using h))
          clear hr22 hw22 hn22 H221 H222 H223 H224 H225 HK22 HBB22
          go_wp2_with fail
          have ex : (if q.kind = 1 then [cutL p n] else []) = [⟨p.kind, n, p.signs⟩] := by rw [if_pos HKq.out, cutL_nk n HKP.out]
          have ey : (if p.kind = 1 then [cutL q n] else []) = [⟨q.kind, n, q.signs⟩] := by rw [if_pos HKp.out, cutL_nk n HKQ.out]
          have htr3 := HTR2.out
          rw [ex, ey] at htr3
          go_roundg (mu (cutR p n :: r') + mu (cutR q n :: s'))
          case measure => have := HMU.out; have := HDEC.out; omega
          case rel => exact ⟨v19, v20, vv21, vv22, cutR p n :: r', cutR q n :: s', X ++ [⟨p.kind, n, p.signs⟩], Y ++ [⟨q.kind, n, q.signs⟩], rfl, rfl, rfl, HTX.out, htr3⟩
        · have HKp := Lib.hid kp1
          have HKq := Lib.hid kq1
          have hpb : (p.kind == 1) = true := by simp [kp1]
          have hqb : (q.kind == 1) = false := by simp [kq1]
          clear kp1 kq1
          obtain ⟨f19, j191, j192, j193, j194⟩ := HTX.out.rd
          have HJ19 := Lib.hid j193
          have hC19 := (impl_take_c w4.heap.size n v11 p r' f19 _ HTX.out.p j191 j192 HOp.out HNp1.out HLEr.out)
          rw [cutL_nk n HKP.out] at hC19
          have HC19 := Lib.hid hC19
          clear hC19
          clear j191 j192 j193 j194
          go_wp2_with fail
          refine HC19.out.mono ?_
          rintro e' w19 ⟨v19, f', vs19, fs19, rfl, hv, hx, hsl, hm, hw⟩
          obtain ⟨as19, qs19, rfl⟩ := hv.isS
          have hzo : ∀ {q : Pos}, w18.heap.size ≤ q.1 → ¬ ZP w4.heap.size (w4.heap.size + 1) vx vy q := fun h => HTX.out.zout h
          have hz : ∀ q ∈ f19, ¬ ZP w4.heap.size (w4.heap.size + 1) vx vy q := fun q hq h => HJ19.out q hq h
          have HGp : Hid (∀ q ∈ fs19, ¬ ZP w4.heap.size (w4.heap.size + 1) vx vy q) := Lib.hid (fun q hq => by rcases hm q (by simp [hq]) with h | h; exact hz q h; exact hzo h)
          have HVp := Lib.hid hv
          replace HTX : Hid (TX w (w4.heap.size + 2) w4.heap.size (w4.heap.size + 1) v19 v13 vx vy (cutR p n :: r') (q :: s') (X) (Y) w19) := Lib.hid ((HTX.out.stepR HJ19.out hw hx hsl (fun q hq => hm q (by simp [hq]))))
          clear hv hx hsl hm hw hzo hz HC19 HJ19
          obtain ⟨f20, j201, j202, j203, j204⟩ := HTX.out.swap.rd
          have HJ20 := Lib.hid j203
          have hC20 := (impl_take_c (w4.heap.size + 1) n v13 q s' f20 _ HTX.out.swap.p j201 j202 HOq.out HNq1.out HLEs.out)
          rw [cutL_nk n HKQ.out] at hC20
          have HC20 := Lib.hid hC20
          clear hC20
          clear j201 j202 j203 j204
          go_wp2_with fail
          refine HC20.out.mono ?_
          rintro e' w20 ⟨v20, f', vs20, fs20, rfl, hv, hx, hsl, hm, hw⟩
          obtain ⟨as20, qs20, rfl⟩ := hv.isS
          have hzo : ∀ {q : Pos}, w19.heap.size ≤ q.1 → ¬ ZP w4.heap.size (w4.heap.size + 1) vx vy q := fun h => HTX.out.zout h
          have hz : ∀ q ∈ f20, ¬ ZP w4.heap.size (w4.heap.size + 1) vx vy q := fun q hq h => HJ20.out q hq h.swap
          have HGq : Hid (∀ q ∈ fs20, ¬ ZP w4.heap.size (w4.heap.size + 1) vx vy q) := Lib.hid (fun q hq => by rcases hm q (by simp [hq]) with h | h; exact hz q h; exact hzo h)
          have HVq := Lib.hid hv
          replace HVp := Lib.hid (HVp.out.wr hw fun q' hq' hm' => HGp.out q' hq' (by simp only [List.mem_singleton] at hm'; rw [hm']; exact .inr (.inr (.inr rfl))))
          replace HTX : Hid (TX w (w4.heap.size + 2) w4.heap.size (w4.heap.size + 1) v19 v20 vx vy (cutR p n :: r') (cutR q n :: s') (X) (Y) w20) := Lib.hid ((HTX.out.swap.stepR HJ20.out hw hx hsl (fun q hq => hm q (by simp [hq]))).swap)
          clear hv hx hsl hm hw hzo hz HC20 HJ20
          have hB21 : Below w20.heap.size w20 ((w20.alloc (.cells #[.int .i64 p.kind, .int .i64 n, .slice as19 p.signs.length qs19] 62)).alloc (.cells #[.int .i64 q.kind, .int .i64 n, .slice as20 q.signs.length qs20] 62)) := ((Below.refl _ _).alloc (Nat.le_refl _) _).alloc (by simp) _
          have HBB21 := Lib.hid hB21
          have hrd21 : GoT.rd BIG ((w20.alloc (.cells #[.int .i64 p.kind, .int .i64 n, .slice as19 p.signs.length qs19] 62)).alloc (.cells #[.int .i64 q.kind, .int .i64 n, .slice as20 q.signs.length qs20] 62)) [.int .i64 q.kind, .int .i64 n, .slice as20 q.signs.length qs20] ((⟨q.kind, n, q.signs⟩ : DPart)) fs20 := ⟨_, fs20, rfl, HVq.out.belowW (((Below.refl _ _).alloc (Nat.le_refl _) _).alloc (by simp) _), rfl⟩
          obtain ⟨gx21, j211, j212, j213, j214, j215⟩ := HTX.out.appY 62 hB21 hrd21 HGq.out
          have e21 : ((w20.alloc (.cells #[.int .i64 p.kind, .int .i64 n, .slice as19 p.signs.length qs19] 62)).alloc (.cells #[.int .i64 q.kind, .int .i64 n, .slice as20 q.signs.length qs20] 62)).heap.size = w20.heap.size + 2 := by simp
          rw [e21] at j212
          clear e21
          have H211 := Lib.hid j211
          have H212 := Lib.hid j212
          have H213 := Lib.hid j213
          have H214 := Lib.hid j214
          have H215 := Lib.hid j215
          have HK21 : Hid ((Y).length ≤ 2001) := Lib.hid (by have := YLE.out; omega)
          clear hB21 hrd21 j211 j212 j213 j214 j215
          go_wp2_with (at_builtin; go_must (refine wpList_append_row rfl _ _ 29 rfl Tryz.underlying29 hi hz0 hz1 hz2 rfl rfl rfl H211.out H212.out H213.out ?c1 ?c2 ?c3 ?_))
          case c1 => have := HK21.out; exact le_BIG (by simp at this ⊢; omega)
          case c2 => have := HK21.out; simp at this ⊢; omega
          case c3 => exact H214.out
          intro vv21 w21 hr21 hw21 hn21
          
          replace HTX : Hid (TX w (w4.heap.size + 2) w4.heap.size (w4.heap.size + 1) v19 v20 vx vv21 (cutR p n :: r') (cutR q n :: s') (X) (Y ++ [⟨q.kind, n, q.signs⟩]) w21) := Lib.hid (H215.out _ _ (by first | exact hr21 | (rw [List.append_nil]; exact hr21)) hw21 (fun q hq => (hn21 q.1 q.2 hq).imp_right fun h => by first | (simp; omega) | simpa using h))
          clear hr21 hw21 hn21 H211 H212 H213 H214 H215 HK21 HBB21
          go_wp2_with fail
          have ex : (if q.kind = 1 then [cutL p n] else []) = [] := if_neg (by have := HKq.out; omega)
          have ey : (if p.kind = 1 then [cutL q n] else []) = [⟨q.kind, n, q.signs⟩] := by rw [if_pos HKp.out, cutL_nk n HKQ.out]
          have htr3 := HTR2.out
          rw [ex, ey] at htr3
          rw [List.append_nil] at htr3
          go_roundg (mu (cutR p n :: r') + mu (cutR q n :: s'))
          case measure => have := HMU.out; have := HDEC.out; omega
          case rel => exact ⟨v19, v20, vx, vv21, cutR p n :: r', cutR q n :: s', X, Y ++ [⟨q.kind, n, q.signs⟩], rfl, rfl, rfl, HTX.out, htr3⟩
      · rcases hkq with kq1 | kq1
        · have HKp := Lib.hid kp1
          have HKq := Lib.hid kq1
          have hpb : (p.kind == 1) = false := by simp [kp1]
          have hqb : (q.kind == 1) = true := by simp [kq1]
          clear kp1 kq1
          obtain ⟨f19, j191, j192, j193, j194⟩ := HTX.out.rd
          have HJ19 := Lib.hid j193
          have hC19 := (impl_take_c w4.heap.size n v11 p r' f19 _ HTX.out.p j191 j192 HOp.out HNp1.out HLEr.out)
          rw [cutL_nk n HKP.out] at hC19
          have HC19 := Lib.hid hC19
          clear hC19
          clear j191 j192 j193 j194
          go_wp2_with fail
          refine HC19.out.mono ?_
          rintro e' w19 ⟨v19, f', vs19, fs19, rfl, hv, hx, hsl, hm, hw⟩
          obtain ⟨as19, qs19, rfl⟩ := hv.isS
          have hzo : ∀ {q : Pos}, w18.heap.size ≤ q.1 → ¬ ZP w4.heap.size (w4.heap.size + 1) vx vy q := fun h => HTX.out.zout h
          have hz : ∀ q ∈ f19, ¬ ZP w4.heap.size (w4.heap.size + 1) vx vy q := fun q hq h => HJ19.out q hq h
          have HGp : Hid (∀ q ∈ fs19, ¬ ZP w4.heap.size (w4.heap.size + 1) vx vy q) := Lib.hid (fun q hq => by rcases hm q (by simp [hq]) with h | h; exact hz q h; exact hzo h)
          have HVp := Lib.hid hv
          replace HTX : Hid (TX w (w4.heap.size + 2) w4.heap.size (w4.heap.size + 1) v19 v13 vx vy (cutR p n :: r') (q :: s') (X) (Y) w19) := Lib.hid ((HTX.out.stepR HJ19.out hw hx hsl (fun q hq => hm q (by simp [hq]))))
          clear hv hx hsl hm hw hzo hz HC19 HJ19
          obtain ⟨f20, j201, j202, j203, j204⟩ := HTX.out.swap.rd
          have HJ20 := Lib.hid j203
          have hC20 := (impl_take_c (w4.heap.size + 1) n v13 q s' f20 _ HTX.out.swap.p j201 j202 HOq.out HNq1.out HLEs.out)
          rw [cutL_nk n HKQ.out] at hC20
          have HC20 := Lib.hid hC20
          clear hC20
          clear j201 j202 j203 j204
          go_wp2_with fail
          refine HC20.out.mono ?_
          rintro e' w20 ⟨v20, f', vs20, fs20, rfl, hv, hx, hsl, hm, hw⟩
          obtain ⟨as20, qs20, rfl⟩ := hv.isS
          have hzo : ∀ {q : Pos}, w19.heap.size ≤ q.1 → ¬ ZP w4.heap.size (w4.heap.size + 1) vx vy q := fun h => HTX.out.zout h
          have hz : ∀ q ∈ f20, ¬ ZP w4.heap.size (w4.heap.size + 1) vx vy q := fun q hq h => HJ20.out q hq h.swap
          have HGq : Hid (∀ q ∈ fs20, ¬ ZP w4.heap.size (w4.heap.size + 1) vx vy q) := Lib.hid (fun q hq => by rcases hm q (by simp [hq]) with h | h; exact hz q h; exact hzo h)
          have HVq := Lib.hid hv
          replace HVp := Lib.hid (HVp.out.wr hw fun q' hq' hm' => HGp.out q' hq' (by simp only [List.mem_singleton] at hm'; rw [hm']; exact .inr (.inr (.inr rfl))))
          replace HTX : Hid (TX w (w4.heap.size + 2) w4.heap.size (w4.heap.size + 1) v19 v20 vx vy (cutR p n :: r') (cutR q n :: s') (X) (Y) w20) := Lib.hid ((HTX.out.swap.stepR HJ20.out hw hx hsl (fun q hq => hm q (by simp [hq]))).swap)
          clear hv hx hsl hm hw hzo hz HC20 HJ20
          have hB21 : Below w20.heap.size w20 ((w20.alloc (.cells #[.int .i64 p.kind, .int .i64 n, .slice as19 p.signs.length qs19] 62)).alloc (.cells #[.int .i64 q.kind, .int .i64 n, .slice as20 q.signs.length qs20] 62)) := ((Below.refl _ _).alloc (Nat.le_refl _) _).alloc (by simp) _
          have HBB21 := Lib.hid hB21
          have hrd21 : GoT.rd BIG ((w20.alloc (.cells #[.int .i64 p.kind, .int .i64 n, .slice as19 p.signs.length qs19] 62)).alloc (.cells #[.int .i64 q.kind, .int .i64 n, .slice as20 q.signs.length qs20] 62)) [.int .i64 p.kind, .int .i64 n, .slice as19 p.signs.length qs19] ((⟨p.kind, n, p.signs⟩ : DPart)) fs19 := ⟨_, fs19, rfl, HVp.out.belowW (((Below.refl _ _).alloc (Nat.le_refl _) _).alloc (by simp) _), rfl⟩
          obtain ⟨gx21, j211, j212, j213, j214, j215⟩ := HTX.out.appX 62 hB21 hrd21 HGp.out
          have e21 : ((w20.alloc (.cells #[.int .i64 p.kind, .int .i64 n, .slice as19 p.signs.length qs19] 62)).alloc (.cells #[.int .i64 q.kind, .int .i64 n, .slice as20 q.signs.length qs20] 62)).heap.size = w20.heap.size + 2 := by simp
          rw [e21] at j212
          clear e21
          have H211 := Lib.hid j211
          have H212 := Lib.hid j212
          have H213 := Lib.hid j213
          have H214 := Lib.hid j214
          have H215 := Lib.hid j215
          have HK21 : Hid ((X).length ≤ 2001) := Lib.hid (by have := XLE.out; omega)
          clear hB21 hrd21 j211 j212 j213 j214 j215
          go_wp2_with (at_builtin; go_must (refine wpList_append_row rfl _ _ 29 rfl Tryz.underlying29 hi hz0 hz1 hz2 rfl rfl rfl H211.out H212.out H213.out ?c1 ?c2 ?c3 ?_))
          case c1 => have := HK21.out; exact le_BIG (by simp at this ⊢; omega)
          case c2 => have := HK21.out; simp at this ⊢; omega
          case c3 => exact H214.out
          intro vv21 w21 hr21 hw21 hn21
          
          have hx14 : Bx w21 w20.heap.size [.int .i64 p.kind, .int .i64 n, .slice as19 p.signs.length qs19] := (((Bx.new (w := w20) (c := #[.int .i64 p.kind, .int .i64 n, .slice as19 p.signs.length qs19]) (t := 62) rfl).alloc _).alloc _).wr hw21 (fun q hq => by have := (HTX.out.t.x.ge q hq).2; omega)
          have hx15 : Bx w21 (w20.heap.size + 1) [.int .i64 q.kind, .int .i64 n, .slice as20 q.signs.length qs20] := ((Bx.new (w := w20.alloc (.cells #[.int .i64 p.kind, .int .i64 n, .slice as19 p.signs.length qs19] 62)) (c := #[.int .i64 q.kind, .int .i64 n, .slice as20 q.signs.length qs20]) (t := 62) (by simp)).alloc _).wr hw21 (fun q hq => by have := (HTX.out.t.x.ge q hq).2; omega)
          obtain ⟨z14, b140, b141, b142⟩ := hx14.o3
          obtain ⟨z15, b150, b151, b152⟩ := hx15.o3
          clear hx14 hx15
          have hvl : ∀ q' ∈ fs20, q'.1 < w20.heap.size := Live.lt HVq.out.live
          replace HVq := Lib.hid (((HVq.out.belowW (((Below.refl _ _).alloc (Nat.le_refl _) _).alloc (by simp) _)).belowW ((Below.refl _ _).alloc (Nat.le_refl _) _)).wr hw21 fun q' hq' hm' => HGq.out q' hq' (.inl hm'))
          replace HGq : Hid (∀ q' ∈ fs20, ¬ ZP w4.heap.size (w4.heap.size + 1) vv21 vy q') := Lib.hid fun q' hq' => zp_keepX (S := w20.heap.size) (fun q hq => (hn21 q.1 q.2 hq).imp_right fun h => by (try simp at h); omega) (HGq.out q' hq') (hvl q' hq')
          clear hvl
          replace HTX : Hid (TX w (w4.heap.size + 2) w4.heap.size (w4.heap.size + 1) v19 v20 vv21 vy (cutR p n :: r') (cutR q n :: s') (X ++ [⟨p.kind, n, p.signs⟩]) (Y) w21) := Lib.hid (H215.out _ _ (by first | exact hr21 | (rw [List.append_nil]; exact hr21)) hw21 (fun q hq => (hn21 q.1 q.2 hq).imp_right fun h => by first | (simp; omega) | simpa using h))
          clear hr21 hw21 hn21 H211 H212 H213 H214 H215 HK21 HBB21
          go_wp2_with fail
          have ex : (if q.kind = 1 then [cutL p n] else []) = [⟨p.kind, n, p.signs⟩] := by rw [if_pos HKq.out, cutL_nk n HKP.out]
          have ey : (if p.kind = 1 then [cutL q n] else []) = [] := if_neg (by have := HKp.out; omega)
          have htr3 := HTR2.out
          rw [ex, ey] at htr3
          rw [List.append_nil] at htr3
          go_roundg (mu (cutR p n :: r') + mu (cutR q n :: s'))
          case measure => have := HMU.out; have := HDEC.out; omega
          case rel => exact ⟨v19, v20, vv21, vy, cutR p n :: r', cutR q n :: s', X ++ [⟨p.kind, n, p.signs⟩], Y, rfl, rfl, rfl, HTX.out, htr3⟩
        · have HKp := Lib.hid kp1
          have HKq := Lib.hid kq1
          have hpb : (p.kind == 1) = false := by simp [kp1]
          have hqb : (q.kind == 1) = false := by simp [kq1]
          clear kp1 kq1
          obtain ⟨f19, j191, j192, j193, j194⟩ := HTX.out.rd
          have HJ19 := Lib.hid j193
          have hC19 := (impl_take_c w4.heap.size n v11 p r' f19 _ HTX.out.p j191 j192 HOp.out HNp1.out HLEr.out)
          rw [cutL_nk n HKP.out] at hC19
          have HC19 := Lib.hid hC19
          clear hC19
          clear j191 j192 j193 j194
          go_wp2_with fail
          refine HC19.out.mono ?_
          rintro e' w19 ⟨v19, f', vs19, fs19, rfl, hv, hx, hsl, hm, hw⟩
          obtain ⟨as19, qs19, rfl⟩ := hv.isS
          have hzo : ∀ {q : Pos}, w18.heap.size ≤ q.1 → ¬ ZP w4.heap.size (w4.heap.size + 1) vx vy q := fun h => HTX.out.zout h
          have hz : ∀ q ∈ f19, ¬ ZP w4.heap.size (w4.heap.size + 1) vx vy q := fun q hq h => HJ19.out q hq h
          have HGp : Hid (∀ q ∈ fs19, ¬ ZP w4.heap.size (w4.heap.size + 1) vx vy q) := Lib.hid (fun q hq => by rcases hm q (by simp [hq]) with h | h; exact hz q h; exact hzo h)
          have HVp := Lib.hid hv
          replace HTX : Hid (TX w (w4.heap.size + 2) w4.heap.size (w4.heap.size + 1) v19 v13 vx vy (cutR p n :: r') (q :: s') (X) (Y) w19) := Lib.hid ((HTX.out.stepR HJ19.out hw hx hsl (fun q hq => hm q (by simp [hq]))))
          clear hv hx hsl hm hw hzo hz HC19 HJ19
          obtain ⟨f20, j201, j202, j203, j204⟩ := HTX.out.swap.rd
          have HJ20 := Lib.hid j203
          have hC20 := (impl_take_c (w4.heap.size + 1) n v13 q s' f20 _ HTX.out.swap.p j201 j202 HOq.out HNq1.out HLEs.out)
          rw [cutL_nk n HKQ.out] at hC20
          have HC20 := Lib.hid hC20
          clear hC20
          clear j201 j202 j203 j204
          go_wp2_with fail
          refine HC20.out.mono ?_
          rintro e' w20 ⟨v20, f', vs20, fs20, rfl, hv, hx, hsl, hm, hw⟩
          obtain ⟨as20, qs20, rfl⟩ := hv.isS
          have hzo : ∀ {q : Pos}, w19.heap.size ≤ q.1 → ¬ ZP w4.heap.size (w4.heap.size + 1) vx vy q := fun h => HTX.out.zout h
          have hz : ∀ q ∈ f20, ¬ ZP w4.heap.size (w4.heap.size + 1) vx vy q := fun q hq h => HJ20.out q hq h.swap
          have HGq : Hid (∀ q ∈ fs20, ¬ ZP w4.heap.size (w4.heap.size + 1) vx vy q) := Lib.hid (fun q hq => by rcases hm q (by simp [hq]) with h | h; exact hz q h; exact hzo h)
          have HVq := Lib.hid hv
          replace HVp := Lib.hid (HVp.out.wr hw fun q' hq' hm' => HGp.out q' hq' (by simp only [List.mem_singleton] at hm'; rw [hm']; exact .inr (.inr (.inr rfl))))
          replace HTX : Hid (TX w (w4.heap.size + 2) w4.heap.size (w4.heap.size + 1) v19 v20 vx vy (cutR p n :: r') (cutR q n :: s') (X) (Y) w20) := Lib.hid ((HTX.out.swap.stepR HJ20.out hw hx hsl (fun q hq => hm q (by simp [hq]))).swap)
          clear hv hx hsl hm hw hzo hz HC20 HJ20
          go_wp2_with fail
          have ex : (if q.kind = 1 then [cutL p n] else []) = [] := if_neg (by have := HKq.out; omega)
          have ey : (if p.kind = 1 then [cutL q n] else []) = [] := if_neg (by have := HKp.out; omega)
          have htr3 := HTR2.out
          rw [ex, ey] at htr3
          rw [List.append_nil, List.append_nil] at htr3
          go_roundg (mu (cutR p n :: r') + mu (cutR q n :: s'))
          case measure => have := HMU.out; have := HDEC.out; omega
          case rel => exact ⟨v19, v20, vx, vy, cutR p n :: r', cutR q n :: s', X, Y, rfl, rfl, rfl, HTX.out.below (((Below.refl _ _).alloc (Nat.le_refl _) _).alloc (by simp) _), htr3⟩
end Go.Proofs.YtfkaabpaolelgaaGreat
