/- Compose, the program's walk. -/
import Derived.Test.YtiahgjnpinjblaaTxs
import Derived.Test.YtiahgjnpinjblaaCms
import Derived.Test.YtiahgjnpinjblaaCp
import Derived.Deep.CutRange
import Derived.Deep.LoopGhost
namespace Go.Proofs.Ytiahgjnpinjblaa
open Go.RowKit
theorem mu_len2 : ∀ l : List DPart, l.length ≤ mu l
  | [] => Nat.le_refl _
  | p :: l => by have := mu_len2 l; simp only [mu, List.length_cons]; omega
theorem cutL_nk2 {p : DPart} (n : Nat) (k : p.kind ≠ 2) : cutL p n = ⟨p.kind, n, p.signs⟩ := by unfold cutL; rw [if_neg k]
theorem cutL_pk2 {p : DPart} (n : Nat) (k : p.kind = 2) : cutL p n = ⟨p.kind, p.n, p.signs.take n⟩ := by unfold cutL; rw [if_pos k]
theorem run_field02 (x y : Int) (a : Option Addr) (n c : Nat) (w : World) : (Instr.field 60 (.agg #[.int .i64 x, .int .i64 y, .slice a n c]) 0).run Try.prog w = .ok (.int .i64 x) w := by
  simp [Instr.field, run_underlying Try.underlying60, asAgg, part, go_sem]
attribute [local go_sem] run_field02
set_option maxHeartbeats 8000000 in
set_option maxRecDepth 100000 in
theorem impl_Compose_c (va vb : Value) (a b : List DPart) (w : World) (ha : RdS w va a) (hb : RdS w vb b) : Calls Try.prog 42 #[va, vb] w (OutCo w (compose a b)) := by
  obtain ⟨aa, ca, rfl⟩ := ha.isSlice
  obtain ⟨ab, cb, rfl⟩ := hb.isSlice
  go_enter Try.func42, Try.ntmps42
  go_wp2_with fail
  refine (impl_OpOk_c _ a _ ha).mono ?_
  rintro e' w1 ⟨rfl, hb1⟩
  by_cases h1 : opOk a = true
  rotate_left
  · have h1 : opOk a = false := by simpa using h1
    have HV := Lib.hid (compose_no (a := a) (b := b) fun h => by rw [h1] at h; cases h.1)
    rw [h1]
    go_wp2
    exact bodyPost_ret (v := .tuple #[.slice none 0 0, .bool false]) (by simp [results, Try.results42, go_sem, *]) rfl (OutCo.no HV.out hb1)
  rw [h1]
  go_wp2_with fail
  refine (impl_OpOk_c _ b _ (hb.below hb1)).mono ?_
  rintro e' w2 ⟨rfl, hb2⟩
  by_cases h2 : opOk b = true
  rotate_left
  · have h2 : opOk b = false := by simpa using h2
    have HV := Lib.hid (compose_no (a := a) (b := b) fun h => by rw [h2] at h; cases h.2.1)
    rw [h2]
    go_wp2
    exact bodyPost_ret (v := .tuple #[.slice none 0 0, .bool false]) (by simp [results, Try.results42, go_sem, *]) rfl (OutCo.no HV.out (hb1.trans (hb2.mono hb1.size)))
  rw [h2]
  go_wp2_with fail
  refine (impl_OpTo_c _ a _ ((ha.below hb1).below hb2)).mono ?_
  rintro e' w3 ⟨rfl, hb3⟩
  go_wp2_with fail
  refine (impl_OpFrom_c _ b _ (((hb.below hb1).below hb2).below hb3)).mono ?_
  rintro e' w4 ⟨rfl, hb4⟩
  have HBW : Hid (Below w.heap.size w w4) := Lib.hid (hb1.trans ((hb2.trans ((hb3.trans (hb4.mono hb3.size)).mono hb2.size)).mono hb1.size))
  clear hb1 hb2 hb3 hb4
  by_cases h3 : opTo a = opFrom b
  rotate_left
  · have HV := Lib.hid (compose_no (a := a) (b := b) fun h => h3 h.2.2)
    have h3 : (opTo a == opFrom b) = false := by simpa using h3
    go_wp2
    exact bodyPost_ret (v := .tuple #[.slice none 0 0, .bool false]) (by simp [results, Try.results42, go_sem, *]) rfl (OutCo.no HV.out HBW.out)
  have HAL := Lib.hid (opOk_iff'.1 h1).1
  have HBL := Lib.hid (opOk_iff'.1 h2).1
  have H0 := Lib.hid (CR.new h1 h2 h3)
  have HOK : Hid (opOk a = true ∧ opOk b = true ∧ opTo a = opFrom b) := Lib.hid ⟨h1, h2, h3⟩
  have h3 : (opTo a == opFrom b) = true := by simpa using h3
  obtain ⟨i0, hi, hz0, hz1, hz2⟩ := info_parts info_part
  have HTX0 := Lib.hid (TX.new (E := 90) HBW.out ha hb)
  go_wp2_with fail
  go_loopg [8] (mu a + mu b) (fun n x8 wr => ∃ (vr vs vx : Value) (r s X : List DPart), vx = x8 ∧ n = mu r + mu s ∧ TX w (w4.heap.size + 2) w4.heap.size (w4.heap.size + 1) vr vs vx (.slice none 0 0) r s X [] wr ∧ CR a b r s X)
  case atStart => exact ⟨_, _, _, a, b, [], rfl, rfl, HTX0.out, H0.out⟩
  case round =>
    obtain ⟨vr, vs, vx, r, s, X, rfl, rfl, htx, htr⟩ := hrel
    have HTX := Lib.hid htx
    have HTR := Lib.hid htr
    have HMU : Hid (mu r + mu s ≤ mu r + mu s) := Lib.hid (Nat.le_refl _)
    have XOK := Lib.hid htr.ok
    have XLE := Lib.hid (htr.len HOK.out.1 HOK.out.2.1)
    clear htx htr h3 HTX0
    obtain ⟨f11, j111, j112, j113, j114⟩ := HTX.out.rd
    have hC11 := impl_next_c w4.heap.size vr (r) f11 _ HTX.out.p j111 j112 HTR.out.i.r
    have HC11 := Lib.hid hC11
    have HJ11 := Lib.hid j113
    clear hC11 j111 j112 j113 j114
    go_wp2_with fail
    refine HC11.out.mono ?_
    rintro e' w11 ⟨v11, f', vh11, he, hv, hx, hsl, hm, hw, hst⟩
    obtain ⟨ah11, qh11, rfl⟩ := hv.isSlice
    obtain ⟨r11, hr11⟩ : ∃ z, z = skip (r) := ⟨_, rfl⟩
    rw [← hr11] at he hv hsl
    have HSr : Hid (skip r11 = r11) := Lib.hid (by rw [hr11, skip_idem])
    have hmu := skip_mu (r)
    rw [← hr11] at hmu
    replace HTX : Hid (TX w (w4.heap.size + 2) w4.heap.size (w4.heap.size + 1) v11 vs vx (.slice none 0 0) (r11) (s) (X) [] w11) := Lib.hid ((HTX.out.stepR HJ11.out hw hx hsl (fun q hq => .inl (hm q hq))))
    replace HTR : Hid (CR a b (r11) (s) (X)) := Lib.hid (by rw [hr11]; exact HTR.out.skipR)
    replace HMU : Hid (mu (r11) + mu (s) ≤ mu r + mu s) := Lib.hid (by have h1 := HMU.out; omega)
    clear hx hsl hm hw hst hmu hr11 HC11 HJ11 hv
    rcases r11 with _ | ⟨p, r'⟩
    · subst he
      try dsimp only [hd, List.headD]
      obtain ⟨f12, j121, j122, j123, j124⟩ := HTX.out.swap.rd
      have hC12 := impl_next_c (w4.heap.size + 1) vs (s) f12 _ HTX.out.swap.p j121 j122 HTR.out.i.s
      have HC12 := Lib.hid hC12
      have HJ12 := Lib.hid j123
      clear hC12 j121 j122 j123 j124
      go_wp2_with fail
      refine HC12.out.mono ?_
      rintro e' w12 ⟨v12, f', vh12, he, hv, hx, hsl, hm, hw, hst⟩
      obtain ⟨ah12, qh12, rfl⟩ := hv.isSlice
      obtain ⟨s12, hs12⟩ : ∃ z, z = skip (s) := ⟨_, rfl⟩
      rw [← hs12] at he hv hsl
      have HSs : Hid (skip s12 = s12) := Lib.hid (by rw [hs12, skip_idem])
      have hmu := skip_mu (s)
      rw [← hs12] at hmu
      replace HTX : Hid (TX w (w4.heap.size + 2) w4.heap.size (w4.heap.size + 1) v11 v12 vx (.slice none 0 0) ([]) (s12) (X) [] w12) := Lib.hid ((HTX.out.swap.stepR HJ12.out hw hx hsl (fun q hq => .inl (hm q hq))).swap)
      replace HTR : Hid (CR a b ([]) (s12) (X)) := Lib.hid (by rw [hs12]; exact HTR.out.skipS)
      replace HMU : Hid (mu ([]) + mu (s12) ≤ mu r + mu s) := Lib.hid (by have h1 := HMU.out; omega)
      clear hx hsl hm hw hst hmu hs12 HC12 HJ12 hv
      rcases s12 with _ | ⟨q, s'⟩
      · subst he
        try dsimp only [hd, List.headD]
        have HEX := Lib.hid HTR.out.end_
        have HRX : Hid (RdS w12 vx X) := Lib.hid (let ⟨_, h, _⟩ := HTX.out.t.x; h.rd)
        have HB0 := Lib.hid HTX.out.bel
        go_wp2_with fail
        refine (impl_normal_c vx X _ HRX.out XOK.out (by have := XLE.out; omega)).mono ?_
        rintro e' w20 ⟨vu, rfl, hu, hb20⟩
        have s12 := HB0.out.size
        have HU : Hid (OwnS w.heap.size w20 vu (normal (cfz a b))) := Lib.hid (by rw [← HEX.out]; exact hu.mono s12)
        have HB20 := Lib.hid (HB0.out.trans (hb20.mono s12))
        have s20 := HB20.out.size
        clear hu hb20 HB0 HRX
        go_wp2_with fail
        refine (impl_OpOk_c vu _ _ (let ⟨_, h, _⟩ := HU.out; ⟨_, h⟩)).mono ?_
        rintro e' w22 ⟨rfl, hb22⟩
        have HB22 := Lib.hid hb22
        clear hb22
        by_cases g1 : opOk (normal (cfz a b)) = true
        rotate_left
        · have g1 : opOk (normal (cfz a b)) = false := by simpa using g1
          have HV := Lib.hid (compose_bad (a := a) (b := b) g1)
          rw [g1]
          go_wp2
          exact bodyPost_ret (v := .tuple #[.slice none 0 0, .bool false]) (by simp [results, Try.results42, go_sem, *]) rfl (OutCo.no HV.out (HB20.out.trans (HB22.out.mono s20)))
        have HV := Lib.hid (compose_yes HOK.out g1)
        rw [g1]
        go_wp2
        exact bodyPost_ret (v := .tuple #[vu, .bool true]) (by simp [results, Try.results42, go_sem, *]) rfl (OutCo.yes HV.out (HU.out.below HB22.out) (HB20.out.trans (HB22.out.mono s20)))
      have HNq := Lib.hid (skip_cons HSs.out : nsz q ≠ 0)
      have hk : q.kind = 2 := by
        by_cases k : q.kind = 2
        · exact k
        · obtain ⟨⟨p, r', hh, _⟩, _⟩ := HTR.out.others (.inl rfl) (.inr ⟨q, s', rfl, HNq.out, k⟩) (.inr (by simp))
          cases hh
      have HK := Lib.hid hk
      subst he
      try dsimp only [hd, List.headD]
      rw [hk]
      clear hk
      obtain ⟨f13, j131, j132, j133, j134⟩ := HTX.out.rd
      have hC13 := impl_next_c w4.heap.size v11 ([]) f13 _ HTX.out.p j131 j132 HTR.out.i.r
      rw [HSr.out] at hC13
      have HC13 := Lib.hid hC13
      have HJ13 := Lib.hid j133
      clear hC13 j131 j132 j133 j134
      go_wp2_with fail
      refine HC13.out.mono ?_
      rintro e' w13 ⟨v13, f', vh13, he, hv, hx, hsl, hm, hw, hst⟩
      obtain ⟨ah13, qh13, rfl⟩ := hv.isSlice
      obtain ⟨_, _, hbb⟩ := hst (by first | trivial | rfl)
      replace HTX : Hid (TX w (w4.heap.size + 2) w4.heap.size (w4.heap.size + 1) v11 v12 vx (.slice none 0 0) ([]) (q :: s') (X) [] w13) := Lib.hid (HTX.out.below hbb)
      have HVH13 := Lib.hid hv
      clear hv hx hsl hm hw hbb HC13 HJ13
      subst he
      try dsimp only [hd, List.headD]
      obtain ⟨f14, j141, j142, j143, j144⟩ := HTX.out.swap.rd
      have hC14 := impl_next_c (w4.heap.size + 1) v12 (q :: s') f14 _ HTX.out.swap.p j141 j142 HTR.out.i.s
      rw [HSs.out] at hC14
      have HC14 := Lib.hid hC14
      have HJ14 := Lib.hid j143
      clear hC14 j141 j142 j143 j144
      go_wp2_with fail
      refine HC14.out.mono ?_
      rintro e' w14 ⟨v14, f', vh14, he, hv, hx, hsl, hm, hw, hst⟩
      obtain ⟨ah14, qh14, rfl⟩ := hv.isSlice
      obtain ⟨_, _, hbb⟩ := hst (by first | trivial | rfl)
      replace HTX : Hid (TX w (w4.heap.size + 2) w4.heap.size (w4.heap.size + 1) v11 v12 vx (.slice none 0 0) ([]) (q :: s') (X) [] w14) := Lib.hid (HTX.out.below hbb)
      have HVH14 := Lib.hid hv
      clear hv hx hsl hm hw hbb HC14 HJ14
      subst he
      try dsimp only [hd, List.headD]
      rw [HK.out]
      obtain ⟨hop, hnp, hcp, hp0, hp2, htr2, hmu2⟩ := HTR.out.putS (.inl rfl) HNq.out HK.out
      have HOq := Lib.hid hop
      have HTR2 := Lib.hid htr2
      have HCP := Lib.hid hcp
      have HLEs : Hid (s'.length ≤ 5000) := Lib.hid (by have h := (HTR.out.rlen HOK.out.1 HOK.out.2.1).2; have h2 := mu_len2 (q :: s'); simp only [List.length_cons] at h2; omega)
      have HDEC : Hid (mu (cutR q (nsz q) :: s') < mu (q :: s')) := Lib.hid hmu2
      clear hop hnp hcp hp0 hp2 htr2 hmu2
      obtain ⟨f15, j151, j152, j153, j154⟩ := HTX.out.swap.rd
      have HJ15 := Lib.hid j153
      have hC15 := impl_whole_c (w4.heap.size + 1) v12 q s' f15 _ HTX.out.swap.p j151 j152 HOq.out HLEs.out
      rw [HCP.out] at hC15
      have HC15 := Lib.hid hC15
      clear hC15 j151 j152 j153 j154
      go_wp2_with fail
      refine HC15.out.mono ?_
      rintro e' w15 ⟨v15, f', vs15, fs15, rfl, hv, hx, hsl, hm, hw⟩
      obtain ⟨as15, qs15, rfl⟩ := hv.isS
      have hzo : ∀ {q : Pos}, w14.heap.size ≤ q.1 → ¬ ZP w4.heap.size (w4.heap.size + 1) vx (.slice none 0 0) q := fun h => HTX.out.zout h
      have hz : ∀ q ∈ f15, ¬ ZP w4.heap.size (w4.heap.size + 1) vx (.slice none 0 0) q := fun q hq h => HJ15.out q hq h.swap
      have HGq : Hid (∀ q ∈ fs15, ¬ ZP w4.heap.size (w4.heap.size + 1) vx (.slice none 0 0) q) := Lib.hid (fun q hq => by rcases hm q (by simp [hq]) with h | h; exact hz q h; exact hzo h.1)
      have HVq := Lib.hid hv
      replace HTX : Hid (TX w (w4.heap.size + 2) w4.heap.size (w4.heap.size + 1) v11 v15 vx (.slice none 0 0) ([]) (cutR q (nsz q) :: s') (X) [] w15) := Lib.hid ((HTX.out.swap.stepR HJ15.out hw hx hsl (fun q hq => (hm q (by simp [hq])).imp id (fun h => h.1))).swap)
      clear hv hx hsl hm hw hzo hz HC15 HJ15
      have hB16 : Below w15.heap.size w15 w15 := Below.refl _ _
      have HBB16 := Lib.hid hB16
      have hrd16 : GoT.rd BIG w15 [.int .i64 q.kind, .int .i64 q.n, .slice as15 q.signs.length qs15] (q) fs15 := ⟨_, fs15, rfl, HVq.out, rfl⟩
      obtain ⟨gx16, j161, j162, j163, j164, j165⟩ := HTX.out.appX 60 hB16 hrd16 HGq.out
      have H161 := Lib.hid j161
      have H162 := Lib.hid j162
      have H163 := Lib.hid j163
      have H164 := Lib.hid j164
      have H165 := Lib.hid j165
      have HK16 : Hid ((X).length ≤ 2001) := Lib.hid (by have := XLE.out; omega)
      clear hB16 hrd16 j161 j162 j163 j164 j165
      go_wp2_with (at_builtin; go_must (refine wpList_append_row rfl _ _ 32 rfl Try.underlying32 hi hz0 hz1 hz2 rfl rfl rfl H161.out H162.out H163.out ?c1 ?c2 ?c3 ?_))
      case c1 => have := HK16.out; exact le_BIG (by simp at this ⊢; omega)
      case c2 => have := HK16.out; simp at this ⊢; omega
      case c3 => exact H164.out
      intro vv16 w16 hr16 hw16 hn16
      replace HTX : Hid (TX w (w4.heap.size + 2) w4.heap.size (w4.heap.size + 1) v11 v15 vv16 (.slice none 0 0) ([]) (cutR q (nsz q) :: s') (X ++ [q]) [] w16) := Lib.hid (H165.out _ _ (by first | exact hr16 | (rw [List.append_nil]; exact hr16)) hw16 (fun q hq => (hn16 q.1 q.2 hq).imp_right fun h => by first | (simp; omega) | simpa using h))
      clear hr16 hw16 hn16 H161 H162 H163 H164 H165 HK16 HBB16
      go_wp2_with fail
      go_roundg (mu ([]) + mu (cutR q (nsz q) :: s'))
      case measure => have := HMU.out; have := HDEC.out; omega
      case rel => exact ⟨v11, v15, vv16, [], cutR q (nsz q) :: s', X ++ [q], rfl, rfl, HTX.out, HTR2.out⟩
    have HNp := Lib.hid (skip_cons HSr.out : nsz p ≠ 0)
    have hk0 : (p.kind == 0) = false := by
      have hall := HTR.out.i.r
      simp only [List.all_cons, Bool.and_eq_true] at hall
      rcases partOk_cases hall.1 with ⟨k, _⟩ | ⟨k, _⟩ | ⟨k, _⟩ <;> simp [k]
    have hk1 : ¬ p.kind = 0 := by simpa using hk0
    have hk3 : (p.kind != 0) = true := by simpa using hk0
    subst he
    try dsimp only [hd, List.headD]
    by_cases kp3 : p.kind = 3
    · have HK := Lib.hid kp3
      rw [kp3]
      clear kp3 hk0 hk1 hk3
      obtain ⟨f12, j121, j122, j123, j124⟩ := HTX.out.rd
      have hC12 := impl_next_c w4.heap.size v11 (p :: r') f12 _ HTX.out.p j121 j122 HTR.out.i.r
      rw [HSr.out] at hC12
      have HC12 := Lib.hid hC12
      have HJ12 := Lib.hid j123
      clear hC12 j121 j122 j123 j124
      go_wp2_with fail
      refine HC12.out.mono ?_
      rintro e' w12 ⟨v12, f', vh12, he, hv, hx, hsl, hm, hw, hst⟩
      obtain ⟨ah12, qh12, rfl⟩ := hv.isSlice
      obtain ⟨_, _, hbb⟩ := hst (by first | trivial | rfl)
      replace HTX : Hid (TX w (w4.heap.size + 2) w4.heap.size (w4.heap.size + 1) v11 vs vx (.slice none 0 0) (p :: r') (s) (X) [] w12) := Lib.hid (HTX.out.below hbb)
      have HVH12 := Lib.hid hv
      clear hv hx hsl hm hw hbb HC12 HJ12
      subst he
      try dsimp only [hd, List.headD]
      rw [HK.out]
      obtain ⟨hop, hnp, hcp, hp0, hp2, htr2, hmu2⟩ := HTR.out.dropR HNp.out HK.out
      have HOp := Lib.hid hop
      have HTR2 := Lib.hid htr2
      have HCP := Lib.hid hcp
      have HLEr : Hid (r'.length ≤ 5000) := Lib.hid (by have h := (HTR.out.rlen HOK.out.1 HOK.out.2.1).1; have h2 := mu_len2 (p :: r'); simp only [List.length_cons] at h2; omega)
      have HDEC : Hid (mu (cutR p (nsz p) :: r') < mu (p :: r')) := Lib.hid hmu2
      clear hop hnp hcp hp0 hp2 htr2 hmu2
      obtain ⟨f13, j131, j132, j133, j134⟩ := HTX.out.rd
      have HJ13 := Lib.hid j133
      have hC13 := impl_whole_c w4.heap.size v11 p r' f13 _ HTX.out.p j131 j132 HOp.out HLEr.out
      rw [HCP.out] at hC13
      have HC13 := Lib.hid hC13
      clear hC13 j131 j132 j133 j134
      go_wp2_with fail
      refine HC13.out.mono ?_
      rintro e' w13 ⟨v13, f', vs13, fs13, rfl, hv, hx, hsl, hm, hw⟩
      obtain ⟨as13, qs13, rfl⟩ := hv.isS
      have hzo : ∀ {q : Pos}, w12.heap.size ≤ q.1 → ¬ ZP w4.heap.size (w4.heap.size + 1) vx (.slice none 0 0) q := fun h => HTX.out.zout h
      have hz : ∀ q ∈ f13, ¬ ZP w4.heap.size (w4.heap.size + 1) vx (.slice none 0 0) q := fun q hq h => HJ13.out q hq h
      have HGp : Hid (∀ q ∈ fs13, ¬ ZP w4.heap.size (w4.heap.size + 1) vx (.slice none 0 0) q) := Lib.hid (fun q hq => by rcases hm q (by simp [hq]) with h | h; exact hz q h; exact hzo h.1)
      have HVp := Lib.hid hv
      replace HTX : Hid (TX w (w4.heap.size + 2) w4.heap.size (w4.heap.size + 1) v13 vs vx (.slice none 0 0) (cutR p (nsz p) :: r') (s) (X) [] w13) := Lib.hid ((HTX.out.stepR HJ13.out hw hx hsl (fun q hq => (hm q (by simp [hq])).imp id (fun h => h.1))))
      clear hv hx hsl hm hw hzo hz HC13 HJ13
      have hB14 : Below w13.heap.size w13 w13 := Below.refl _ _
      have HBB14 := Lib.hid hB14
      have hrd14 : GoT.rd BIG w13 [.int .i64 p.kind, .int .i64 p.n, .slice as13 p.signs.length qs13] (p) fs13 := ⟨_, fs13, rfl, HVp.out, rfl⟩
      obtain ⟨gx14, j141, j142, j143, j144, j145⟩ := HTX.out.appX 60 hB14 hrd14 HGp.out
      have H141 := Lib.hid j141
      have H142 := Lib.hid j142
      have H143 := Lib.hid j143
      have H144 := Lib.hid j144
      have H145 := Lib.hid j145
      have HK14 : Hid ((X).length ≤ 2001) := Lib.hid (by have := XLE.out; omega)
      clear hB14 hrd14 j141 j142 j143 j144 j145
      go_wp2_with (at_builtin; go_must (refine wpList_append_row rfl _ _ 32 rfl Try.underlying32 hi hz0 hz1 hz2 rfl rfl rfl H141.out H142.out H143.out ?c1 ?c2 ?c3 ?_))
      case c1 => have := HK14.out; exact le_BIG (by simp at this ⊢; omega)
      case c2 => have := HK14.out; simp at this ⊢; omega
      case c3 => exact H144.out
      intro vv14 w14 hr14 hw14 hn14
      replace HTX : Hid (TX w (w4.heap.size + 2) w4.heap.size (w4.heap.size + 1) v13 vs vv14 (.slice none 0 0) (cutR p (nsz p) :: r') (s) (X ++ [p]) [] w14) := Lib.hid (H145.out _ _ (by first | exact hr14 | (rw [List.append_nil]; exact hr14)) hw14 (fun q hq => (hn14 q.1 q.2 hq).imp_right fun h => by first | (simp; omega) | simpa using h))
      clear hr14 hw14 hn14 H141 H142 H143 H144 H145 HK14 HBB14
      go_wp2_with fail
      go_roundg (mu (cutR p (nsz p) :: r') + mu (s))
      case measure => have := HMU.out; have := HDEC.out; omega
      case rel => exact ⟨v13, vs, vv14, cutR p (nsz p) :: r', s, X ++ [p], rfl, rfl, HTX.out, HTR2.out⟩
    have HKP := Lib.hid kp3
    have k2b : (p.kind == 3) = false := by simpa using kp3
    have k2c : ¬ p.kind = 3 := kp3
    clear kp3
    obtain ⟨f12, j121, j122, j123, j124⟩ := HTX.out.rd
    have hC12 := impl_next_c w4.heap.size v11 (p :: r') f12 _ HTX.out.p j121 j122 HTR.out.i.r
    rw [HSr.out] at hC12
    have HC12 := Lib.hid hC12
    have HJ12 := Lib.hid j123
    clear hC12 j121 j122 j123 j124
    go_wp2_with fail
    refine HC12.out.mono ?_
    rintro e' w12 ⟨v12, f', vh12, he, hv, hx, hsl, hm, hw, hst⟩
    obtain ⟨ah12, qh12, rfl⟩ := hv.isSlice
    obtain ⟨_, _, hbb⟩ := hst (by first | trivial | rfl)
    replace HTX : Hid (TX w (w4.heap.size + 2) w4.heap.size (w4.heap.size + 1) v11 vs vx (.slice none 0 0) (p :: r') (s) (X) [] w12) := Lib.hid (HTX.out.below hbb)
    have HVH12 := Lib.hid hv
    clear hv hx hsl hm hw hbb HC12 HJ12
    subst he
    try dsimp only [hd, List.headD]
    obtain ⟨f13, j131, j132, j133, j134⟩ := HTX.out.swap.rd
    have hC13 := impl_next_c (w4.heap.size + 1) vs (s) f13 _ HTX.out.swap.p j131 j132 HTR.out.i.s
    have HC13 := Lib.hid hC13
    have HJ13 := Lib.hid j133
    clear hC13 j131 j132 j133 j134
    go_wp2_with fail
    refine HC13.out.mono ?_
    rintro e' w13 ⟨v13, f', vh13, he, hv, hx, hsl, hm, hw, hst⟩
    obtain ⟨ah13, qh13, rfl⟩ := hv.isSlice
    obtain ⟨s13, hs13⟩ : ∃ z, z = skip (s) := ⟨_, rfl⟩
    rw [← hs13] at he hv hsl
    have HSs : Hid (skip s13 = s13) := Lib.hid (by rw [hs13, skip_idem])
    have hmu := skip_mu (s)
    rw [← hs13] at hmu
    replace HTX : Hid (TX w (w4.heap.size + 2) w4.heap.size (w4.heap.size + 1) v11 v13 vx (.slice none 0 0) (p :: r') (s13) (X) [] w13) := Lib.hid ((HTX.out.swap.stepR HJ13.out hw hx hsl (fun q hq => .inl (hm q hq))).swap)
    replace HTR : Hid (CR a b (p :: r') (s13) (X)) := Lib.hid (by rw [hs13]; exact HTR.out.skipS)
    replace HMU : Hid (mu (p :: r') + mu (s13) ≤ mu r + mu s) := Lib.hid (by have h1 := HMU.out; omega)
    clear hx hsl hm hw hst hmu hs13 HC13 HJ13 hv
    rcases s13 with _ | ⟨q, s'⟩
    · obtain ⟨_, q, s', hh, _⟩ := HTR.out.others (.inr ⟨p, r', rfl, HNp.out, HKP.out⟩) (.inl rfl) (.inl (by simp))
      cases hh
    have HNq := Lib.hid (skip_cons HSs.out : nsz q ≠ 0)
    subst he
    try dsimp only [hd, List.headD]
    by_cases kq2 : q.kind = 2
    · have HK := Lib.hid kq2
      rw [kq2]
      clear kq2
      obtain ⟨hop, hnp, hcp, hp0, hp2, htr2, hmu2⟩ := HTR.out.putS (.inr ⟨p, r', rfl, HNp.out, HKP.out⟩) HNq.out HK.out
      have HOq := Lib.hid hop
      have HTR2 := Lib.hid htr2
      have HCP := Lib.hid hcp
      have HLEs : Hid (s'.length ≤ 5000) := Lib.hid (by have h := (HTR.out.rlen HOK.out.1 HOK.out.2.1).2; have h2 := mu_len2 (q :: s'); simp only [List.length_cons] at h2; omega)
      have HDEC : Hid (mu (cutR q (nsz q) :: s') < mu (q :: s')) := Lib.hid hmu2
      clear hop hnp hcp hp0 hp2 htr2 hmu2
      obtain ⟨f14, j141, j142, j143, j144⟩ := HTX.out.swap.rd
      have HJ14 := Lib.hid j143
      have hC14 := impl_whole_c (w4.heap.size + 1) v13 q s' f14 _ HTX.out.swap.p j141 j142 HOq.out HLEs.out
      rw [HCP.out] at hC14
      have HC14 := Lib.hid hC14
      clear hC14 j141 j142 j143 j144
      go_wp2_with fail
      refine HC14.out.mono ?_
      rintro e' w14 ⟨v14, f', vs14, fs14, rfl, hv, hx, hsl, hm, hw⟩
      obtain ⟨as14, qs14, rfl⟩ := hv.isS
      have hzo : ∀ {q : Pos}, w13.heap.size ≤ q.1 → ¬ ZP w4.heap.size (w4.heap.size + 1) vx (.slice none 0 0) q := fun h => HTX.out.zout h
      have hz : ∀ q ∈ f14, ¬ ZP w4.heap.size (w4.heap.size + 1) vx (.slice none 0 0) q := fun q hq h => HJ14.out q hq h.swap
      have HGq : Hid (∀ q ∈ fs14, ¬ ZP w4.heap.size (w4.heap.size + 1) vx (.slice none 0 0) q) := Lib.hid (fun q hq => by rcases hm q (by simp [hq]) with h | h; exact hz q h; exact hzo h.1)
      have HVq := Lib.hid hv
      replace HTX : Hid (TX w (w4.heap.size + 2) w4.heap.size (w4.heap.size + 1) v11 v14 vx (.slice none 0 0) (p :: r') (cutR q (nsz q) :: s') (X) [] w14) := Lib.hid ((HTX.out.swap.stepR HJ14.out hw hx hsl (fun q hq => (hm q (by simp [hq])).imp id (fun h => h.1))).swap)
      clear hv hx hsl hm hw hzo hz HC14 HJ14
      have hB15 : Below w14.heap.size w14 w14 := Below.refl _ _
      have HBB15 := Lib.hid hB15
      have hrd15 : GoT.rd BIG w14 [.int .i64 q.kind, .int .i64 q.n, .slice as14 q.signs.length qs14] (q) fs14 := ⟨_, fs14, rfl, HVq.out, rfl⟩
      obtain ⟨gx15, j151, j152, j153, j154, j155⟩ := HTX.out.appX 60 hB15 hrd15 HGq.out
      have H151 := Lib.hid j151
      have H152 := Lib.hid j152
      have H153 := Lib.hid j153
      have H154 := Lib.hid j154
      have H155 := Lib.hid j155
      have HK15 : Hid ((X).length ≤ 2001) := Lib.hid (by have := XLE.out; omega)
      clear hB15 hrd15 j151 j152 j153 j154 j155
      go_wp2_with (at_builtin; go_must (refine wpList_append_row rfl _ _ 32 rfl Try.underlying32 hi hz0 hz1 hz2 rfl rfl rfl H151.out H152.out H153.out ?c1 ?c2 ?c3 ?_))
      case c1 => have := HK15.out; exact le_BIG (by simp at this ⊢; omega)
      case c2 => have := HK15.out; simp at this ⊢; omega
      case c3 => exact H154.out
      intro vv15 w15 hr15 hw15 hn15
      replace HTX : Hid (TX w (w4.heap.size + 2) w4.heap.size (w4.heap.size + 1) v11 v14 vv15 (.slice none 0 0) (p :: r') (cutR q (nsz q) :: s') (X ++ [q]) [] w15) := Lib.hid (H155.out _ _ (by first | exact hr15 | (rw [List.append_nil]; exact hr15)) hw15 (fun q hq => (hn15 q.1 q.2 hq).imp_right fun h => by first | (simp; omega) | simpa using h))
      clear hr15 hw15 hn15 H151 H152 H153 H154 H155 HK15 HBB15
      go_wp2_with fail
      go_roundg (mu (p :: r') + mu (cutR q (nsz q) :: s'))
      case measure => have := HMU.out; have := HDEC.out; omega
      case rel => exact ⟨v11, v14, vv15, p :: r', cutR q (nsz q) :: s', X ++ [q], rfl, rfl, HTX.out, HTR2.out⟩
    have HKQ := Lib.hid kq2
    have q2b : (q.kind == 2) = false := by simpa using kq2
    have q2c : ¬ q.kind = 2 := kq2
    obtain ⟨hop, hoq, hkp, hkq, hp200, hq200, htr2, hm1, hm2⟩ := HTR.out.both HNp.out HNq.out HKP.out HKQ.out
    obtain ⟨n, hn⟩ : ∃ n : Nat, n = min (nsz p) (nsz q) := ⟨_, rfl⟩
    rw [← hn] at htr2 hm1 hm2
    have HOp := Lib.hid hop
    have HOq := Lib.hid hoq
    have HMIN : Hid (min (nsz p : Int) (nsz q : Int) = n) := Lib.hid (by omega)
    have hnb : n ≤ 200 := by omega
    have HNp1 : Hid (n ≤ nsz p) := Lib.hid (by omega)
    have HNq1 : Hid (n ≤ nsz q) := Lib.hid (by omega)
    have HTR2 := Lib.hid htr2
    have HDEC : Hid (mu (cutR p n :: r') + mu (cutR q n :: s') < mu (p :: r') + mu (q :: s')) := Lib.hid (by omega)
    have HLEr : Hid (r'.length ≤ 5000) := Lib.hid (by have h := (HTR.out.rlen HOK.out.1 HOK.out.2.1).1; have h2 := mu_len2 (p :: r'); simp only [List.length_cons] at h2; omega)
    have HLEs : Hid (s'.length ≤ 5000) := Lib.hid (by have h := (HTR.out.rlen HOK.out.1 HOK.out.2.1).2; have h2 := mu_len2 (q :: s'); simp only [List.length_cons] at h2; omega)
    have HBDp := Lib.hid (nsz_bd hop)
    have HBDq := Lib.hid (nsz_bd hoq)
    have HZp := Lib.hid (nsz_eq hop)
    have HZq := Lib.hid (nsz_eq hoq)
    clear htr2 hm1 hm2 kq2 hop hoq hn
    go_upto_region 6 with (fail)
    go_cut [9] from 33 to 91 (fun z wx => z = .int .i64 n ∧ TX w (w4.heap.size + 2) w4.heap.size (w4.heap.size + 1) v11 v13 vx (.slice none 0 0) (p :: r') (q :: s') (X) [] wx)
    case first =>
      obtain ⟨f14, j141, j142, j143, j144⟩ := HTX.out.rd
      have hC14 := impl_next_c w4.heap.size v11 (p :: r') f14 _ HTX.out.p j141 j142 HTR.out.i.r
      rw [HSr.out] at hC14
      have HC14 := Lib.hid hC14
      have HJ14 := Lib.hid j143
      clear hC14 j141 j142 j143 j144
      go_wp2_with fail
      refine HC14.out.mono ?_
      rintro e' w14 ⟨v14, f', vh14, he, hv, hx, hsl, hm, hw, hst⟩
      obtain ⟨ah14, qh14, rfl⟩ := hv.isSlice
      obtain ⟨_, _, hbb⟩ := hst (by first | trivial | rfl)
      replace HTX : Hid (TX w (w4.heap.size + 2) w4.heap.size (w4.heap.size + 1) v11 v13 vx (.slice none 0 0) (p :: r') (q :: s') (X) [] w14) := Lib.hid (HTX.out.below hbb)
      have HVH14 := Lib.hid hv
      clear hv hx hsl hm hw hbb HC14 HJ14
      subst he
      try dsimp only [hd, List.headD]
      go_wp2_with fail
      refine (impl_size_c p _ _ HBDp.out.1 HBDp.out.2.1 HBDp.out.2.2 HVH14.out).mono ?_
      rintro e' w15 ⟨rfl, hbb⟩
      rw [← HZp.out]
      replace HTX : Hid (TX w (w4.heap.size + 2) w4.heap.size (w4.heap.size + 1) v11 v13 vx (.slice none 0 0) (p :: r') (q :: s') (X) [] w15) := Lib.hid (HTX.out.below hbb)
      clear hbb
      obtain ⟨f16, j161, j162, j163, j164⟩ := HTX.out.swap.rd
      have hC16 := impl_next_c (w4.heap.size + 1) v13 (q :: s') f16 _ HTX.out.swap.p j161 j162 HTR.out.i.s
      rw [HSs.out] at hC16
      have HC16 := Lib.hid hC16
      have HJ16 := Lib.hid j163
      clear hC16 j161 j162 j163 j164
      go_wp2_with fail
      refine HC16.out.mono ?_
      rintro e' w16 ⟨v16, f', vh16, he, hv, hx, hsl, hm, hw, hst⟩
      obtain ⟨ah16, qh16, rfl⟩ := hv.isSlice
      obtain ⟨_, _, hbb⟩ := hst (by first | trivial | rfl)
      replace HTX : Hid (TX w (w4.heap.size + 2) w4.heap.size (w4.heap.size + 1) v11 v13 vx (.slice none 0 0) (p :: r') (q :: s') (X) [] w16) := Lib.hid (HTX.out.below hbb)
      have HVH16 := Lib.hid hv
      clear hv hx hsl hm hw hbb HC16 HJ16
      subst he
      try dsimp only [hd, List.headD]
      go_wp2_with fail
      refine (impl_size_c q _ _ HBDq.out.1 HBDq.out.2.1 HBDq.out.2.2 HVH16.out).mono ?_
      rintro e' w17 ⟨rfl, hbb⟩
      rw [← HZq.out]
      replace HTX : Hid (TX w (w4.heap.size + 2) w4.heap.size (w4.heap.size + 1) v11 v13 vx (.slice none 0 0) (p :: r') (q :: s') (X) [] w17) := Lib.hid (HTX.out.below hbb)
      clear hbb
      go_wp2_with fail
      all_goals
        go_meet
        exact ⟨by have := HMIN.out; first | rfl | (congr 1; omega), HTX.out⟩
    case rest =>
      obtain ⟨w18, rfl⟩ : ∃ wq : World, wq = wc := ⟨_, rfl⟩
      obtain ⟨rfl, htx2⟩ := hcut
      replace HTX := Lib.hid htx2
      clear htx2
      rcases hkp with kp1 | kp1
      · rcases hkq with kq1 | kq1
        · have HKp := Lib.hid kp1
          have HKq := Lib.hid kq1
          have hpb : (p.kind == 1) = true := by simp [kp1]
          have hqb : (q.kind == 1) = true := by simp [kq1]
          clear kp1 kq1
          obtain ⟨f19, j191, j192, j193, j194⟩ := HTX.out.rd
          have HJ19 := Lib.hid j193
          have hC19 := impl_take_c w4.heap.size n v11 p r' f19 _ HTX.out.p j191 j192 HOp.out HNp1.out HLEr.out
          rw [cutL_nk2 n (by rw [HKp.out]; decide)] at hC19
          have HC19 := Lib.hid hC19
          clear hC19 j191 j192 j193 j194
          go_wp2_with fail
          refine HC19.out.mono ?_
          rintro e' w19 ⟨v19, f', vs19, fs19, rfl, hv, hx, hsl, hm, hw⟩
          obtain ⟨as19, qs19, rfl⟩ := hv.isS
          have hzo : ∀ {q : Pos}, w18.heap.size ≤ q.1 → ¬ ZP w4.heap.size (w4.heap.size + 1) vx (.slice none 0 0) q := fun h => HTX.out.zout h
          have hz : ∀ q ∈ f19, ¬ ZP w4.heap.size (w4.heap.size + 1) vx (.slice none 0 0) q := fun q hq h => HJ19.out q hq h
          have HGp : Hid (∀ q ∈ fs19, ¬ ZP w4.heap.size (w4.heap.size + 1) vx (.slice none 0 0) q) := Lib.hid (fun q hq => by rcases hm q (by simp [hq]) with h | h; exact hz q h; exact hzo h)
          have HVp := Lib.hid hv
          replace HTX : Hid (TX w (w4.heap.size + 2) w4.heap.size (w4.heap.size + 1) v19 v13 vx (.slice none 0 0) (cutR p n :: r') (q :: s') (X) [] w19) := Lib.hid ((HTX.out.stepR HJ19.out hw hx hsl (fun q hq => hm q (by simp [hq]))))
          clear hv hx hsl hm hw hzo hz HC19 HJ19
          obtain ⟨f20, j201, j202, j203, j204⟩ := HTX.out.swap.rd
          have HJ20 := Lib.hid j203
          have hC20 := impl_take_c (w4.heap.size + 1) n v13 q s' f20 _ HTX.out.swap.p j201 j202 HOq.out HNq1.out HLEs.out
          rw [cutL_nk2 n HKQ.out] at hC20
          have HC20 := Lib.hid hC20
          clear hC20 j201 j202 j203 j204
          go_wp2_with fail
          refine HC20.out.mono ?_
          rintro e' w20 ⟨v20, f', vs20, fs20, rfl, hv, hx, hsl, hm, hw⟩
          obtain ⟨as20, qs20, rfl⟩ := hv.isS
          have hzo : ∀ {q : Pos}, w19.heap.size ≤ q.1 → ¬ ZP w4.heap.size (w4.heap.size + 1) vx (.slice none 0 0) q := fun h => HTX.out.zout h
          have hz : ∀ q ∈ f20, ¬ ZP w4.heap.size (w4.heap.size + 1) vx (.slice none 0 0) q := fun q hq h => HJ20.out q hq h.swap
          have HGq : Hid (∀ q ∈ fs20, ¬ ZP w4.heap.size (w4.heap.size + 1) vx (.slice none 0 0) q) := Lib.hid (fun q hq => by rcases hm q (by simp [hq]) with h | h; exact hz q h; exact hzo h)
          have HVq := Lib.hid hv
          replace HVp := Lib.hid (HVp.out.wr hw fun q' hq' hm' => HGp.out q' hq' (by simp only [List.mem_singleton] at hm'; rw [hm']; exact .inr (.inr (.inr rfl))))
          replace HTX : Hid (TX w (w4.heap.size + 2) w4.heap.size (w4.heap.size + 1) v19 v20 vx (.slice none 0 0) (cutR p n :: r') (cutR q n :: s') (X) [] w20) := Lib.hid ((HTX.out.swap.stepR HJ20.out hw hx hsl (fun q hq => hm q (by simp [hq]))).swap)
          clear hv hx hsl hm hw hzo hz HC20 HJ20
          have hB21 : Below w20.heap.size w20 ((w20.alloc (.cells #[.int .i64 p.kind, .int .i64 n, .slice as19 p.signs.length qs19] 60)).alloc (.cells #[.int .i64 q.kind, .int .i64 n, .slice as20 q.signs.length qs20] 60)) := ((Below.refl _ _).alloc (Nat.le_refl _) _).alloc (by simp) _
          have HBB21 := Lib.hid hB21
          have hrd21 : GoT.rd BIG ((w20.alloc (.cells #[.int .i64 p.kind, .int .i64 n, .slice as19 p.signs.length qs19] 60)).alloc (.cells #[.int .i64 q.kind, .int .i64 n, .slice as20 q.signs.length qs20] 60)) [.int .i64 p.kind, .int .i64 n, .slice as19 p.signs.length qs19] ((⟨p.kind, n, p.signs⟩ : DPart)) fs19 := ⟨_, fs19, rfl, HVp.out.belowW (((Below.refl _ _).alloc (Nat.le_refl _) _).alloc (by simp) _), rfl⟩
          obtain ⟨gx21, j211, j212, j213, j214, j215⟩ := HTX.out.appX 60 hB21 hrd21 HGp.out
          have e21 : ((w20.alloc (.cells #[.int .i64 p.kind, .int .i64 n, .slice as19 p.signs.length qs19] 60)).alloc (.cells #[.int .i64 q.kind, .int .i64 n, .slice as20 q.signs.length qs20] 60)).heap.size = w20.heap.size + 2 := by simp
          rw [e21] at j212
          clear e21
          have H211 := Lib.hid j211
          have H212 := Lib.hid j212
          have H213 := Lib.hid j213
          have H214 := Lib.hid j214
          have H215 := Lib.hid j215
          have HK21 : Hid ((X).length ≤ 2001) := Lib.hid (by have := XLE.out; omega)
          clear hB21 hrd21 j211 j212 j213 j214 j215
          go_wp2_with (at_builtin; go_must (refine wpList_append_row rfl _ _ 32 rfl Try.underlying32 hi hz0 hz1 hz2 rfl rfl rfl H211.out H212.out H213.out ?c1 ?c2 ?c3 ?_))
          case c1 => have := HK21.out; exact le_BIG (by simp at this ⊢; omega)
          case c2 => have := HK21.out; simp at this ⊢; omega
          case c3 => exact H214.out
          intro vv21 w21 hr21 hw21 hn21
          replace HTX : Hid (TX w (w4.heap.size + 2) w4.heap.size (w4.heap.size + 1) v19 v20 vv21 (.slice none 0 0) (cutR p n :: r') (cutR q n :: s') (X ++ [⟨p.kind, n, p.signs⟩]) [] w21) := Lib.hid (H215.out _ _ (by first | exact hr21 | (rw [List.append_nil]; exact hr21)) hw21 (fun q hq => (hn21 q.1 q.2 hq).imp_right fun h => by first | (simp; omega) | simpa using h))
          clear hr21 hw21 hn21 H211 H212 H213 H214 H215 HK21 HBB21
          go_wp2_with fail
          have ex : cfB p q n = [⟨p.kind, n, p.signs⟩] := by unfold cfB; rw [if_pos HKq.out, cutL_nk2 n (by rw [HKp.out]; decide)]
          have htr3 := HTR2.out
          rw [ex] at htr3
          go_roundg (mu (cutR p n :: r') + mu (cutR q n :: s'))
          case measure => have := HMU.out; have := HDEC.out; omega
          case rel => exact ⟨v19, v20, vv21, cutR p n :: r', cutR q n :: s', X ++ [⟨p.kind, n, p.signs⟩], rfl, rfl, HTX.out, htr3⟩
        · have HKp := Lib.hid kp1
          have HKq := Lib.hid kq1
          have hpb : (p.kind == 1) = true := by simp [kp1]
          have hqb : (q.kind == 1) = false := by simp [kq1]
          clear kp1 kq1
          obtain ⟨f19, j191, j192, j193, j194⟩ := HTX.out.rd
          have HJ19 := Lib.hid j193
          have hC19 := impl_take_c w4.heap.size n v11 p r' f19 _ HTX.out.p j191 j192 HOp.out HNp1.out HLEr.out
          rw [cutL_nk2 n (by rw [HKp.out]; decide)] at hC19
          have HC19 := Lib.hid hC19
          clear hC19 j191 j192 j193 j194
          go_wp2_with fail
          refine HC19.out.mono ?_
          rintro e' w19 ⟨v19, f', vs19, fs19, rfl, hv, hx, hsl, hm, hw⟩
          obtain ⟨as19, qs19, rfl⟩ := hv.isS
          have hzo : ∀ {q : Pos}, w18.heap.size ≤ q.1 → ¬ ZP w4.heap.size (w4.heap.size + 1) vx (.slice none 0 0) q := fun h => HTX.out.zout h
          have hz : ∀ q ∈ f19, ¬ ZP w4.heap.size (w4.heap.size + 1) vx (.slice none 0 0) q := fun q hq h => HJ19.out q hq h
          have HGp : Hid (∀ q ∈ fs19, ¬ ZP w4.heap.size (w4.heap.size + 1) vx (.slice none 0 0) q) := Lib.hid (fun q hq => by rcases hm q (by simp [hq]) with h | h; exact hz q h; exact hzo h)
          have HVp := Lib.hid hv
          replace HTX : Hid (TX w (w4.heap.size + 2) w4.heap.size (w4.heap.size + 1) v19 v13 vx (.slice none 0 0) (cutR p n :: r') (q :: s') (X) [] w19) := Lib.hid ((HTX.out.stepR HJ19.out hw hx hsl (fun q hq => hm q (by simp [hq]))))
          clear hv hx hsl hm hw hzo hz HC19 HJ19
          obtain ⟨f20, j201, j202, j203, j204⟩ := HTX.out.swap.rd
          have HJ20 := Lib.hid j203
          have hC20 := impl_take_c (w4.heap.size + 1) n v13 q s' f20 _ HTX.out.swap.p j201 j202 HOq.out HNq1.out HLEs.out
          rw [cutL_nk2 n HKQ.out] at hC20
          have HC20 := Lib.hid hC20
          clear hC20 j201 j202 j203 j204
          go_wp2_with fail
          refine HC20.out.mono ?_
          rintro e' w20 ⟨v20, f', vs20, fs20, rfl, hv, hx, hsl, hm, hw⟩
          obtain ⟨as20, qs20, rfl⟩ := hv.isS
          have hzo : ∀ {q : Pos}, w19.heap.size ≤ q.1 → ¬ ZP w4.heap.size (w4.heap.size + 1) vx (.slice none 0 0) q := fun h => HTX.out.zout h
          have hz : ∀ q ∈ f20, ¬ ZP w4.heap.size (w4.heap.size + 1) vx (.slice none 0 0) q := fun q hq h => HJ20.out q hq h.swap
          have HGq : Hid (∀ q ∈ fs20, ¬ ZP w4.heap.size (w4.heap.size + 1) vx (.slice none 0 0) q) := Lib.hid (fun q hq => by rcases hm q (by simp [hq]) with h | h; exact hz q h; exact hzo h)
          have HVq := Lib.hid hv
          replace HVp := Lib.hid (HVp.out.wr hw fun q' hq' hm' => HGp.out q' hq' (by simp only [List.mem_singleton] at hm'; rw [hm']; exact .inr (.inr (.inr rfl))))
          replace HTX : Hid (TX w (w4.heap.size + 2) w4.heap.size (w4.heap.size + 1) v19 v20 vx (.slice none 0 0) (cutR p n :: r') (cutR q n :: s') (X) [] w20) := Lib.hid ((HTX.out.swap.stepR HJ20.out hw hx hsl (fun q hq => hm q (by simp [hq]))).swap)
          clear hv hx hsl hm hw hzo hz HC20 HJ20
          have hB21 : Below w20.heap.size w20 ((w20.alloc (.cells #[.int .i64 p.kind, .int .i64 n, .slice as19 p.signs.length qs19] 60)).alloc (.cells #[.int .i64 q.kind, .int .i64 n, .slice as20 q.signs.length qs20] 60)) := ((Below.refl _ _).alloc (Nat.le_refl _) _).alloc (by simp) _
          have HBB21 := Lib.hid hB21
          have hrd21 : GoT.rd BIG ((w20.alloc (.cells #[.int .i64 p.kind, .int .i64 n, .slice as19 p.signs.length qs19] 60)).alloc (.cells #[.int .i64 q.kind, .int .i64 n, .slice as20 q.signs.length qs20] 60)) [.int .i64 q.kind, .int .i64 n, .slice as20 q.signs.length qs20] ((⟨q.kind, n, q.signs⟩ : DPart)) fs20 := ⟨_, fs20, rfl, HVq.out.belowW (((Below.refl _ _).alloc (Nat.le_refl _) _).alloc (by simp) _), rfl⟩
          obtain ⟨gx21, j211, j212, j213, j214, j215⟩ := HTX.out.appX 60 hB21 hrd21 HGq.out
          have e21 : ((w20.alloc (.cells #[.int .i64 p.kind, .int .i64 n, .slice as19 p.signs.length qs19] 60)).alloc (.cells #[.int .i64 q.kind, .int .i64 n, .slice as20 q.signs.length qs20] 60)).heap.size = w20.heap.size + 2 := by simp
          rw [e21] at j212
          clear e21
          have H211 := Lib.hid j211
          have H212 := Lib.hid j212
          have H213 := Lib.hid j213
          have H214 := Lib.hid j214
          have H215 := Lib.hid j215
          have HK21 : Hid ((X).length ≤ 2001) := Lib.hid (by have := XLE.out; omega)
          clear hB21 hrd21 j211 j212 j213 j214 j215
          go_wp2_with (at_builtin; go_must (refine wpList_append_row rfl _ _ 32 rfl Try.underlying32 hi hz0 hz1 hz2 rfl rfl rfl H211.out H212.out H213.out ?c1 ?c2 ?c3 ?_))
          case c1 => have := HK21.out; exact le_BIG (by simp at this ⊢; omega)
          case c2 => have := HK21.out; simp at this ⊢; omega
          case c3 => exact H214.out
          intro vv21 w21 hr21 hw21 hn21
          replace HTX : Hid (TX w (w4.heap.size + 2) w4.heap.size (w4.heap.size + 1) v19 v20 vv21 (.slice none 0 0) (cutR p n :: r') (cutR q n :: s') (X ++ [⟨q.kind, n, q.signs⟩]) [] w21) := Lib.hid (H215.out _ _ (by first | exact hr21 | (rw [List.append_nil]; exact hr21)) hw21 (fun q hq => (hn21 q.1 q.2 hq).imp_right fun h => by first | (simp; omega) | simpa using h))
          clear hr21 hw21 hn21 H211 H212 H213 H214 H215 HK21 HBB21
          go_wp2_with fail
          have ex : cfB p q n = [⟨q.kind, n, q.signs⟩] := by unfold cfB; rw [if_neg (by rw [HKq.out]; decide), if_pos HKp.out, cutL_nk2 n HKQ.out]
          have htr3 := HTR2.out
          rw [ex] at htr3
          go_roundg (mu (cutR p n :: r') + mu (cutR q n :: s'))
          case measure => have := HMU.out; have := HDEC.out; omega
          case rel => exact ⟨v19, v20, vv21, cutR p n :: r', cutR q n :: s', X ++ [⟨q.kind, n, q.signs⟩], rfl, rfl, HTX.out, htr3⟩
      · rcases hkq with kq1 | kq1
        · have HKp := Lib.hid kp1
          have HKq := Lib.hid kq1
          have hpb : (p.kind == 1) = false := by simp [kp1]
          have hqb : (q.kind == 1) = true := by simp [kq1]
          clear kp1 kq1
          have HTL : Hid ((p.signs.take n).length = n) := Lib.hid (by have h := (put_sz HOp.out HKp.out).1; have h2 := HNp1.out; rw [List.length_take]; omega)
          obtain ⟨f19, j191, j192, j193, j194⟩ := HTX.out.rd
          have HJ19 := Lib.hid j193
          have hC19 := impl_take_c w4.heap.size n v11 p r' f19 _ HTX.out.p j191 j192 HOp.out HNp1.out HLEr.out
          rw [cutL_pk2 n HKp.out] at hC19
          have HC19 := Lib.hid hC19
          clear hC19 j191 j192 j193 j194
          go_wp2_with fail
          refine HC19.out.mono ?_
          rintro e' w19 ⟨v19, f', vs19, fs19, rfl, hv, hx, hsl, hm, hw⟩
          obtain ⟨as19, qs19, eln⟩ := hv.isS
          rw [HTL.out] at eln
          subst eln
          have hzo : ∀ {q : Pos}, w18.heap.size ≤ q.1 → ¬ ZP w4.heap.size (w4.heap.size + 1) vx (.slice none 0 0) q := fun h => HTX.out.zout h
          have hz : ∀ q ∈ f19, ¬ ZP w4.heap.size (w4.heap.size + 1) vx (.slice none 0 0) q := fun q hq h => HJ19.out q hq h
          have HGp : Hid (∀ q ∈ fs19, ¬ ZP w4.heap.size (w4.heap.size + 1) vx (.slice none 0 0) q) := Lib.hid (fun q hq => by rcases hm q (by simp [hq]) with h | h; exact hz q h; exact hzo h)
          have HVp := Lib.hid hv
          replace HTX : Hid (TX w (w4.heap.size + 2) w4.heap.size (w4.heap.size + 1) v19 v13 vx (.slice none 0 0) (cutR p n :: r') (q :: s') (X) [] w19) := Lib.hid ((HTX.out.stepR HJ19.out hw hx hsl (fun q hq => hm q (by simp [hq]))))
          clear hv hx hsl hm hw hzo hz HC19 HJ19
          obtain ⟨f20, j201, j202, j203, j204⟩ := HTX.out.swap.rd
          have HJ20 := Lib.hid j203
          have hC20 := impl_take_c (w4.heap.size + 1) n v13 q s' f20 _ HTX.out.swap.p j201 j202 HOq.out HNq1.out HLEs.out
          rw [cutL_nk2 n HKQ.out] at hC20
          have HC20 := Lib.hid hC20
          clear hC20 j201 j202 j203 j204
          go_wp2_with fail
          refine HC20.out.mono ?_
          rintro e' w20 ⟨v20, f', vs20, fs20, rfl, hv, hx, hsl, hm, hw⟩
          obtain ⟨as20, qs20, rfl⟩ := hv.isS
          have hzo : ∀ {q : Pos}, w19.heap.size ≤ q.1 → ¬ ZP w4.heap.size (w4.heap.size + 1) vx (.slice none 0 0) q := fun h => HTX.out.zout h
          have hz : ∀ q ∈ f20, ¬ ZP w4.heap.size (w4.heap.size + 1) vx (.slice none 0 0) q := fun q hq h => HJ20.out q hq h.swap
          have HGq : Hid (∀ q ∈ fs20, ¬ ZP w4.heap.size (w4.heap.size + 1) vx (.slice none 0 0) q) := Lib.hid (fun q hq => by rcases hm q (by simp [hq]) with h | h; exact hz q h; exact hzo h)
          have HVq := Lib.hid hv
          replace HVp := Lib.hid (HVp.out.wr hw fun q' hq' hm' => HGp.out q' hq' (by simp only [List.mem_singleton] at hm'; rw [hm']; exact .inr (.inr (.inr rfl))))
          replace HTX : Hid (TX w (w4.heap.size + 2) w4.heap.size (w4.heap.size + 1) v19 v20 vx (.slice none 0 0) (cutR p n :: r') (cutR q n :: s') (X) [] w20) := Lib.hid ((HTX.out.swap.stepR HJ20.out hw hx hsl (fun q hq => hm q (by simp [hq]))).swap)
          clear hv hx hsl hm hw hzo hz HC20 HJ20
          have hB21 : Below w20.heap.size w20 ((w20.alloc (.cells #[.int .i64 p.kind, .int .i64 p.n, .slice as19 n qs19] 60)).alloc (.cells #[.int .i64 q.kind, .int .i64 n, .slice as20 q.signs.length qs20] 60)) := ((Below.refl _ _).alloc (Nat.le_refl _) _).alloc (by simp) _
          have HBB21 := Lib.hid hB21
          have hrd21 : GoT.rd BIG ((w20.alloc (.cells #[.int .i64 p.kind, .int .i64 p.n, .slice as19 n qs19] 60)).alloc (.cells #[.int .i64 q.kind, .int .i64 n, .slice as20 q.signs.length qs20] 60)) [.int .i64 p.kind, .int .i64 p.n, .slice as19 n qs19] ((⟨p.kind, p.n, (p.signs.take n)⟩ : DPart)) fs19 := ⟨_, fs19, rfl, HVp.out.belowW (((Below.refl _ _).alloc (Nat.le_refl _) _).alloc (by simp) _), rfl⟩
          obtain ⟨gx21, j211, j212, j213, j214, j215⟩ := HTX.out.appX 60 hB21 hrd21 HGp.out
          have e21 : ((w20.alloc (.cells #[.int .i64 p.kind, .int .i64 p.n, .slice as19 n qs19] 60)).alloc (.cells #[.int .i64 q.kind, .int .i64 n, .slice as20 q.signs.length qs20] 60)).heap.size = w20.heap.size + 2 := by simp
          rw [e21] at j212
          clear e21
          have H211 := Lib.hid j211
          have H212 := Lib.hid j212
          have H213 := Lib.hid j213
          have H214 := Lib.hid j214
          have H215 := Lib.hid j215
          have HK21 : Hid ((X).length ≤ 2001) := Lib.hid (by have := XLE.out; omega)
          clear hB21 hrd21 j211 j212 j213 j214 j215
          go_wp2_with (at_builtin; go_must (refine wpList_append_row rfl _ _ 32 rfl Try.underlying32 hi hz0 hz1 hz2 rfl rfl rfl H211.out H212.out H213.out ?c1 ?c2 ?c3 ?_))
          case c1 => have := HK21.out; exact le_BIG (by simp at this ⊢; omega)
          case c2 => have := HK21.out; simp at this ⊢; omega
          case c3 => exact H214.out
          intro vv21 w21 hr21 hw21 hn21
          replace HTX : Hid (TX w (w4.heap.size + 2) w4.heap.size (w4.heap.size + 1) v19 v20 vv21 (.slice none 0 0) (cutR p n :: r') (cutR q n :: s') (X ++ [⟨p.kind, p.n, (p.signs.take n)⟩]) [] w21) := Lib.hid (H215.out _ _ (by first | exact hr21 | (rw [List.append_nil]; exact hr21)) hw21 (fun q hq => (hn21 q.1 q.2 hq).imp_right fun h => by first | (simp; omega) | simpa using h))
          clear hr21 hw21 hn21 H211 H212 H213 H214 H215 HK21 HBB21
          go_wp2_with fail
          have ex : cfB p q n = [⟨p.kind, p.n, (p.signs.take n)⟩] := by unfold cfB; rw [if_pos HKq.out, cutL_pk2 n HKp.out]
          have htr3 := HTR2.out
          rw [ex] at htr3
          go_roundg (mu (cutR p n :: r') + mu (cutR q n :: s'))
          case measure => have := HMU.out; have := HDEC.out; omega
          case rel => exact ⟨v19, v20, vv21, cutR p n :: r', cutR q n :: s', X ++ [⟨p.kind, p.n, (p.signs.take n)⟩], rfl, rfl, HTX.out, htr3⟩
        · have HKp := Lib.hid kp1
          have HKq := Lib.hid kq1
          have hpb : (p.kind == 1) = false := by simp [kp1]
          have hqb : (q.kind == 1) = false := by simp [kq1]
          clear kp1 kq1
          have HTL : Hid ((p.signs.take n).length = n) := Lib.hid (by have h := (put_sz HOp.out HKp.out).1; have h2 := HNp1.out; rw [List.length_take]; omega)
          obtain ⟨f19, j191, j192, j193, j194⟩ := HTX.out.rd
          have HJ19 := Lib.hid j193
          have hC19 := impl_take_c w4.heap.size n v11 p r' f19 _ HTX.out.p j191 j192 HOp.out HNp1.out HLEr.out
          rw [cutL_pk2 n HKp.out] at hC19
          have HC19 := Lib.hid hC19
          clear hC19 j191 j192 j193 j194
          go_wp2_with fail
          refine HC19.out.mono ?_
          rintro e' w19 ⟨v19, f', vs19, fs19, rfl, hv, hx, hsl, hm, hw⟩
          obtain ⟨as19, qs19, eln⟩ := hv.isS
          rw [HTL.out] at eln
          subst eln
          have hzo : ∀ {q : Pos}, w18.heap.size ≤ q.1 → ¬ ZP w4.heap.size (w4.heap.size + 1) vx (.slice none 0 0) q := fun h => HTX.out.zout h
          have hz : ∀ q ∈ f19, ¬ ZP w4.heap.size (w4.heap.size + 1) vx (.slice none 0 0) q := fun q hq h => HJ19.out q hq h
          have HGp : Hid (∀ q ∈ fs19, ¬ ZP w4.heap.size (w4.heap.size + 1) vx (.slice none 0 0) q) := Lib.hid (fun q hq => by rcases hm q (by simp [hq]) with h | h; exact hz q h; exact hzo h)
          have HVp := Lib.hid hv
          replace HTX : Hid (TX w (w4.heap.size + 2) w4.heap.size (w4.heap.size + 1) v19 v13 vx (.slice none 0 0) (cutR p n :: r') (q :: s') (X) [] w19) := Lib.hid ((HTX.out.stepR HJ19.out hw hx hsl (fun q hq => hm q (by simp [hq]))))
          clear hv hx hsl hm hw hzo hz HC19 HJ19
          obtain ⟨f20, j201, j202, j203, j204⟩ := HTX.out.swap.rd
          have HJ20 := Lib.hid j203
          have hC20 := impl_take_c (w4.heap.size + 1) n v13 q s' f20 _ HTX.out.swap.p j201 j202 HOq.out HNq1.out HLEs.out
          rw [cutL_nk2 n HKQ.out] at hC20
          have HC20 := Lib.hid hC20
          clear hC20 j201 j202 j203 j204
          go_wp2_with fail
          refine HC20.out.mono ?_
          rintro e' w20 ⟨v20, f', vs20, fs20, rfl, hv, hx, hsl, hm, hw⟩
          obtain ⟨as20, qs20, rfl⟩ := hv.isS
          have hzo : ∀ {q : Pos}, w19.heap.size ≤ q.1 → ¬ ZP w4.heap.size (w4.heap.size + 1) vx (.slice none 0 0) q := fun h => HTX.out.zout h
          have hz : ∀ q ∈ f20, ¬ ZP w4.heap.size (w4.heap.size + 1) vx (.slice none 0 0) q := fun q hq h => HJ20.out q hq h.swap
          have HGq : Hid (∀ q ∈ fs20, ¬ ZP w4.heap.size (w4.heap.size + 1) vx (.slice none 0 0) q) := Lib.hid (fun q hq => by rcases hm q (by simp [hq]) with h | h; exact hz q h; exact hzo h)
          have HVq := Lib.hid hv
          replace HVp := Lib.hid (HVp.out.wr hw fun q' hq' hm' => HGp.out q' hq' (by simp only [List.mem_singleton] at hm'; rw [hm']; exact .inr (.inr (.inr rfl))))
          replace HTX : Hid (TX w (w4.heap.size + 2) w4.heap.size (w4.heap.size + 1) v19 v20 vx (.slice none 0 0) (cutR p n :: r') (cutR q n :: s') (X) [] w20) := Lib.hid ((HTX.out.swap.stepR HJ20.out hw hx hsl (fun q hq => hm q (by simp [hq]))).swap)
          clear hv hx hsl hm hw hzo hz HC20 HJ20
          go_wp2_with fail
          have ex : cfB p q n = [] := by unfold cfB; rw [if_neg (by rw [HKq.out]; decide), if_neg (by rw [HKp.out]; decide)]
          have htr3 := HTR2.out
          rw [ex] at htr3
          rw [List.append_nil] at htr3
          go_roundg (mu (cutR p n :: r') + mu (cutR q n :: s'))
          case measure => have := HMU.out; have := HDEC.out; omega
          case rel => exact ⟨v19, v20, vx, cutR p n :: r', cutR q n :: s', X, rfl, rfl, HTX.out.below (((Below.refl _ _).alloc (Nat.le_refl _) _).alloc (by simp) _), htr3⟩
end Go.Proofs.Ytiahgjnpinjblaa
