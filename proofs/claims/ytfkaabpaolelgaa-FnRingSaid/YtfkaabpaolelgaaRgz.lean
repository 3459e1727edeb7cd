/- FnRing: the walk. -/
import Derived.Test.YtfkaabpaolelgaaRgx
import Derived.Deep.CutRange
import Derived.Deep.RegionHeld3
import Derived.BigQuiet
namespace Go.Proofs.Ytfkaabpaolelgaa
open Go.RowKit
set_option maxHeartbeats 8000000 in
set_option maxRecDepth 100000 in
theorem walk_FnRing (vb : Value) (bs : List DByte) (w : World) (hm : RdSM maxLen w vb bs) :
    Calls Try.prog 3 #[vb] w (Tells w (.bool true)) := by
  obtain ⟨i0, hi, hz0, hz1, hz2⟩ := info_parts info_DEntry
  have hlm := fun w1 ty => hm.len Try.underlying22 w1 ty
  by_cases hlen : bs.length ≤ 1048576
  rotate_left
  · have hl2 : (1048576 : Int) < (bs.length : Int) := by omega
    go_enter Try.func3, Try.ntmps3
    go_wp2
    go_ret
    exact ⟨rfl, Below.refl _ _⟩
  have hl2 : ¬ (1048576 : Int) < (bs.length : Int) := by omega
  have hb : RdS w vb bs := by
    obtain ⟨f, h⟩ := hm
    rcases h with h | ⟨b, o, cap, cs, fs, rfl, h1, h2, h3, ha, he, hl, rfl⟩
    · exact ⟨f, .inl h⟩
    · exact ⟨_, .inr ⟨b, o, cap, cs, fs, rfl, h1, h2, le_BIG (by omega), ha, els_bytes he, hl, rfl⟩⟩
  have HB := Lib.hid hb
  clear hm hb
  go_enter Try.func3, Try.ntmps3
  go_wp2_with fail
  refine (spec_MakeEntries_c vb bs w HB.out).mono ?_
  rintro e' w1 ⟨vl, l, rfl, hl, hll, hdr, hb1⟩
  have HL1 := Lib.hid hl.rd
  have HDR := Lib.hid hdr
  have HB1 := Lib.hid hb1
  clear hl hdr hb1
  go_wp2_with fail
  refine (spec_MakeNum_c vb bs 6 _ (HB.out.below HB1.out)).mono ?_
  rintro e' w2 ⟨x0, rfl, hx, hb2⟩
  obtain ⟨hx0, hx1⟩ := hx.1 (by decide)
  have HB2 := Lib.hid (HB1.out.trans (hb2.mono HB1.out.size))
  have HL2 := Lib.hid (HL1.out.below hb2)
  clear hx hb2 HB1 HL1
  go_wp2_with fail
  have hnew := impl_RingNew_c (1 + x0) 10 w2 (by decide) (by decide)
  obtain ⟨hn1, hn2⟩ := RI.start (l := l) (room := 1 + x0) (by omega) (by omega)
  rw [hn1] at hnew
  refine hnew.mono ?_
  rintro e' w3 ⟨v3, f3, he, s3, k3, hb3⟩
  simp only at he
  subst he
  have HRI0 := Lib.hid hn2
  have HB3 := Lib.hid (HB2.out.trans (hb3.mono HB2.out.size))
  have HL := Lib.hid (HL2.out.below hb3)
  obtain ⟨al, cl, rfl⟩ := HL.out.isSlice
  obtain ⟨fv3, hv3⟩ : ∃ f, Sl BIG w3 v3 ([] : List DEntry) f := ⟨_, s3⟩
  obtain ⟨a3, c3, rfl⟩ := (show RdS w3 v3 ([] : List DEntry) from ⟨_, hv3⟩).isSlice
  have HV3 := Lib.hid hv3
  clear hnew hn1 hn2 s3 k3 hb3 HB2 HL2 hv3
  go_wp2_with fail
  have HRW0 : Hid (RW w3 w3.heap.size ((w3.alloc (.cells #[.int .i64 (1 + x0), .int .i64 11, .bool false, .slice a3 0 c3] 27)).alloc (.cells #[] 32)) (.slice (some ⟨w3.heap.size + 1, 0, none⟩) 0 0) (.slice a3 0 c3) ⟨1 + x0, 11, false, []⟩ []) := Lib.hid (by
    have hbb : Below w3.heap.size w3 ((w3.alloc (.cells #[.int .i64 (1 + x0), .int .i64 11, .bool false, .slice a3 0 c3] 27)).alloc (.cells #[] 32)) := ((Below.refl _ _).alloc (Nat.le_refl _) _).alloc (by simp) _
    refine ⟨(Bx.new rfl).alloc _, ⟨fv3, HV3.out.keep (Live.same_below hbb (Live.lt HV3.out.live)), fun p hp => ⟨fun e => ?_, fun hq => ?_⟩⟩, ⟨[], Row.empty _ _ _, fun _ h => (by cases h)⟩, hbb⟩
    · have := Live.lt HV3.out.live p hp
      omega
    · simp [rowP, own] at hq)
  clear HV3
  go_loopw [7, 38] (fun g i wr => ∃ (k : Nat) (r : DRing) (got : List DEntry) (gv vr : Value), gv = g ∧ i = .int .i64 k ∧ k ≤ l.length ∧ RI l (1 + x0) k r got ∧ RW w3 w3.heap.size wr gv vr r got) (fun _ i _ => l.length - (intOf i).toNat)
  case atStart => exact ⟨0, _, [], _, _, rfl, rfl, Nat.zero_le _, HRI0.out, HRW0.out⟩
  case round =>
    obtain ⟨k, r, got, gv, vr, rfl, rfl, hk, hri, hrw⟩ := hrel
    have HRI := Lib.hid hri
    have HRW := Lib.hid hrw
    clear hri hrw HRI0 HRW0
    by_cases hlt : k < l.length
    · have hlt2 : (k : Int) < (l.length : Int) := by omega
      obtain ⟨e, hx⟩ := get_some hlt
      obtain ⟨b1, o1, cs, g1, g2, g3⟩ := (HL.out.below HRW.out.be).idx Try.underlying23 szi_DEntry k hx
      obtain ⟨v_o, rfl, r_o⟩ := inv_DEntry g3
      have q0 := g2.zero
      have q1 := g2 1 _ rfl
      have q2 := g2 2 _ rfl
      obtain ⟨aa, ca, rfl⟩ := r_o.isSlice
      have heo := dre_ok (HDR.out e (List.mem_of_getElem? hx))
      have HEO := Lib.hid heo
      have HX := Lib.hid hx
      have HRO := Lib.hid r_o
      obtain ⟨z5, c0, c1, c2, c3'⟩ := HRW.out.bx.o4
      clear heo hx r_o g2 g3
      go_wp2_with fail
      refine (impl_RingLag_c r vr _ ((HRW.out.below ((Below.refl _ _).alloc (Nat.le_refl _) _)).rd)).mono ?_
      rintro e' w4 ⟨rfl, hb4⟩
      have HRW4 := Lib.hid ((HRW.out.below ((Below.refl _ _).alloc (Nat.le_refl _) (.cells #[.int .i64 e.client, .int .i64 e.seq, .slice aa e.o.length ca] 32))).below hb4)
      have HX9 : Hid (Bx w4 wr.heap.size [.int .i64 e.client, .int .i64 e.seq, .slice aa e.o.length ca]) := Lib.hid ((Bx.new rfl).at hb4)
      have HRO4 : Hid (RdS w4 (.slice aa e.o.length ca) e.o) := Lib.hid ((HRO.out.below ((Below.refl _ _).alloc (Nat.le_refl _) _)).below hb4)
      clear q0 q1 q2 z5 c0 c1 c2 c3' hb4 HRW HRO g1
      obtain ⟨z5, c0, c1, c2, c3'⟩ := HRW4.out.bx.o4
      obtain ⟨z9, q0, q1, q2⟩ := HX9.out.o3
      obtain ⟨x, hxe⟩ : ∃ x, ringPush r e = x := ⟨_, rfl⟩
      obtain ⟨hxo, hrx⟩ := HRI.out.push HX.out HEO.out
      have hcall := impl_RingPush_c r e vr (.slice aa e.o.length ca) w4 HRW4.out.rd HRO4.out HRI.out.sz (by have := op_sz (entry_op HEO.out).1; omega)
      rw [hxe] at hcall hxo hrx
      have HXO := Lib.hid hxo
      have HRX := Lib.hid hrx
      clear hxe hxo hrx
      go_wp2_with fail
      refine hcall.mono ?_
      rintro e' w5 ⟨v5, f5, rfl, s5, k5, hb5⟩
      obtain ⟨a5, c5, rfl⟩ := (show RdS w5 v5 x.list from ⟨_, s5⟩).isSlice
      have HS5 := Lib.hid s5
      have HK5 := Lib.hid k5
      have HRW5 := Lib.hid (HRW4.out.below hb5)
      have HLT4 := Lib.hid HRW4.out.bx.lt
      have HG4 : Hid (∀ p ∈ rowP (GoT.n DEntry) gv, p.1 < w4.heap.size) := Lib.hid (fun p hp => by obtain ⟨fg, k0, _⟩ := HRW4.out.gg; exact Live.lt (Live.append.1 k0.1.live).1 p hp)
      clear hcall s5 k5 hb5 HRW4 HX9 HRO4 z5 c0 c1 c2 c3' z9 q0 q1 q2 HEO
      go_upto_region 12 with (fail)
      have HRW6 := Lib.hid (HRW5.out.below ((Below.refl _ _).alloc (Nat.le_refl _) (.cells #[.int .i64 x.cap, .int .i64 x.next, .bool x.out, .slice a5 x.list.length c5] 27)))
      have HX6 : Hid (Bx (w5.alloc (.cells #[.int .i64 x.cap, .int .i64 x.next, .bool x.out, .slice a5 x.list.length c5] 27)) w5.heap.size [.int .i64 x.cap, .int .i64 x.next, .bool x.out, .slice a5 x.list.length c5]) := Lib.hid (Bx.new rfl)
      have HS6 : Hid (Sl BIG (w5.alloc (.cells #[.int .i64 x.cap, .int .i64 x.next, .bool x.out, .slice a5 x.list.length c5] 27)) (.slice a5 x.list.length c5) x.list f5) := Lib.hid (HS5.out.keep (Live.same_below ((Below.refl _ _).alloc (Nat.le_refl _) _) (Live.lt HS5.out.live)))
      obtain ⟨fg4, hg4, hf4⟩ := HRW5.out.gg
      have HD5 : Hid (∀ p ∈ f5, p.1 ≠ w3.heap.size ∧ p ∉ rowP (GoT.n DEntry) gv) := Lib.hid (fun p hp => by
        have e1 := HK5.out.ge p hp
        exact ⟨by have := HLT4.out; omega, fun hm => by have := HG4.out p hm; omega⟩)
      obtain ⟨W, hW⟩ : ∃ W, w5.alloc (.cells #[.int .i64 x.cap, .int .i64 x.next, .bool x.out, .slice a5 x.list.length c5] 27) = W := ⟨_, rfl⟩
      rw [hW] at HRW6 HX6 HS6
      rw [hW]
      clear hW HS5 HK5 HRW5 hg4 hf4
      go_cut [62] from 39 to 108 (fun z wx => z = .bool false ∧ Below W.heap.size W wx)
      case first =>
        obtain ⟨z5, c0, c1, c2, c3'⟩ := HRW6.out.bx.o4
        obtain ⟨z9, q0, q1, q2, q3⟩ := HX6.out.o4
        have hok := HRX.out.ok
        have HOK : Hid (∀ w', Below W.heap.size W w' → Calls Try.prog 9 #[.agg #[.int .i64 x.cap, .int .i64 x.next, .bool x.out, .slice a5 x.list.length c5]] w' (Tells w' (.bool true))) := Lib.hid (fun w' hb => by have := impl_RingOk_c x (.slice a5 x.list.length c5) w' (RdS.below ⟨_, HS6.out⟩ hb); rw [hok] at this; exact this)
        have hx2 := HXO.out
        rcases (show (r.out = true ∧ x.out = true) ∨ (r.out = false ∧ ringLag r = 1 + x0 ∧ x.out = true) ∨ (r.out = false ∧ ¬ ringLag r = 1 + x0 ∧ x.out = false) by
          cases hr : r.out
          · by_cases hc : ringLag r = 1 + x0
            · exact .inr (.inl ⟨rfl, hc, by rw [hx2, hr, hc]; simp⟩)
            · exact .inr (.inr ⟨rfl, hc, by rw [hx2, hr]; simp [hc]⟩)
          · exact .inl ⟨rfl, by rw [hx2, hr]; rfl⟩) with ⟨o1', o2'⟩ | ⟨o1', o2', o3'⟩ | ⟨o1', o2', o3'⟩
        · clear hx2 hok
          rw [o1'] at c2
          rw [o2'] at q2
          have HOK2 := HOK
          rw [o2'] at HOK2
          clear HOK o1' o2'
          go_wp2_with fail
          refine (HOK2.out _ (by repeat' (first | exact Below.refl _ _ | refine Below.drew ?_))).mono ?_
          rintro e' w6 ⟨rfl, hb6⟩
          go_wp2_with fail
          go_meet
          exact ⟨rfl, hb6⟩
        · have o4 : (ringLag r == 1 + x0) = true := by rw [o2']; simp
          clear hx2 hok
          rw [o1'] at c2
          rw [o3'] at q2
          have HOK2 := HOK
          rw [o3'] at HOK2
          clear HOK o1' o2' o3'
          go_wp2_with fail
          refine (HOK2.out _ (by repeat' (first | exact Below.refl _ _ | refine Below.drew ?_))).mono ?_
          rintro e' w6 ⟨rfl, hb6⟩
          go_wp2_with fail
          go_meet
          exact ⟨rfl, hb6⟩
        · have o4 : (ringLag r == 1 + x0) = false := by simpa using o2'
          clear hx2 hok
          rw [o1'] at c2
          rw [o3'] at q2
          have HOK2 := HOK
          rw [o3'] at HOK2
          clear HOK o1' o2' o3'
          go_wp2_with fail
          refine (HOK2.out _ (by repeat' (first | exact Below.refl _ _ | refine Below.drew ?_))).mono ?_
          rintro e' w6 ⟨rfl, hb6⟩
          go_wp2_with fail
          go_meet
          exact ⟨rfl, hb6⟩
      case rest =>
        obtain ⟨rfl, hbw⟩ := hcut
        have HRW7 := Lib.hid (HRW6.out.below hbw)
        have HX7 := Lib.hid (HX6.out.at hbw)
        have HS7 := Lib.hid (HS6.out.keep (Live.same_below hbw (Live.lt HS6.out.live)))
        clear hbw HRW6 HX6 HS6 HXO HRI HLT4 HG4
        obtain ⟨V, hV⟩ : ∃ V, V = wc := ⟨_, rfl⟩
        subst hV
        obtain ⟨z5, c0, c1, c2, c3', f0, f1, f2, f3'⟩ := HRW7.out.bx.q4
        obtain ⟨z9, q0, q1, q2, q3⟩ := HX7.out.o4
        go_upto_region 15 with (fail)
        have HRW8 := Lib.hid (HRW7.out.put (x := x) (vx := .slice a5 x.list.length c5) HS7.out HD5.out ((((((Wr.refl _ V).put (b := w3.heap.size) (o := 0) (by simp) (.int .i64 x.cap)).put (b := w3.heap.size) (o := 1) (by simp) (.int .i64 x.next)).put (b := w3.heap.size) (o := 2) (by simp) (.bool x.out)).put (b := w3.heap.size) (o := 3) (by simp) (.slice a5 x.list.length c5))) ((((HRW7.out.bx.set 0 (.int .i64 x.cap)).set 1 (.int .i64 x.next)).set 2 (.bool x.out)).set 3 (.slice a5 x.list.length c5)))
        clear HRW7 HX7 HS7 HD5 z5 c0 c1 c2 c3' f0 f1 f2 f3' z9 q0 q1 q2 q3
        obtain ⟨W8, hW8⟩ : ∃ W8, ((((V.setCell ⟨w3.heap.size, 0, none⟩ (.int .i64 x.cap)).setCell ⟨w3.heap.size, 1, none⟩ (.int .i64 x.next)).setCell ⟨w3.heap.size, 2, none⟩ (.bool x.out)).setCell ⟨w3.heap.size, 3, none⟩ (.slice a5 x.list.length c5)) = W8 := ⟨_, rfl⟩
        rw [hW8] at HRW8
        rw [hW8]
        clear hW8
        have HBw := Lib.hid (HB.out.below (HB3.out.trans (HRW8.out.be.mono HB3.out.size)))
        go_wp2_with fail
        refine (spec_MakeNum_c vb bs 3 _ HBw.out).mono ?_
        rintro e' w9 ⟨y, rfl, hy, hb9⟩
        have HRW9 := Lib.hid (HRW8.out.below hb9)
        have HBw9 := Lib.hid (HBw.out.below hb9)
        clear hy hb9 HRW8 HBw
        have HG9 : Hid (∀ p ∈ rowP (GoT.n DEntry) gv, p.1 < w9.heap.size) := Lib.hid (fun p hp => by obtain ⟨fg, k0, _⟩ := HRW9.out.gg; exact Live.lt (Live.append.1 k0.1.live).1 p hp)
        have HL5 := Lib.hid HRW9.out.bx.lt
        go_upto_if 68 with (fail)
        go_cut [7, 12, 13, 14] from 39 to 108 (fun z _ _ _ wx => ∃ (r' : DRing) (got' : List DEntry) (vr' gv' : Value), gv' = z ∧ RI l (1 + x0) (k + 1) r' got' ∧ RW w3 w3.heap.size wx gv' vr' r' got')
        case first =>
          go_upto_region 16 with (fail)
          · go_cut [12, 13, 14] from 68 to 77 (fun z12 z13 z14 wx => ∃ (n : Int) (xr : DRing) (more : List DEntry) (code : Int) (b12 : Nat) (vy v13 : Value) (fy fm : List Pos), 1 ≤ n ∧ ringPoll x n = (xr, more, code) ∧ z12 = .pointer (some ⟨b12, 0, none⟩) ∧ v13 = z13 ∧ z14 = .int .i64 code ∧ w9.heap.size ≤ b12 ∧ Bx wx b12 [.int .i64 xr.cap, .int .i64 xr.next, .bool xr.out, vy] ∧ Sl BIG wx vy xr.list fy ∧ Sl BIG wx v13 more fm ∧ (∀ p ∈ fy ++ fm, w9.heap.size ≤ p.1) ∧ Below w9.heap.size w9 wx)
            case first =>
              have HSZ := Lib.hid HRX.out.sz
              obtain ⟨z5, c0, c1, c2, c3'⟩ := HRW9.out.bx.o4
              have m1 : ¬ (w3.heap.size = w9.heap.size) := by omega
              go_region_held3 (fun w' => w'.cell? ⟨w3.heap.size, 0, none⟩ = some (.int .i64 x.cap) ∧ w'.cell? ⟨w3.heap.size, 1, none⟩ = some (.int .i64 x.next) ∧ w'.cell? ⟨w3.heap.size, 2, none⟩ = some (.bool x.out) ∧ w'.cell? ⟨w3.heap.size, 3, none⟩ = some (.slice a5 x.list.length c5)) (first | go_keep | (simp [cell_setCell, *]; done)) ((first | (go_at_call 5; refine (spec_MakeNum_c vb bs 4 _ (HBw9.out.below (show Below w9.heap.size w9 _ from blw))).mono ?_; rintro e' w10 ⟨y2, rfl, hy2, hb10⟩; obtain ⟨y20, y21⟩ := hy2.1 (by decide); have ew : IntKind.i64.wrap (1 + y2) = 1 + y2 := IntWalk.i64_in _ (by omega); have B10 : Below w9.heap.size w9 w10 := (show Below w9.heap.size w9 _ from blw).trans (hb10.mono (by first | (simp; done) | (simp; omega) | omega)); have s10 : w9.heap.size ≤ w10.heap.size := B10.size; (try (have NB : Bx w10 w9.heap.size [.int .i64 0, .int .i64 0, .bool false, .slice none 0 0] := Bx.at (show Bx _ w9.heap.size [.int .i64 0, .int .i64 0, .bool false, .slice none 0 0] from (by exact (show Bx (w9.alloc (.cells #[.int .i64 0, .int .i64 0, .bool false, .slice none 0 0] 27)) w9.heap.size [.int .i64 0, .int .i64 0, .bool false, .slice none 0 0] from Bx.new rfl))) hb10; obtain ⟨nl, n0, n1, n2, n3, g0, g1, g2, g3⟩ := NB.q4; have HNB := Lib.hid NB; clear NB)); obtain ⟨z5_10, c0_10, c1_10, c2_10, c3_10⟩ := (HRW9.out.below B10).bx.o4; clear hb10 hy2; have mq2 : ¬ (w3.heap.size = w10.heap.size) := (by omega); have HB10 := Lib.hid B10; clear B10; (try skip)) | (go_at_call 10; refine (impl_RingPoll_c x (1 + y2) (.slice a5 x.list.length c5) _ ((HRW9.out.below (show Below w9.heap.size w9 _ from HB10.out.trans ((show Below w10.heap.size w10 _ from blw).mono s10))).rd) HSZ.out).mono ?_; rintro e' w11 ⟨v0, v1, f0, f1, rfl, h0, h1, hf, hb11⟩; obtain ⟨a0, c0', rfl⟩ := (show RdS w11 v0 (ringPoll x (1 + y2)).1.list from ⟨_, h0⟩).isSlice; obtain ⟨a1, c1', rfl⟩ := (show RdS w11 v1 (ringPoll x (1 + y2)).2.1 from ⟨_, h1⟩).isSlice; have B11 : Below w10.heap.size w10 w11 := (show Below w10.heap.size w10 _ from blw).trans (hb11.mono (by first | (simp; done) | (simp; omega) | omega)); have s11 : w10.heap.size ≤ w11.heap.size := B11.size; (try (have NC : Bx w11 w9.heap.size [.int .i64 0, .int .i64 0, .bool false, .slice none 0 0] := HNB.out.at hb11; obtain ⟨ml, m0, m1, m2, m3, k0, k1, k2, k3⟩ := NC.q4; have HNC := Lib.hid NC; clear NC)); (try (have ND : Bx w11 w10.heap.size [.int .i64 0, .int .i64 0, .bool false, .slice none 0 0] := Bx.at (show Bx _ w10.heap.size [.int .i64 0, .int .i64 0, .bool false, .slice none 0 0] from (by exact (show Bx (w10.alloc (.cells #[.int .i64 0, .int .i64 0, .bool false, .slice none 0 0] 27)) w10.heap.size [.int .i64 0, .int .i64 0, .bool false, .slice none 0 0] from Bx.new rfl))) hb11; obtain ⟨ml, m0, m1, m2, m3, k0, k1, k2, k3⟩ := ND.q4; have HNC := Lib.hid ND; clear ND)); obtain ⟨z5_11, c0_11, c1_11, c2_11, c3_11⟩ := ((HRW9.out.below HB10.out).below B11).bx.o4; have HH0 := Lib.hid h0; have HH1 := Lib.hid h1; have HHF := Lib.hid hf; clear h0 h1 hf hb11; have HB11 := Lib.hid B11; clear B11; (try skip))))
              · go_wp2_with fail
                go_meet
                exact ⟨1 + y2, (ringPoll x (1 + y2)).1, (ringPoll x (1 + y2)).2.1, (ringPoll x (1 + y2)).2.2, _, _, _, _, _, (by omega), trip _, rfl, rfl, rfl, (by omega), poll_new HH0.out HH1.out (fun p hp => Nat.le_trans s10 (HHF.out.ge p hp)) (by omega) (HB10.out.trans (HB11.out.mono s10))⟩
              · go_wp2_with fail
                go_meet
                exact ⟨1 + y2, (ringPoll x (1 + y2)).1, (ringPoll x (1 + y2)).2.1, (ringPoll x (1 + y2)).2.2, _, _, _, _, _, (by omega), trip _, rfl, rfl, rfl, (by omega), poll_set HNC.out (by omega) HH0.out HH1.out (fun p hp => by have := HHF.out.ge p hp; simp at this; omega) (HB10.out.trans (HB11.out.mono s10))⟩
              · go_wp2_with fail
                go_meet
                exact ⟨1 + y2, (ringPoll x (1 + y2)).1, (ringPoll x (1 + y2)).2.1, (ringPoll x (1 + y2)).2.2, _, _, _, _, _, (by omega), trip _, rfl, rfl, rfl, (by omega), poll_set HNC.out (by omega) HH0.out HH1.out (fun p hp => by have := HHF.out.ge p hp; omega) (HB10.out.trans (HB11.out.mono s10))⟩
            case rest =>
              obtain ⟨n, xr, more, code, b12, vy, v13, fy, fm, hn1, hpq, rfl, rfl, rfl, hb12, hbx, hsy, hsm, hge, hbw⟩ := hcut
              obtain ⟨hp1, hp2, hp3⟩ := HRX.out.poll hn1 hll
              rw [hpq] at hp1 hp2 hp3
              simp only at hp1 hp2 hp3
              obtain ⟨ay, cy, rfl⟩ := (show RdS wc vy xr.list from ⟨_, hsy⟩).isSlice
              obtain ⟨am, cm, rfl⟩ := (show RdS wc v13 more from ⟨_, hsm⟩).isSlice
              obtain ⟨V2, hV2⟩ : ∃ V2, V2 = wc := ⟨_, rfl⟩
              subst hV2
              have hc9 : (code == 9) = x.out := by rw [hp1]; cases x.out <;> rfl
              have hfit := hp3.fits
              rw [List.length_append] at hfit
              have HRWc := Lib.hid (HRW9.out.below hbw)
              obtain ⟨fg, kg, eg⟩ := HRWc.out.gg
              obtain ⟨gs, sm1, sm2, sm3⟩ := hsm.src
              have hL5 := HL5.out
              have HPR := Lib.hid hp3
              have HBX := Lib.hid hbx
              have HSY := Lib.hid hsy
              have HSRC := Lib.hid sm1
              have HGE : Hid (∀ p ∈ fy, w9.heap.size ≤ p.1) := Lib.hid (fun p hp => hge p (List.mem_append_left _ hp))
              have HGM : Hid (∀ p ∈ gs, w9.heap.size ≤ p.1) := Lib.hid (fun p hp => hge p (List.mem_append_right _ (sm2 p hp)))
              have HDG : Hid (∀ p ∈ gs, p ∉ rowP (GoT.n DEntry) gv) := Lib.hid (fun p hp hm => by have := HGM.out p hp; have := HG9.out p hm; omega)
              have HROW := Lib.hid kg
              have HEG := Lib.hid eg
              have hz := HRWc.out.bx.lt
              obtain ⟨z5, c0, c1, c2, c3'⟩ := HRWc.out.bx.o4
              obtain ⟨z9, q0, q1, q2, q3⟩ := HBX.out.o4
              clear hpq hp1 hp2 hp3 hbx hsy hsm hge hbw kg eg sm1 sm2 sm3
              go_wp2_with (at_builtin; go_must (refine wpList_append_row rfl _ _ 23 rfl Try.underlying23 hi hz0 hz1 hz2 rfl rfl rfl HROW.out HSRC.out HDG.out ?c1 ?c2 ?c3 ?_))
              case c1 => exact le_BIG (by omega)
              case c2 => first | omega | (simp; omega)
              case c3 => exact hz
              intro v' w12 hr hw hn0
              have hn : ∀ p ∈ rowP (GoT.n DEntry) v', p ∈ rowP (GoT.n DEntry) gv ∨ V2.heap.size ≤ p.1 := fun p hp => hn0 p.1 p.2 hp
              have HN : Hid (∀ p ∈ fy, p ∉ rowP (GoT.n DEntry) v') := Lib.hid (fun p hp hm => by
                rcases hn p hm with h1 | h1
                · have := HGE.out p hp
                  have := HG9.out p h1
                  omega
                · have := Live.lt HSY.out.live p hp
                  omega)
              have HRW12 := Lib.hid (HRWc.out.app HROW.out HEG.out (fun p hp => by have := HGM.out p hp; omega) hr hw hn)
              have HBX12 := Lib.hid (HBX.out.wr hw (fun p hp => by have := HG9.out p hp; omega))
              have HSY12 := Lib.hid (HSY.out.wr hw (fun p hp hm => by have := HGE.out p hp; have := HG9.out p hm; omega))
              clear hr hw hn hn0 z5 c0 c1 c2 c3' z9 q0 q1 q2 q3 HROW HEG HSRC HBX HSY HDG HRWc
              obtain ⟨G, hG⟩ : ∃ G, got ++ more = G := ⟨_, rfl⟩
              rw [hG] at HRW12 HPR
              clear hG
              obtain ⟨ag, cg, rfl⟩ := HRW12.out.gd.isSlice
              obtain ⟨z5, c0, c1, c2, c3', f0, f1, f2, f3'⟩ := HRW12.out.bx.q4
              obtain ⟨z9, q0, q1, q2, q3⟩ := HBX12.out.o4
              go_wp2_with fail
              go_meet
              exact ⟨xr, G, _, _, rfl, HPR.out, HRW12.out.put HSY12.out (fun p hp => ⟨by have := HGE.out p hp; omega, HN.out p hp⟩) ((((((Wr.refl _ w12).put (b := w3.heap.size) (o := 0) (by simp) _).put (b := w3.heap.size) (o := 1) (by simp) _).put (b := w3.heap.size) (o := 2) (by simp) _).put (b := w3.heap.size) (o := 3) (by simp) _)) ((((HRW12.out.bx.set 0 _).set 1 _).set 2 _).set 3 _)⟩
          · go_meet
            exact ⟨x, got, _, _, rfl, HRX.out, HRW9.out⟩
        case rest =>
          obtain ⟨r', got', vr', gv', rfl, hri', hrw'⟩ := hcut
          obtain ⟨V3, hV3⟩ : ∃ V3, V3 = wc := ⟨_, rfl⟩
          subst hV3
          obtain ⟨ag, cg, rfl⟩ := hrw'.gd.isSlice
          obtain ⟨ar, cr, rfl⟩ := hrw'.rd.isSlice
          have hfit := hri'.fits
          have HRI' := Lib.hid hri'
          have HRW' := Lib.hid hrw'
          clear hri' hrw' HRX HRW9 HBw9 HG9 HL5
          obtain ⟨z5, c0, c1, c2, c3'⟩ := HRW'.out.bx.o4
          rcases hro : r'.out with _ | _
          · obtain ⟨hs1, hs2⟩ := HRI'.out.seen (by omega) hro
            rw [hro] at c2
            have e95 : IntKind.i64.wrap (11 + (got'.length : Int)) = 11 + (got'.length : Int) := IntWalk.i64_in _ (by omega)
            have e96 : (r'.next != 11 + (got'.length : Int)) = false := by rw [hs1]; simp
            have e102 : IntKind.i64.wrap (ringLag r' + (got'.length : Int)) = (k : Int) + 1 := by rw [hs2]; exact IntWalk.i64_in _ (by omega)
            have e104 : IntKind.i64.wrap ((k : Int) + 1) = (k : Int) + 1 := IntWalk.i64_in _ (by omega)
            clear hs1 hs2
            go_wp2_with fail
            have hlag := impl_RingLag_c r' (.slice ar r'.list.length cr) _ HRW'.out.rd
            rw [hro] at hlag
            refine hlag.mono ?_
            rintro e' w13 ⟨rfl, hb13⟩
            have HRW13 := Lib.hid (HRW'.out.below hb13)
            clear hb13 HRW'
            go_wp2
            go_roundw
            case rel => exact ⟨k + 1, r', got', _, _, rfl, by go_num, by omega, HRI'.out, HRW13.out⟩
            case measure => simp [intOf]; omega
          · rw [hro] at c2
            go_wp2
            go_roundw
            case rel => exact ⟨k + 1, r', got', _, _, rfl, by go_num, by omega, HRI'.out, HRW'.out⟩
            case measure => simp [intOf]; omega
    · obtain rfl : k = l.length := by omega
      obtain ⟨ag, cg, rfl⟩ := HRW.out.gd.isSlice
      obtain ⟨ar, cr, rfl⟩ := HRW.out.rd.isSlice
      obtain ⟨WL, hWL⟩ : ∃ WL, WL = wr := ⟨_, rfl⟩
      subst hWL
      have hfit := HRI.out.fits
      have HGD := Lib.hid HRW.out.gd
      go_wp2_with fail
      go_loopw [111] (fun i wx => ∃ j : Nat, i = .int .i64 j ∧ j ≤ got.length ∧ Below WL.heap.size WL wx) (fun i _ => got.length - (intOf i).toNat)
      case atStart => exact ⟨0, rfl, Nat.zero_le _, blw⟩
      case round =>
        obtain ⟨j, rfl, hj, hbr⟩ := hrel
        have hszr := hbr.size
        have HBR := Lib.hid hbr
        clear hbr
        by_cases hjl : j < got.length
        · have hjl2 : (j : Int) < (got.length : Int) := by omega
          have hjl3 : decide (l.length ≤ j) = false := by simp; omega
          have hjl4 : (j : Int) < (l.length : Int) := by omega
          obtain ⟨e, hx⟩ := get_some hjl
          have hy := HRI.out.at hx
          obtain ⟨b1, o1, cs, g1, g2, g3⟩ := (HGD.out.below HBR.out).idx Try.underlying23 szi_DEntry j hx
          obtain ⟨v_o, rfl, r_o⟩ := inv_DEntry g3
          have q0 := g2.zero
          have q1 := g2 1 _ rfl
          have q2 := g2 2 _ rfl
          obtain ⟨aa, ca, rfl⟩ := r_o.isSlice
          obtain ⟨b2, o2, ds, i1, i2, i3⟩ := (HL.out.below (HRW.out.be.trans (HBR.out.mono (Nat.le_of_lt HRW.out.bx.lt)))).idx Try.underlying23 szi_DEntry j hy
          obtain ⟨u_o, rfl, s_o⟩ := inv_DEntry i3
          have p0 := i2.zero
          have p1 := i2 1 _ rfl
          have p2 := i2 2 _ rfl
          obtain ⟨ab, cb, rfl⟩ := s_o.isSlice
          have l1 : b1 < wr.heap.size := World.block_lt_of_cell? (w := wr) (a := ⟨b1, o1 + 1, none⟩) q1
          have l2 : b2 < wr.heap.size := World.block_lt_of_cell? (w := wr) (a := ⟨b2, o2 + 1, none⟩) p1
          have HRO := Lib.hid r_o
          have HSO := Lib.hid s_o
          clear hx hy g2 g3 i2 i3 r_o s_o
          go_wp2_with fail
          obtain ⟨W1, hW1⟩ : ∃ W1, W1 = wr.alloc (.cells #[.int .i64 e.client, .int .i64 e.seq, .slice aa e.o.length ca] 32) := ⟨_, rfl⟩
          have hbx : Below wr.heap.size wr W1 := by rw [hW1]; exact (Below.refl _ _).alloc (Nat.le_refl _) _
          have hsx := hbx.size
          have xx0 : W1.cell? ⟨wr.heap.size, 0, none⟩ = some (.int .i64 e.client) := by rw [hW1]; simp
          have xx1 : W1.cell? ⟨wr.heap.size, 1, none⟩ = some (.int .i64 e.seq) := by rw [hW1]; simp
          have xx2 : W1.cell? ⟨wr.heap.size, 2, none⟩ = some (.slice aa e.o.length ca) := by rw [hW1]; simp
          have px0 := (hbx.cell (p := ⟨b2, o2, none⟩) l2).trans p0
          obtain ⟨px1, px2⟩ := mv2 hbx l2 p1 p2
          rw [← hW1]
          clear hW1 p0 p1 p2 q0 q1 q2
          go_still_tail 10, (by kernel_rfl)
          go_wp2_with fail
          refine (EntrySame_c e e _ _ _ (HRO.out.below blw) (HSO.out.below blw)).mono ?_
          rintro e' w9 ⟨rfl, hb9⟩
          rw [dec_t rfl]
          go_wp2
          go_roundw
          case rel => exact ⟨j + 1, by go_num, by omega, HBR.out.trans ((show Below wr.heap.size wr w9 from blw).mono hszr)⟩
          case measure => simp [intOf]; omega
        · obtain rfl : j = got.length := by omega
          have HRWf := Lib.hid (HRW.out.below HBR.out)
          obtain ⟨h1, h2⟩ := HRI.out.anew
          have hrs := impl_RingResync_c r 33 (.slice ar r.list.length cr) wr (by decide) (by decide) HRWf.out.rd
          rw [h1] at hrs
          obtain ⟨z5, c0, c1, c2, c3'⟩ := HRWf.out.bx.o4
          go_wp2_with fail
          refine hrs.mono ?_
          rintro e' w4 ⟨v4, f4, he, s4, k4, hb4⟩
          simp only at he
          subst he
          obtain ⟨fv4, hv4⟩ : ∃ f, Sl BIG w4 v4 ([] : List DEntry) f := ⟨_, s4⟩
          obtain ⟨a4, c4, rfl⟩ := (show RdS w4 v4 ([] : List DEntry) from ⟨_, hv4⟩).isSlice
          have HV4 : Hid (RdS w4 (.slice a4 0 c4) ([] : List DEntry)) := Lib.hid ⟨_, hv4⟩
          have HB4 := Lib.hid (HRWf.out.be.trans (hb4.mono (Nat.le_of_lt HRWf.out.bx.lt)))
          have hrp := fun (W : World) (h : RdS W (.slice a4 0 c4) ([] : List DEntry)) => impl_RingPoll_c ⟨1 + x0, 34, false, []⟩ 5 (.slice a4 0 c4) W h (by show szL ([] : List DEntry) ≤ 4000000; decide)
          simp only [h2] at hrp
          have HRP := Lib.hid hrp
          clear hrp h1 h2 hrs s4 k4 hb4 hv4 z5 c0 c1 c2 c3'
          go_wp2_with fail
          refine (HRP.out _ (HV4.out.below blw)).mono ?_
          rintro e' w5 ⟨v5, v6, f5, f6, he, s5, s6, k5, hb5⟩
          simp only at he
          subst he
          obtain ⟨a5, c5, rfl⟩ := (show RdS w5 v5 ([] : List DEntry) from ⟨_, s5⟩).isSlice
          obtain ⟨a6, c6, rfl⟩ := (show RdS w5 v6 ([] : List DEntry) from ⟨_, s6⟩).isSlice
          have HX17 : Hid (Bx w5 w4.heap.size [.int .i64 (1 + x0), .int .i64 34, .bool false, .slice a4 0 c4]) := Lib.hid ((Bx.new rfl).at hb5)
          obtain ⟨z9, q0, q1, q2, q3⟩ := HX17.out.o4
          have B5 : Below w4.heap.size w4 w5 := blw
          have HB5 := Lib.hid B5
          clear s5 s6 k5 hb5
          go_wp2_with fail
          refine (impl_RingSame_c ⟨1 + x0, 34, false, []⟩ ⟨1 + x0, 34, false, []⟩ (.slice a4 0 c4) (.slice a4 0 c4) _ (HV4.out.below blw) (HV4.out.below blw)).mono ?_
          rintro e' w6 ⟨rfl, hb6⟩
          rw [dec_t rfl]
          go_wp2
          go_ret
          exact ⟨rfl, HB3.out.trans ((HB4.out.trans ((HB5.out.trans ((show Below w5.heap.size w5 _ from blw).mono HB5.out.size)).mono HB4.out.size)).mono HB3.out.size)⟩
end Go.Proofs.Ytfkaabpaolelgaa
