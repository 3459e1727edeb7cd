/- The program's cursor: taking a part, or the head of one. -/
import Derived.Test.YtiahgjnpinjblaaRsn
import Derived.Test.YtiahgjnpinjblaaBu
import Derived.Test.YtiahgjnpinjblaaRo
import Derived.Deep.RegionLaw
import Derived.Deep.Cut
namespace Go.Proofs.Ytiahgjnpinjblaa
open Go.RowKit
theorem Sl.cutL {P : Program} {T E : TypeId} (hT : P.underlying T = some (.slice E)) (hl : ∀ w1, (sizeOf E).run P w1 = .ok 1 w1) {w : World} {v : Value} {l : List Int} {f : List Pos} (h : Sl BIG w v l f) {n : Nat} (hn : n ≤ l.length) :
    ∃ a c f', (∀ w1, (Instr.sliceAt T v none (some (.int .i64 n)) none).run P w1 = .ok (.slice a n c) w1) ∧ Sl BIG w (.slice a n c) (l.take n) f' ∧ ∀ q ∈ f', q ∈ f := by
  obtain ⟨f', h2, h3, _⟩ := h.cut (lo := 0) (hi := n) (m := capV v) (Nat.zero_le _) hn (Nat.le_trans hn h.cap) (Nat.le_refl _)
  have h4 := fun w1 => h.run_h hT hl (hi := n) hn w1
  rw [List.drop_zero] at h2
  obtain ⟨a, c, e⟩ := h2.isS
  rw [List.length_take, Nat.min_eq_left hn] at e
  rw [e] at h2 h4
  exact ⟨a, c, f', h4, h2, h3⟩
theorem Sl.cutR {P : Program} {T E : TypeId} (hT : P.underlying T = some (.slice E)) (hl : ∀ w1, (sizeOf E).run P w1 = .ok 1 w1) {w : World} {v : Value} {l : List Int} {f : List Pos} (h : Sl BIG w v l f) {n : Nat} (hn : n ≤ l.length) :
    ∃ a c f', (∀ w1, (Instr.sliceAt T v (some (.int .i64 n)) none none).run P w1 = .ok (.slice a (l.length - n) c) w1) ∧ Sl BIG w (.slice a (l.length - n) c) (l.drop n) f' ∧ ∀ q ∈ f', q ∈ f := by
  obtain ⟨f', h2, h3, _⟩ := h.cut (lo := n) (hi := l.length) (m := capV v) hn (Nat.le_refl _) h.cap (Nat.le_refl _)
  have h4 := fun w1 => h.run_l hT hl (lo := n) hn w1
  rw [List.take_length] at h2
  obtain ⟨a, c, e⟩ := h2.isS
  rw [List.length_drop] at e
  rw [e] at h2 h4
  exact ⟨a, c, f', h4, h2, h3⟩
theorem row_built {α : Type} [GoT α] {w : World} {c : List Value} {x : α} {f : List Pos} (E : TypeId) (h : GoT.rd BIG w c x f) : Row w.heap.size (w.alloc (.cells c.toArray E)) (.slice (some ⟨w.heap.size, 0, none⟩) 1 1) [x] f := by
  have hb : Below w.heap.size w (w.alloc (.cells c.toArray E)) := (Below.refl _ _).alloc (Nat.le_refl _) _
  have he : Els BIG (w.alloc (.cells c.toArray E)) c [x] f := Els.single (GoT.keep h (Live.same_below hb (Live.lt (GoT.live h))))
  refine ⟨sl_of_block (heap_alloc_new w (.cells c.toArray E)) he (le_BIG (by simp)), ⟨own_nodup _ _ _, fun p hp => ?_, fun p hp => ?_⟩, fun p hp hq => ?_⟩
  · rw [(mem_own.1 hp).1]; exact Nat.le_refl _
  · rw [(mem_own.1 hp).1]; exact row_frozen (heap_alloc_new w (.cells c.toArray E))
  · have h1 := Live.lt (GoT.live h) p hp
    have h2 : p.1 = w.heap.size := (mem_own.1 hq).1
    omega
theorem four_new {w : World} {c0 c1 c2 c3 : Array Value} {E : TypeId} : Bx ((((w.alloc (.cells c0 E)).alloc (.cells c1 E)).alloc (.cells c2 E)).alloc (.cells c3 E)).drew w.heap.size c0.toList ∧ Bx ((((w.alloc (.cells c0 E)).alloc (.cells c1 E)).alloc (.cells c2 E)).alloc (.cells c3 E)).drew (w.heap.size + 1) c1.toList ∧
    Bx ((((w.alloc (.cells c0 E)).alloc (.cells c1 E)).alloc (.cells c2 E)).alloc (.cells c3 E)).drew (w.heap.size + 2) c2.toList ∧ Bx ((((w.alloc (.cells c0 E)).alloc (.cells c1 E)).alloc (.cells c2 E)).alloc (.cells c3 E)).drew (w.heap.size + 3) c3.toList ∧ Below w.heap.size w ((((w.alloc (.cells c0 E)).alloc (.cells c1 E)).alloc (.cells c2 E)).alloc (.cells c3 E)).drew := by
  refine ⟨((((Bx.new rfl).alloc _).alloc _).alloc _).drew, (((Bx.new (by simp)).alloc _).alloc _).drew, ((Bx.new (by simp)).alloc _).drew, (Bx.new (by simp)).drew, ?_⟩
  exact (((((Below.refl _ _).alloc (Nat.le_refl _) _).alloc (by simp) _).alloc (by simp; omega) _).alloc (by simp; omega) _).drew
set_option maxHeartbeats 4000000 in
set_option maxRecDepth 100000 in
theorem impl_take_c (b n : Nat) (v : Value) (p : DPart) (l : List DPart) (f : List Pos) (w : World) (hX : Bx w b [v]) (hr : Sl BIG w v (p :: l) f) (hf : ∀ q ∈ f, q.1 ≠ b) (hp : partOk p = true) (hn : n ≤ nsz p) (hlen : l.length ≤ 5000) :
    Calls Try.prog 60 #[.pointer (some ⟨b, 0, none⟩), .int .i64 n] w (fun e w' => ∃ v' f' vs fs, e = .returned (.agg #[.int .i64 p.kind, .int .i64 (cutL p n).n, vs]) ∧ Sl BIG w' vs (cutL p n).signs fs ∧ Bx w' b [v'] ∧ Sl BIG w' v' (cutR p n :: l) f' ∧ (∀ q ∈ f' ++ fs, q ∈ f ∨ w.heap.size ≤ q.1) ∧ Wr [(b, 0)] w w') := by
  have HX := Lib.hid hX
  have HR := Lib.hid hr
  have HF := Lib.hid hf
  have HP := Lib.hid hp
  have HN := Lib.hid hn
  have HL := Lib.hid hlen
  have HFL := Lib.hid (Live.lt hr.live)
  obtain ⟨zl, c0, g0⟩ := hX.q1
  obtain ⟨b1, o1, vg, fg, i1, i2, ig, if_⟩ := Sl.head Try.underlying32 szi_DPart hr
  have e0 := i2.zero
  have e1 : w.cell? ⟨b1, o1 + 1, none⟩ = some _ := i2 1 _ rfl
  have e2 : w.cell? ⟨b1, o1 + 2, none⟩ = some _ := i2 2 _ rfl
  have l1 : b1 < w.heap.size := World.block_lt_of_cell? (w := w) (a := ⟨b1, o1, none⟩) e0
  have HIG := Lib.hid ig
  have HIF := Lib.hid if_
  obtain ⟨ag, qg, rfl⟩ := ig.isS
  clear i2 ig if_ hX hr hf hp hn hlen
  go_enter Try.func60, Try.ntmps60
  go_upto_region 2 with (fail)
  go_cut [6, 7] from 8 (fun zL zO wx => ∃ bL bO : Nat, zL = .pointer (some ⟨bL, 0, none⟩) ∧ zO = .pointer (some ⟨bO, 0, none⟩) ∧ bL ≠ bO ∧ w.heap.size + 2 ≤ bL ∧ w.heap.size + 2 ≤ bO ∧ Bx wx bL [.int .i64 p.kind, .int .i64 p.n, .slice ag p.signs.length qg] ∧ Bx wx bO [.int .i64 p.kind, .int .i64 p.n, .slice ag p.signs.length qg] ∧ Bx wx w.heap.size [.int .i64 0, .int .i64 0, .slice none 0 0] ∧ Bx wx (w.heap.size + 1) [.int .i64 p.kind, .int .i64 p.n, .slice ag p.signs.length qg] ∧ Below w.heap.size w wx)
  case first =>
    go_region
    all_goals (go_wp2_with fail; go_meet; first | exact ⟨w.heap.size + 2, w.heap.size + 3, rfl, rfl, by omega, by omega, by omega, four_new.2.2.1, four_new.2.2.2.1, four_new.1, four_new.2.1, four_new.2.2.2.2⟩ | exact ⟨w.heap.size + 3, w.heap.size + 2, rfl, rfl, by omega, by omega, by omega, four_new.2.2.2.1, four_new.2.2.1, four_new.1, four_new.2.1, four_new.2.2.2.2⟩)
  case rest =>
    obtain ⟨w1, rfl⟩ : ∃ wq : World, wq = wc := ⟨_, rfl⟩
    obtain ⟨bL, bO, rfl, rfl, nLO, zL, zO, xL, xO, xR, xP, bw1⟩ := hcut
    have hsz1 := bw1.size
    have c1 : w1.cell? ⟨b, 0, none⟩ = some v := (bw1.cell (p := ⟨b, 0, none⟩) zl).trans c0
    have g1 : w1.frozen? ⟨b, 0, none⟩ = false := (bw1.frozen (p := ⟨b, 0, none⟩) zl).trans g0
    have HXR := Lib.hid xR
    have HXL := Lib.hid xL
    have HXO := Lib.hid xO
    have HBW1 := Lib.hid bw1
    obtain ⟨yL, l0, l1', l2, m0, m1, m2⟩ := xL.q3
    obtain ⟨yO, o0, o1', o2, k0, k1, k2⟩ := xO.q3
    obtain ⟨yP, p0, p1, p2, j0, j1, j2⟩ := xP.q3
    clear bw1 xR xL xO xP c0 g0 e0 e1 e2
    have n1 : ¬ (bL = bO) := nLO
    have n2 : ¬ (bO = bL) := fun e => nLO e.symm
    go_upto_if 18 with (fail)
    go_cut [] from 16 (fun wx => ∃ (vL vO : Value) (fL fO : List Pos), Bx wx bL [.int .i64 p.kind, .int .i64 (cutR p n).n, vL] ∧ Bx wx bO [.int .i64 p.kind, .int .i64 (cutL p n).n, vO] ∧ Sl BIG w vL (cutR p n).signs fL ∧ (∀ q ∈ fL, q ∈ f) ∧ Sl BIG w vO (cutL p n).signs fO ∧ (∀ q ∈ fO, q ∈ f) ∧ Bx wx w.heap.size [.int .i64 0, .int .i64 0, .slice none 0 0] ∧ Below w.heap.size w wx)
    case first =>
      have hnp : ¬ (w.heap.size = bL) := by omega
      have hnq : ¬ (w.heap.size = bO) := by omega
      by_cases k : p.kind = 2
      · have hln : n ≤ p.signs.length := by have := (put_sz HP.out k).1; have := HN.out; omega
        obtain ⟨aO, qO, fO, hO, sO, mO⟩ := Sl.cutL Try.underlying23 (E := 3) (fun _ => by kernel_rfl) HIG.out hln
        obtain ⟨aL, qL, fL, hL, sL, mL⟩ := Sl.cutR Try.underlying23 (E := 3) (fun _ => by kernel_rfl) HIG.out hln
        have HSO := Lib.hid sO
        have HSL := Lib.hid sL
        have HMO := Lib.hid mO
        have HML := Lib.hid mL
        have eL : Hid (cutR p n = ⟨p.kind, p.n, p.signs.drop n⟩) := Lib.hid (if_pos k)
        have eO : Hid (cutL p n = ⟨p.kind, p.n, p.signs.take n⟩) := Lib.hid (if_pos k)
        clear sO sL mO mL
        have kb : (p.kind == 2) = true := by simpa using k
        go_wp2_with fail
        go_region
        all_goals
          go_wp2_with fail
          go_meet
          rw [eL.out, eO.out]
          exact ⟨.slice aL (p.signs.length - n) qL, .slice aO n qO, fL, fO, (((HXL.out.setO n1).set 2 (.slice aL (p.signs.length - n) qL))).drew, (((HXO.out.set 2 (.slice aO n qO)).setO n2)).drew, HSL.out, fun q hq => HIF.out q (HML.out q hq), HSO.out, fun q hq => HIF.out q (HMO.out q hq), (((HXR.out.setO hnq).setO hnp)).drew, (((HBW1.out.setCell (p := ⟨bO, 2, none⟩) (by simp only; omega) _).setCell (p := ⟨bL, 2, none⟩) (by simp only; omega) _)).drew⟩
      · have hpk := part_nk HP.out k
        have hzz := nsz_eq HP.out
        have hn200 := nsz_le HP.out
        have hnn := HN.out
        have hpn : p.n = nsz p := by omega
        have eL : Hid (cutR p n = ⟨p.kind, p.n - n, p.signs⟩) := Lib.hid (if_neg k)
        have eO : Hid (cutL p n = ⟨p.kind, n, p.signs⟩) := Lib.hid (if_neg k)
        have hp0 : 0 ≤ p.n := by omega
        have hp2 : p.n ≤ 200 := by omega
        have hpn2 : (n : Int) ≤ p.n := by omega
        have kb : (p.kind == 2) = false := by simpa using k
        have kc : ¬ p.kind = 2 := k
        clear hpk hzz hn200 hnn hpn k
        go_wp2_with fail
        go_region
        all_goals
          go_wp2_with fail
          go_meet
          rw [eL.out, eO.out]
          exact ⟨.slice ag p.signs.length qg, .slice ag p.signs.length qg, fg, fg, (((HXL.out.setO n1).set 1 (.int .i64 (p.n - n)))).drew, (((HXO.out.set 1 (.int .i64 n)).setO n2)).drew, HIG.out, HIF.out, HIG.out, HIF.out, (((HXR.out.setO hnq).setO hnp)).drew, (((HBW1.out.setCell (p := ⟨bO, 1, none⟩) (by simp only; omega) _).setCell (p := ⟨bL, 1, none⟩) (by simp only; omega) _)).drew⟩
    case rest =>
      obtain ⟨w2, rfl⟩ : ∃ wq : World, wq = wc := ⟨_, rfl⟩
      obtain ⟨vL, vO, fL, fO, xL, xO, sL, mL, sO, mO, xR, bw2⟩ := hcut
      obtain ⟨i0, hi, hz0, hz1, hz2⟩ := info_parts info_part
      obtain ⟨v', f', hcut2, hs2, hf2⟩ := Sl.tail Try.underlying32 (E := 60) (fun _ => by kernel_rfl) HR.out
      obtain ⟨aT, qT, rfl⟩ := hs2.isS
      obtain ⟨aL, qL, rfl⟩ := sL.isS
      obtain ⟨aO, qO, rfl⟩ := sO.isS
      have s2 := bw2.size
      have bw3 : Below w.heap.size w (w2.alloc (.cells #[.int .i64 p.kind, .int .i64 (cutR p n).n, .slice aL (cutR p n).signs.length qL] 60)).drew := (bw2.alloc s2 _).drew
      obtain ⟨gs, hsrc, hgs, _⟩ := (hs2.belowW bw3).src
      have hgl : ∀ q ∈ gs, q.1 < w.heap.size := fun q hq => HFL.out q (hf2 q (hgs q hq))
      have hfl : ∀ q ∈ fL, q.1 < w.heap.size := fun q hq => HFL.out q (mL q hq)
      have HROW : Hid (Row w2.heap.size (w2.alloc (.cells #[.int .i64 p.kind, .int .i64 (cutR p n).n, .slice aL (cutR p n).signs.length qL] 60)) (.slice (some ⟨w2.heap.size, 0, none⟩) 1 1) [cutR p n] fL) := Lib.hid (row_built (c := [.int .i64 p.kind, .int .i64 (cutR p n).n, .slice aL (cutR p n).signs.length qL]) (x := cutR p n) 60 ⟨_, fL, by rw [(cut_ok HP.out HN.out).2.2.2.1], sL.belowW bw2, rfl⟩)
      have HSRC := Lib.hid hsrc
      have HGL := Lib.hid hgl
      have HFLL := Lib.hid hfl
      have HGS : Hid (∀ q ∈ gs, q ∈ f) := Lib.hid fun q hq => hf2 q (hgs q hq)
      have HML := Lib.hid mL
      have HMO := Lib.hid mO
      have HSO := Lib.hid sO
      have HBW2 := Lib.hid bw2
      have HDIS : Hid (∀ q ∈ gs, q ∉ rowP (GoT.n DPart) (.slice (some ⟨w2.heap.size, 0, none⟩) 1 1)) := Lib.hid fun q hq hm => by
        have h1 := hgl q hq
        have h2 : q.1 = w2.heap.size := (mem_own.1 hm).1
        omega
      have c2 : w2.cell? ⟨b, 0, none⟩ = some v := (bw2.cell (p := ⟨b, 0, none⟩) zl).trans (HX.out.c1)
      have g2 : w2.frozen? ⟨b, 0, none⟩ = false := (bw2.frozen (p := ⟨b, 0, none⟩) zl).trans (HX.out.f1)
      have HXL2 := Lib.hid xL
      have HXO2 := Lib.hid xO
      have HXR2 := Lib.hid xR
      have HLL := HL.out
      have HBX : Hid (Bx w2 b [v]) := Lib.hid (HX.out.below bw2 zl)
      obtain ⟨yL2, l0, l1', l2, m0, m1, m2⟩ := xL.q3
      obtain ⟨yO2, o0, o1', o2, k0, k1, k2⟩ := xO.q3
      obtain ⟨yR2, r0, r1, r2, x0, x1, x2⟩ := xR.q3
      have yb2 : b < w2.heap.size := Nat.lt_of_lt_of_le zl s2
      clear p0 p1 p2 j0 j1 j2 sL mL sO mO xL xO xR bw2 hs2 hf2 hsrc hgs hgl hfl c1 g1 yL yO yP
      go_wp2_with fail
      have nb1 : ¬ (bO = b) := by omega
      have nb2 : ¬ (b = bO) := by omega
      have nb3 : ¬ (w.heap.size = b) := by omega
      have nb4 : ¬ (b = w.heap.size) := by omega
      have nb5 : ¬ (w.heap.size = bO) := by omega
      have nb6 : ¬ (bO = w.heap.size) := by omega
      go_region_law ((refine step_append_row (by rfl) (.tmp 38) (.tmp 43) 32 (by rfl) Try.underlying32 hi hz0 hz1 hz2 rfl (by rfl) (by rfl) (HROW.out.below (Below.refl _ _).drew) HSRC.out HDIS.out (le_BIG (by simp; omega)) (by simp; omega) (by simp) ?_); intro v3 w3 hr3 hw3 hn3; obtain ⟨a3, q3, rfl⟩ := hr3.rd.isSlice; have B3 : Below w2.heap.size w2 w3 := (((Below.refl _ _).alloc (Nat.le_refl _) _).drew).trans (hw3.below (by simp) (fun q hq => by rw [(mem_own.1 hq).1]; exact Nat.le_refl _)); obtain ⟨yb3, c3, g3⟩ := (HBX.out.at B3).q1; obtain ⟨yO3, oo0, oo1, oo2, kk0, kk1, kk2⟩ := (HXO2.out.at B3).q3; obtain ⟨yR3, rr0, rr1, rr2, xx0, xx1, xx2⟩ := (HXR2.out.at B3).q3; have HR3 := Lib.hid hr3; have HN3 := Lib.hid hn3; clear hr3 hw3 hn3)
      all_goals
        go_wp2
        refine bodyPost_ret (v := .agg #[.int .i64 p.kind, .int .i64 (cutL p n).n, .slice aO (cutL p n).signs.length qO]) (by simp [results, Try.results60, go_sem, cell_setCell, *]) rfl ?_
        have hne : ∀ q ∈ rowP 3 (.slice a3 (l.length + 1) q3) ++ (fL ++ gs), q.1 ≠ b ∧ q.1 ≠ w.heap.size := fun q hq => by
          rcases List.mem_append.1 hq with h | h
          · have : w2.heap.size ≤ q.1 := by
              rcases HN3.out q h with h | h
              · rw [(mem_own.1 h).1]; exact Nat.le_refl _
              · simp at h; omega
            omega
          · have h1 : q ∈ f := by
              rcases List.mem_append.1 h with h | h
              · exact HML.out q h
              · exact HGS.out q h
            have h2 := HFL.out q h1
            exact ⟨HF.out q h1, by omega⟩
        have hset : Wr [(b, 0), (w.heap.size, 0), (w.heap.size, 1), (w.heap.size, 2)] w3 ((((w3.setCell ⟨b, 0, none⟩ (.slice a3 (l.length + 1) q3)).setCell ⟨w.heap.size, 0, none⟩ (.int .i64 p.kind)).setCell ⟨w.heap.size, 1, none⟩ (.int .i64 (cutL p n).n)).setCell ⟨w.heap.size, 2, none⟩ (.slice aO (cutL p n).signs.length qO)) := ((((Wr.refl _ _).put (b := b) (o := 0) (by simp) _).put (b := w.heap.size) (o := 0) (by simp) _).put (b := w.heap.size) (o := 1) (by simp) _).put (b := w.heap.size) (o := 2) (by simp) _
        have hout : ∀ q : Pos, q.1 ≠ b ∧ q.1 ≠ w.heap.size → q ∉ [(b, 0), (w.heap.size, 0), (w.heap.size, 1), (w.heap.size, 2)] := by
          rintro q ⟨h1, h2⟩ hm
          simp only [List.mem_cons, List.not_mem_nil, or_false] at hm
          rcases hm with rfl | rfl | rfl | rfl
          · exact h1 rfl
          · exact h2 rfl
          · exact h2 rfl
          · exact h2 rfl
        have hbw : Below w.heap.size (w3.setCell ⟨b, 0, none⟩ (.slice a3 (l.length + 1) q3)) ((((w3.setCell ⟨b, 0, none⟩ (.slice a3 (l.length + 1) q3)).setCell ⟨w.heap.size, 0, none⟩ (.int .i64 p.kind)).setCell ⟨w.heap.size, 1, none⟩ (.int .i64 (cutL p n).n)).setCell ⟨w.heap.size, 2, none⟩ (.slice aO (cutL p n).signs.length qO)) := (((Below.refl _ _).setCell (p := ⟨w.heap.size, 0, none⟩) (Nat.le_refl _) _).setCell (p := ⟨w.heap.size, 1, none⟩) (Nat.le_refl _) _).setCell (p := ⟨w.heap.size, 2, none⟩) (Nat.le_refl _) _
        have hwa : Wr [(b, 0)] w (w3.setCell ⟨b, 0, none⟩ (.slice a3 (l.length + 1) q3)) := (Wr.of_below (HBW2.out.trans (B3.mono s2))).put (b := b) (o := 0) (by simp) _
        refine ⟨_, _, _, fO, rfl, ((HSO.out.belowW HBW2.out).belowW B3).wr hset fun q hq => hout q ⟨HF.out q (HMO.out q hq), ?_⟩, ((((HBX.out.at B3).set 0 (.slice a3 (l.length + 1) q3)).setO nb4).setO nb4).setO nb4, HR3.out.1.wr hset fun q hq => hout q (hne q hq), fun q hq => ?_, hwa.tr_below hbw⟩
        · have := HFL.out q (HMO.out q hq); omega
        · rcases List.mem_append.1 hq with h | h
          · rcases List.mem_append.1 h with h | h
            · refine .inr ?_
              have : w2.heap.size ≤ q.1 := by
                rcases HN3.out q h with h | h
                · rw [(mem_own.1 h).1]; exact Nat.le_refl _
                · simp at h; omega
              omega
            · rcases List.mem_append.1 h with h | h
              · exact .inl (HML.out q h)
              · exact .inl (HGS.out q h)
          · exact .inl (HMO.out q h)
end Go.Proofs.Ytiahgjnpinjblaa
