/- The program's cursor: the next part. -/
import Derived.Test.YtiahgjnpinjblaaCrw
import Derived.Test.YtiahgjnpinjblaaTls
import Derived.Test.YtiahgjnpinjblaaPr
import Derived.Deep.LoopGhost
namespace Go.Proofs.Ytiahgjnpinjblaa
open Go.RowKit
theorem Sl.tail {P : Program} {T E : TypeId} (hT : P.underlying T = some (.slice E)) (hl : ∀ w1, (sizeOf E).run P w1 = .ok 3 w1) {w : World} {v : Value} {p : DPart} {l : List DPart} {f : List Pos} (h : Sl BIG w v (p :: l) f) :
    ∃ v' f', (∀ w1, (Instr.sliceAt T v (some (.int .i64 1)) none none).run P w1 = .ok v' w1) ∧ Sl BIG w v' l f' ∧ ∀ q ∈ f', q ∈ f := by
  have h1 : 1 ≤ (p :: l).length := by simp
  obtain ⟨f', h2, h3, _⟩ := h.cut (lo := 1) (hi := (p :: l).length) (m := capV v) h1 (Nat.le_refl _) h.cap (Nat.le_refl _)
  refine ⟨_, f', fun w1 => h.run_l hT hl (lo := 1) h1 w1, ?_, h3⟩
  simpa using h2
theorem nsz_bd {p : DPart} (h : partOk p = true) : 0 ≤ p.n ∧ p.n ≤ 1000000 ∧ p.signs.length ≤ 1000000 := by
  rcases partOk_cases h with ⟨k, n1, n2, n3⟩ | ⟨k, n1, n2, n3⟩ | ⟨k, n1, n2, n3⟩
  · rw [n3]; simp; omega
  · omega
  · rw [n3]; simp; omega
theorem Wr.tr_below {fp : List Pos} {a b c : World} (h : Wr fp a b) (k : Below a.heap.size b c) : Wr fp a c :=
  ⟨k.os.trans h.os, k.tape.trans h.tape, k.output.trans h.output, Nat.le_trans h.size k.size, fun p hp hn => (k.cell (p := ⟨p.1, p.2, none⟩) hp).trans (h.cell p hp hn), fun p hp => (k.frozen (p := ⟨p.1, p.2, none⟩) hp).trans (h.frozen p hp), fun q hq hn => (k.block q hq).trans (h.block q hq hn)⟩
/-- what is kept when the result's cells are written -/
theorem next_end {w W wr : World} {b : Nat} {v' : Value} {l : List DPart} {f' : List Pos} (x y z : Value) (hWB : Below w.heap.size w W) (hb : b < w.heap.size) (hx : Bx wr b [v']) (hs : Sl BIG wr v' l f') (hf : ∀ p ∈ f', p.1 < w.heap.size) (hw : Wr [(b, 0)] W wr) :
    Bx (((wr.setCell ⟨w.heap.size, 0, none⟩ x).setCell ⟨w.heap.size, 1, none⟩ y).setCell ⟨w.heap.size, 2, none⟩ z) b [v'] ∧ Sl BIG (((wr.setCell ⟨w.heap.size, 0, none⟩ x).setCell ⟨w.heap.size, 1, none⟩ y).setCell ⟨w.heap.size, 2, none⟩ z) v' l f' ∧ Wr [(b, 0)] w (((wr.setCell ⟨w.heap.size, 0, none⟩ x).setCell ⟨w.heap.size, 1, none⟩ y).setCell ⟨w.heap.size, 2, none⟩ z) ∧
    (Below W.heap.size W wr → Below w.heap.size w (((wr.setCell ⟨w.heap.size, 0, none⟩ x).setCell ⟨w.heap.size, 1, none⟩ y).setCell ⟨w.heap.size, 2, none⟩ z)) ∧ ∀ {vh : Value} {t : List Int} {g : List Pos}, Sl BIG wr vh t g → (∀ p ∈ g, p.1 < w.heap.size) → RdS (((wr.setCell ⟨w.heap.size, 0, none⟩ x).setCell ⟨w.heap.size, 1, none⟩ y).setCell ⟨w.heap.size, 2, none⟩ z) vh t := by
  have hbw : Below w.heap.size wr (((wr.setCell ⟨w.heap.size, 0, none⟩ x).setCell ⟨w.heap.size, 1, none⟩ y).setCell ⟨w.heap.size, 2, none⟩ z) := (((Below.refl _ _).setCell (p := ⟨w.heap.size, 0, none⟩) (Nat.le_refl _) _).setCell (p := ⟨w.heap.size, 1, none⟩) (Nat.le_refl _) _).setCell (p := ⟨w.heap.size, 2, none⟩) (Nat.le_refl _) _
  exact ⟨hx.below hbw hb, hs.keep (Live.same_below hbw hf), (((Wr.of_below hWB).trans hw).tr_below hbw), fun h => (hWB.trans (h.mono hWB.size)).trans hbw, fun h hg => ⟨_, h.keep (Live.same_below hbw hg)⟩⟩
set_option maxHeartbeats 4000000 in
set_option maxRecDepth 100000 in
theorem impl_next_c (b : Nat) (v : Value) (r : List DPart) (f : List Pos) (w : World) (hX : Bx w b [v]) (hr : Sl BIG w v r f) (hf : ∀ p ∈ f, p.1 ≠ b) (hall : r.all partOk = true) :
    Calls Try.prog 57 #[.pointer (some ⟨b, 0, none⟩)] w (fun e w' => ∃ v' f' vh, e = .returned (.agg #[.int .i64 (hd (skip r)).kind, .int .i64 (hd (skip r)).n, vh]) ∧ RdS w' vh (hd (skip r)).signs ∧ Bx w' b [v'] ∧ Sl BIG w' v' (skip r) f' ∧ (∀ p ∈ f', p ∈ f) ∧ Wr [(b, 0)] w w' ∧ (skip r = r → v' = v ∧ f' = f ∧ Below w.heap.size w w')) := by
  have HX := Lib.hid hX
  have HR := Lib.hid hr
  have HF := Lib.hid hf
  have HALL := Lib.hid hall
  have HFL := Lib.hid (Live.lt hr.live)
  obtain ⟨zl0, _⟩ := hX.o1
  obtain ⟨W, hW⟩ : ∃ W : World, W = w.alloc (.cells #[.int .i64 0, .int .i64 0, .slice none 0 0] 60) := ⟨_, rfl⟩
  have hWB : Hid (Below w.heap.size w W) := Lib.hid (by rw [hW]; exact (Below.refl _ _).alloc (Nat.le_refl _) _)
  have HR0 : Hid (Bx W w.heap.size [.int .i64 0, .int .i64 0, .slice none 0 0]) := Lib.hid (by rw [hW]; exact Bx.new rfl)
  clear hX hr hf hall
  go_enter Try.func57, Try.ntmps57
  go_wp2_with fail
  rw [← hW]
  clear hW
  go_loopg [] r.length (fun n wr => ∃ v' r' f', n = r'.length ∧ skip r' = skip r ∧ r'.all partOk = true ∧ Bx wr b [v'] ∧ Sl BIG wr v' r' f' ∧ (∀ p ∈ f', p ∈ f) ∧ Wr [(b, 0)] W wr ∧ Bx wr w.heap.size [.int .i64 0, .int .i64 0, .slice none 0 0] ∧ ((r' = r ∧ v' = v ∧ f' = f ∧ Below W.heap.size W wr) ∨ skip r ≠ r))
  case atStart => exact ⟨v, r, f, rfl, rfl, HALL.out, HX.out.at hWB.out, HR.out.belowW hWB.out, fun _ h => h, Wr.refl _ _, HR0.out, .inl ⟨rfl, rfl, rfl, Below.refl _ _⟩⟩
  case round =>
    obtain ⟨v', r', f', rfl, hsk, hall, hx, hs, hff, hw, h0, hst⟩ := hrel
    have HSK := Lib.hid hsk
    have HA := Lib.hid hall
    have HS := Lib.hid hs
    have HFF := Lib.hid hff
    have HW := Lib.hid hw
    have HST := Lib.hid hst
    have HX1 := Lib.hid hx
    have H0 := Lib.hid h0
    obtain ⟨zl, c0, g0⟩ := hx.q1
    obtain ⟨zr, r0, r1, r2, x0, x1, x2⟩ := h0.q3
    have rr : RdS wr v' r' := ⟨_, hs⟩
    have hl := fun w1 ty => rr.len Try.underlying32 w1 ty
    clear hsk hall hx hs hff hw h0 hst
    have hne : ¬ (w.heap.size = b) := by omega
    have hne2 : ¬ (b = w.heap.size) := by omega
    rcases r' with _ | ⟨p, t⟩
    · have HV : Hid (skip r = []) := Lib.hid HSK.out.symm
      obtain ⟨a0, q0, rfl⟩ := HS.out.isS
      go_wp2
      rw [HV.out]
      refine bodyPost_ret (v := .agg #[.int .i64 0, .int .i64 0, .slice none 0 0]) (by simp [results, Try.results57, go_sem, cell_setCell, *]) rfl ?_
      obtain ⟨n1, n2, n3, n4, n5⟩ := next_end (.int .i64 0) (.int .i64 0) (.slice none 0 0) hWB.out zl0 HX1.out HS.out (fun p hp => HFL.out p (HFF.out p hp)) HW.out
      refine ⟨_, _, _, rfl, ⟨_, Sl.nil⟩, n1, n2, HFF.out, n3, fun hs => ?_⟩
      rcases HST.out with ⟨_, rfl, rfl, hb⟩ | hne
      · exact ⟨rfl, rfl, n4 hb⟩
      · exact absurd (HV.out.trans hs) hne
    · simp only [List.all_cons, Bool.and_eq_true] at HA
      obtain ⟨pb0, pb1, pb2⟩ := nsz_bd HA.out.1
      have hpz := nsz_eq HA.out.1
      have HSZ := Lib.hid hpz
      obtain ⟨b1, o1, vg, fg, i1, i2, ig, if_⟩ := Sl.head Try.underlying32 szi_DPart HS.out
      have e0 := i2.zero
      have e1 : wr.cell? ⟨b1, o1 + 1, none⟩ = some _ := i2 1 _ rfl
      have e2 : wr.cell? ⟨b1, o1 + 2, none⟩ = some _ := i2 2 _ rfl
      have l1 : b1 < wr.heap.size := World.block_lt_of_cell? (w := wr) (a := ⟨b1, o1, none⟩) e0
      have HIG := Lib.hid ig
      have HIF := Lib.hid if_
      have hlp : (0 : Int) < ((p :: t).length : Int) := by first | (simp; done) | (simp; omega)
      have hle : (((p :: t).length : Int) == 0) = false := by first | (simp; done) | (simp; omega)
      clear i2 ig if_ hpz
      by_cases hz : nsz p = 0
      · have hps : (psize p == 0) = true := by have := HSZ.out; simp; omega
        obtain ⟨v2, f2, hcut, hs2, hf2⟩ := Sl.tail Try.underlying32 (E := 60) (fun _ => by kernel_rfl) HS.out
        obtain ⟨a2, q2, rfl⟩ := hs2.isS
        have HS2 := Lib.hid hs2
        have HF2 := Lib.hid hf2
        clear hs2 hf2
        go_wp2_with fail
        refine (impl_size_c p vg _ pb0 pb1 pb2 ⟨_, HIG.out⟩).mono ?_
        rintro e' w1 ⟨rfl, hb1⟩
        have B1 := Lib.hid hb1
        have s1 := hb1.size
        replace c0 : w1.cell? ⟨b, 0, none⟩ = some _ := (hb1.cell (p := ⟨b, 0, none⟩) zl).trans c0
        replace g0 : w1.frozen? ⟨b, 0, none⟩ = false := (hb1.frozen (p := ⟨b, 0, none⟩) zl).trans g0
        clear hb1 e0 e1 e2 r0 r1 r2 x0 x1 x2
        go_wp2
        go_roundg t.length
        case measure => simp
        case rel =>
          have hws : Wr [(b, 0)] w1 (w1.setCell ⟨b, 0, none⟩ (.slice a2 t.length q2)) := Wr.setCell w1 (by simp) _
          have hnf : ∀ q ∈ f2, q ∉ [(b, 0)] := fun q hq hm => by
            have := HF.out q (HFF.out q (HF2.out q hq))
            simp only [List.mem_singleton] at hm
            rw [hm] at this
            exact this rfl
          refine ⟨_, t, f2, rfl, ?_, HA.out.2, (HX1.out.at B1.out).set 0 _, (HS2.out.belowW B1.out).wr hws hnf, fun q hq => HFF.out q (HF2.out q hq), (HW.out.trans (Wr.of_below B1.out)).trans hws, ?_, .inr ?_⟩
          · rw [← HSK.out]; simp [skip, hz]
          · exact ((H0.out.at B1.out).setO hne)
          · rcases HST.out with ⟨rfl, _⟩ | h
            · exact skip_ne hz
            · exact h
      · have hps : (psize p == 0) = false := by have := HSZ.out; simp; omega
        have HV : Hid (skip r = p :: t) := Lib.hid (by rw [← HSK.out]; exact skip_id hz)
        have hgl : ∀ q ∈ fg, q.1 < w.heap.size := fun q hq => HFL.out q (HFF.out q (HIF.out q hq))
        have HGL := Lib.hid hgl
        clear hgl
        go_wp2_with fail
        refine (impl_size_c p vg _ pb0 pb1 pb2 ⟨_, HIG.out⟩).mono ?_
        rintro e' w1 ⟨rfl, hb1⟩
        have B1 := Lib.hid hb1
        have s1 := hb1.size
        replace c0 : w1.cell? ⟨b, 0, none⟩ = some _ := (hb1.cell (p := ⟨b, 0, none⟩) zl).trans c0
        replace e0 : w1.cell? ⟨b1, o1, none⟩ = some _ := (hb1.cell (p := ⟨b1, o1, none⟩) l1).trans e0
        replace e1 : w1.cell? ⟨b1, o1 + 1, none⟩ = some _ := (hb1.cell (p := ⟨b1, o1 + 1, none⟩) l1).trans e1
        replace e2 : w1.cell? ⟨b1, o1 + 2, none⟩ = some _ := (hb1.cell (p := ⟨b1, o1 + 2, none⟩) l1).trans e2
        replace r0 : w1.cell? ⟨w.heap.size, 0, none⟩ = some _ := (hb1.cell (p := ⟨w.heap.size, 0, none⟩) zr).trans r0
        replace r1 : w1.cell? ⟨w.heap.size, 1, none⟩ = some _ := (hb1.cell (p := ⟨w.heap.size, 1, none⟩) zr).trans r1
        replace r2 : w1.cell? ⟨w.heap.size, 2, none⟩ = some _ := (hb1.cell (p := ⟨w.heap.size, 2, none⟩) zr).trans r2
        replace x0 : w1.frozen? ⟨w.heap.size, 0, none⟩ = false := (hb1.frozen (p := ⟨w.heap.size, 0, none⟩) zr).trans x0
        replace x1 : w1.frozen? ⟨w.heap.size, 1, none⟩ = false := (hb1.frozen (p := ⟨w.heap.size, 1, none⟩) zr).trans x1
        replace x2 : w1.frozen? ⟨w.heap.size, 2, none⟩ = false := (hb1.frozen (p := ⟨w.heap.size, 2, none⟩) zr).trans x2
        obtain ⟨ag, qg, rfl⟩ := HIG.out.isS
        clear hb1
        go_wp2
        rw [HV.out]
        refine bodyPost_ret (v := .agg #[.int .i64 p.kind, .int .i64 p.n, .slice ag p.signs.length qg]) (by simp [results, Try.results57, go_sem, cell_setCell, *]) rfl ?_
        obtain ⟨n1, n2, n3, n4, n5⟩ := next_end (.int .i64 p.kind) (.int .i64 p.n) (.slice ag p.signs.length qg) hWB.out zl0 (HX1.out.at B1.out) (HS.out.belowW B1.out) (fun q hq => HFL.out q (HFF.out q hq)) (HW.out.trans (Wr.of_below B1.out))
        refine ⟨_, _, _, rfl, n5 (HIG.out.belowW B1.out) HGL.out, n1, n2, HFF.out, n3, fun hs => ?_⟩
        rcases HST.out with ⟨_, rfl, rfl, hb⟩ | hne
        · exact ⟨rfl, rfl, n4 (hb.trans (B1.out.mono hb.size))⟩
        · exact absurd (HV.out.trans hs) hne
end Go.Proofs.Ytiahgjnpinjblaa
