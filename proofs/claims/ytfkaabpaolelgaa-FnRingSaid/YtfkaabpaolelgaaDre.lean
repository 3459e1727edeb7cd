/- The draws of entries. -/
import Derived.Test.YtfkaabpaolelgaaDpr
import Derived.Test.YtfkaabpaolelgaaBu
namespace Go.Proofs.Ytfkaabpaolelgaa
open Go.RowKit
/-- an entry as it is drawn -/
def DrE (e : DEntry) : Prop := (1 ≤ e.client ∧ e.client ≤ 3) ∧ (1 ≤ e.seq ∧ e.seq ≤ 9) ∧ ∃ o, e.o = opNorm o
set_option maxHeartbeats 4000000 in
set_option maxRecDepth 100000 in
theorem spec_l10Entry_c (w0 : World) (bc : Nat) (vb : Value) (bs : List DByte) (w : World) (hc : Cu w0 bc vb bs w) :
    Calls Try.prog 16 #[.pointer (some ⟨bc, 0, none⟩)] w (fun e w' => ∃ (v : Value) (x : DEntry), e = .returned (.agg #[.int .i64 x.client, .int .i64 x.seq, v]) ∧ OwnS w.heap.size w' v x.o ∧ DrE x ∧ CuOut w0 bc vb bs w w') := by
  have hbl := hc.lt
  have hc0 := hc.below ((Below.refl _ _).alloc (Nat.le_refl _) (.cells #[.int .i64 0, .int .i64 0, .slice none 0 0] 32))
  have HC0 : Hid (CuOut w0 bc vb bs w (w.alloc (.cells #[.int .i64 0, .int .i64 0, .slice none 0 0] 32))) := Lib.hid ⟨hc0, Wr.of_below ((Below.refl _ _).alloc (Nat.le_refl _) _)⟩
  have HX0 := Lib.hid (Bx.new (w := w) (c := #[.int .i64 0, .int .i64 0, .slice none 0 0]) (t := 32) rfl)
  clear hc hc0
  go_enter Try.func16, Try.ntmps16
  go_wp2_with fail
  refine (spec_l01Below_c w0 bc vb bs 3 _ HC0.out.1).mono ?_
  rintro e' w1 ⟨x1, rfl, hx1, hc1⟩
  obtain ⟨x10, x11⟩ := hx1.1 (by decide)
  have hn0 : ∀ p ∈ [(bc, 1), (bc, 2)], p.1 ≠ w.heap.size := fun p hp => by simp only [List.mem_cons, List.not_mem_nil, or_false] at hp; rcases hp with rfl | rfl <;> (simp only; omega)
  have HN0 := Lib.hid hn0
  have HX1 := Lib.hid (HX0.out.wr hc1.2 HN0.out)
  have HC1 := Lib.hid (HC0.out.trans hc1)
  clear hx1 hc1 hn0 HC0 HX0
  go_wp2_with fail
  refine (spec_l01Below_c w0 bc vb bs 9 _ HC1.out.1).mono ?_
  rintro e' w2 ⟨x2, rfl, hx2, hc2⟩
  obtain ⟨x20, x21⟩ := hx2.1 (by decide)
  have HX2 := Lib.hid (HX1.out.wr hc2.2 HN0.out)
  have HC2 := Lib.hid (HC1.out.trans hc2)
  clear hx2 hc2 HC1 HX1
  go_wp2_with fail
  refine (spec_l01Below_c w0 bc vb bs 4 _ HC2.out.1).mono ?_
  rintro e' w3 ⟨x3, rfl, hx3, hc3⟩
  obtain ⟨x30, x31⟩ := hx3.1 (by decide)
  obtain ⟨m, rfl⟩ : ∃ m : Nat, x3 = m := ⟨x3.toNat, by omega⟩
  have HX3 := Lib.hid (HX2.out.wr hc3.2 HN0.out)
  have HC3 := Lib.hid (HC2.out.trans hc3)
  clear hx3 hc3 HC2 HX2
  go_wp2_with fail
  refine (spec_l02Draw_c w0 bc vb bs m _ HC3.out.1 (by omega)).mono ?_
  rintro e' w4 ⟨vo, o, rfl, ho, hc4⟩
  have HX4 := Lib.hid (HX3.out.wr hc4.2 HN0.out)
  have HC4 := Lib.hid (HC3.out.trans hc4)
  have HRO := Lib.hid ho.rd
  clear ho hc4 HC3 HX3 HN0
  go_wp2_with fail
  refine (spec_OpNorm_c vo o _ HRO.out).mono ?_
  rintro e' w5 ⟨vn, rfl, hon, hb5⟩
  have hs4 : w.heap.size + 1 ≤ w4.heap.size := HX4.out.lt
  have HON := Lib.hid (hon.mono hs4)
  obtain ⟨an, cn, rfl⟩ := hon.rd.isSlice
  have hx5 := HX4.out.at hb5
  have HX5 := Lib.hid hx5
  have HC5 : Hid (CuOut w0 bc vb bs w w5) := Lib.hid ⟨HC4.out.1.below hb5, HC4.out.2.trans (Wr.of_below hb5)⟩
  obtain ⟨z5, c0, c1, c2, g0, g1, g2⟩ := hx5.q3
  clear hon hb5 hx5 HC4 HX4 HRO
  have hw0 : w0.heap.size ≤ w.heap.size := by have := HC5.out.1.o; omega
  have HWB : Hid (Wr [(w.heap.size, 0), (w.heap.size, 1), (w.heap.size, 2)] w5 (((w5.setCell ⟨w.heap.size, 0, none⟩ (.int .i64 (1 + x1))).setCell ⟨w.heap.size, 1, none⟩ (.int .i64 (1 + x2))).setCell ⟨w.heap.size, 2, none⟩ (.slice an (opNorm o).length cn))) := Lib.hid ((((Wr.refl _ _).put (b := w.heap.size) (o := 0) (by simp) _).put (b := w.heap.size) (o := 1) (by simp) _).put (b := w.heap.size) (o := 2) (by simp) _)
  have HOE : Hid (OwnS w.heap.size (((w5.setCell ⟨w.heap.size, 0, none⟩ (.int .i64 (1 + x1))).setCell ⟨w.heap.size, 1, none⟩ (.int .i64 (1 + x2))).setCell ⟨w.heap.size, 2, none⟩ (.slice an (opNorm o).length cn)) (.slice an (opNorm o).length cn) (opNorm o)) := Lib.hid (by
    obtain ⟨f, h1, h2⟩ := HON.out
    exact OwnS.mono ⟨f, h1.wr HWB.out fun p hp hq => by have := h2.ge p hp; simp only [List.mem_cons, List.not_mem_nil, or_false] at hq; rcases hq with rfl | rfl | rfl <;> (simp only at this; omega), HWB.out.fresh h1.live h2⟩ (Nat.le_succ _))
  have HCE : Hid (CuOut w0 bc vb bs w (((w5.setCell ⟨w.heap.size, 0, none⟩ (.int .i64 (1 + x1))).setCell ⟨w.heap.size, 1, none⟩ (.int .i64 (1 + x2))).setCell ⟨w.heap.size, 2, none⟩ (.slice an (opNorm o).length cn))) := Lib.hid ⟨HC5.out.1.wr HWB.out (fun p hp => by simp only [List.mem_cons, List.not_mem_nil, or_false] at hp; rcases hp with rfl | rfl | rfl <;> (simp only; omega)), wr_cu HC5.out.2 HWB.out (fun p hp => by simp only [List.mem_cons, List.not_mem_nil, or_false] at hp; rcases hp with rfl | rfl | rfl <;> exact Nat.le_refl _)⟩
  clear hw0 HWB HC5 HON
  go_wp2
  exact bodyPost_ret (v := .agg #[.int .i64 (1 + x1), .int .i64 (1 + x2), .slice an (opNorm o).length cn]) (by simp [results, Try.results16, go_sem, cell_setCell, *]) rfl ⟨_, ⟨1 + x1, 1 + x2, opNorm o⟩, rfl, HOE.out, ⟨⟨by simp; omega, by simp; omega⟩, ⟨by simp; omega, by simp; omega⟩, o, rfl⟩, HCE.out⟩
end Go.Proofs.Ytfkaabpaolelgaa
