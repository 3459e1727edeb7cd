/- The cursor that the drawn data come from. -/
import Derived.Test.YtfkaabpaolelgaaGreatRo
import Derived.Test.YtfkaabpaolelgaaGreatBa
import Derived.Laws.BitsLemmas
import Derived.Deep.Cut
import Derived.BigRegion
namespace Go.Proofs.YtfkaabpaolelgaaGreat
open Go.RowKit
structure DByte where
  v : Int
instance : GoT DByte where
  n := 1
  rd := fun _ _ cs x fp => cs = [.int .u8 x.v] ∧ fp = []
  pos := Nat.one_pos
  len := by rintro M w cs x fp ⟨rfl, rfl⟩; rfl
  one := by rintro M w cs x fp ⟨rfl, rfl⟩ u hu; simp at hu; subst hu; rfl
  live := by rintro M w cs x fp ⟨rfl, rfl⟩; exact Live.nil w
  keep := by rintro M w w' cs x fp h _; exact h
theorem sz_byte : ∀ w1, (sizeOf 5).run Tryz.prog w1 = .ok (GoT.n DByte) w1 := fun _ => by kernel_rfl
theorem rd_byte {M : Nat} {w : World} {c : List Value} {x : DByte} {f : List Pos} (h : GoT.rd M w c x f) : c = [.int .u8 x.v] := h.1
theorem i64_and255 (n : Int) : bits .and .i64 n 255 = n % 256 := by
  have h255 : (BitVec.ofInt 64 255).toNat = 2 ^ 8 - 1 := by decide
  have key : (BitVec.ofInt 64 n &&& BitVec.ofInt 64 255).toNat = (n % ((2 ^ 64 : Nat) : Int)).toNat % 2 ^ 8 := by
    rw [BitVec.toNat_and, BitVec.toNat_ofInt, h255, Nat.and_two_pow_sub_one_eq_mod]
  show IntKind.i64.wrap ((BitVec.ofInt 64 n &&& BitVec.ofInt 64 255).toNat : Nat) = n % 256
  rw [key, IntKind.wrap_i64]
  omega
/-- a cursor in its block: the bytes are read as they were at w0 -/
structure Cu (w0 : World) (bc : Nat) (vb : Value) (bs : List DByte) (w : World) : Prop where
  o : w0.heap.size ≤ bc
  rd0 : RdS w0 vb bs
  bel : Below w0.heap.size w0 w
  bx : ∃ (i : Nat) (h : Int), Bx w bc [vb, .int .i64 i, .int .i64 h] ∧ i ≤ bs.length
section
variable {w0 w w' : World} {bc : Nat} {vb : Value} {bs : List DByte}
theorem Cu.below (h : Cu w0 bc vb bs w) (hb : Below w.heap.size w w') : Cu w0 bc vb bs w' :=
  let ⟨i, n, hx, hi⟩ := h.bx
  ⟨h.o, h.rd0, h.bel.trans (hb.mono h.bel.size), i, n, hx.at hb, hi⟩
theorem Cu.wr {fp : List Pos} (h : Cu w0 bc vb bs w) (hw : Wr fp w w') (hn : ∀ p ∈ fp, w0.heap.size ≤ p.1 ∧ p.1 ≠ bc) : Cu w0 bc vb bs w' :=
  let ⟨i, n, hx, hi⟩ := h.bx
  ⟨h.o, h.rd0, h.bel.trans (hw.below h.bel.size fun p hp => (hn p hp).1), i, n, hx.wr hw fun p hp => (hn p hp).2, hi⟩
/-- the cursor's own cells are laid anew -/
theorem Cu.step (h : Cu w0 bc vb bs w) (hw : Wr [(bc, 1), (bc, 2)] w w') {i : Nat} {n : Int} (hx : Bx w' bc [vb, .int .i64 i, .int .i64 n]) (hi : i ≤ bs.length) : Cu w0 bc vb bs w' :=
  ⟨h.o, h.rd0, h.bel.trans (hw.below h.bel.size fun p hp => by simp only [List.mem_cons, List.not_mem_nil, or_false] at hp; rcases hp with rfl | rfl <;> exact h.o), i, n, hx, hi⟩
end
theorem Bx.mk3 {w : World} {b : Nat} {v0 v1 v2 : Value} (z : b < w.heap.size) (c0 : w.cell? ⟨b, 0, none⟩ = some v0) (c1 : w.cell? ⟨b, 1, none⟩ = some v1) (c2 : w.cell? ⟨b, 2, none⟩ = some v2) (g0 : w.frozen? ⟨b, 0, none⟩ = false) (g1 : w.frozen? ⟨b, 1, none⟩ = false) (g2 : w.frozen? ⟨b, 2, none⟩ = false) : Bx w b [v0, v1, v2] := ⟨z, fun j u hj => by
  match j, hj with
  | 0, hj => simp only [List.getElem?_cons_zero, Option.some.injEq] at hj; rw [← hj]; exact ⟨c0, g0⟩
  | 1, hj => simp only [List.getElem?_cons_succ, List.getElem?_cons_zero, Option.some.injEq] at hj; rw [← hj]; exact ⟨c1, g1⟩
  | 2, hj => simp only [List.getElem?_cons_succ, List.getElem?_cons_zero, Option.some.injEq] at hj; rw [← hj]; exact ⟨c2, g2⟩
  | j + 3, hj => simp at hj⟩
/-- what a draw leaves -/
def CuOut (w0 : World) (bc : Nat) (vb : Value) (bs : List DByte) (w w' : World) : Prop := Cu w0 bc vb bs w' ∧ Wr [(bc, 1), (bc, 2)] w w'
theorem CuOut.trans {w0 a b c : World} {bc : Nat} {vb : Value} {bs : List DByte} (h : CuOut w0 bc vb bs a b) (k : CuOut w0 bc vb bs b c) : CuOut w0 bc vb bs a c := ⟨k.1, h.2.trans k.2⟩
set_option maxHeartbeats 1000000 in
set_option maxRecDepth 100000 in
theorem spec_l01Byte_c (w0 : World) (bc : Nat) (vb : Value) (bs : List DByte) (w : World) (hc : Cu w0 bc vb bs w) :
    Calls Tryz.prog 66 #[.pointer (some ⟨bc, 0, none⟩)] w (fun e w' => ∃ x : Int, e = .returned (.int .i64 x) ∧ 0 ≤ x ∧ x ≤ 255 ∧ CuOut w0 bc vb bs w w') := by
  obtain ⟨i, h, hx, hi⟩ := hc.bx
  obtain ⟨zl, c0, c1, c2, g0, g1, g2⟩ := hx.q3
  have HC := Lib.hid hc
  have HI := Lib.hid hi
  go_enter Tryz.func66, Tryz.ntmps66
  go_upto_region 2 with (fail)
  generalize wrap64 (wrap64 (h * 6364136223846793005) + 1442695040888963407) = h1
  obtain ⟨W, hW⟩ : ∃ W : World, W = w.setCell ⟨bc, 2, none⟩ (.int .i64 h1) := ⟨_, rfl⟩
  have hx1 : Bx W bc [vb, .int .i64 i, .int .i64 h1] := by rw [hW]; exact hx.set 2 (.int .i64 h1)
  have HWR : Hid (Wr [(bc, 1), (bc, 2)] w W) := Lib.hid (by rw [hW]; exact (Wr.refl _ _).put (b := bc) (o := 2) (by simp) _)
  rw [← hW]
  clear hW zl c0 c1 c2 g0 g1 g2 hx hc hi
  have HRD : Hid (RdS W vb bs) := Lib.hid (HC.out.rd0.below (HC.out.bel.trans (HWR.out.below HC.out.bel.size fun p hp => by have := HC.out.o; simp only [List.mem_cons, List.not_mem_nil, or_false] at hp; rcases hp with rfl | rfl <;> exact this)))
  obtain ⟨zl, c0, c1, c2, g0, g1, g2⟩ := hx1.q3
  clear hx1
  obtain ⟨X, hX, F, hF, hFs⟩ := fam_of W
  obtain ⟨fc0, fc1, fc2⟩ := mx3 hF zl c0 c1 c2
  have HF := Lib.hid hF
  have HFs := Lib.hid hFs
  clear hF hFs
  refine wp_region_fam (F := F) (by kernel_rfl) (by kernel_rfl) (HFs.out _ (Below.refl _ _).drew) ?_
  repeat (go_big_quiet_step (fail))
  refine wpQuiet_nil ?_
  intro xq
  obtain ⟨w1, hwx⟩ : ∃ wx : World, F xq = wx := ⟨_, rfl⟩
  have B1 : Below W.heap.size W w1 := by rw [← hwx]; exact HF.out xq
  rw [hwx]
  clear hwx fc0 fc1 fc2 HF HFs
  have s1 := B1.size
  replace c0 : w1.cell? ⟨bc, 0, none⟩ = some (vb) := (B1.cell (p := ⟨bc, 0, none⟩) zl).trans c0
  replace c1 : w1.cell? ⟨bc, 1, none⟩ = some (.int .i64 i) := (B1.cell (p := ⟨bc, 1, none⟩) zl).trans c1
  replace c2 : w1.cell? ⟨bc, 2, none⟩ = some (.int .i64 h1) := (B1.cell (p := ⟨bc, 2, none⟩) zl).trans c2
  replace g0 : w1.frozen? ⟨bc, 0, none⟩ = false := (B1.frozen (p := ⟨bc, 0, none⟩) zl).trans g0
  replace g1 : w1.frozen? ⟨bc, 1, none⟩ = false := (B1.frozen (p := ⟨bc, 1, none⟩) zl).trans g1
  replace g2 : w1.frozen? ⟨bc, 2, none⟩ = false := (B1.frozen (p := ⟨bc, 2, none⟩) zl).trans g2
  replace zl := Nat.lt_of_lt_of_le zl s1
  have hr : ∀ n : Int, 0 ≤ bits .and .i64 n 255 ∧ bits .and .i64 n 255 ≤ 255 := fun n => by rw [i64_and255]; omega
  obtain ⟨x0, hx0⟩ : ∃ x0, bits .and .i64 (bits .xor .i64 (h1 / 8589934592) (h1 / 35184372088832)) 255 = x0 := ⟨_, rfl⟩
  have HX0 : Hid (0 ≤ x0 ∧ x0 ≤ 255) := Lib.hid (by rw [← hx0]; exact hr _)
  have HR := Lib.hid hr
  rw [hx0]
  clear hx0 hr
  have HB1 := Lib.hid B1
  have hlb := fun wq ty => HRD.out.len Tryz.underlying22 wq ty
  clear B1
  go_upto_region 3 with (fail)
  obtain ⟨X, hX, F, hF, hFs⟩ := fam_of w1
  obtain ⟨fc0, fc1, fc2⟩ := mx3 hF zl c0 c1 c2
  have HF := Lib.hid hF
  have HFs := Lib.hid hFs
  clear hF hFs
  refine wp_region_fam (F := F) (by kernel_rfl) (by kernel_rfl) (HFs.out _ (Below.refl _ _).drew) ?_
  repeat (go_big_quiet_step (fail))
  refine wpQuiet_nil ?_
  intro xq
  obtain ⟨w2, hwx⟩ : ∃ wx : World, F xq = wx := ⟨_, rfl⟩
  have B2 : Below w1.heap.size w1 w2 := by rw [← hwx]; exact HF.out xq
  rw [hwx]
  clear hwx fc0 fc1 fc2 HF HFs
  have s2 := B2.size
  replace c0 : w2.cell? ⟨bc, 0, none⟩ = some (vb) := (B2.cell (p := ⟨bc, 0, none⟩) zl).trans c0
  replace c1 : w2.cell? ⟨bc, 1, none⟩ = some (.int .i64 i) := (B2.cell (p := ⟨bc, 1, none⟩) zl).trans c1
  replace c2 : w2.cell? ⟨bc, 2, none⟩ = some (.int .i64 h1) := (B2.cell (p := ⟨bc, 2, none⟩) zl).trans c2
  replace g0 : w2.frozen? ⟨bc, 0, none⟩ = false := (B2.frozen (p := ⟨bc, 0, none⟩) zl).trans g0
  replace g1 : w2.frozen? ⟨bc, 1, none⟩ = false := (B2.frozen (p := ⟨bc, 1, none⟩) zl).trans g1
  replace g2 : w2.frozen? ⟨bc, 2, none⟩ = false := (B2.frozen (p := ⟨bc, 2, none⟩) zl).trans g2
  replace zl := Nat.lt_of_lt_of_le zl s2
  have HB2 : Hid (Below W.heap.size W w2) := Lib.hid (HB1.out.trans (B2.mono s1))
  clear B2
  by_cases hlt : i < bs.length
  rotate_left
  · have hl2 : ¬ (i : Int) < (bs.length : Int) := by omega
    go_wp2
    go_ret
    refine ⟨x0, rfl, HX0.out.1, HX0.out.2, HC.out.step (HWR.out.trans (Wr.of_below HB2.out)) (i := i) (n := h1) (Bx.mk3 zl c0 c1 c2 g0 g1 g2) HI.out, HWR.out.trans (Wr.of_below HB2.out)⟩
  have hl2 : (i : Int) < (bs.length : Int) := by omega
  obtain ⟨y, hy⟩ := get_some hlt
  obtain ⟨b1, o1, cs, k1, k2, _, k3⟩ := (HRD.out.below HB2.out).idx Tryz.underlying22 sz_byte i hy
  obtain rfl := rd_byte k3
  have q0 := k2.zero
  have l1 : b1 < w2.heap.size := World.block_lt_of_cell? (w := w2) (a := ⟨b1, o1, none⟩) q0
  clear k2 k3 hy
  go_upto_region 4 with (fail)
  obtain ⟨X, hX, F, hF, hFs⟩ := fam_of w2
  obtain ⟨fc0, fc1, fc2⟩ := mx3 hF zl c0 c1 c2
  have fq0 : ∀ x, (F x).cell? ⟨b1, o1, none⟩ = some (.int .u8 y.v) := fun x => ((hF x).cell (p := ⟨b1, o1, none⟩) l1).trans q0
  have HF := Lib.hid hF
  have HFs := Lib.hid hFs
  clear hF hFs
  refine wp_region_fam (F := F) (by kernel_rfl) (by kernel_rfl) (HFs.out _ (Below.refl _ _).drew) ?_
  repeat (go_big_quiet_step (fail))
  refine wpQuiet_nil ?_
  intro xq
  obtain ⟨w3, hwx⟩ : ∃ wx : World, F xq = wx := ⟨_, rfl⟩
  have B3 : Below w2.heap.size w2 w3 := by rw [← hwx]; exact HF.out xq
  rw [hwx]
  clear hwx fc0 fc1 fc2 fq0 HF HFs
  have s3 := B3.size
  replace c0 : w3.cell? ⟨bc, 0, none⟩ = some (vb) := (B3.cell (p := ⟨bc, 0, none⟩) zl).trans c0
  replace c1 : w3.cell? ⟨bc, 1, none⟩ = some (.int .i64 i) := (B3.cell (p := ⟨bc, 1, none⟩) zl).trans c1
  replace c2 : w3.cell? ⟨bc, 2, none⟩ = some (.int .i64 h1) := (B3.cell (p := ⟨bc, 2, none⟩) zl).trans c2
  replace g0 : w3.frozen? ⟨bc, 0, none⟩ = false := (B3.frozen (p := ⟨bc, 0, none⟩) zl).trans g0
  replace g1 : w3.frozen? ⟨bc, 1, none⟩ = false := (B3.frozen (p := ⟨bc, 1, none⟩) zl).trans g1
  replace g2 : w3.frozen? ⟨bc, 2, none⟩ = false := (B3.frozen (p := ⟨bc, 2, none⟩) zl).trans g2
  replace zl := Nat.lt_of_lt_of_le zl s3
  have HB3 : Hid (Below W.heap.size W w3) := Lib.hid (HB2.out.trans (B3.mono HB2.out.size))
  have hx3 := Bx.mk3 zl c0 c1 c2 g0 g1 g2
  have hx4 := hx3.set 1 (.int .i64 ((i : Int) + 1))
  have hib : (i : Int) < 9000000000000000000 := by have := HRD.out.le; have : (BIG : Int) = 4294967296 := rfl; omega
  have hr2 := HR.out (wrap64 (x0 + wrap64 y.v))
  obtain ⟨x1, hx1⟩ : ∃ x1, bits .and .i64 (wrap64 (x0 + wrap64 y.v)) 255 = x1 := ⟨_, rfl⟩
  rw [hx1] at hr2
  have HX1 := Lib.hid hr2
  have HXW := Lib.hid hx4
  rw [hx1]
  clear B3 hx1 hr2 hx4 hx3
  go_wp2
  go_ret
  have HWW : Hid (Wr [(bc, 1), (bc, 2)] w (w3.setCell ⟨bc, 1, none⟩ (.int .i64 ((i : Int) + 1)))) := Lib.hid ((HWR.out.trans (Wr.of_below HB3.out)).put (b := bc) (o := 1) (by simp) _)
  exact ⟨x1, rfl, HX1.out.1, HX1.out.2, HC.out.step HWW.out (i := i + 1) (n := h1) (by rw [Int.natCast_add]; exact HXW.out) (by omega), HWW.out⟩
end Go.Proofs.YtfkaabpaolelgaaGreat
