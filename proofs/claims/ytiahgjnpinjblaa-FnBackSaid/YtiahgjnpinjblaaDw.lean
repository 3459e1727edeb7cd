/- Draws. -/
import Derived.Test.YtiahgjnpinjblaaRo
import Derived.Test.YtiahgjnpinjblaaBa
import Derived.Laws.BitsLemmas
import Derived.Deep.Cut
import Derived.BigRegion
import Derived.Test.YtiahgjnpinjblaaWri
import Derived.Test.YtiahgjnpinjblaaCp
import Derived.Deep.CutRange
import Derived.Deep.LoopGhost
import Derived.Test.YtiahgjnpinjblaaBu
import Derived.Deep.RegionLaw
import Derived.Test.YtiahgjnpinjblaaDpl
namespace Go.Proofs.Ytiahgjnpinjblaa
open Go.RowKit
structure DByte where
  v : Int
instance : GoT DByte where
  n := 1
  rd := fun _ _ cs x fp => cs = [.int .u8 x.v] ∧ fp = []
  pos := Nat.one_pos
  len := by rintro M w cs x fp ⟨rfl, rfl⟩; rfl
  one := by rintro M w cs x fp ⟨rfl, rfl⟩ u hu; simp at hu; subst hu; rfl
  live := by rintro M w cs x fp ⟨rfl, rfl⟩; exact Live.nil w
  keep := by rintro M w w' cs x fp h _; exact h
theorem sz_byte : ∀ w1, (sizeOf 5).run Try.prog w1 = .ok (GoT.n DByte) w1 := fun _ => by kernel_rfl
theorem rd_byte {M : Nat} {w : World} {c : List Value} {x : DByte} {f : List Pos} (h : GoT.rd M w c x f) : c = [.int .u8 x.v] := h.1
theorem i64_and255 (n : Int) : bits .and .i64 n 255 = n % 256 := by
  have h255 : (BitVec.ofInt 64 255).toNat = 2 ^ 8 - 1 := by decide
  have key : (BitVec.ofInt 64 n &&& BitVec.ofInt 64 255).toNat = (n % ((2 ^ 64 : Nat) : Int)).toNat % 2 ^ 8 := by
    rw [BitVec.toNat_and, BitVec.toNat_ofInt, h255, Nat.and_two_pow_sub_one_eq_mod]
  show IntKind.i64.wrap ((BitVec.ofInt 64 n &&& BitVec.ofInt 64 255).toNat : Nat) = n % 256
  rw [key, IntKind.wrap_i64]
  omega
/-- a cursor in its block: the bytes are read as they were at w0 -/
structure Cu (w0 : World) (bc : Nat) (vb : Value) (bs : List DByte) (w : World) : Prop where
  o : w0.heap.size ≤ bc
  rd0 : RdS w0 vb bs
  bel : Below w0.heap.size w0 w
  bx : ∃ (i : Nat) (h : Int), Bx w bc [vb, .int .i64 i, .int .i64 h] ∧ i ≤ bs.length
section
variable {w0 w w' : World} {bc : Nat} {vb : Value} {bs : List DByte}
theorem Cu.below (h : Cu w0 bc vb bs w) (hb : Below w.heap.size w w') : Cu w0 bc vb bs w' :=
  let ⟨i, n, hx, hi⟩ := h.bx
  ⟨h.o, h.rd0, h.bel.trans (hb.mono h.bel.size), i, n, hx.at hb, hi⟩
theorem Cu.wr {fp : List Pos} (h : Cu w0 bc vb bs w) (hw : Wr fp w w') (hn : ∀ p ∈ fp, w0.heap.size ≤ p.1 ∧ p.1 ≠ bc) : Cu w0 bc vb bs w' :=
  let ⟨i, n, hx, hi⟩ := h.bx
  ⟨h.o, h.rd0, h.bel.trans (hw.below h.bel.size fun p hp => (hn p hp).1), i, n, hx.wr hw fun p hp => (hn p hp).2, hi⟩
/-- the cursor's own cells are laid anew -/
theorem Cu.step (h : Cu w0 bc vb bs w) (hw : Wr [(bc, 1), (bc, 2)] w w') {i : Nat} {n : Int} (hx : Bx w' bc [vb, .int .i64 i, .int .i64 n]) (hi : i ≤ bs.length) : Cu w0 bc vb bs w' :=
  ⟨h.o, h.rd0, h.bel.trans (hw.below h.bel.size fun p hp => by simp only [List.mem_cons, List.not_mem_nil, or_false] at hp; rcases hp with rfl | rfl <;> exact h.o), i, n, hx, hi⟩
end
theorem Bx.mk3 {w : World} {b : Nat} {v0 v1 v2 : Value} (z : b < w.heap.size) (c0 : w.cell? ⟨b, 0, none⟩ = some v0) (c1 : w.cell? ⟨b, 1, none⟩ = some v1) (c2 : w.cell? ⟨b, 2, none⟩ = some v2) (g0 : w.frozen? ⟨b, 0, none⟩ = false) (g1 : w.frozen? ⟨b, 1, none⟩ = false) (g2 : w.frozen? ⟨b, 2, none⟩ = false) : Bx w b [v0, v1, v2] := ⟨z, fun j u hj => by
  match j, hj with
  | 0, hj => simp only [List.getElem?_cons_zero, Option.some.injEq] at hj; rw [← hj]; exact ⟨c0, g0⟩
  | 1, hj => simp only [List.getElem?_cons_succ, List.getElem?_cons_zero, Option.some.injEq] at hj; rw [← hj]; exact ⟨c1, g1⟩
  | 2, hj => simp only [List.getElem?_cons_succ, List.getElem?_cons_zero, Option.some.injEq] at hj; rw [← hj]; exact ⟨c2, g2⟩
  | j + 3, hj => simp at hj⟩
/-- what a draw leaves -/
def CuOut (w0 : World) (bc : Nat) (vb : Value) (bs : List DByte) (w w' : World) : Prop := Cu w0 bc vb bs w' ∧ Wr [(bc, 1), (bc, 2)] w w'
theorem CuOut.trans {w0 a b c : World} {bc : Nat} {vb : Value} {bs : List DByte} (h : CuOut w0 bc vb bs a b) (k : CuOut w0 bc vb bs b c) : CuOut w0 bc vb bs a c := ⟨k.1, h.2.trans k.2⟩
set_option maxHeartbeats 1000000 in
set_option maxRecDepth 100000 in
theorem spec_l01Byte_c (w0 : World) (bc : Nat) (vb : Value) (bs : List DByte) (w : World) (hc : Cu w0 bc vb bs w) :
    Calls Try.prog 36 #[.pointer (some ⟨bc, 0, none⟩)] w (fun e w' => ∃ x : Int, e = .returned (.int .i64 x) ∧ 0 ≤ x ∧ x ≤ 255 ∧ CuOut w0 bc vb bs w w') := by
  obtain ⟨i, h, hx, hi⟩ := hc.bx
  obtain ⟨zl, c0, c1, c2, g0, g1, g2⟩ := hx.q3
  have HC := Lib.hid hc
  have HI := Lib.hid hi
  go_enter Try.func36, Try.ntmps36
  go_upto_region 2 with (fail)
  generalize wrap64 (wrap64 (h * 6364136223846793005) + 1442695040888963407) = h1
  obtain ⟨W, hW⟩ : ∃ W : World, W = w.setCell ⟨bc, 2, none⟩ (.int .i64 h1) := ⟨_, rfl⟩
  have hx1 : Bx W bc [vb, .int .i64 i, .int .i64 h1] := by rw [hW]; exact hx.set 2 (.int .i64 h1)
  have HWR : Hid (Wr [(bc, 1), (bc, 2)] w W) := Lib.hid (by rw [hW]; exact (Wr.refl _ _).put (b := bc) (o := 2) (by simp) _)
  rw [← hW]
  clear hW zl c0 c1 c2 g0 g1 g2 hx hc hi
  have HRD : Hid (RdS W vb bs) := Lib.hid (HC.out.rd0.below (HC.out.bel.trans (HWR.out.below HC.out.bel.size fun p hp => by have := HC.out.o; simp only [List.mem_cons, List.not_mem_nil, or_false] at hp; rcases hp with rfl | rfl <;> exact this)))
  obtain ⟨zl, c0, c1, c2, g0, g1, g2⟩ := hx1.q3
  clear hx1
  obtain ⟨X, hX, F, hF, hFs⟩ := fam_of W
  obtain ⟨fc0, fc1, fc2⟩ := mx3 hF zl c0 c1 c2
  have HF := Lib.hid hF
  have HFs := Lib.hid hFs
  clear hF hFs
  refine wp_region_fam (F := F) (by kernel_rfl) (by kernel_rfl) (HFs.out _ (Below.refl _ _).drew) ?_
  repeat (go_big_quiet_step (fail))
  refine wpQuiet_nil ?_
  intro xq
  obtain ⟨w1, hwx⟩ : ∃ wx : World, F xq = wx := ⟨_, rfl⟩
  have B1 : Below W.heap.size W w1 := by rw [← hwx]; exact HF.out xq
  rw [hwx]
  clear hwx fc0 fc1 fc2 HF HFs
  have s1 := B1.size
  replace c0 : w1.cell? ⟨bc, 0, none⟩ = some (vb) := (B1.cell (p := ⟨bc, 0, none⟩) zl).trans c0
  replace c1 : w1.cell? ⟨bc, 1, none⟩ = some (.int .i64 i) := (B1.cell (p := ⟨bc, 1, none⟩) zl).trans c1
  replace c2 : w1.cell? ⟨bc, 2, none⟩ = some (.int .i64 h1) := (B1.cell (p := ⟨bc, 2, none⟩) zl).trans c2
  replace g0 : w1.frozen? ⟨bc, 0, none⟩ = false := (B1.frozen (p := ⟨bc, 0, none⟩) zl).trans g0
  replace g1 : w1.frozen? ⟨bc, 1, none⟩ = false := (B1.frozen (p := ⟨bc, 1, none⟩) zl).trans g1
  replace g2 : w1.frozen? ⟨bc, 2, none⟩ = false := (B1.frozen (p := ⟨bc, 2, none⟩) zl).trans g2
  replace zl := Nat.lt_of_lt_of_le zl s1
  have hr : ∀ n : Int, 0 ≤ bits .and .i64 n 255 ∧ bits .and .i64 n 255 ≤ 255 := fun n => by rw [i64_and255]; omega
  obtain ⟨x0, hx0⟩ : ∃ x0, bits .and .i64 (bits .xor .i64 (h1 / 8589934592) (h1 / 35184372088832)) 255 = x0 := ⟨_, rfl⟩
  have HX0 : Hid (0 ≤ x0 ∧ x0 ≤ 255) := Lib.hid (by rw [← hx0]; exact hr _)
  have HR := Lib.hid hr
  rw [hx0]
  clear hx0 hr
  have HB1 := Lib.hid B1
  have hlb := fun wq ty => HRD.out.len Try.underlying22 wq ty
  clear B1
  go_upto_region 3 with (fail)
  obtain ⟨X, hX, F, hF, hFs⟩ := fam_of w1
  obtain ⟨fc0, fc1, fc2⟩ := mx3 hF zl c0 c1 c2
  have HF := Lib.hid hF
  have HFs := Lib.hid hFs
  clear hF hFs
  refine wp_region_fam (F := F) (by kernel_rfl) (by kernel_rfl) (HFs.out _ (Below.refl _ _).drew) ?_
  repeat (go_big_quiet_step (fail))
  refine wpQuiet_nil ?_
  intro xq
  obtain ⟨w2, hwx⟩ : ∃ wx : World, F xq = wx := ⟨_, rfl⟩
  have B2 : Below w1.heap.size w1 w2 := by rw [← hwx]; exact HF.out xq
  rw [hwx]
  clear hwx fc0 fc1 fc2 HF HFs
  have s2 := B2.size
  replace c0 : w2.cell? ⟨bc, 0, none⟩ = some (vb) := (B2.cell (p := ⟨bc, 0, none⟩) zl).trans c0
  replace c1 : w2.cell? ⟨bc, 1, none⟩ = some (.int .i64 i) := (B2.cell (p := ⟨bc, 1, none⟩) zl).trans c1
  replace c2 : w2.cell? ⟨bc, 2, none⟩ = some (.int .i64 h1) := (B2.cell (p := ⟨bc, 2, none⟩) zl).trans c2
  replace g0 : w2.frozen? ⟨bc, 0, none⟩ = false := (B2.frozen (p := ⟨bc, 0, none⟩) zl).trans g0
  replace g1 : w2.frozen? ⟨bc, 1, none⟩ = false := (B2.frozen (p := ⟨bc, 1, none⟩) zl).trans g1
  replace g2 : w2.frozen? ⟨bc, 2, none⟩ = false := (B2.frozen (p := ⟨bc, 2, none⟩) zl).trans g2
  replace zl := Nat.lt_of_lt_of_le zl s2
  have HB2 : Hid (Below W.heap.size W w2) := Lib.hid (HB1.out.trans (B2.mono s1))
  clear B2
  by_cases hlt : i < bs.length
  rotate_left
  · have hl2 : ¬ (i : Int) < (bs.length : Int) := by omega
    go_wp2
    go_ret
    refine ⟨x0, rfl, HX0.out.1, HX0.out.2, HC.out.step (HWR.out.trans (Wr.of_below HB2.out)) (i := i) (n := h1) (Bx.mk3 zl c0 c1 c2 g0 g1 g2) HI.out, HWR.out.trans (Wr.of_below HB2.out)⟩
  have hl2 : (i : Int) < (bs.length : Int) := by omega
  obtain ⟨y, hy⟩ := get_some hlt
  obtain ⟨b1, o1, cs, k1, k2, _, k3⟩ := (HRD.out.below HB2.out).idx Try.underlying22 sz_byte i hy
  obtain rfl := rd_byte k3
  have q0 := k2.zero
  have l1 : b1 < w2.heap.size := World.block_lt_of_cell? (w := w2) (a := ⟨b1, o1, none⟩) q0
  clear k2 k3 hy
  go_upto_region 4 with (fail)
  obtain ⟨X, hX, F, hF, hFs⟩ := fam_of w2
  obtain ⟨fc0, fc1, fc2⟩ := mx3 hF zl c0 c1 c2
  have fq0 : ∀ x, (F x).cell? ⟨b1, o1, none⟩ = some (.int .u8 y.v) := fun x => ((hF x).cell (p := ⟨b1, o1, none⟩) l1).trans q0
  have HF := Lib.hid hF
  have HFs := Lib.hid hFs
  clear hF hFs
  refine wp_region_fam (F := F) (by kernel_rfl) (by kernel_rfl) (HFs.out _ (Below.refl _ _).drew) ?_
  repeat (go_big_quiet_step (fail))
  refine wpQuiet_nil ?_
  intro xq
  obtain ⟨w3, hwx⟩ : ∃ wx : World, F xq = wx := ⟨_, rfl⟩
  have B3 : Below w2.heap.size w2 w3 := by rw [← hwx]; exact HF.out xq
  rw [hwx]
  clear hwx fc0 fc1 fc2 fq0 HF HFs
  have s3 := B3.size
  replace c0 : w3.cell? ⟨bc, 0, none⟩ = some (vb) := (B3.cell (p := ⟨bc, 0, none⟩) zl).trans c0
  replace c1 : w3.cell? ⟨bc, 1, none⟩ = some (.int .i64 i) := (B3.cell (p := ⟨bc, 1, none⟩) zl).trans c1
  replace c2 : w3.cell? ⟨bc, 2, none⟩ = some (.int .i64 h1) := (B3.cell (p := ⟨bc, 2, none⟩) zl).trans c2
  replace g0 : w3.frozen? ⟨bc, 0, none⟩ = false := (B3.frozen (p := ⟨bc, 0, none⟩) zl).trans g0
  replace g1 : w3.frozen? ⟨bc, 1, none⟩ = false := (B3.frozen (p := ⟨bc, 1, none⟩) zl).trans g1
  replace g2 : w3.frozen? ⟨bc, 2, none⟩ = false := (B3.frozen (p := ⟨bc, 2, none⟩) zl).trans g2
  replace zl := Nat.lt_of_lt_of_le zl s3
  have HB3 : Hid (Below W.heap.size W w3) := Lib.hid (HB2.out.trans (B3.mono HB2.out.size))
  have hx3 := Bx.mk3 zl c0 c1 c2 g0 g1 g2
  have hx4 := hx3.set 1 (.int .i64 ((i : Int) + 1))
  have hib : (i : Int) < 9000000000000000000 := by have := HRD.out.le; have : (BIG : Int) = 4294967296 := rfl; omega
  have hr2 := HR.out (wrap64 (x0 + wrap64 y.v))
  obtain ⟨x1, hx1⟩ : ∃ x1, bits .and .i64 (wrap64 (x0 + wrap64 y.v)) 255 = x1 := ⟨_, rfl⟩
  rw [hx1] at hr2
  have HX1 := Lib.hid hr2
  have HXW := Lib.hid hx4
  rw [hx1]
  clear B3 hx1 hr2 hx4 hx3
  go_wp2
  go_ret
  have HWW : Hid (Wr [(bc, 1), (bc, 2)] w (w3.setCell ⟨bc, 1, none⟩ (.int .i64 ((i : Int) + 1)))) := Lib.hid ((HWR.out.trans (Wr.of_below HB3.out)).put (b := bc) (o := 1) (by simp) _)
  exact ⟨x1, rfl, HX1.out.1, HX1.out.2, HC.out.step HWW.out (i := i + 1) (n := h1) (by rw [Int.natCast_add]; exact HXW.out) (by omega), HWW.out⟩
end Go.Proofs.Ytiahgjnpinjblaa

namespace Go.Proofs.Ytiahgjnpinjblaa
open Go.RowKit
theorem rd_int {M : Nat} {w : World} {c : List Value} {x : Int} {f : List Pos} (h : GoT.rd M w c x f) : c = [.int .i64 x] := h.1
theorem els_ints (w : World) : ∀ l : List Int, Els BIG w (l.map fun x => Value.int .i64 x) l []
  | [] => ⟨rfl, rfl⟩
  | x :: l => ⟨[.int .i64 x], l.map fun x => Value.int .i64 x, [], [], rfl, ⟨rfl, rfl⟩, els_ints w l, rfl⟩
theorem ints_alloc (w : World) (l : List Int) (E : TypeId) (hl : l.length ≤ 1000) : Sl BIG (w.alloc (.cells (l.map fun x => Value.int .i64 x).toArray E)) (.slice (some ⟨w.heap.size, 0, none⟩) l.length l.length) l (own w.heap.size 0 (l.length * GoT.n Int) ++ []) := by
  have hx : Bx (w.alloc (.cells (l.map fun x => Value.int .i64 x).toArray E)) w.heap.size (l.map fun x => Value.int .i64 x) := by
    have h := Bx.new (w := w) (c := (l.map fun x => Value.int .i64 x).toArray) (t := E) (b := w.heap.size) rfl
    simpa using h
  refine .inr ⟨w.heap.size, 0, l.length, _, [], rfl, Nat.le_refl _, Nat.le_trans hl (by decide), le_BIG (by omega), fun j u hj => ?_, els_ints _ l, fun p hp => ?_, rfl⟩
  · rw [Nat.zero_add]; exact (hx.2 j u hj).1
  · obtain ⟨q1, q2, q3⟩ := mem_own.1 hp
    have h1 : GoT.n Int = 1 := rfl
    rw [h1] at q3
    obtain ⟨y, hy⟩ := get_some (l := l) (k := p.2) (by omega)
    have := (hx.2 p.2 (.int .i64 y) (by rw [List.getElem?_map, hy]; rfl)).1
    rw [q1, this]; rfl
/-- a number below n -/
def Lt0 (n x : Int) : Prop := (0 < n → 0 ≤ x ∧ x < n) ∧ (n ≤ 0 → x = 0)
set_option maxHeartbeats 2000000 in
set_option maxRecDepth 100000 in
theorem spec_l01Below_c (w0 : World) (bc : Nat) (vb : Value) (bs : List DByte) (n : Int) (w : World) (hc : Cu w0 bc vb bs w) :
    Calls Try.prog 15 #[.pointer (some ⟨bc, 0, none⟩), .int .i64 n] w (fun e w' => ∃ x : Int, e = .returned (.int .i64 x) ∧ Lt0 n x ∧ CuOut w0 bc vb bs w w') := by
  by_cases h1 : n ≤ 0
  · have HC := Lib.hid hc
    clear hc
    go_enter Try.func15, Try.ntmps15
    go_wp2
    go_ret
    exact ⟨0, rfl, ⟨fun h => by omega, fun _ => rfl⟩, HC.out, Wr.refl _ _⟩
  have h1a : 0 < n := by omega
  have hn0 : n ≠ 0 := by omega
  by_cases h2 : n ≤ 256
  · go_enter Try.func15, Try.ntmps15
    go_wp2_with fail
    refine (spec_l01Byte_c w0 bc vb bs _ hc).mono ?_
    rintro e' w1 ⟨x, rfl, hx0, hx1, hc1⟩
    have HC1 := Lib.hid hc1
    have HXX : Hid (0 ≤ x % n ∧ x % n < n) := Lib.hid ⟨Int.emod_nonneg x hn0, Int.emod_lt_of_pos x h1a⟩
    clear hc1 hc
    go_wp2
    go_ret
    exact ⟨x % n, rfl, ⟨fun _ => HXX.out, fun h => by omega⟩, HC1.out⟩
  go_enter Try.func15, Try.ntmps15
  go_wp2_with fail
  refine (spec_l01Byte_c w0 bc vb bs _ hc).mono ?_
  rintro e' w1 ⟨x1, rfl, x10, x11, hc1⟩
  go_wp2_with fail
  refine (spec_l01Byte_c w0 bc vb bs _ hc1.1).mono ?_
  rintro e' w2 ⟨x2, rfl, x20, x21, hc2⟩
  go_wp2_with fail
  refine (spec_l01Byte_c w0 bc vb bs _ hc2.1).mono ?_
  rintro e' w3 ⟨x3, rfl, x30, x31, hc3⟩
  go_wp2_with fail
  refine (spec_l01Byte_c w0 bc vb bs _ hc3.1).mono ?_
  rintro e' w4 ⟨x4, rfl, x40, x41, hc4⟩
  have HC4 := Lib.hid (((hc1.trans hc2).trans hc3).trans hc4)
  have hs0 : 0 ≤ x1 * 16777216 + x2 * 65536 + x3 * 256 + x4 := by omega
  have HXX : Hid (0 ≤ (x1 * 16777216 + x2 * 65536 + x3 * 256 + x4) % n ∧ (x1 * 16777216 + x2 * 65536 + x3 * 256 + x4) % n < n) := Lib.hid ⟨Int.emod_nonneg _ hn0, Int.emod_lt_of_pos _ h1a⟩
  have hb1 : IntKind.i64.wrap (x1 * 16777216) = x1 * 16777216 := IntWalk.i64_in _ (by omega)
  have hb2 : IntKind.i64.wrap (x2 * 65536) = x2 * 65536 := IntWalk.i64_in _ (by omega)
  have hb3 : IntKind.i64.wrap (x3 * 256) = x3 * 256 := IntWalk.i64_in _ (by omega)
  have hb4 : IntKind.i64.wrap (x1 * 16777216 + x2 * 65536) = x1 * 16777216 + x2 * 65536 := IntWalk.i64_in _ (by omega)
  have hb5 : IntKind.i64.wrap (x1 * 16777216 + x2 * 65536 + x3 * 256) = x1 * 16777216 + x2 * 65536 + x3 * 256 := IntWalk.i64_in _ (by omega)
  have hb6 : IntKind.i64.wrap (x1 * 16777216 + x2 * 65536 + x3 * 256 + x4) = x1 * 16777216 + x2 * 65536 + x3 * 256 + x4 := IntWalk.i64_in _ (by omega)
  clear hc hc1 hc2 hc3 hc4
  go_wp2
  go_ret
  exact ⟨_, rfl, ⟨fun _ => HXX.out, fun h => by omega⟩, HC4.out⟩
theorem spec_l01Once_c (w0 : World) (bc : Nat) (vb : Value) (bs : List DByte) (n : Int) (w : World) (hc : Cu w0 bc vb bs w) :
    Calls Try.prog 55 #[.pointer (some ⟨bc, 0, none⟩), .int .i64 n] w (fun e w' => ∃ b : Bool, e = .returned (.bool b) ∧ CuOut w0 bc vb bs w w') := by
  go_enter Try.func55, Try.ntmps55
  go_wp2_with fail
  refine (spec_l01Below_c w0 bc vb bs n _ hc).mono ?_
  rintro e' w1 ⟨x, rfl, _, hc1⟩
  have HC1 := Lib.hid hc1
  clear hc1 hc
  go_wp2
  go_ret
  exact ⟨_, rfl, HC1.out⟩
theorem spec_l01Pick_c (w0 : World) (bc : Nat) (vb : Value) (bs : List DByte) (vl : Value) (l : List Int) (w : World) (hc : Cu w0 bc vb bs w) (hl : ∃ f, Sl BIG w vl l f ∧ ∀ p ∈ f, p.1 ≠ bc) (h0 : 0 < l.length) :
    Calls Try.prog 67 #[.pointer (some ⟨bc, 0, none⟩), vl] w (fun e w' => ∃ y : Int, e = .returned (.int .i64 y) ∧ y ∈ l ∧ CuOut w0 bc vb bs w w') := by
  obtain ⟨f, hs, hf⟩ := hl
  have hlx := fun w1 ty => (show RdS w vl l from ⟨_, hs⟩).len Try.underlying23 w1 ty
  have HS := Lib.hid hs
  have HF := Lib.hid hf
  clear hs hf
  go_enter Try.func67, Try.ntmps67
  go_wp2_with fail
  refine (spec_l01Below_c w0 bc vb bs (l.length : Int) _ hc).mono ?_
  rintro e' w1 ⟨x, rfl, hx, hc1⟩
  obtain ⟨hx0, hx1⟩ := hx.1 (by omega)
  obtain ⟨k, rfl⟩ : ∃ k : Nat, x = k := ⟨x.toNat, by omega⟩
  have hs1 : Sl BIG w1 vl l f := HS.out.wr hc1.2 (fun p hp hq => by simp only [List.mem_cons, List.not_mem_nil, or_false] at hq; have := HF.out p hp; rcases hq with rfl | rfl <;> exact this rfl)
  obtain ⟨y, hy⟩ := get_some (l := l) (k := k) (by omega)
  obtain ⟨b1, o1, cs, k1, k2, _, k3⟩ := (show RdS w1 vl l from ⟨_, hs1⟩).idx Try.underlying23 sz_int k hy
  obtain rfl := rd_int k3
  have q0 := k2.zero
  have HC1 := Lib.hid hc1
  have hk2 : (k : Int) < (l.length : Int) := by omega
  have HY := Lib.hid (List.mem_of_getElem? hy)
  clear hc1 hc hx k2 k3 hs1 hy
  go_wp2
  go_ret
  exact ⟨y, rfl, HY.out, HC1.out⟩
theorem spec_l01Sign_c (w0 : World) (bc : Nat) (vb : Value) (bs : List DByte) (w : World) (hc : Cu w0 bc vb bs w) :
    Calls Try.prog 49 #[.pointer (some ⟨bc, 0, none⟩)] w (fun e w' => ∃ y : Int, e = .returned (.int .i64 y) ∧ signOk y = true ∧ CuOut w0 bc vb bs w w') := by
  go_enter Try.func49, Try.ntmps49
  go_wp2_with fail
  refine (spec_l01Once_c w0 bc vb bs 8 _ hc).mono ?_
  rintro e' w1 ⟨b, rfl, hc1⟩
  have HC1 := Lib.hid hc1
  clear hc1 hc
  cases b
  · go_wp2_with fail
    refine (spec_l01Below_c w0 bc vb bs 6 _ HC1.out.1).mono ?_
    rintro e' w2 ⟨x, rfl, hx, hc2⟩
    obtain ⟨hx0, hx1⟩ := hx.1 (by decide)
    have HC2 := Lib.hid (HC1.out.trans hc2)
    have HS : Hid (signOk (97 + x) = true) := Lib.hid (by simp [signOk, within]; omega)
    have e97 : IntKind.i64.wrap (97 + x) = 97 + x := IntWalk.i64_in _ (by omega)
    clear hc2 hx
    go_wp2
    go_ret
    exact ⟨_, rfl, HS.out, HC2.out⟩
  · have hlt := HC1.out.1.bx
    obtain ⟨i, h, hx, _⟩ := hlt
    have hbl := hx.lt
    clear hx
    go_wp2_with fail
    refine (spec_l01Pick_c w0 bc vb bs _ [0, 127, 128, 2047, 2048, 55295, 57344, 65535, 65536, 1114111, 10, 32] _ (HC1.out.1.below ((Below.refl _ _).alloc (Nat.le_refl _) _)) ⟨_, ints_alloc w1 [0, 127, 128, 2047, 2048, 55295, 57344, 65535, 65536, 1114111, 10, 32] 3 (by decide), fun p hp => ?_⟩ (by decide)).mono ?_
    · rw [List.append_nil] at hp
      have := (mem_own.1 hp).1
      omega
    rintro e' w2 ⟨y, rfl, hy, hc2⟩
    have HS : Hid (signOk y = true) := Lib.hid ((show ∀ y ∈ ([0, 127, 128, 2047, 2048, 55295, 57344, 65535, 65536, 1114111, 10, 32] : List Int), signOk y = true by decide) y hy)
    have HC2 : Hid (CuOut w0 bc vb bs w w2) := Lib.hid ⟨hc2.1, HC1.out.2.trans ((Wr.of_below ((Below.refl _ _).alloc (Nat.le_refl _) _)).trans hc2.2)⟩
    clear hc2 hy
    go_wp2
    go_ret
    exact ⟨y, rfl, HS.out, HC2.out⟩
end Go.Proofs.Ytiahgjnpinjblaa

namespace Go.Proofs.Ytiahgjnpinjblaa
open Go.RowKit
theorem OwnS.cu {α : Type} [GoT α] {B bc : Nat} {w w' : World} {v : Value} {l : List α} (h : OwnS B w v l) (hw : Wr [(bc, 1), (bc, 2)] w w') (hb : bc < B) : OwnS B w' v l := by
  obtain ⟨f, h1, h2⟩ := h
  exact ⟨f, h1.wr hw fun p hp hq => by have := h2.ge p hp; simp only [List.mem_cons, List.not_mem_nil, or_false] at hq; rcases hq with rfl | rfl <;> (simp only at this; omega), hw.fresh h1.live h2⟩
theorem Cu.lt {w0 w : World} {bc : Nat} {vb : Value} {bs : List DByte} (h : Cu w0 bc vb bs w) : bc < w.heap.size := let ⟨_, _, hx, _⟩ := h.bx; hx.lt
theorem wr_cu {a b c : World} {bc : Nat} {hs : List Pos} (h : Wr [(bc, 1), (bc, 2)] a b) (k : Wr hs b c) (hn : ∀ p ∈ hs, a.heap.size ≤ p.1) : Wr [(bc, 1), (bc, 2)] a c := h.trans2 k fun p hp => .inr (hn p hp)
set_option maxHeartbeats 2000000 in
set_option maxRecDepth 100000 in
theorem spec_l01Signs_s (w0 : World) (bc : Nat) (vb : Value) (bs : List DByte) (m : Nat) (w : World) (hc : Cu w0 bc vb bs w) (hm : m ≤ 1000) :
    Calls Try.prog 29 #[.pointer (some ⟨bc, 0, none⟩), .int .i64 m] w (fun e w' => ∃ (v : Value) (l : List Int), e = .returned v ∧ OwnS w.heap.size w' v l ∧ l.length ≤ m ∧ signsOk l = true ∧ CuOut w0 bc vb bs w w') := by
  obtain ⟨i0, hi, hz0, hz1, hz2⟩ := info_parts info_int1
  have hbl := hc.lt
  go_enter Try.func29, Try.ntmps29
  go_wp2_with fail
  refine (spec_l01Below_c w0 bc vb bs ((m : Int) + 1) _ (hc.below ((Below.refl _ _).alloc (Nat.le_refl _) _))).mono ?_
  rintro e' w1 ⟨x, rfl, hx, hc1⟩
  obtain ⟨hx0, hx1⟩ := hx.1 (by omega)
  obtain ⟨k0, rfl⟩ : ∃ k : Nat, x = k := ⟨x.toNat, by omega⟩
  have hk0 : k0 ≤ m := by omega
  have HC1 : Hid (CuOut w0 bc vb bs w w1) := Lib.hid ⟨hc1.1, (Wr.of_below ((Below.refl _ _).alloc (Nat.le_refl _) _)).trans hc1.2⟩
  clear hc1 hc hx
  go_wp2_with fail
  go_loopw [5, 6] (fun u i wr => ∃ (u' : Value) (l : List Int) (k : Nat), u' = u ∧ i = .int .i64 k ∧ l.length + k ≤ m ∧ signsOk l = true ∧ OwnS w.heap.size wr u' l ∧ CuOut w0 bc vb bs w wr) (fun _ i _ => (intOf i).toNat)
  case atStart => exact ⟨_, [], k0, rfl, rfl, by simpa using hk0, rfl, OwnS.empty _ _ _, HC1.out⟩
  case round =>
    obtain ⟨u, l, k, rfl, rfl, hlk, hso, hu, hcw⟩ := hrel
    have HSO := Lib.hid hso
    clear hso
    have HU := Lib.hid hu
    have HCW := Lib.hid hcw
    clear hu hcw
    by_cases hk : 0 < k
    · have hk2 : (0 : Int) < (k : Int) := by omega
      go_wp2_with fail
      refine (spec_l01Sign_c w0 bc vb bs _ HCW.out.1).mono ?_
      rintro e' w2 ⟨y, rfl, hy, hc2⟩
      have HSY : Hid (signsOk (l ++ [y]) = true) := Lib.hid (by have := HSO.out; simp only [signsOk] at this; simp [signsOk, this, hy])
      clear hy
      have HC2 := Lib.hid (HCW.out.trans hc2)
      have HROW := Lib.hid (HU.out.cu hc2.2 hbl).ints
      have hsz : w.heap.size ≤ w2.heap.size := HC2.out.2.size
      clear hc2
      go_wp2_with (at_builtin; go_must (refine wpList_append_row rfl _ _ 23 rfl Try.underlying23 hi hz0 hz1 hz2 rfl rfl rfl (HROW.out.below ((Below.refl _ _).alloc (Nat.le_refl _) _)) (built_int w2 y 3) (fun _ h => by cases h) ?c1 ?c2 ?c3 ?_))
      case c1 => exact le_BIG (by simp; omega)
      case c2 => simp; omega
      case c3 => simp; omega
      intro v' w3 hr hw hn3
      have HO := Lib.hid hr.ints.2
      have HC3 : Hid (CuOut w0 bc vb bs w w3) := Lib.hid ⟨(HC2.out.1.below ((Below.refl _ _).alloc (Nat.le_refl _) _)).wr hw (fun p hp => by have := HROW.out.2.1.ge p hp; have := HC2.out.1.o; omega), wr_cu (HC2.out.2.trans (Wr.of_below ((Below.refl _ _).alloc (Nat.le_refl _) _))) hw (fun p hp => HROW.out.2.1.ge p hp)⟩
      clear hr hw hn3
      go_wp2
      go_roundw
      case rel => exact ⟨_, l ++ [y], k - 1, rfl, by first | go_num | (congr 1; omega), by simp; omega, HSY.out, HO.out, HC3.out⟩
      case measure => simp [intOf]; omega
    · have hk0 : k = 0 := by omega
      subst hk0
      go_wp2
      go_ret
      exact ⟨u, l, rfl, HU.out, by omega, HSO.out, HCW.out⟩
theorem spec_l01Signs_c (w0 : World) (bc : Nat) (vb : Value) (bs : List DByte) (m : Nat) (w : World) (hc : Cu w0 bc vb bs w) (hm : m ≤ 1000) :
    Calls Try.prog 29 #[.pointer (some ⟨bc, 0, none⟩), .int .i64 m] w (fun e w' => ∃ (v : Value) (l : List Int), e = .returned v ∧ OwnS w.heap.size w' v l ∧ l.length ≤ m ∧ CuOut w0 bc vb bs w w') :=
  (spec_l01Signs_s w0 bc vb bs m w hc hm).mono fun _ _ ⟨v, l, h1, h2, h3, _, h5⟩ => ⟨v, l, h1, h2, h3, h5⟩
end Go.Proofs.Ytiahgjnpinjblaa

namespace Go.Proofs.Ytiahgjnpinjblaa
open Go.RowKit
theorem Cu.new {w wr : World} {vb : Value} {bs : List DByte} {E : TypeId} (n : Int) (hb : RdS w vb bs) (hw : Below w.heap.size w wr) : Cu w wr.heap.size vb bs (wr.alloc (.cells #[vb, .int .i64 0, .int .i64 n] E)) := by
  have hx : Bx (wr.alloc (.cells #[vb, .int .i64 0, .int .i64 n] E)) wr.heap.size [vb, .int .i64 0, .int .i64 n] := Bx.new rfl
  exact ⟨hw.size, hb, hw.alloc hw.size _, 0, n, by rw [Int.natCast_zero]; exact hx, Nat.zero_le _⟩
set_option maxHeartbeats 2000000 in
set_option maxRecDepth 100000 in
theorem spec_l01New_c (vb : Value) (bs : List DByte) (w : World) (hb : RdS w vb bs) :
    Calls Try.prog 12 #[vb] w (fun e w' => ∃ bc : Nat, e = .returned (.pointer (some ⟨bc, 0, none⟩)) ∧ Cu w bc vb bs w' ∧ Below w.heap.size w w') := by
  obtain ⟨ab, cb, rfl⟩ := hb.isSlice
  have hlb := fun w1 ty => hb.len Try.underlying22 w1 ty
  have hle : (bs.length : Int) < 9000000000000000000 := by have := hb.le; have : (BIG : Int) = 4294967296 := rfl; omega
  go_enter Try.func12, Try.ntmps12
  go_wp2_with fail
  go_loopw [3, 4] (fun h i wr => ∃ (k : Nat) (n : Int), i = .int .i64 k ∧ h = .int .i64 n ∧ k ≤ bs.length ∧ Below w.heap.size w wr) (fun _ i _ => bs.length - (intOf i).toNat)
  case atStart => exact ⟨0, _, rfl, rfl, Nat.zero_le _, Below.refl _ _⟩
  case round =>
    obtain ⟨k, n, rfl, rfl, hk, hbw⟩ := hrel
    have hsz := hbw.size
    have HBW := Lib.hid hbw
    clear hbw
    by_cases hlt : k < bs.length
    · have hl2 : (k : Int) < (bs.length : Int) := by omega
      by_cases h4 : k < 4000
      · have h42 : (k : Int) < 4000 := by omega
        obtain ⟨y, hy⟩ := get_some hlt
        obtain ⟨b1, o1, cs, k1, k2, _, k3⟩ := (hb.below HBW.out).idx Try.underlying22 sz_byte k hy
        obtain rfl := rd_byte k3
        have q0 := k2.zero
        clear k2 k3 hy
        go_wp2
        go_roundw
        case rel => exact ⟨k + 1, _, by go_num, rfl, by omega, HBW.out⟩
        case measure => simp [intOf]; omega
      · have h42 : ¬ (k : Int) < 4000 := by omega
        have HCU := Lib.hid (Cu.new (E := 44) n hb HBW.out)
        have HBA := Lib.hid (HBW.out.alloc hsz (.cells #[.slice ab bs.length cb, .int .i64 0, .int .i64 n] 44))
        go_wp2
        go_ret
        exact ⟨wr.heap.size, rfl, HCU.out, HBA.out⟩
    · have hl2 : ¬ (k : Int) < (bs.length : Int) := by omega
      have HCU := Lib.hid (Cu.new (E := 44) n hb HBW.out)
      have HBA := Lib.hid (HBW.out.alloc hsz (.cells #[.slice ab bs.length cb, .int .i64 0, .int .i64 n] 44))
      go_wp2
      go_ret
      exact ⟨wr.heap.size, rfl, HCU.out, HBA.out⟩
set_option maxHeartbeats 2000000 in
set_option maxRecDepth 100000 in
theorem spec_MakeNum_c (vb : Value) (bs : List DByte) (n : Int) (w : World) (hb : RdS w vb bs) :
    Calls Try.prog 5 #[vb, .int .i64 n] w (fun e w' => ∃ x : Int, e = .returned (.int .i64 x) ∧ Lt0 n x ∧ Below w.heap.size w w') := by
  go_enter Try.func5, Try.ntmps5
  go_wp2_with fail
  refine (spec_l01New_c vb bs _ hb).mono ?_
  rintro e' w1 ⟨bc, rfl, hc, hb1⟩
  obtain ⟨i, h, hx, hi⟩ := hc.bx
  obtain ⟨zl, c0, c1, c2, g0, g1, g2⟩ := hx.q3
  have HX := Lib.hid hx
  have HC := Lib.hid hc
  have HI := Lib.hid hi
  have HB1 := Lib.hid hb1
  clear hx hc hi hb1
  go_upto_region 3 with (fail)
  obtain ⟨h1, hh1⟩ : ∃ h1, wrap64 (h + 777) = h1 := ⟨_, rfl⟩
  rw [hh1]
  clear hh1
  have hc2 : Cu w bc vb bs (w1.setCell ⟨bc, 2, none⟩ (.int .i64 h1)) := HC.out.step ((Wr.refl _ _).put (b := bc) (o := 2) (by simp) _) (i := i) (n := h1) (HX.out.set 2 (.int .i64 h1)) HI.out
  have HC2 := Lib.hid hc2
  clear hc2 c0 c1 c2 g0 g1 g2 zl
  go_wp2_with fail
  refine (spec_l01Below_c w bc vb bs n _ HC2.out).mono ?_
  rintro e' w2 ⟨x, rfl, hx2, hc3⟩
  have HX2 := Lib.hid hx2
  have HB3 := Lib.hid hc3.1.bel
  clear hx2 hc3
  go_wp2
  go_ret
  exact ⟨x, rfl, HX2.out, HB3.out⟩
end Go.Proofs.Ytiahgjnpinjblaa

namespace Go.Proofs.Ytiahgjnpinjblaa
open Go.RowKit
end Go.Proofs.Ytiahgjnpinjblaa

namespace Go.Proofs.Ytiahgjnpinjblaa
open Go.RowKit
theorem OwnB.cu {α : Type} [GoT α] {C D bc : Nat} {w w' : World} {v : Value} {l : List α} (h : OwnB C D w v l) (hw : Wr [(bc, 1), (bc, 2)] w w') (hb : bc < C) : OwnB C D w' v l := by
  obtain ⟨f, h1, h2, h3⟩ := h
  exact ⟨f, h1.wr hw fun p hp hq => by have := h2.ge p hp; simp only [List.mem_cons, List.not_mem_nil, or_false] at hq; rcases hq with rfl | rfl <;> (simp only at this; omega), hw.fresh h1.live h2, h3⟩
theorem OwnB.row2 {α : Type} [GoT α] {C D : Nat} {w : World} {v : Value} {l : List α} (h : OwnB C D w v l) : ∃ fs, Row C w v l fs ∧ Fresh C w fs ∧ ∀ p ∈ rowP (GoT.n α) v ++ fs, p.1 < D := by
  obtain ⟨fp, h, k, hd⟩ := h
  obtain ⟨fs, rfl⟩ := h.split
  exact ⟨fs, ⟨h, k.left, fun _ hp hq => (List.nodup_append.1 k.nodup).2.2 _ hq _ hp rfl⟩, k.right, hd⟩
/-- bounds of what is drawn -/
def DrO (o : List DPart) : Prop := ∀ q ∈ o, q.signs.length ≤ 12
theorem DrO.snoc {o : List DPart} {p : DPart} (h : DrO o) (hp : p.signs.length ≤ 12) : DrO (o ++ [p]) := fun q hq => (List.mem_append.1 hq).elim (h q) (fun e => (List.mem_singleton.1 e) ▸ hp)
set_option maxHeartbeats 8000000 in
set_option maxRecDepth 100000 in
theorem spec_l02Draw_s (w0 : World) (bc : Nat) (vb : Value) (bs : List DByte) (m : Nat) (w : World) (hc : Cu w0 bc vb bs w) (hm : m ≤ 1000) :
    Calls Try.prog 34 #[.pointer (some ⟨bc, 0, none⟩), .int .i64 m] w (fun e w' => ∃ (v : Value) (o : List DPart), e = .returned v ∧ OwnS w.heap.size w' v o ∧ CuOut w0 bc vb bs w w' ∧ o.length ≤ 42 ∧ DrO o) := by
  obtain ⟨i0, hi, hz0, hz1, hz2⟩ := info_parts info_part
  have hbl := hc.lt
  have HC0 : Hid (CuOut w0 bc vb bs w (w.alloc (.cells #[] 60))) := Lib.hid ⟨hc.below ((Below.refl _ _).alloc (Nat.le_refl _) _), Wr.of_below ((Below.refl _ _).alloc (Nat.le_refl _) _)⟩
  clear hc
  go_enter Try.func34, Try.ntmps34
  go_wp2_with fail
  go_loopg [5, 6, 7] 41 (fun n x5 x6 x7 wr => ∃ (u : Value) (o : List DPart) (L R : Nat), u = x5 ∧ n = 41 - o.length ∧ x6 = .int .i64 L ∧ x7 = .int .i64 R ∧ L ≤ m ∧ R ≤ 12 ∧ o.length ≤ 40 ∧ DrO o ∧ OwnS w.heap.size wr u o ∧ CuOut w0 bc vb bs w wr)
  case atStart => exact ⟨_, [], m, 12, rfl, rfl, rfl, rfl, Nat.le_refl _, Nat.le_refl _, Nat.zero_le _, (fun _ h => by cases h), OwnS.empty _ _ _, HC0.out⟩
  case round =>
    obtain ⟨u, o, L, R, rfl, rfl, rfl, rfl, hL, hR, ho, hdo, hu, hcw⟩ := hrel
    have HDO := Lib.hid hdo
    clear hdo
    have HU := Lib.hid hu
    have HCW := Lib.hid hcw
    clear hu hcw HC0
    go_upto_region 4 with (fail)
    go_cut [18] from 13 to 73 (fun z wx => ∃ b : Bool, z = .bool b ∧ OwnS w.heap.size wx u o ∧ CuOut w0 bc vb bs w wx)
    case first =>
      by_cases hL0 : 0 < L
      · have hl0 : (0 : Int) < (L : Int) := by omega
        go_wp2_with fail
        go_meet
        exact ⟨true, rfl, HU.out, HCW.out⟩
      · have hl0 : ¬ (0 : Int) < (L : Int) := by omega
        go_wp2_with fail
        refine (spec_l01Once_c w0 bc vb bs 3 _ HCW.out.1).mono ?_
        rintro e' w1 ⟨b, rfl, hc1⟩
        have HC1 := Lib.hid hc1
        clear hc1
        go_wp2_with fail
        go_meet
        exact ⟨b, rfl, HU.out.cu HC1.out.2 hbl, HCW.out.trans HC1.out⟩
    case rest =>
      obtain ⟨b, rfl, hu1, hc1⟩ := hcut
      replace HU := Lib.hid hu1
      replace HCW := Lib.hid hc1
      clear hu1 hc1
      cases b
      · go_wp2
        go_ret
        exact ⟨u, o, rfl, HU.out, HCW.out, by omega, HDO.out⟩
      go_wp2_with fail
      refine (spec_l01Below_c w0 bc vb bs 4 _ HCW.out.1).mono ?_
      rintro e' w2 ⟨x, rfl, hx, hc2⟩
      obtain ⟨hx0, hx1⟩ := hx.1 (by decide)
      replace HU := Lib.hid (HU.out.cu hc2.2 hbl)
      have HC2 := Lib.hid (HCW.out.trans hc2)
      clear hx hc2 HCW
      rcases (show x = 0 ∨ x = 1 ∨ (2 ≤ x) by omega) with rfl | rfl | h2
      · go_wp2_with fail
        refine (spec_l01Signs_c w0 bc vb bs 3 _ HC2.out.1 (by decide)).mono ?_
        rintro e' w3 ⟨vs, s, rfl, hos, hsl, hc3⟩
        have HUB := Lib.hid (HU.out.bd.cu hc3.2 hbl)
        have HC3 := Lib.hid (HC2.out.trans hc3)
        have hsz2 : w.heap.size ≤ w2.heap.size := HC2.out.2.size
        obtain ⟨fg, hsg, hfg⟩ := hos
        obtain ⟨as_, cs_, rfl⟩ := hsg.isS
        have HSG := Lib.hid hsg
        have HFG := Lib.hid hfg
        have hlq := fun w1 ty => (show RdS w3 (.slice as_ s.length cs_) s from ⟨_, hsg⟩).len Try.underlying23 w1 ty
        clear hsg hfg hc3
        by_cases hroom : R < s.length
        · have hr2 : (R : Int) < (s.length : Int) := by omega
          obtain ⟨fs4, hrow4, hff4, hlt4⟩ := HUB.out.row2
          have HROW4 := Lib.hid hrow4
          have HFF4 := Lib.hid hff4
          have HLT4 := Lib.hid hlt4
          have hsr4 := src_built (w := w3) (c := [.int .i64 2, .int .i64 0, .slice none 0 0]) (x := (⟨2, 0, []⟩ : DPart)) (f := []) 60 ⟨_, [], rfl, Sl.nil, rfl⟩
          have HSR4 := Lib.hid hsr4
          have HLV4 : Hid (∀ p ∈ fs4, p.1 < w3.heap.size) := Lib.hid (Live.lt (Live.append.1 hrow4.1.live).2)
          have hsz4 : w.heap.size ≤ w3.heap.size := HC3.out.2.size
          clear hrow4 hff4 hlt4 hsr4
          go_wp2_with (at_builtin; go_must (refine wpList_append_row rfl _ _ 32 rfl Try.underlying32 hi hz0 hz1 hz2 rfl rfl rfl (HROW4.out.below ((Below.refl _ _).alloc (Nat.le_refl _) _)) HSR4.out (fun _ h => by cases h) ?c1 ?c2 ?c3 ?_))
          case c1 => exact le_BIG (by simp; omega)
          case c2 => simp; omega
          case c3 => simp; omega
          intro v4 w4 hr4 hw4 hn4
          have HC4 : Hid (CuOut w0 bc vb bs w w4) := Lib.hid ⟨(HC3.out.1.below ((Below.refl _ _).alloc (Nat.le_refl _) _)).wr hw4 (fun p hp => by have := HROW4.out.2.1.ge p hp; have := HC3.out.1.o; omega), wr_cu (HC3.out.2.trans (Wr.of_below ((Below.refl _ _).alloc (Nat.le_refl _) _))) hw4 (fun p hp => HROW4.out.2.1.ge p hp)⟩
          have HFA4 : Hid (Fresh w.heap.size w4 fs4) := Lib.hid (hw4.fresh (Live.keep (Live.append.1 HROW4.out.1.live).2 (Live.same_below ((Below.refl _ _).alloc (Nat.le_refl _) _) HLV4.out)) (HFF4.out.belowL ((Below.refl _ _).alloc (Nat.le_refl _) _) HLV4.out))
          have HO4 : Hid (OwnS w.heap.size w4 v4 (o ++ [(⟨2, 0, []⟩ : DPart)])) := Lib.hid (Row.owns (by simpa using hr4) HFA4.out)
          obtain ⟨a4, c4, e4⟩ := HO4.out.rd.isSlice
          simp only [List.length_append, List.length_singleton] at e4
          subst e4
          clear hr4 hw4 hn4 HROW4 HFF4 HLT4 HSR4 HLV4 HFA4
          by_cases h40 : o.length < 40
          · have hl40 : ¬ (40 : Int) < (o.length : Int) + 1 := by omega
            go_wp2
            go_roundg (41 - (o ++ [(⟨2, 0, []⟩ : DPart)]).length)
            case measure => simp; omega
            case rel => exact ⟨_, o ++ [(⟨2, 0, []⟩ : DPart)], L, R, rfl, rfl, by first | rfl | go_num | (congr 1; omega), by first | rfl | go_num | (congr 1; omega), by omega, by omega, by simp; omega, HDO.out.snoc (by simp; try omega), HO4.out, HC4.out⟩
          have hl40 : (40 : Int) < (o.length : Int) + 1 := by omega
          obtain ⟨fs5, hrow5, hff5, hlt5⟩ := HO4.out.bd.row2
          have HROW5 := Lib.hid hrow5
          have HFF5 := Lib.hid hff5
          have HLT5 := Lib.hid hlt5
          have hsr5 := src_built (w := w4) (c := [.int .i64 1, .int .i64 ((L : Nat) : Int), .slice none 0 0]) (x := (⟨1, ((L : Nat) : Int), []⟩ : DPart)) (f := []) 60 ⟨_, [], rfl, Sl.nil, rfl⟩
          have HSR5 := Lib.hid hsr5
          have HLV5 : Hid (∀ p ∈ fs5, p.1 < w4.heap.size) := Lib.hid (Live.lt (Live.append.1 hrow5.1.live).2)
          have hsz5 : w.heap.size ≤ w4.heap.size := HC4.out.2.size
          clear hrow5 hff5 hlt5 hsr5
          go_wp2_with (at_builtin; go_must (refine wpList_append_row rfl _ _ 32 rfl Try.underlying32 hi hz0 hz1 hz2 rfl rfl rfl (HROW5.out.below ((Below.refl _ _).alloc (Nat.le_refl _) _)) HSR5.out (fun _ h => by cases h) ?c1 ?c2 ?c3 ?_))
          case c1 => exact le_BIG (by simp; omega)
          case c2 => simp; omega
          case c3 => simp; omega
          intro v5 w5 hr5 hw5 hn5
          have HC5 : Hid (CuOut w0 bc vb bs w w5) := Lib.hid ⟨(HC4.out.1.below ((Below.refl _ _).alloc (Nat.le_refl _) _)).wr hw5 (fun p hp => by have := HROW5.out.2.1.ge p hp; have := HC4.out.1.o; omega), wr_cu (HC4.out.2.trans (Wr.of_below ((Below.refl _ _).alloc (Nat.le_refl _) _))) hw5 (fun p hp => HROW5.out.2.1.ge p hp)⟩
          have HFA5 : Hid (Fresh w.heap.size w5 fs5) := Lib.hid (hw5.fresh (Live.keep (Live.append.1 HROW5.out.1.live).2 (Live.same_below ((Below.refl _ _).alloc (Nat.le_refl _) _) HLV5.out)) (HFF5.out.belowL ((Below.refl _ _).alloc (Nat.le_refl _) _) HLV5.out))
          have HO5 : Hid (OwnS w.heap.size w5 v5 (o ++ [(⟨2, 0, []⟩ : DPart)] ++ [(⟨1, ((L : Nat) : Int), []⟩ : DPart)])) := Lib.hid (Row.owns (by simpa using hr5) HFA5.out)
          obtain ⟨a5, c5, e5⟩ := HO5.out.rd.isSlice
          simp only [List.length_append, List.length_singleton] at e5
          subst e5
          clear hr5 hw5 hn5 HROW5 HFF5 HLT5 HSR5 HLV5 HFA5
          go_wp2
          go_ret
          exact ⟨_, _, rfl, HO5.out, HC5.out, by simp; omega, (HDO.out.snoc (by simp; try omega)).snoc (by simp)⟩
        have hr2 : ¬ (R : Int) < (s.length : Int) := by omega
        have hrr : (R : Int) - (s.length : Int) = ((R - s.length : Nat) : Int) := by omega
        obtain ⟨fs4, hrow4, hff4, hlt4⟩ := HUB.out.row2
        have HROW4 := Lib.hid hrow4
        have HFF4 := Lib.hid hff4
        have HLT4 := Lib.hid hlt4
        have hsr4 := src_built (w := w3) (c := [.int .i64 2, .int .i64 0, .slice as_ s.length cs_]) (x := (⟨2, 0, s⟩ : DPart)) (f := fg) 60 ⟨_, fg, rfl, HSG.out, rfl⟩
        have HSR4 := Lib.hid hsr4
        have HLV4 : Hid (∀ p ∈ fs4, p.1 < w3.heap.size) := Lib.hid (Live.lt (Live.append.1 hrow4.1.live).2)
        have hsz4 : w.heap.size ≤ w3.heap.size := HC3.out.2.size
        clear hrow4 hff4 hlt4 hsr4
        go_wp2_with (at_builtin; go_must (refine wpList_append_row rfl _ _ 32 rfl Try.underlying32 hi hz0 hz1 hz2 rfl rfl rfl (HROW4.out.below ((Below.refl _ _).alloc (Nat.le_refl _) _)) HSR4.out (fun q hq hm => by have e1 := HFG.out.ge q hq; have e2 := HLT4.out q (List.mem_append_left _ hm); omega) ?c1 ?c2 ?c3 ?_))
        case c1 => exact le_BIG (by simp; omega)
        case c2 => simp; omega
        case c3 => simp; omega
        intro v4 w4 hr4 hw4 hn4
        have HC4 : Hid (CuOut w0 bc vb bs w w4) := Lib.hid ⟨(HC3.out.1.below ((Below.refl _ _).alloc (Nat.le_refl _) _)).wr hw4 (fun p hp => by have := HROW4.out.2.1.ge p hp; have := HC3.out.1.o; omega), wr_cu (HC3.out.2.trans (Wr.of_below ((Below.refl _ _).alloc (Nat.le_refl _) _))) hw4 (fun p hp => HROW4.out.2.1.ge p hp)⟩
        have HFA4 : Hid (Fresh w.heap.size w4 fs4) := Lib.hid (hw4.fresh (Live.keep (Live.append.1 HROW4.out.1.live).2 (Live.same_below ((Below.refl _ _).alloc (Nat.le_refl _) _) HLV4.out)) (HFF4.out.belowL ((Below.refl _ _).alloc (Nat.le_refl _) _) HLV4.out))
        have HO4 : Hid (OwnS w.heap.size w4 v4 (o ++ [(⟨2, 0, s⟩ : DPart)])) := Lib.hid (Row.owns hr4 (HFA4.out.join ((hw4.fresh (Live.keep HSG.out.live (Live.same_below ((Below.refl _ _).alloc (Nat.le_refl _) _) (Live.lt HSG.out.live))) (HFG.out.belowL ((Below.refl _ _).alloc (Nat.le_refl _) _) (Live.lt HSG.out.live))).mono hsz2) (fun p hp q hq e => by have e1 := HFG.out.ge q hq; have e2 := HLT4.out p (List.mem_append_right _ hp); rw [e] at e2; omega)))
        obtain ⟨a4, c4, e4⟩ := HO4.out.rd.isSlice
        simp only [List.length_append, List.length_singleton] at e4
        subst e4
        clear hr4 hw4 hn4 HROW4 HFF4 HLT4 HSR4 HLV4 HFA4
        by_cases h40 : o.length < 40
        · have hl40 : ¬ (40 : Int) < (o.length : Int) + 1 := by omega
          go_wp2
          go_roundg (41 - (o ++ [(⟨2, 0, s⟩ : DPart)]).length)
          case measure => simp; omega
          case rel => exact ⟨_, o ++ [(⟨2, 0, s⟩ : DPart)], L, (R - s.length), rfl, rfl, by first | rfl | go_num | (congr 1; omega), by first | rfl | go_num | (congr 1; omega), by omega, by omega, by simp; omega, HDO.out.snoc (by simp; try omega), HO4.out, HC4.out⟩
        have hl40 : (40 : Int) < (o.length : Int) + 1 := by omega
        obtain ⟨fs5, hrow5, hff5, hlt5⟩ := HO4.out.bd.row2
        have HROW5 := Lib.hid hrow5
        have HFF5 := Lib.hid hff5
        have HLT5 := Lib.hid hlt5
        have hsr5 := src_built (w := w4) (c := [.int .i64 1, .int .i64 ((L : Nat) : Int), .slice none 0 0]) (x := (⟨1, ((L : Nat) : Int), []⟩ : DPart)) (f := []) 60 ⟨_, [], rfl, Sl.nil, rfl⟩
        have HSR5 := Lib.hid hsr5
        have HLV5 : Hid (∀ p ∈ fs5, p.1 < w4.heap.size) := Lib.hid (Live.lt (Live.append.1 hrow5.1.live).2)
        have hsz5 : w.heap.size ≤ w4.heap.size := HC4.out.2.size
        clear hrow5 hff5 hlt5 hsr5
        go_wp2_with (at_builtin; go_must (refine wpList_append_row rfl _ _ 32 rfl Try.underlying32 hi hz0 hz1 hz2 rfl rfl rfl (HROW5.out.below ((Below.refl _ _).alloc (Nat.le_refl _) _)) HSR5.out (fun _ h => by cases h) ?c1 ?c2 ?c3 ?_))
        case c1 => exact le_BIG (by simp; omega)
        case c2 => simp; omega
        case c3 => simp; omega
        intro v5 w5 hr5 hw5 hn5
        have HC5 : Hid (CuOut w0 bc vb bs w w5) := Lib.hid ⟨(HC4.out.1.below ((Below.refl _ _).alloc (Nat.le_refl _) _)).wr hw5 (fun p hp => by have := HROW5.out.2.1.ge p hp; have := HC4.out.1.o; omega), wr_cu (HC4.out.2.trans (Wr.of_below ((Below.refl _ _).alloc (Nat.le_refl _) _))) hw5 (fun p hp => HROW5.out.2.1.ge p hp)⟩
        have HFA5 : Hid (Fresh w.heap.size w5 fs5) := Lib.hid (hw5.fresh (Live.keep (Live.append.1 HROW5.out.1.live).2 (Live.same_below ((Below.refl _ _).alloc (Nat.le_refl _) _) HLV5.out)) (HFF5.out.belowL ((Below.refl _ _).alloc (Nat.le_refl _) _) HLV5.out))
        have HO5 : Hid (OwnS w.heap.size w5 v5 (o ++ [(⟨2, 0, s⟩ : DPart)] ++ [(⟨1, ((L : Nat) : Int), []⟩ : DPart)])) := Lib.hid (Row.owns (by simpa using hr5) HFA5.out)
        obtain ⟨a5, c5, e5⟩ := HO5.out.rd.isSlice
        simp only [List.length_append, List.length_singleton] at e5
        subst e5
        clear hr5 hw5 hn5 HROW5 HFF5 HLT5 HSR5 HLV5 HFA5
        go_wp2
        go_ret
        exact ⟨_, _, rfl, HO5.out, HC5.out, by simp; omega, (HDO.out.snoc (by simp; try omega)).snoc (by simp)⟩
      · go_wp2_with fail
        refine (spec_l01Below_c w0 bc vb bs ((L : Int) + 1) _ HC2.out.1).mono ?_
        rintro e' w3 ⟨y, rfl, hy, hc3⟩
        obtain ⟨hy0, hy1⟩ := hy.1 (by omega)
        obtain ⟨N, rfl⟩ : ∃ N : Nat, y = N := ⟨y.toNat, by omega⟩
        have HU3 := Lib.hid (HU.out.cu hc3.2 hbl)
        have HC3 := Lib.hid (HC2.out.trans hc3)
        clear hy hc3
        by_cases h4 : 4 < N
        · have h42 : (4 : Int) < (N : Int) := by omega
          have hll : (L : Int) - 4 = ((L - 4 : Nat) : Int) := by omega
          obtain ⟨fs4, hrow4, hff4, hlt4⟩ := HU3.out.bd.row2
          have HROW4 := Lib.hid hrow4
          have HFF4 := Lib.hid hff4
          have HLT4 := Lib.hid hlt4
          have hsr4 := src_built (w := w3) (c := [.int .i64 3, .int .i64 ((4 : Nat) : Int), .slice none 0 0]) (x := (⟨3, ((4 : Nat) : Int), []⟩ : DPart)) (f := []) 60 ⟨_, [], rfl, Sl.nil, rfl⟩
          have HSR4 := Lib.hid hsr4
          have HLV4 : Hid (∀ p ∈ fs4, p.1 < w3.heap.size) := Lib.hid (Live.lt (Live.append.1 hrow4.1.live).2)
          have hsz4 : w.heap.size ≤ w3.heap.size := HC3.out.2.size
          clear hrow4 hff4 hlt4 hsr4
          go_wp2_with (at_builtin; go_must (refine wpList_append_row rfl _ _ 32 rfl Try.underlying32 hi hz0 hz1 hz2 rfl rfl rfl (HROW4.out.below ((Below.refl _ _).alloc (Nat.le_refl _) _)) HSR4.out (fun _ h => by cases h) ?c1 ?c2 ?c3 ?_))
          case c1 => exact le_BIG (by simp; omega)
          case c2 => simp; omega
          case c3 => simp; omega
          intro v4 w4 hr4 hw4 hn4
          have HC4 : Hid (CuOut w0 bc vb bs w w4) := Lib.hid ⟨(HC3.out.1.below ((Below.refl _ _).alloc (Nat.le_refl _) _)).wr hw4 (fun p hp => by have := HROW4.out.2.1.ge p hp; have := HC3.out.1.o; omega), wr_cu (HC3.out.2.trans (Wr.of_below ((Below.refl _ _).alloc (Nat.le_refl _) _))) hw4 (fun p hp => HROW4.out.2.1.ge p hp)⟩
          have HFA4 : Hid (Fresh w.heap.size w4 fs4) := Lib.hid (hw4.fresh (Live.keep (Live.append.1 HROW4.out.1.live).2 (Live.same_below ((Below.refl _ _).alloc (Nat.le_refl _) _) HLV4.out)) (HFF4.out.belowL ((Below.refl _ _).alloc (Nat.le_refl _) _) HLV4.out))
          have HO4 : Hid (OwnS w.heap.size w4 v4 (o ++ [(⟨3, ((4 : Nat) : Int), []⟩ : DPart)])) := Lib.hid (Row.owns (by simpa using hr4) HFA4.out)
          obtain ⟨a4, c4, e4⟩ := HO4.out.rd.isSlice
          simp only [List.length_append, List.length_singleton] at e4
          subst e4
          clear hr4 hw4 hn4 HROW4 HFF4 HLT4 HSR4 HLV4 HFA4
          by_cases h40 : o.length < 40
          · have hl40 : ¬ (40 : Int) < (o.length : Int) + 1 := by omega
            go_wp2
            go_roundg (41 - (o ++ [(⟨3, ((4 : Nat) : Int), []⟩ : DPart)]).length)
            case measure => simp; omega
            case rel => exact ⟨_, o ++ [(⟨3, ((4 : Nat) : Int), []⟩ : DPart)], (L - 4), R, rfl, rfl, by first | rfl | go_num | (congr 1; omega), by first | rfl | go_num | (congr 1; omega), by omega, by omega, by simp; omega, HDO.out.snoc (by simp; try omega), HO4.out, HC4.out⟩
          have hl40 : (40 : Int) < (o.length : Int) + 1 := by omega
          obtain ⟨fs5, hrow5, hff5, hlt5⟩ := HO4.out.bd.row2
          have HROW5 := Lib.hid hrow5
          have HFF5 := Lib.hid hff5
          have HLT5 := Lib.hid hlt5
          have hsr5 := src_built (w := w4) (c := [.int .i64 1, .int .i64 (((L - 4) : Nat) : Int), .slice none 0 0]) (x := (⟨1, (((L - 4) : Nat) : Int), []⟩ : DPart)) (f := []) 60 ⟨_, [], rfl, Sl.nil, rfl⟩
          have HSR5 := Lib.hid hsr5
          have HLV5 : Hid (∀ p ∈ fs5, p.1 < w4.heap.size) := Lib.hid (Live.lt (Live.append.1 hrow5.1.live).2)
          have hsz5 : w.heap.size ≤ w4.heap.size := HC4.out.2.size
          clear hrow5 hff5 hlt5 hsr5
          go_wp2_with (at_builtin; go_must (refine wpList_append_row rfl _ _ 32 rfl Try.underlying32 hi hz0 hz1 hz2 rfl rfl rfl (HROW5.out.below ((Below.refl _ _).alloc (Nat.le_refl _) _)) HSR5.out (fun _ h => by cases h) ?c1 ?c2 ?c3 ?_))
          case c1 => exact le_BIG (by simp; omega)
          case c2 => simp; omega
          case c3 => simp; omega
          intro v5 w5 hr5 hw5 hn5
          have HC5 : Hid (CuOut w0 bc vb bs w w5) := Lib.hid ⟨(HC4.out.1.below ((Below.refl _ _).alloc (Nat.le_refl _) _)).wr hw5 (fun p hp => by have := HROW5.out.2.1.ge p hp; have := HC4.out.1.o; omega), wr_cu (HC4.out.2.trans (Wr.of_below ((Below.refl _ _).alloc (Nat.le_refl _) _))) hw5 (fun p hp => HROW5.out.2.1.ge p hp)⟩
          have HFA5 : Hid (Fresh w.heap.size w5 fs5) := Lib.hid (hw5.fresh (Live.keep (Live.append.1 HROW5.out.1.live).2 (Live.same_below ((Below.refl _ _).alloc (Nat.le_refl _) _) HLV5.out)) (HFF5.out.belowL ((Below.refl _ _).alloc (Nat.le_refl _) _) HLV5.out))
          have HO5 : Hid (OwnS w.heap.size w5 v5 (o ++ [(⟨3, ((4 : Nat) : Int), []⟩ : DPart)] ++ [(⟨1, (((L - 4) : Nat) : Int), []⟩ : DPart)])) := Lib.hid (Row.owns (by simpa using hr5) HFA5.out)
          obtain ⟨a5, c5, e5⟩ := HO5.out.rd.isSlice
          simp only [List.length_append, List.length_singleton] at e5
          subst e5
          clear hr5 hw5 hn5 HROW5 HFF5 HLT5 HSR5 HLV5 HFA5
          go_wp2
          go_ret
          exact ⟨_, _, rfl, HO5.out, HC5.out, by simp; omega, (HDO.out.snoc (by simp; try omega)).snoc (by simp)⟩
        · have h42 : ¬ (4 : Int) < (N : Int) := by omega
          have hll : (L : Int) - ((N : Nat) : Int) = ((L - N : Nat) : Int) := by omega
          obtain ⟨fs4, hrow4, hff4, hlt4⟩ := HU3.out.bd.row2
          have HROW4 := Lib.hid hrow4
          have HFF4 := Lib.hid hff4
          have HLT4 := Lib.hid hlt4
          have hsr4 := src_built (w := w3) (c := [.int .i64 3, .int .i64 ((N : Nat) : Int), .slice none 0 0]) (x := (⟨3, ((N : Nat) : Int), []⟩ : DPart)) (f := []) 60 ⟨_, [], rfl, Sl.nil, rfl⟩
          have HSR4 := Lib.hid hsr4
          have HLV4 : Hid (∀ p ∈ fs4, p.1 < w3.heap.size) := Lib.hid (Live.lt (Live.append.1 hrow4.1.live).2)
          have hsz4 : w.heap.size ≤ w3.heap.size := HC3.out.2.size
          clear hrow4 hff4 hlt4 hsr4
          go_wp2_with (at_builtin; go_must (refine wpList_append_row rfl _ _ 32 rfl Try.underlying32 hi hz0 hz1 hz2 rfl rfl rfl (HROW4.out.below ((Below.refl _ _).alloc (Nat.le_refl _) _)) HSR4.out (fun _ h => by cases h) ?c1 ?c2 ?c3 ?_))
          case c1 => exact le_BIG (by simp; omega)
          case c2 => simp; omega
          case c3 => simp; omega
          intro v4 w4 hr4 hw4 hn4
          have HC4 : Hid (CuOut w0 bc vb bs w w4) := Lib.hid ⟨(HC3.out.1.below ((Below.refl _ _).alloc (Nat.le_refl _) _)).wr hw4 (fun p hp => by have := HROW4.out.2.1.ge p hp; have := HC3.out.1.o; omega), wr_cu (HC3.out.2.trans (Wr.of_below ((Below.refl _ _).alloc (Nat.le_refl _) _))) hw4 (fun p hp => HROW4.out.2.1.ge p hp)⟩
          have HFA4 : Hid (Fresh w.heap.size w4 fs4) := Lib.hid (hw4.fresh (Live.keep (Live.append.1 HROW4.out.1.live).2 (Live.same_below ((Below.refl _ _).alloc (Nat.le_refl _) _) HLV4.out)) (HFF4.out.belowL ((Below.refl _ _).alloc (Nat.le_refl _) _) HLV4.out))
          have HO4 : Hid (OwnS w.heap.size w4 v4 (o ++ [(⟨3, ((N : Nat) : Int), []⟩ : DPart)])) := Lib.hid (Row.owns (by simpa using hr4) HFA4.out)
          obtain ⟨a4, c4, e4⟩ := HO4.out.rd.isSlice
          simp only [List.length_append, List.length_singleton] at e4
          subst e4
          clear hr4 hw4 hn4 HROW4 HFF4 HLT4 HSR4 HLV4 HFA4
          by_cases h40 : o.length < 40
          · have hl40 : ¬ (40 : Int) < (o.length : Int) + 1 := by omega
            go_wp2
            go_roundg (41 - (o ++ [(⟨3, ((N : Nat) : Int), []⟩ : DPart)]).length)
            case measure => simp; omega
            case rel => exact ⟨_, o ++ [(⟨3, ((N : Nat) : Int), []⟩ : DPart)], (L - N), R, rfl, rfl, by first | rfl | go_num | (congr 1; omega), by first | rfl | go_num | (congr 1; omega), by omega, by omega, by simp; omega, HDO.out.snoc (by simp; try omega), HO4.out, HC4.out⟩
          have hl40 : (40 : Int) < (o.length : Int) + 1 := by omega
          obtain ⟨fs5, hrow5, hff5, hlt5⟩ := HO4.out.bd.row2
          have HROW5 := Lib.hid hrow5
          have HFF5 := Lib.hid hff5
          have HLT5 := Lib.hid hlt5
          have hsr5 := src_built (w := w4) (c := [.int .i64 1, .int .i64 (((L - N) : Nat) : Int), .slice none 0 0]) (x := (⟨1, (((L - N) : Nat) : Int), []⟩ : DPart)) (f := []) 60 ⟨_, [], rfl, Sl.nil, rfl⟩
          have HSR5 := Lib.hid hsr5
          have HLV5 : Hid (∀ p ∈ fs5, p.1 < w4.heap.size) := Lib.hid (Live.lt (Live.append.1 hrow5.1.live).2)
          have hsz5 : w.heap.size ≤ w4.heap.size := HC4.out.2.size
          clear hrow5 hff5 hlt5 hsr5
          go_wp2_with (at_builtin; go_must (refine wpList_append_row rfl _ _ 32 rfl Try.underlying32 hi hz0 hz1 hz2 rfl rfl rfl (HROW5.out.below ((Below.refl _ _).alloc (Nat.le_refl _) _)) HSR5.out (fun _ h => by cases h) ?c1 ?c2 ?c3 ?_))
          case c1 => exact le_BIG (by simp; omega)
          case c2 => simp; omega
          case c3 => simp; omega
          intro v5 w5 hr5 hw5 hn5
          have HC5 : Hid (CuOut w0 bc vb bs w w5) := Lib.hid ⟨(HC4.out.1.below ((Below.refl _ _).alloc (Nat.le_refl _) _)).wr hw5 (fun p hp => by have := HROW5.out.2.1.ge p hp; have := HC4.out.1.o; omega), wr_cu (HC4.out.2.trans (Wr.of_below ((Below.refl _ _).alloc (Nat.le_refl _) _))) hw5 (fun p hp => HROW5.out.2.1.ge p hp)⟩
          have HFA5 : Hid (Fresh w.heap.size w5 fs5) := Lib.hid (hw5.fresh (Live.keep (Live.append.1 HROW5.out.1.live).2 (Live.same_below ((Below.refl _ _).alloc (Nat.le_refl _) _) HLV5.out)) (HFF5.out.belowL ((Below.refl _ _).alloc (Nat.le_refl _) _) HLV5.out))
          have HO5 : Hid (OwnS w.heap.size w5 v5 (o ++ [(⟨3, ((N : Nat) : Int), []⟩ : DPart)] ++ [(⟨1, (((L - N) : Nat) : Int), []⟩ : DPart)])) := Lib.hid (Row.owns (by simpa using hr5) HFA5.out)
          obtain ⟨a5, c5, e5⟩ := HO5.out.rd.isSlice
          simp only [List.length_append, List.length_singleton] at e5
          subst e5
          clear hr5 hw5 hn5 HROW5 HFF5 HLT5 HSR5 HLV5 HFA5
          go_wp2
          go_ret
          exact ⟨_, _, rfl, HO5.out, HC5.out, by simp; omega, (HDO.out.snoc (by simp; try omega)).snoc (by simp)⟩
      · have hb0 : (x == 0) = false := by simp; omega
        have hb1 : (x == 1) = false := by simp; omega
        have hb2 : ¬ x = 0 := by omega
        have hb3 : ¬ x = 1 := by omega
        go_wp2_with fail
        refine (spec_l01Below_c w0 bc vb bs ((L : Int) + 1) _ HC2.out.1).mono ?_
        rintro e' w3 ⟨y, rfl, hy, hc3⟩
        obtain ⟨hy0, hy1⟩ := hy.1 (by omega)
        obtain ⟨N, rfl⟩ : ∃ N : Nat, y = N := ⟨y.toNat, by omega⟩
        have HU3 := Lib.hid (HU.out.cu hc3.2 hbl)
        have HC3 := Lib.hid (HC2.out.trans hc3)
        clear hy hc3
        have hll : (L : Int) - ((N : Nat) : Int) = ((L - N : Nat) : Int) := by omega
        obtain ⟨fs4, hrow4, hff4, hlt4⟩ := HU3.out.bd.row2
        have HROW4 := Lib.hid hrow4
        have HFF4 := Lib.hid hff4
        have HLT4 := Lib.hid hlt4
        have hsr4 := src_built (w := w3) (c := [.int .i64 1, .int .i64 ((N : Nat) : Int), .slice none 0 0]) (x := (⟨1, ((N : Nat) : Int), []⟩ : DPart)) (f := []) 60 ⟨_, [], rfl, Sl.nil, rfl⟩
        have HSR4 := Lib.hid hsr4
        have HLV4 : Hid (∀ p ∈ fs4, p.1 < w3.heap.size) := Lib.hid (Live.lt (Live.append.1 hrow4.1.live).2)
        have hsz4 : w.heap.size ≤ w3.heap.size := HC3.out.2.size
        clear hrow4 hff4 hlt4 hsr4
        go_wp2_with (at_builtin; go_must (refine wpList_append_row rfl _ _ 32 rfl Try.underlying32 hi hz0 hz1 hz2 rfl rfl rfl (HROW4.out.below ((Below.refl _ _).alloc (Nat.le_refl _) _)) HSR4.out (fun _ h => by cases h) ?c1 ?c2 ?c3 ?_))
        case c1 => exact le_BIG (by simp; omega)
        case c2 => simp; omega
        case c3 => simp; omega
        intro v4 w4 hr4 hw4 hn4
        have HC4 : Hid (CuOut w0 bc vb bs w w4) := Lib.hid ⟨(HC3.out.1.below ((Below.refl _ _).alloc (Nat.le_refl _) _)).wr hw4 (fun p hp => by have := HROW4.out.2.1.ge p hp; have := HC3.out.1.o; omega), wr_cu (HC3.out.2.trans (Wr.of_below ((Below.refl _ _).alloc (Nat.le_refl _) _))) hw4 (fun p hp => HROW4.out.2.1.ge p hp)⟩
        have HFA4 : Hid (Fresh w.heap.size w4 fs4) := Lib.hid (hw4.fresh (Live.keep (Live.append.1 HROW4.out.1.live).2 (Live.same_below ((Below.refl _ _).alloc (Nat.le_refl _) _) HLV4.out)) (HFF4.out.belowL ((Below.refl _ _).alloc (Nat.le_refl _) _) HLV4.out))
        have HO4 : Hid (OwnS w.heap.size w4 v4 (o ++ [(⟨1, ((N : Nat) : Int), []⟩ : DPart)])) := Lib.hid (Row.owns (by simpa using hr4) HFA4.out)
        obtain ⟨a4, c4, e4⟩ := HO4.out.rd.isSlice
        simp only [List.length_append, List.length_singleton] at e4
        subst e4
        clear hr4 hw4 hn4 HROW4 HFF4 HLT4 HSR4 HLV4 HFA4
        by_cases h40 : o.length < 40
        · have hl40 : ¬ (40 : Int) < (o.length : Int) + 1 := by omega
          go_wp2
          go_roundg (41 - (o ++ [(⟨1, ((N : Nat) : Int), []⟩ : DPart)]).length)
          case measure => simp; omega
          case rel => exact ⟨_, o ++ [(⟨1, ((N : Nat) : Int), []⟩ : DPart)], (L - N), R, rfl, rfl, by first | rfl | go_num | (congr 1; omega), by first | rfl | go_num | (congr 1; omega), by omega, by omega, by simp; omega, HDO.out.snoc (by simp; try omega), HO4.out, HC4.out⟩
        have hl40 : (40 : Int) < (o.length : Int) + 1 := by omega
        obtain ⟨fs5, hrow5, hff5, hlt5⟩ := HO4.out.bd.row2
        have HROW5 := Lib.hid hrow5
        have HFF5 := Lib.hid hff5
        have HLT5 := Lib.hid hlt5
        have hsr5 := src_built (w := w4) (c := [.int .i64 1, .int .i64 (((L - N) : Nat) : Int), .slice none 0 0]) (x := (⟨1, (((L - N) : Nat) : Int), []⟩ : DPart)) (f := []) 60 ⟨_, [], rfl, Sl.nil, rfl⟩
        have HSR5 := Lib.hid hsr5
        have HLV5 : Hid (∀ p ∈ fs5, p.1 < w4.heap.size) := Lib.hid (Live.lt (Live.append.1 hrow5.1.live).2)
        have hsz5 : w.heap.size ≤ w4.heap.size := HC4.out.2.size
        clear hrow5 hff5 hlt5 hsr5
        go_wp2_with (at_builtin; go_must (refine wpList_append_row rfl _ _ 32 rfl Try.underlying32 hi hz0 hz1 hz2 rfl rfl rfl (HROW5.out.below ((Below.refl _ _).alloc (Nat.le_refl _) _)) HSR5.out (fun _ h => by cases h) ?c1 ?c2 ?c3 ?_))
        case c1 => exact le_BIG (by simp; omega)
        case c2 => simp; omega
        case c3 => simp; omega
        intro v5 w5 hr5 hw5 hn5
        have HC5 : Hid (CuOut w0 bc vb bs w w5) := Lib.hid ⟨(HC4.out.1.below ((Below.refl _ _).alloc (Nat.le_refl _) _)).wr hw5 (fun p hp => by have := HROW5.out.2.1.ge p hp; have := HC4.out.1.o; omega), wr_cu (HC4.out.2.trans (Wr.of_below ((Below.refl _ _).alloc (Nat.le_refl _) _))) hw5 (fun p hp => HROW5.out.2.1.ge p hp)⟩
        have HFA5 : Hid (Fresh w.heap.size w5 fs5) := Lib.hid (hw5.fresh (Live.keep (Live.append.1 HROW5.out.1.live).2 (Live.same_below ((Below.refl _ _).alloc (Nat.le_refl _) _) HLV5.out)) (HFF5.out.belowL ((Below.refl _ _).alloc (Nat.le_refl _) _) HLV5.out))
        have HO5 : Hid (OwnS w.heap.size w5 v5 (o ++ [(⟨1, ((N : Nat) : Int), []⟩ : DPart)] ++ [(⟨1, (((L - N) : Nat) : Int), []⟩ : DPart)])) := Lib.hid (Row.owns (by simpa using hr5) HFA5.out)
        obtain ⟨a5, c5, e5⟩ := HO5.out.rd.isSlice
        simp only [List.length_append, List.length_singleton] at e5
        subst e5
        clear hr5 hw5 hn5 HROW5 HFF5 HLT5 HSR5 HLV5 HFA5
        go_wp2
        go_ret
        exact ⟨_, _, rfl, HO5.out, HC5.out, by simp; omega, (HDO.out.snoc (by simp; try omega)).snoc (by simp)⟩
theorem spec_l02Draw_c (w0 : World) (bc : Nat) (vb : Value) (bs : List DByte) (m : Nat) (w : World) (hc : Cu w0 bc vb bs w) (hm : m ≤ 1000) :
    Calls Try.prog 34 #[.pointer (some ⟨bc, 0, none⟩), .int .i64 m] w (fun e w' => ∃ (v : Value) (o : List DPart), e = .returned v ∧ OwnS w.heap.size w' v o ∧ CuOut w0 bc vb bs w w') :=
  (spec_l02Draw_s w0 bc vb bs m w hc hm).mono fun _ _ ⟨v, o, h1, h2, h3, _⟩ => ⟨v, o, h1, h2, h3⟩
end Go.Proofs.Ytiahgjnpinjblaa

namespace Go.Proofs.Ytiahgjnpinjblaa
open Go.RowKit
/-- an entry as it is drawn -/
def DrE (e : DEntry) : Prop := (1 ≤ e.client ∧ e.client ≤ 3) ∧ (1 ≤ e.seq ∧ e.seq ≤ 9) ∧ ∃ o, e.o = opNorm o
end Go.Proofs.Ytiahgjnpinjblaa

namespace Go.Proofs.Ytiahgjnpinjblaa
open Go.RowKit
theorem part_el {B : Nat} {w : World} {v : Value} {o : List DPart} {fp : List Pos} (h : Sl BIG w v o fp) (hf : Fresh B w fp) {P : Program} {T E : TypeId} (hT : P.underlying T = some (.slice E)) (hl : ∀ w1, (sizeOf E).run P w1 = .ok (GoT.n DPart) w1) {k : Nat} {p : DPart} (hk : o[k]? = some p) :
    ∃ b q vs f2, (∀ w1, (Instr.indexAt T v (.int .i64 k)).run P w1 = .ok (.pointer (some ⟨b, q, none⟩)) w1) ∧ B ≤ b ∧ b < w.heap.size ∧ At w b q [.int .i64 p.kind, .int .i64 p.n, vs] ∧ Sl BIG w vs p.signs f2 ∧ Fresh B w f2 ∧ (∀ j < 3, w.frozen? ⟨b, q + j, none⟩ = false) ∧ (∀ j < 3, (b, q + j) ∉ f2) ∧
      ∀ (w' : World) (kd n : Int) (v' : Value) (sg : List Int) (f' : List Pos), Wr (own b q 3 ++ f2) w w' → At w' b q [.int .i64 kd, .int .i64 n, v'] → Sl BIG w' v' sg f' → RdS w' v (o.set k ⟨kd, n, sg⟩) := by
  have hlt := (List.getElem?_eq_some_iff.1 hk).1
  rcases h with ⟨ao, rfl, rfl, rfl⟩ | ⟨b, q0, cap, cs, fs, rfl, h1, h2, h3, h4, h5, h6, rfl⟩
  · simp at hlt
  obtain ⟨c1, c2, c3, f1, f2, f3, rfl, rfl, hc1, e1, e2, e3⟩ := h5.at_ k hk
  have hc1 : c1.length = k * 3 := hc1
  have h6 : Live w (own b q0 (cap * 3)) := h6
  have hf : Fresh B w (own b q0 (cap * 3) ++ (f1 ++ f2 ++ f3)) := hf
  have hl : ∀ w1, (sizeOf E).run P w1 = .ok 3 w1 := hl
  have hcap : (k + 1) * 3 ≤ cap * 3 := Nat.mul_le_mul_right _ (by omega)
  rw [List.append_assoc] at h4
  obtain ⟨a1, a23⟩ := At.append.1 h4
  obtain ⟨a2, a3⟩ := At.append.1 a23
  rw [hc1] at a2 a3
  obtain ⟨vs, f2', rfl, hs, rfl⟩ := e2
  have hin : ∀ j < 3, (b, q0 + k * 3 + j) ∈ own b q0 (cap * 3) := fun j hj => mem_own.2 ⟨rfl, by simp only; omega, by simp only; omega⟩
  have hnd := List.nodup_append.1 hf.nodup
  have n12 := List.nodup_append.1 hnd.2.1
  have n1 := List.nodup_append.1 n12.1
  have hlf : Live w (f1 ++ f2 ++ f3) := h5.live
  have hl12 := Live.append.1 hlf
  have hi : ∀ w1, (Instr.indexAt T (.slice (some ⟨b, q0, none⟩) o.length cap) (.int .i64 k)).run P w1 = .ok (.pointer (some ⟨b, q0 + k * 3, none⟩)) w1 := fun w1 => by
    have hi : ¬ o.length ≤ k := by omega
    simp [Instr.indexAt, run_underlying hT, asIntOf, hl, Addr.add_lit, Result.andThen]
    intro hh
    exact absurd hh hi
  refine ⟨b, q0 + k * 3, vs, f2, hi, hf.ge _ (List.mem_append_left _ (hin 0 (by omega))), h6.lt _ (hin 0 (by omega)), a2, hs, hf.right.left.right, fun j hj => hf.free _ (List.mem_append_left _ (hin j hj)), fun j hj hm => hnd.2.2 _ (hin j hj) _ (by simp [hm]) rfl, ?_⟩
  intro w' kd n v' sg f' hw hA hr
  have hsub : ∀ p ∈ own b (q0 + k * 3) 3, p ∈ own b q0 (cap * 3) := by
    intro p hp
    obtain ⟨m1, m2, m3⟩ := mem_own.1 hp
    exact mem_own.2 ⟨m1, by omega, by omega⟩
  have d1 : ∀ p ∈ f1, p ∉ own b (q0 + k * 3) 3 ++ f2 := fun p hp hm => (List.mem_append.1 hm).elim (fun hm => hnd.2.2 _ (hsub p hm) _ (by simp [hp]) rfl) fun hm => n1.2.2 _ hp _ hm rfl
  have d3 : ∀ p ∈ f3, p ∉ own b (q0 + k * 3) 3 ++ f2 := fun p hp hm => (List.mem_append.1 hm).elim (fun hm => hnd.2.2 _ (hsub p hm) _ (by simp [hp]) rfl) fun hm => n12.2.2 _ (by simp [hm]) _ hp rfl
  have d0 : ∀ j, j < cap * 3 → (j < k * 3 ∨ k * 3 + 3 ≤ j) → (b, q0 + j) ∉ own b (q0 + k * 3) 3 ++ f2 := fun j hj hjk hm => (List.mem_append.1 hm).elim (fun hm => by
    obtain ⟨_, m2, m3⟩ := mem_own.1 hm
    simp only at m2 m3
    omega) fun hm => hnd.2.2 (b, q0 + j) (mem_own.2 ⟨rfl, by simp only; omega, by simp only; omega⟩) _ (by simp [hm]) rfl
  have E1 : Els BIG w' c1 (o.take k) f1 := e1.keep (hw.same (Live.append.1 hl12.1).1 d1)
  have E3 : Els BIG w' c3 (o.drop (k + 1)) f3 := e3.keep (hw.same hl12.2 d3)
  have hcs : (c1 ++ ([.int .i64 p.kind, .int .i64 p.n, vs] ++ c3)).length = o.length * 3 := by
    have e : (c1 ++ [.int .i64 p.kind, .int .i64 p.n, vs] ++ c3).length = o.length * 3 := h5.length
    rw [← List.append_assoc]
    exact e
  have hlc : o.length * 3 ≤ cap * 3 := Nat.mul_le_mul_right _ h1
  simp only [List.length_append, List.length_cons, List.length_nil] at hcs
  have hbs : b < w.heap.size := h6.lt _ (hin 0 (by omega))
  have A1 : At w' b q0 c1 := a1.keep fun j hj => hw.cell (b, q0 + j) hbs (d0 j (by omega) (.inl (by omega)))
  have A3 : At w' b (q0 + k * 3 + 3) c3 := by
    have a3' : At w b (q0 + k * 3 + 3) c3 := a3
    refine a3'.keep fun j hj => ?_
    have := hw.cell (b, q0 + (k * 3 + 3 + j)) hbs (d0 _ (by omega) (.inr (by omega)))
    rw [show q0 + k * 3 + 3 + j = q0 + (k * 3 + 3 + j) by omega]
    exact this
  have hE : Els BIG w' (c1 ++ ([.int .i64 kd, .int .i64 n, v'] ++ c3)) (o.set k ⟨kd, n, sg⟩) (f1 ++ (f' ++ f3)) := by
    rw [List.set_eq_take_append_cons_drop, if_pos hlt]
    exact Els.append.2 ⟨c1, _, f1, f' ++ f3, rfl, E1, ⟨[.int .i64 kd, .int .i64 n, v'], c3, f', f3, rfl, ⟨v', f', rfl, hr, rfl⟩, E3, rfl⟩, rfl⟩
  have hA' : At w' b q0 (c1 ++ ([.int .i64 kd, .int .i64 n, v'] ++ c3)) := At.append.2 ⟨A1, by rw [hc1]; exact At.append.2 ⟨hA, A3⟩⟩
  have hl6 : Live w' (own b q0 (cap * 3)) := by
    intro p hp
    obtain ⟨m1, m2, m3⟩ := mem_own.1 hp
    by_cases hq : q0 + k * 3 ≤ p.2 ∧ p.2 < q0 + k * 3 + 3
    · have := hA (p.2 - (q0 + k * 3)) _ (List.getElem?_eq_getElem (by simp only [List.length_cons, List.length_nil]; omega))
      rw [show p = (b, q0 + k * 3 + (p.2 - (q0 + k * 3))) by rw [← m1]; ext <;> simp; omega]
      simp only
      rw [this]; rfl
    · have hd := d0 (p.2 - q0) (by omega) (by omega)
      rw [show (b, q0 + (p.2 - q0)) = p by rw [← m1]; ext <;> simp; omega] at hd
      rw [hw.cell p (h6.lt p hp) hd]
      exact h6 p hp
  exact ⟨_, .inr ⟨b, q0, cap, _, _, by rw [List.length_set], by rw [List.length_set]; exact h1, h2, by rw [List.length_set]; exact h3, hA', hE, hl6, rfl⟩⟩
section
variable {w0 w w4 : World} {bc B b q k : Nat} {vb v vs : Value} {bs : List DByte} {o : List DPart} {p : DPart} {f2 : List Pos}
/-- the element's kind or number is laid anew -/
theorem part_put (hc : CuOut w0 bc vb bs w w4) (hBw : w.heap.size ≤ B) (hbl : bc < w.heap.size) (hB : B ≤ b) (hA : At w4 b q [.int .i64 p.kind, .int .i64 p.n, vs]) (hss : Sl BIG w4 vs p.signs f2) (hnf : ∀ j < 3, (b, q + j) ∉ f2)
    (hset : ∀ (w' : World) (kd n : Int) (v' : Value) (sg : List Int) (f' : List Pos), Wr (own b q 3 ++ f2) w4 w' → At w' b q [.int .i64 kd, .int .i64 n, v'] → Sl BIG w' v' sg f' → RdS w' v (o.set k ⟨kd, n, sg⟩)) (j : Nat) (hj : j < 2) (u : Int) :
    (∃ o' : List DPart, RdS (w4.setCell ⟨b, q + j, none⟩ (.int .i64 u)) v o') ∧ CuOut w0 bc vb bs w (w4.setCell ⟨b, q + j, none⟩ (.int .i64 u)) := by
  have hw : Wr [(b, q + j)] w4 (w4.setCell ⟨b, q + j, none⟩ (.int .i64 u)) := (Wr.refl _ _).put (b := b) (o := q + j) (by simp) _
  have hq : ∀ p ∈ [(b, q + j)], p = (b, q + j) := fun p hp => List.mem_singleton.1 hp
  have lo := hc.1.o
  have q0 := hA.zero
  have q1 := hA 1 _ rfl
  have q2 := hA 2 _ rfl
  refine ⟨?_, hc.1.wr hw fun p hp => by rw [hq p hp]; simp only; omega, wr_cu hc.2 hw fun p hp => by rw [hq p hp]; simp only; omega⟩
  have h1 : Wr (own b q 3 ++ f2) w4 (w4.setCell ⟨b, q + j, none⟩ (.int .i64 u)) := hw.sub fun p hp => by rw [hq p hp]; exact List.mem_append_left _ (mem_own.2 ⟨rfl, by simp only; omega, by simp only; omega⟩)
  have h2 : Sl BIG (w4.setCell ⟨b, q + j, none⟩ (.int .i64 u)) vs p.signs f2 := hss.wr hw fun p hp hm => by rw [hq p hm] at hp; exact hnf j (by omega) hp
  rcases (show j = 0 ∨ j = 1 by omega) with rfl | rfl
  · refine ⟨_, hset _ u p.n vs p.signs f2 h1 (fun i y hi => ?_) h2⟩
    match i, hi with
    | 0, hi => simp at hi; subst hi; simp [cell_setCell, q0]
    | 1, hi => simp at hi; subst hi; simp [cell_setCell, q1]
    | 2, hi => simp at hi; subst hi; simp [cell_setCell, q2]
  · refine ⟨_, hset _ p.kind u vs p.signs f2 h1 (fun i y hi => ?_) h2⟩
    match i, hi with
    | 0, hi => simp at hi; subst hi; simp [cell_setCell, q0]
    | 1, hi => simp at hi; subst hi; simp [cell_setCell, q1]
    | 2, hi => simp at hi; subst hi; simp [cell_setCell, q2]
/-- the element's signs have grown -/
theorem part_app {w5 w6 : World} {v' : Value} {sg : List Int} {C : Nat} (hc : CuOut w0 bc vb bs w w4) (hBw : w.heap.size ≤ B) (hbl : bc < w.heap.size) (hB : B ≤ b) (hbw : b < w4.heap.size) (hA : At w4 b q [.int .i64 p.kind, .int .i64 p.n, vs]) (hss : Sl BIG w4 vs p.signs f2) (hff : Fresh B w4 f2) (hnf : ∀ j < 3, (b, q + j) ∉ f2)
    (hset : ∀ (w' : World) (kd n : Int) (v' : Value) (sg : List Int) (f' : List Pos), Wr (own b q 3 ++ f2) w4 w' → At w' b q [.int .i64 kd, .int .i64 n, v'] → Sl BIG w' v' sg f' → RdS w' v (o.set k ⟨kd, n, sg⟩))
    (hb5 : Below w4.heap.size w4 w5) (hw6 : Wr (rowP (GoT.n Int) vs) w5 w6) (hr : Row C w6 v' sg []) (hn : ∀ p ∈ rowP (GoT.n Int) v', p ∈ rowP (GoT.n Int) vs ∨ w5.heap.size ≤ p.1) :
    ((w6.cell? ⟨b, q, none⟩ = some (.int .i64 p.kind) ∧ w6.cell? ⟨b, q + 2, none⟩ = some vs) ∧ (∃ o' : List DPart, RdS (w6.setCell ⟨b, q + 2, none⟩ v') v o') ∧ CuOut w0 bc vb bs w (w6.setCell ⟨b, q + 2, none⟩ v')) := by
  obtain ⟨gs, rfl⟩ := hss.split
  have hrow : ∀ p ∈ rowP (GoT.n Int) vs, p ∈ rowP (GoT.n Int) vs ++ gs := fun p hp => List.mem_append_left _ hp
  have s5 := hb5.size
  have hcell : ∀ j < 3, w6.cell? ⟨b, q + j, none⟩ = w4.cell? ⟨b, q + j, none⟩ := fun j hj =>
    (hw6.cell (b, q + j) (by simp only; omega) (fun hm => hnf j hj (hrow _ hm))).trans (hb5.cell (p := ⟨b, q + j, none⟩) hbw)
  have q0 := (hcell 0 (by omega)).trans hA.zero
  have q1 := (hcell 1 (by omega)).trans (hA 1 _ rfl)
  have q2 := (hcell 2 (by omega)).trans (hA 2 _ rfl)
  have hw : Wr [(b, q + 2)] w6 (w6.setCell ⟨b, q + 2, none⟩ v') := (Wr.refl _ _).put (b := b) (o := q + 2) (by simp) _
  have hq : ∀ p ∈ [(b, q + 2)], p = (b, q + 2) := fun p hp => List.mem_singleton.1 hp
  have lo := hc.1.o
  have hge : ∀ p ∈ rowP (GoT.n Int) vs, B ≤ p.1 := fun p hp => hff.ge p (hrow p hp)
  have c6 : CuOut w0 bc vb bs w w6 := ⟨(hc.1.below hb5).wr hw6 fun p hp => by have := hge p hp; omega, wr_cu (hc.2.trans (Wr.of_below hb5)) hw6 fun p hp => by have := hge p hp; omega⟩
  have hwa : Wr (own b q 3 ++ (rowP (GoT.n Int) vs ++ gs)) w4 (w6.setCell ⟨b, q + 2, none⟩ v') :=
    ((Wr.of_below hb5).trans (hw6.sub fun p hp => List.mem_append_right _ (hrow p hp))).trans (hw.sub fun p hp => by rw [hq p hp]; exact List.mem_append_left _ (mem_own.2 ⟨rfl, by simp only; omega, by simp only; omega⟩))
  refine ⟨⟨q0, q2⟩, ⟨_, hset _ p.kind p.n v' sg _ hwa (fun i y hi => ?_) (hr.1.wr hw fun p hp hm => ?_)⟩, c6.1.wr hw fun p hp => by rw [hq p hp]; simp only; omega, wr_cu c6.2 hw fun p hp => by rw [hq p hp]; simp only; omega⟩
  · match i, hi with
    | 0, hi => simp at hi; subst hi; have q0 : w6.cell? ⟨b, q, none⟩ = some (.int .i64 p.kind) := q0; simp [cell_setCell, q0]
    | 1, hi => simp at hi; subst hi; simp [cell_setCell, q1]
    | 2, hi => simp at hi; subst hi; simp [cell_setCell, q2]
  · rw [hq p hm, List.append_nil] at hp
    rcases hn _ hp with h | h
    · exact hnf 2 (by omega) (hrow _ h)
    · simp only at h; omega
end
end Go.Proofs.Ytiahgjnpinjblaa

namespace Go.Proofs.Ytiahgjnpinjblaa
open Go.RowKit
theorem src_two (w : World) (y : Int) (E : TypeId) : Src (w.alloc (.cells #[.int .i64 1, .int .i64 200, .slice none 0 0, .int .i64 3, .int .i64 y, .slice none 0 0] E)) (.slice (some ⟨w.heap.size, 0, none⟩) 2 2) [(⟨1, 200, []⟩ : DPart), ⟨3, y, []⟩] [] := by
  have hx : Bx (w.alloc (.cells #[.int .i64 1, .int .i64 200, .slice none 0 0, .int .i64 3, .int .i64 y, .slice none 0 0] E)) w.heap.size [.int .i64 1, .int .i64 200, .slice none 0 0, .int .i64 3, .int .i64 y, .slice none 0 0] := Bx.new rfl
  refine ⟨some ⟨w.heap.size, 0, none⟩, 2, [.int .i64 1, .int .i64 200, .slice none 0 0, .int .i64 3, .int .i64 y, .slice none 0 0], rfl, ⟨[.int .i64 1, .int .i64 200, .slice none 0 0], [.int .i64 3, .int .i64 y, .slice none 0 0], [], [], rfl, ⟨_, [], rfl, Sl.nil, rfl⟩, ⟨[.int .i64 3, .int .i64 y, .slice none 0 0], [], [], [], rfl, ⟨_, [], rfl, Sl.nil, rfl⟩, ⟨rfl, rfl⟩, rfl⟩, rfl⟩, .inr ⟨_, rfl, fun j u hu => ?_⟩⟩
  rw [addr_add, Nat.zero_add]
  exact (hx.2 j u hu).1
end Go.Proofs.Ytiahgjnpinjblaa

namespace Go.Proofs.Ytiahgjnpinjblaa
open Go.RowKit
set_option maxHeartbeats 2000000 in
set_option maxRecDepth 100000 in
theorem spec_l01Str_c (w0 : World) (bc : Nat) (vb : Value) (bs : List DByte) (b : Nat) (s0 s1 s2 s3 : ByteArray) (w : World) (hc : Cu w0 bc vb bs w) (hx : Bx w b [.string s0, .string s1, .string s2, .string s3]) (hb : b ≠ bc) :
    Calls Try.prog 35 #[.pointer (some ⟨bc, 0, none⟩), .slice (some ⟨b, 0, none⟩) 4 4] w (fun e w' => ∃ s : ByteArray, e = .returned (.string s) ∧ (s = s0 ∨ s = s1 ∨ s = s2 ∨ s = s3) ∧ CuOut w0 bc vb bs w w') := by
  go_enter Try.func35, Try.ntmps35
  go_wp2_with fail
  refine (spec_l01Below_c w0 bc vb bs 4 _ hc).mono ?_
  rintro e' w1 ⟨x, rfl, hx1, hc1⟩
  obtain ⟨h0, h1⟩ := hx1.1 (by decide)
  obtain ⟨z, q0, q1, q2, q3⟩ := (hx.wr hc1.2 (fun p hp => by simp only [List.mem_cons, List.not_mem_nil, or_false] at hp; rcases hp with rfl | rfl <;> exact Ne.symm hb)).o4
  have HC1 := Lib.hid hc1
  clear hc1 hx1 hc hx
  obtain rfl | rfl | rfl | rfl : x = 0 ∨ x = 1 ∨ x = 2 ∨ x = 3 := by omega
  · clear h0 h1
    go_wp2
    go_ret
    exact ⟨s0, rfl, .inl rfl, HC1.out⟩
  · clear h0 h1
    go_wp2
    go_ret
    exact ⟨s1, rfl, .inr (.inl rfl), HC1.out⟩
  · clear h0 h1
    go_wp2
    go_ret
    exact ⟨s2, rfl, .inr (.inr (.inl rfl)), HC1.out⟩
  · clear h0 h1
    go_wp2
    go_ret
    exact ⟨s3, rfl, .inr (.inr (.inr rfl)), HC1.out⟩
theorem spec_l08Name_c (w0 : World) (bc : Nat) (vb : Value) (bs : List DByte) (w : World) (hc : Cu w0 bc vb bs w) :
    Calls Try.prog 14 #[.pointer (some ⟨bc, 0, none⟩)] w (fun e w' => ∃ s : ByteArray, e = .returned (.string s) ∧ nameOk s = true ∧ s.size ≤ 8 ∧ CuOut w0 bc vb bs w w') := by
  have hlt := hc.lt
  go_enter Try.func14, Try.ntmps14
  go_wp2_with fail
  refine (spec_l01Str_c w0 bc vb bs w.heap.size ⟨#[97]⟩ ⟨#[98]⟩ ⟨#[110, 111, 116, 101, 115]⟩ ⟨#[116, 111, 100, 111]⟩ _ (hc.below ((Below.refl _ _).alloc (Nat.le_refl _) _)) (Bx.new rfl) (by omega)).mono ?_
  rintro e' w1 ⟨s, rfl, hs, hc1⟩
  have HC1 : Hid (CuOut w0 bc vb bs w w1) := Lib.hid ⟨hc1.1, (Wr.of_below ((Below.refl _ _).alloc (Nat.le_refl _) _)).trans hc1.2⟩
  have HS : Hid (nameOk s = true ∧ s.size ≤ 8) := Lib.hid (by rcases hs with rfl | rfl | rfl | rfl <;> exact ⟨by decide, by decide⟩)
  clear hc1 hs hc
  go_wp2
  go_ret
  exact ⟨s, rfl, HS.out.1, HS.out.2, HC1.out⟩
end Go.Proofs.Ytiahgjnpinjblaa

