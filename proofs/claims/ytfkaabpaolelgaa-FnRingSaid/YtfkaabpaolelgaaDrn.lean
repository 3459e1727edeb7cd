/- A new cursor; a drawn number. -/
import Derived.Test.YtfkaabpaolelgaaDrx
namespace Go.Proofs.Ytfkaabpaolelgaa
open Go.RowKit
theorem Cu.new {w wr : World} {vb : Value} {bs : List DByte} {E : TypeId} (n : Int) (hb : RdS w vb bs) (hw : Below w.heap.size w wr) : Cu w wr.heap.size vb bs (wr.alloc (.cells #[vb, .int .i64 0, .int .i64 n] E)) := by
  have hx : Bx (wr.alloc (.cells #[vb, .int .i64 0, .int .i64 n] E)) wr.heap.size [vb, .int .i64 0, .int .i64 n] := Bx.new rfl
  exact ⟨hw.size, hb, hw.alloc hw.size _, 0, n, by rw [Int.natCast_zero]; exact hx, Nat.zero_le _⟩
set_option maxHeartbeats 2000000 in
set_option maxRecDepth 100000 in
theorem spec_l01New_c (vb : Value) (bs : List DByte) (w : World) (hb : RdS w vb bs) :
    Calls Try.prog 14 #[vb] w (fun e w' => ∃ bc : Nat, e = .returned (.pointer (some ⟨bc, 0, none⟩)) ∧ Cu w bc vb bs w' ∧ Below w.heap.size w w') := by
  obtain ⟨ab, cb, rfl⟩ := hb.isSlice
  have hlb := fun w1 ty => hb.len Try.underlying22 w1 ty
  have hle : (bs.length : Int) < 9000000000000000000 := by have := hb.le; have : (BIG : Int) = 4294967296 := rfl; omega
  go_enter Try.func14, Try.ntmps14
  go_wp2_with fail
  go_loopw [3, 4] (fun h i wr => ∃ (k : Nat) (n : Int), i = .int .i64 k ∧ h = .int .i64 n ∧ k ≤ bs.length ∧ Below w.heap.size w wr) (fun _ i _ => bs.length - (intOf i).toNat)
  case atStart => exact ⟨0, _, rfl, rfl, Nat.zero_le _, Below.refl _ _⟩
  case round =>
    obtain ⟨k, n, rfl, rfl, hk, hbw⟩ := hrel
    have hsz := hbw.size
    have HBW := Lib.hid hbw
    clear hbw
    by_cases hlt : k < bs.length
    · have hl2 : (k : Int) < (bs.length : Int) := by omega
      by_cases h4 : k < 4000
      · have h42 : (k : Int) < 4000 := by omega
        obtain ⟨y, hy⟩ := get_some hlt
        obtain ⟨b1, o1, cs, k1, k2, _, k3⟩ := (hb.below HBW.out).idx Try.underlying22 sz_byte k hy
        obtain rfl := rd_byte k3
        have q0 := k2.zero
        clear k2 k3 hy
        go_wp2
        go_roundw
        case rel => exact ⟨k + 1, _, by go_num, rfl, by omega, HBW.out⟩
        case measure => simp [intOf]; omega
      · have h42 : ¬ (k : Int) < 4000 := by omega
        have HCU := Lib.hid (Cu.new (E := 47) n hb HBW.out)
        have HBA := Lib.hid (HBW.out.alloc hsz (.cells #[.slice ab bs.length cb, .int .i64 0, .int .i64 n] 47))
        go_wp2
        go_ret
        exact ⟨wr.heap.size, rfl, HCU.out, HBA.out⟩
    · have hl2 : ¬ (k : Int) < (bs.length : Int) := by omega
      have HCU := Lib.hid (Cu.new (E := 47) n hb HBW.out)
      have HBA := Lib.hid (HBW.out.alloc hsz (.cells #[.slice ab bs.length cb, .int .i64 0, .int .i64 n] 47))
      go_wp2
      go_ret
      exact ⟨wr.heap.size, rfl, HCU.out, HBA.out⟩
set_option maxHeartbeats 2000000 in
set_option maxRecDepth 100000 in
theorem spec_MakeNum_c (vb : Value) (bs : List DByte) (n : Int) (w : World) (hb : RdS w vb bs) :
    Calls Try.prog 5 #[vb, .int .i64 n] w (fun e w' => ∃ x : Int, e = .returned (.int .i64 x) ∧ Lt0 n x ∧ Below w.heap.size w w') := by
  go_enter Try.func5, Try.ntmps5
  go_wp2_with fail
  refine (spec_l01New_c vb bs _ hb).mono ?_
  rintro e' w1 ⟨bc, rfl, hc, hb1⟩
  obtain ⟨i, h, hx, hi⟩ := hc.bx
  obtain ⟨zl, c0, c1, c2, g0, g1, g2⟩ := hx.q3
  have HX := Lib.hid hx
  have HC := Lib.hid hc
  have HI := Lib.hid hi
  have HB1 := Lib.hid hb1
  clear hx hc hi hb1
  go_upto_region 3 with (fail)
  obtain ⟨h1, hh1⟩ : ∃ h1, wrap64 (h + 777) = h1 := ⟨_, rfl⟩
  rw [hh1]
  clear hh1
  have hc2 : Cu w bc vb bs (w1.setCell ⟨bc, 2, none⟩ (.int .i64 h1)) := HC.out.step ((Wr.refl _ _).put (b := bc) (o := 2) (by simp) _) (i := i) (n := h1) (HX.out.set 2 (.int .i64 h1)) HI.out
  have HC2 := Lib.hid hc2
  clear hc2 c0 c1 c2 g0 g1 g2 zl
  go_wp2_with fail
  refine (spec_l01Below_c w bc vb bs n _ HC2.out).mono ?_
  rintro e' w2 ⟨x, rfl, hx2, hc3⟩
  have HX2 := Lib.hid hx2
  have HB3 := Lib.hid hc3.1.bel
  clear hx2 hc3
  go_wp2
  go_ret
  exact ⟨x, rfl, HX2.out, HB3.out⟩
end Go.Proofs.Ytfkaabpaolelgaa
