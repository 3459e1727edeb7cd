/- A new cursor; a drawn number. -/
import Derived.Test.YtfkaabpaolelgaaGreatDrx
namespace Go.Proofs.YtfkaabpaolelgaaGreat
open Go.RowKit
theorem Cu.new {w wr : World} {vb : Value} {bs : List DByte} {E : TypeId} (n : Int) (hb : RdS w vb bs) (hw : Below w.heap.size w wr) : Cu w wr.heap.size vb bs (wr.alloc (.cells #[vb, .int .i64 0, .int .i64 n] E)) := by
  have hx : Bx (wr.alloc (.cells #[vb, .int .i64 0, .int .i64 n] E)) wr.heap.size [vb, .int .i64 0, .int .i64 n] := Bx.new rfl
  exact ⟨hw.size, hb, hw.alloc hw.size _, 0, n, by rw [Int.natCast_zero]; exact hx, Nat.zero_le _⟩
set_option maxHeartbeats 2000000 in
set_option maxRecDepth 100000 in
theorem spec_l01New_c (vb : Value) (bs : List DByte) (w : World) (hb : RdS w vb bs) :
    Calls Tryz.prog 22 #[vb] w (fun e w' => ∃ bc : Nat, e = .returned (.pointer (some ⟨bc, 0, none⟩)) ∧ Cu w bc vb bs w' ∧ Below w.heap.size w w') := by
  obtain ⟨ab, cb, rfl⟩ := hb.isSlice
  have hlb := fun w1 ty => hb.len Tryz.underlying22 w1 ty
  have hle : (bs.length : Int) < 9000000000000000000 := by have := hb.le; have : (BIG : Int) = 4294967296 := rfl; omega
  go_enter Tryz.func22, Tryz.ntmps22
  go_wp2_with fail
  go_loopw [3, 4] (fun h i wr => ∃ (k : Nat) (n : Int), i = .int .i64 k ∧ h = .int .i64 n ∧ k ≤ bs.length ∧ Below w.heap.size w wr) (fun _ i _ => bs.length - (intOf i).toNat)
  case atStart => exact ⟨0, _, rfl, rfl, Nat.zero_le _, Below.refl _ _⟩
  case round =>
    obtain ⟨k, n, rfl, rfl, hk, hbw⟩ := hrel
    have hsz := hbw.size
    have HBW := Lib.hid hbw
    clear hbw
    by_cases hlt : k < bs.length
    · have hl2 : (k : Int) < (bs.length : Int) := by omega
      by_cases h4 : k < 4000
      · have h42 : (k : Int) < 4000 := by omega
        obtain ⟨y, hy⟩ := get_some hlt
        obtain ⟨b1, o1, cs, k1, k2, _, k3⟩ := (hb.below HBW.out).idx Tryz.underlying22 sz_byte k hy
        obtain rfl := rd_byte k3
        have q0 := k2.zero
        clear k2 k3 hy
        go_wp2
        go_roundw
        case rel => exact ⟨k + 1, _, by go_num, rfl, by omega, HBW.out⟩
        case measure => simp [intOf]; omega
      · have h42 : ¬ (k : Int) < 4000 := by omega
        have HCU := Lib.hid (Cu.new (E := 75) n hb HBW.out)
        have HBA := Lib.hid (HBW.out.alloc hsz (.cells #[.slice ab bs.length cb, .int .i64 0, .int .i64 n] 75))
        go_wp2
        go_ret
        exact ⟨wr.heap.size, rfl, HCU.out, HBA.out⟩
    · have hl2 : ¬ (k : Int) < (bs.length : Int) := by omega
      have HCU := Lib.hid (Cu.new (E := 75) n hb HBW.out)
      have HBA := Lib.hid (HBW.out.alloc hsz (.cells #[.slice ab bs.length cb, .int .i64 0, .int .i64 n] 75))
      go_wp2
      go_ret
      exact ⟨wr.heap.size, rfl, HCU.out, HBA.out⟩
end Go.Proofs.YtfkaabpaolelgaaGreat
