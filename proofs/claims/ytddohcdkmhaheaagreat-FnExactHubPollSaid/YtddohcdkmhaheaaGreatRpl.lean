/- Polling a ring. -/
import Derived.Test.YtddohcdkmhaheaaGreatRps
import Derived.Test.YtddohcdkmhaheaaGreatRo
import Derived.Deep.RegionHeld3
namespace Go.Proofs.YtddohcdkmhaheaaGreat
open Go.RowKit
def pollK (r : DRing) (n : Int) : Nat := min n.toNat r.list.length
def ringPoll (r : DRing) (n : Int) : DRing × List DEntry × Int :=
  if ringOk r = true ∧ 1 ≤ n then (if r.out = true then (r, [], 9) else (⟨r.cap, r.next + pollK r n, r.out, r.list.drop (pollK r n)⟩, r.list.take (pollK r n), 0)) else (r, [], 1)
theorem cntL_sub {α : Type} [GoT α] [GoM α] [GoS α] [GoMS α] (l : List α) (k : Nat) : cntL (l.take k) ≤ 5 * szL l ∧ cntL (l.drop k) ≤ 5 * szL l := by
  have h1 := cntL_le (l.take k)
  have h2 := cntL_le (l.drop k)
  have h3 := szL_sub l k
  omega
theorem out_poll {w wE : World} {y0 : DRing} {y1 : List DEntry} {y2 : Int} {v0 v1 : Value} {C1 D1 C2 D2 : Nat} (h0 : OwnB C1 D1 wE v0 y0.list) (h1 : OwnB C2 D2 wE v1 y1) (hd : D1 ≤ C2) (hC : w.heap.size ≤ C1) (hC2 : w.heap.size ≤ C2) (hb : Below w.heap.size w wE) :
    Out_Ring_EntryS_i w y0 y1 y2 (.returned (.tuple #[.agg #[.int .i64 y0.cap, .int .i64 y0.next, .bool y0.out, v0], v1, .int .i64 y2])) wE := by
  obtain ⟨f0, s0, k0, d0⟩ := h0
  obtain ⟨f1, s1, k1, _⟩ := h1
  refine ⟨v0, v1, f0, f1, rfl, s0, s1, (k0.mono hC).join (k1.mono hC2) fun p hp q hq e => ?_, hb⟩
  subst e
  have := d0 _ hp; have := k1.ge _ hq; omega
theorem out_poll2 {w wE : World} {y0 : DRing} {y1 : List DEntry} {y2 : Int} {v0 v1 : Value} {f1 f0 : List Pos} (h1 : Sl BIG wE v1 y1 f1) (h0 : Sl BIG wE v0 y0.list f0) (hf : Fresh w.heap.size wE (f1 ++ f0)) (hb : Below w.heap.size w wE) :
    Out_Ring_EntryS_i w y0 y1 y2 (.returned (.tuple #[.agg #[.int .i64 y0.cap, .int .i64 y0.next, .bool y0.out, v0], v1, .int .i64 y2])) wE :=
  ⟨v0, v1, f0, f1, rfl, h0, h1, hf.right.join hf.left fun p hp q hq e => (List.nodup_append.1 hf.nodup).2.2 q hq p hp e.symm, hb⟩
theorem ringPoll_no {r : DRing} {n : Int} (h : ¬ (ringOk r = true ∧ 1 ≤ n)) : ringPoll r n = (r, [], 1) := if_neg h
theorem ringPoll_out {r : DRing} {n : Int} (h : ringOk r = true ∧ 1 ≤ n) (h2 : r.out = true) : ringPoll r n = (r, [], 9) := by unfold ringPoll; rw [if_pos h, if_pos h2]
theorem ringPoll_in {r : DRing} {n : Int} (h : ringOk r = true ∧ 1 ≤ n) (h2 : r.out = false) {k : Nat} (hk : pollK r n = k) : ringPoll r n = (⟨r.cap, r.next + k, r.out, r.list.drop k⟩, r.list.take k, 0) := by
  unfold ringPoll; rw [if_pos h, if_neg (by rw [h2]; decide), hk]

set_option maxHeartbeats 8000000 in
set_option maxRecDepth 100000 in
theorem spec_RingPoll_A (r : DRing) (n : Int) (v : Value) (w : World) (h : RdS w v r.list) (hs : szL r.list ≤ 4000000) (h1 : ringOk r = false) :
    Calls Tryz.prog 88 #[.agg #[.int .i64 r.cap, .int .i64 r.next, .bool r.out, v], .int .i64 n] w (Out_Ring_EntryS_i w (ringPoll r n).1 (ringPoll r n).2.1 (ringPoll r n).2.2) := by
  have hl := fun w1 ty => h.len Tryz.underlying40 w1 ty
  have HV := Lib.hid (ringPoll_no (r := r) (n := n) fun h => by rw [h1] at h; cases h.1)
  go_enter Tryz.func88, Tryz.ntmps88
  go_wp2_with fail
  refine (spec_l10Copy_c r _ _ (h.below (((Below.refl w.heap.size w).alloc om _).alloc om _)) hs).mono ?_
  rintro e' w1 ⟨_, rfl, ho, hb1⟩
  obtain ⟨v1, rfl, ho1⟩ := inv_own_DRing ho
  obtain ⟨a1, c1, rfl⟩ := ho1.rd.isSlice
  have HO : Hid (OwnB (w.heap.size + 2) w1.heap.size w1 (.slice a1 r.list.length c1) r.list) := Lib.hid (ho1.mono (by simp)).bd
  clear ho ho1
  have s1 : w.heap.size + 2 ≤ w1.heap.size := by have := hb1.size; (try simp at this); omega
  have HBN : Hid (Below w.heap.size w w1) := Lib.hid ((((Below.refl w.heap.size w).alloc om _).alloc om _).trans (hb1.mono om))
  have HXb0 : Hid (Bx w1 (w.heap.size) [.int .i64 r.cap, .int .i64 r.next, .bool r.out, v]) := Lib.hid (((Bx.new (by first | rfl | simp | omega)).alloc _).at hb1)
  have Zb0 := HXb0.out.lt
  obtain ⟨Kb0_0, Kb0_1, Kb0_2, Kb0_3⟩ := HXb0.out.c4
  have HXb2 : Hid (Bx w1 (w.heap.size + 1) [.int .i64 0, .int .i64 0, .bool false, .slice none 0 0]) := Lib.hid ((Bx.new (by first | rfl | simp | omega)).at hb1)
  have Zb2 := HXb2.out.lt
  obtain ⟨Kb2_0, Kb2_1, Kb2_2, Kb2_3⟩ := HXb2.out.c4
  obtain ⟨Gb2_0, Gb2_1, Gb2_2, Gb2_3⟩ := HXb2.out.f4
  have HBW := HBN
  clear HBN
  clear hb1
  go_wp2_with fail
  refine (spec_RingOk_c r _ _ (h.below (HBW.out.alloc om _))).mono ?_
  rintro e' w2 ⟨rfl, hb2⟩
  rw [h1]
  have s2 : w1.heap.size + 1 ≤ w2.heap.size := by have := hb2.size; (try simp at this); omega
  have R2 : Hid (Below w1.heap.size w1 w2) := Lib.hid (((Below.refl w1.heap.size w1).alloc om _).trans (hb2.mono om))
  have HBN : Hid (Below w.heap.size w w2) := Lib.hid ((HBW.out.alloc om _).trans (hb2.mono om))
  clear HBW
  replace HO : Hid (OwnB (w.heap.size + 2) (w1.heap.size) w2 (.slice a1 r.list.length c1) (r.list)) := Lib.hid ((HO.out.alloc _).below hb2)
  replace HXb0 : Hid (Bx w2 (w.heap.size) [.int .i64 r.cap, .int .i64 r.next, .bool r.out, v]) := Lib.hid ((HXb0.out.alloc _).at hb2)
  clear Zb0 Kb0_0 Kb0_1 Kb0_2 Kb0_3
  have Zb0 := HXb0.out.lt
  obtain ⟨Kb0_0, Kb0_1, Kb0_2, Kb0_3⟩ := HXb0.out.c4
  replace HXb2 : Hid (Bx w2 (w.heap.size + 1) [.int .i64 0, .int .i64 0, .bool false, .slice none 0 0]) := Lib.hid ((HXb2.out.alloc _).at hb2)
  clear Zb2 Kb2_0 Kb2_1 Kb2_2 Kb2_3 Gb2_0 Gb2_1 Gb2_2 Gb2_3
  have Zb2 := HXb2.out.lt
  obtain ⟨Kb2_0, Kb2_1, Kb2_2, Kb2_3⟩ := HXb2.out.c4
  obtain ⟨Gb2_0, Gb2_1, Gb2_2, Gb2_3⟩ := HXb2.out.f4
  have HXb3 : Hid (Bx w2 (w1.heap.size) [.int .i64 r.cap, .int .i64 r.next, .bool r.out, .slice a1 r.list.length c1]) := Lib.hid ((Bx.new (by first | rfl | simp | omega)).at hb2)
  have Zb3 := HXb3.out.lt
  obtain ⟨Kb3_0, Kb3_1, Kb3_2, Kb3_3⟩ := HXb3.out.c4
  obtain ⟨Gb3_0, Gb3_1, Gb3_2, Gb3_3⟩ := HXb3.out.f4
  have HBW := HBN
  clear HBN
  clear hb2
  go_wp2
  rw [HV.out]
  have HB : Hid (Below w.heap.size w ((((w2.setCell ⟨w.heap.size + 1, 0, none⟩ (.int .i64 r.cap)).setCell ⟨w.heap.size + 1, 1, none⟩ (.int .i64 r.next)).setCell ⟨w.heap.size + 1, 2, none⟩ (.bool r.out)).setCell ⟨w.heap.size + 1, 3, none⟩ (.slice a1 r.list.length c1))) := Lib.hid ((((HBW.out.setCell om _).setCell om _).setCell om _).setCell om _)
  obtain ⟨f, sf, ff⟩ := ((((HO.out.setCell (b := w.heap.size + 1) (o := 0) (by omega) (.int .i64 r.cap)).setCell (b := w.heap.size + 1) (o := 1) (by omega) (.int .i64 r.next)).setCell (b := w.heap.size + 1) (o := 2) (by omega) (.bool r.out)).setCell (b := w.heap.size + 1) (o := 3) (by omega) (.slice a1 r.list.length c1)).own
  exact bodyPost_ret (v := .tuple #[.agg #[.int .i64 r.cap, .int .i64 r.next, .bool r.out, .slice a1 r.list.length c1], .slice none 0 0, .int .i64 1]) (by simp [results, Tryz.results88, go_sem, cell_setCell, *]) rfl ⟨_, _, f, [], rfl, sf, Sl.nil, by rw [List.append_nil]; exact ff.mono (by omega), HB.out⟩
set_option maxHeartbeats 8000000 in
set_option maxRecDepth 100000 in
theorem spec_RingPoll_B (r : DRing) (n : Int) (v : Value) (w : World) (h : RdS w v r.list) (hs : szL r.list ≤ 4000000) (h1 : ringOk r = true) (h2 : ¬ 1 ≤ n) :
    Calls Tryz.prog 88 #[.agg #[.int .i64 r.cap, .int .i64 r.next, .bool r.out, v], .int .i64 n] w (Out_Ring_EntryS_i w (ringPoll r n).1 (ringPoll r n).2.1 (ringPoll r n).2.2) := by
  have hl := fun w1 ty => h.len Tryz.underlying40 w1 ty
  have HV := Lib.hid (ringPoll_no (r := r) (n := n) fun h => h2 h.2)
  have h2a : n < 1 := by omega
  have h2b : decide (n < 1) = true := by simpa using h2a
  go_enter Tryz.func88, Tryz.ntmps88
  go_wp2_with fail
  refine (spec_l10Copy_c r _ _ (h.below (((Below.refl w.heap.size w).alloc om _).alloc om _)) hs).mono ?_
  rintro e' w1 ⟨_, rfl, ho, hb1⟩
  obtain ⟨v1, rfl, ho1⟩ := inv_own_DRing ho
  obtain ⟨a1, c1, rfl⟩ := ho1.rd.isSlice
  have HO : Hid (OwnB (w.heap.size + 2) w1.heap.size w1 (.slice a1 r.list.length c1) r.list) := Lib.hid (ho1.mono (by simp)).bd
  clear ho ho1
  have s1 : w.heap.size + 2 ≤ w1.heap.size := by have := hb1.size; (try simp at this); omega
  have HBN : Hid (Below w.heap.size w w1) := Lib.hid ((((Below.refl w.heap.size w).alloc om _).alloc om _).trans (hb1.mono om))
  have HXb0 : Hid (Bx w1 (w.heap.size) [.int .i64 r.cap, .int .i64 r.next, .bool r.out, v]) := Lib.hid (((Bx.new (by first | rfl | simp | omega)).alloc _).at hb1)
  have Zb0 := HXb0.out.lt
  obtain ⟨Kb0_0, Kb0_1, Kb0_2, Kb0_3⟩ := HXb0.out.c4
  have HXb2 : Hid (Bx w1 (w.heap.size + 1) [.int .i64 0, .int .i64 0, .bool false, .slice none 0 0]) := Lib.hid ((Bx.new (by first | rfl | simp | omega)).at hb1)
  have Zb2 := HXb2.out.lt
  obtain ⟨Kb2_0, Kb2_1, Kb2_2, Kb2_3⟩ := HXb2.out.c4
  obtain ⟨Gb2_0, Gb2_1, Gb2_2, Gb2_3⟩ := HXb2.out.f4
  have HBW := HBN
  clear HBN
  clear hb1
  go_wp2_with fail
  refine (spec_RingOk_c r _ _ (h.below (HBW.out.alloc om _))).mono ?_
  rintro e' w2 ⟨rfl, hb2⟩
  rw [h1]
  have s2 : w1.heap.size + 1 ≤ w2.heap.size := by have := hb2.size; (try simp at this); omega
  have R2 : Hid (Below w1.heap.size w1 w2) := Lib.hid (((Below.refl w1.heap.size w1).alloc om _).trans (hb2.mono om))
  have HBN : Hid (Below w.heap.size w w2) := Lib.hid ((HBW.out.alloc om _).trans (hb2.mono om))
  clear HBW
  replace HO : Hid (OwnB (w.heap.size + 2) (w1.heap.size) w2 (.slice a1 r.list.length c1) (r.list)) := Lib.hid ((HO.out.alloc _).below hb2)
  replace HXb0 : Hid (Bx w2 (w.heap.size) [.int .i64 r.cap, .int .i64 r.next, .bool r.out, v]) := Lib.hid ((HXb0.out.alloc _).at hb2)
  clear Zb0 Kb0_0 Kb0_1 Kb0_2 Kb0_3
  have Zb0 := HXb0.out.lt
  obtain ⟨Kb0_0, Kb0_1, Kb0_2, Kb0_3⟩ := HXb0.out.c4
  replace HXb2 : Hid (Bx w2 (w.heap.size + 1) [.int .i64 0, .int .i64 0, .bool false, .slice none 0 0]) := Lib.hid ((HXb2.out.alloc _).at hb2)
  clear Zb2 Kb2_0 Kb2_1 Kb2_2 Kb2_3 Gb2_0 Gb2_1 Gb2_2 Gb2_3
  have Zb2 := HXb2.out.lt
  obtain ⟨Kb2_0, Kb2_1, Kb2_2, Kb2_3⟩ := HXb2.out.c4
  obtain ⟨Gb2_0, Gb2_1, Gb2_2, Gb2_3⟩ := HXb2.out.f4
  have HXb3 : Hid (Bx w2 (w1.heap.size) [.int .i64 r.cap, .int .i64 r.next, .bool r.out, .slice a1 r.list.length c1]) := Lib.hid ((Bx.new (by first | rfl | simp | omega)).at hb2)
  have Zb3 := HXb3.out.lt
  obtain ⟨Kb3_0, Kb3_1, Kb3_2, Kb3_3⟩ := HXb3.out.c4
  obtain ⟨Gb3_0, Gb3_1, Gb3_2, Gb3_3⟩ := HXb3.out.f4
  have HBW := HBN
  clear HBN
  clear hb2
  go_wp2
  rw [HV.out]
  have HB : Hid (Below w.heap.size w ((((w2.setCell ⟨w.heap.size + 1, 0, none⟩ (.int .i64 r.cap)).setCell ⟨w.heap.size + 1, 1, none⟩ (.int .i64 r.next)).setCell ⟨w.heap.size + 1, 2, none⟩ (.bool r.out)).setCell ⟨w.heap.size + 1, 3, none⟩ (.slice a1 r.list.length c1))) := Lib.hid ((((HBW.out.setCell om _).setCell om _).setCell om _).setCell om _)
  obtain ⟨f, sf, ff⟩ := ((((HO.out.setCell (b := w.heap.size + 1) (o := 0) (by omega) (.int .i64 r.cap)).setCell (b := w.heap.size + 1) (o := 1) (by omega) (.int .i64 r.next)).setCell (b := w.heap.size + 1) (o := 2) (by omega) (.bool r.out)).setCell (b := w.heap.size + 1) (o := 3) (by omega) (.slice a1 r.list.length c1)).own
  exact bodyPost_ret (v := .tuple #[.agg #[.int .i64 r.cap, .int .i64 r.next, .bool r.out, .slice a1 r.list.length c1], .slice none 0 0, .int .i64 1]) (by simp [results, Tryz.results88, go_sem, cell_setCell, *]) rfl ⟨_, _, f, [], rfl, sf, Sl.nil, by rw [List.append_nil]; exact ff.mono (by omega), HB.out⟩
set_option maxHeartbeats 8000000 in
set_option maxRecDepth 100000 in
theorem spec_RingPoll_C (cap next : Int) (l : List DEntry) (n : Int) (v : Value) (w : World) (h : RdS w v l) (hs : szL l ≤ 4000000) (h1 : ringOk (⟨cap, next, true, l⟩ : DRing) = true) (h2 : 1 ≤ n) :
    Calls Tryz.prog 88 #[.agg #[.int .i64 cap, .int .i64 next, .bool true, v], .int .i64 n] w (Out_Ring_EntryS_i w (ringPoll (⟨cap, next, true, l⟩ : DRing) n).1 (ringPoll (⟨cap, next, true, l⟩ : DRing) n).2.1 (ringPoll (⟨cap, next, true, l⟩ : DRing) n).2.2) := by
  have hl := fun w1 ty => h.len Tryz.underlying40 w1 ty
  have HV := Lib.hid (ringPoll_out (r := (⟨cap, next, true, l⟩ : DRing)) ⟨h1, h2⟩ rfl)
  have h2a : ¬ n < 1 := by omega
  have h2b : decide (n < 1) = false := by simp; omega
  go_enter Tryz.func88, Tryz.ntmps88
  go_wp2_with fail
  refine (spec_l10Copy_c (⟨cap, next, true, l⟩ : DRing) _ _ (h.below (((Below.refl w.heap.size w).alloc om _).alloc om _)) hs).mono ?_
  rintro e' w1 ⟨_, rfl, ho, hb1⟩
  obtain ⟨v1, rfl, ho1⟩ := inv_own_DRing ho
  obtain ⟨a1, c1, rfl⟩ := ho1.rd.isSlice
  have HO : Hid (OwnB (w.heap.size + 2) w1.heap.size w1 (.slice a1 l.length c1) l) := Lib.hid (ho1.mono (by simp)).bd
  clear ho ho1
  have s1 : w.heap.size + 2 ≤ w1.heap.size := by have := hb1.size; (try simp at this); omega
  have HBN : Hid (Below w.heap.size w w1) := Lib.hid ((((Below.refl w.heap.size w).alloc om _).alloc om _).trans (hb1.mono om))
  have HXb0 : Hid (Bx w1 (w.heap.size) [.int .i64 cap, .int .i64 next, .bool true, v]) := Lib.hid (((Bx.new (by first | rfl | simp | omega)).alloc _).at hb1)
  have Zb0 := HXb0.out.lt
  obtain ⟨Kb0_0, Kb0_1, Kb0_2, Kb0_3⟩ := HXb0.out.c4
  have HXb2 : Hid (Bx w1 (w.heap.size + 1) [.int .i64 0, .int .i64 0, .bool false, .slice none 0 0]) := Lib.hid ((Bx.new (by first | rfl | simp | omega)).at hb1)
  have Zb2 := HXb2.out.lt
  obtain ⟨Kb2_0, Kb2_1, Kb2_2, Kb2_3⟩ := HXb2.out.c4
  obtain ⟨Gb2_0, Gb2_1, Gb2_2, Gb2_3⟩ := HXb2.out.f4
  have HBW := HBN
  clear HBN
  clear hb1
  go_wp2_with fail
  refine (spec_RingOk_c (⟨cap, next, true, l⟩ : DRing) _ _ (h.below (HBW.out.alloc om _))).mono ?_
  rintro e' w2 ⟨rfl, hb2⟩
  rw [h1]
  have s2 : w1.heap.size + 1 ≤ w2.heap.size := by have := hb2.size; (try simp at this); omega
  have R2 : Hid (Below w1.heap.size w1 w2) := Lib.hid (((Below.refl w1.heap.size w1).alloc om _).trans (hb2.mono om))
  have HBN : Hid (Below w.heap.size w w2) := Lib.hid ((HBW.out.alloc om _).trans (hb2.mono om))
  clear HBW
  replace HO : Hid (OwnB (w.heap.size + 2) (w1.heap.size) w2 (.slice a1 l.length c1) (l)) := Lib.hid ((HO.out.alloc _).below hb2)
  replace HXb0 : Hid (Bx w2 (w.heap.size) [.int .i64 cap, .int .i64 next, .bool true, v]) := Lib.hid ((HXb0.out.alloc _).at hb2)
  clear Zb0 Kb0_0 Kb0_1 Kb0_2 Kb0_3
  have Zb0 := HXb0.out.lt
  obtain ⟨Kb0_0, Kb0_1, Kb0_2, Kb0_3⟩ := HXb0.out.c4
  replace HXb2 : Hid (Bx w2 (w.heap.size + 1) [.int .i64 0, .int .i64 0, .bool false, .slice none 0 0]) := Lib.hid ((HXb2.out.alloc _).at hb2)
  clear Zb2 Kb2_0 Kb2_1 Kb2_2 Kb2_3 Gb2_0 Gb2_1 Gb2_2 Gb2_3
  have Zb2 := HXb2.out.lt
  obtain ⟨Kb2_0, Kb2_1, Kb2_2, Kb2_3⟩ := HXb2.out.c4
  obtain ⟨Gb2_0, Gb2_1, Gb2_2, Gb2_3⟩ := HXb2.out.f4
  have HXb3 : Hid (Bx w2 (w1.heap.size) [.int .i64 cap, .int .i64 next, .bool true, .slice a1 l.length c1]) := Lib.hid ((Bx.new (by first | rfl | simp | omega)).at hb2)
  have Zb3 := HXb3.out.lt
  obtain ⟨Kb3_0, Kb3_1, Kb3_2, Kb3_3⟩ := HXb3.out.c4
  obtain ⟨Gb3_0, Gb3_1, Gb3_2, Gb3_3⟩ := HXb3.out.f4
  have HBW := HBN
  clear HBN
  clear hb2
  go_wp2
  rw [HV.out]
  have HB : Hid (Below w.heap.size w ((((w2.setCell ⟨w.heap.size + 1, 0, none⟩ (.int .i64 cap)).setCell ⟨w.heap.size + 1, 1, none⟩ (.int .i64 next)).setCell ⟨w.heap.size + 1, 2, none⟩ (.bool true)).setCell ⟨w.heap.size + 1, 3, none⟩ (.slice a1 l.length c1))) := Lib.hid ((((HBW.out.setCell om _).setCell om _).setCell om _).setCell om _)
  obtain ⟨f, sf, ff⟩ := ((((HO.out.setCell (b := w.heap.size + 1) (o := 0) (by omega) (.int .i64 cap)).setCell (b := w.heap.size + 1) (o := 1) (by omega) (.int .i64 next)).setCell (b := w.heap.size + 1) (o := 2) (by omega) (.bool true)).setCell (b := w.heap.size + 1) (o := 3) (by omega) (.slice a1 l.length c1)).own
  exact bodyPost_ret (v := .tuple #[.agg #[.int .i64 cap, .int .i64 next, .bool true, .slice a1 l.length c1], .slice none 0 0, .int .i64 9]) (by simp [results, Tryz.results88, go_sem, cell_setCell, *]) rfl ⟨_, _, f, [], rfl, sf, Sl.nil, by rw [List.append_nil]; exact ff.mono (by omega), HB.out⟩
set_option maxHeartbeats 8000000 in
set_option maxRecDepth 100000 in
theorem spec_RingPoll_D (cap next : Int) (l : List DEntry) (n : Int) (v : Value) (w : World) (h : RdS w v l) (hs : szL l ≤ 4000000) (h1 : ringOk (⟨cap, next, false, l⟩ : DRing) = true) (h2 : 1 ≤ n) (h4 : n ≤ (l.length : Int)) :
    Calls Tryz.prog 88 #[.agg #[.int .i64 cap, .int .i64 next, .bool false, v], .int .i64 n] w (Out_Ring_EntryS_i w (ringPoll (⟨cap, next, false, l⟩ : DRing) n).1 (ringPoll (⟨cap, next, false, l⟩ : DRing) n).2.1 (ringPoll (⟨cap, next, false, l⟩ : DRing) n).2.2) := by
  have hl := fun w1 ty => h.len Tryz.underlying40 w1 ty
  have hnx := ringOk_next h1
  simp only at hnx
  obtain ⟨nx1, nx2, _, _⟩ := hnx
  have hl6 := ringOk_len h1
  simp only at hl6
  obtain ⟨k, rfl⟩ : ∃ k : Nat, n = k := ⟨n.toNat, by omega⟩
  have hk : k ≤ l.length := by omega
  have hk1 : 1 ≤ k := by omega
  have HV := Lib.hid (ringPoll_in (r := (⟨cap, next, false, l⟩ : DRing)) ⟨h1, h2⟩ rfl (k := k) (by simp [pollK]; omega))
  have h2a : ¬ (k : Int) < 1 := by omega
  have h2b : decide ((k : Int) < 1) = false := by simp; omega
  have h5a : ¬ (l.length : Int) < (k : Int) := by omega
  have h5b : decide ((l.length : Int) < (k : Int)) = false := by simp; omega
  have h5c : decide (l.length < k) = false := by simp; omega
  have h5d : ¬ l.length < k := by omega
  have hmin : min (k : Int) (l.length : Int) = (k : Int) := by omega
  clear h2 h4
  obtain ⟨vd, hcd, rd⟩ := h.cutl Tryz.underlying40 szi_DEntry (lo := k) hk
  obtain ⟨vt, hct, rt⟩ := h.cuth Tryz.underlying40 szi_DEntry (hi := k) hk
  have hsd := Nat.le_trans (szL_sub l k).2 hs
  have hst := Nat.le_trans (szL_sub l k).1 hs
  go_enter Tryz.func88, Tryz.ntmps88
  go_wp2_with fail
  refine (spec_l10Copy_c (⟨cap, next, false, l⟩ : DRing) _ _ (h.below (((Below.refl w.heap.size w).alloc om _).alloc om _)) hs).mono ?_
  rintro e' w1 ⟨_, rfl, ho, hb1⟩
  obtain ⟨v1, rfl, ho1⟩ := inv_own_DRing ho
  obtain ⟨a1, c1, rfl⟩ := ho1.rd.isSlice
  have HO : Hid (OwnB (w.heap.size + 2) w1.heap.size w1 (.slice a1 l.length c1) l) := Lib.hid (ho1.mono (by simp)).bd
  clear ho ho1
  have s1 : w.heap.size + 2 ≤ w1.heap.size := by have := hb1.size; (try simp at this); omega
  have HBN : Hid (Below w.heap.size w w1) := Lib.hid ((((Below.refl w.heap.size w).alloc om _).alloc om _).trans (hb1.mono om))
  have HXb0 : Hid (Bx w1 (w.heap.size) [.int .i64 cap, .int .i64 next, .bool false, v]) := Lib.hid (((Bx.new (by first | rfl | simp | omega)).alloc _).at hb1)
  have Zb0 := HXb0.out.lt
  obtain ⟨Kb0_0, Kb0_1, Kb0_2, Kb0_3⟩ := HXb0.out.c4
  have HXb2 : Hid (Bx w1 (w.heap.size + 1) [.int .i64 0, .int .i64 0, .bool false, .slice none 0 0]) := Lib.hid ((Bx.new (by first | rfl | simp | omega)).at hb1)
  have Zb2 := HXb2.out.lt
  obtain ⟨Kb2_0, Kb2_1, Kb2_2, Kb2_3⟩ := HXb2.out.c4
  obtain ⟨Gb2_0, Gb2_1, Gb2_2, Gb2_3⟩ := HXb2.out.f4
  have HBW := HBN
  clear HBN
  clear hb1
  go_wp2_with fail
  refine (spec_RingOk_c (⟨cap, next, false, l⟩ : DRing) _ _ (h.below (HBW.out.alloc om _))).mono ?_
  rintro e' w2 ⟨rfl, hb2⟩
  rw [h1]
  have s2 : w1.heap.size + 1 ≤ w2.heap.size := by have := hb2.size; (try simp at this); omega
  have R2 : Hid (Below w1.heap.size w1 w2) := Lib.hid (((Below.refl w1.heap.size w1).alloc om _).trans (hb2.mono om))
  have HBN : Hid (Below w.heap.size w w2) := Lib.hid ((HBW.out.alloc om _).trans (hb2.mono om))
  clear HBW
  replace HO : Hid (OwnB (w.heap.size + 2) (w1.heap.size) w2 (.slice a1 l.length c1) (l)) := Lib.hid ((HO.out.alloc _).below hb2)
  replace HXb0 : Hid (Bx w2 (w.heap.size) [.int .i64 cap, .int .i64 next, .bool false, v]) := Lib.hid ((HXb0.out.alloc _).at hb2)
  clear Zb0 Kb0_0 Kb0_1 Kb0_2 Kb0_3
  have Zb0 := HXb0.out.lt
  obtain ⟨Kb0_0, Kb0_1, Kb0_2, Kb0_3⟩ := HXb0.out.c4
  replace HXb2 : Hid (Bx w2 (w.heap.size + 1) [.int .i64 0, .int .i64 0, .bool false, .slice none 0 0]) := Lib.hid ((HXb2.out.alloc _).at hb2)
  clear Zb2 Kb2_0 Kb2_1 Kb2_2 Kb2_3 Gb2_0 Gb2_1 Gb2_2 Gb2_3
  have Zb2 := HXb2.out.lt
  obtain ⟨Kb2_0, Kb2_1, Kb2_2, Kb2_3⟩ := HXb2.out.c4
  obtain ⟨Gb2_0, Gb2_1, Gb2_2, Gb2_3⟩ := HXb2.out.f4
  have HXb3 : Hid (Bx w2 (w1.heap.size) [.int .i64 cap, .int .i64 next, .bool false, .slice a1 l.length c1]) := Lib.hid ((Bx.new (by first | rfl | simp | omega)).at hb2)
  have Zb3 := HXb3.out.lt
  obtain ⟨Kb3_0, Kb3_1, Kb3_2, Kb3_3⟩ := HXb3.out.c4
  obtain ⟨Gb3_0, Gb3_1, Gb3_2, Gb3_3⟩ := HXb3.out.f4
  have HBW := HBN
  clear HBN
  clear hb2
  clear HO
  go_wp2_with fail
  refine (spec_l08Entries_c _ (l.drop k) _ (rd.below HBW.out) hsd).mono ?_
  rintro e' w3 ⟨v3, rfl, ho3, hb3⟩
  obtain ⟨a3, c3, e3⟩ := ho3.rd.isSlice
  rw [show (l.drop k).length = l.length - k from by simp] at e3
  subst e3
  have H3 : Hid (OwnB w2.heap.size w3.heap.size w3 (.slice a3 (l.length - k) c3) (l.drop k)) := Lib.hid ho3.bd
  clear ho3
  have s3 : w2.heap.size ≤ w3.heap.size := by have := hb3.size; (try simp at this); omega
  have R3 : Hid (Below w2.heap.size w2 w3) := Lib.hid ((Below.refl w2.heap.size w2).trans (hb3.mono om))
  have HBN : Hid (Below w.heap.size w w3) := Lib.hid (HBW.out.trans (hb3.mono om))
  clear HBW
  replace HXb0 : Hid (Bx w3 (w.heap.size) [.int .i64 cap, .int .i64 next, .bool false, v]) := Lib.hid (HXb0.out.at hb3)
  clear Zb0 Kb0_0 Kb0_1 Kb0_2 Kb0_3
  have Zb0 := HXb0.out.lt
  obtain ⟨Kb0_0, Kb0_1, Kb0_2, Kb0_3⟩ := HXb0.out.c4
  replace HXb2 : Hid (Bx w3 (w.heap.size + 1) [.int .i64 0, .int .i64 0, .bool false, .slice none 0 0]) := Lib.hid (HXb2.out.at hb3)
  clear Zb2 Kb2_0 Kb2_1 Kb2_2 Kb2_3 Gb2_0 Gb2_1 Gb2_2 Gb2_3
  have Zb2 := HXb2.out.lt
  obtain ⟨Kb2_0, Kb2_1, Kb2_2, Kb2_3⟩ := HXb2.out.c4
  obtain ⟨Gb2_0, Gb2_1, Gb2_2, Gb2_3⟩ := HXb2.out.f4
  replace HXb3 : Hid (Bx w3 (w1.heap.size) [.int .i64 cap, .int .i64 next, .bool false, .slice a1 l.length c1]) := Lib.hid (HXb3.out.at hb3)
  clear Zb3 Kb3_0 Kb3_1 Kb3_2 Kb3_3 Gb3_0 Gb3_1 Gb3_2 Gb3_3
  have Zb3 := HXb3.out.lt
  obtain ⟨Kb3_0, Kb3_1, Kb3_2, Kb3_3⟩ := HXb3.out.c4
  obtain ⟨Gb3_0, Gb3_1, Gb3_2, Gb3_3⟩ := HXb3.out.f4
  have HBW := HBN
  clear HBN
  clear hb3
  go_wp2_with fail
  have hne0 : ¬ (w.heap.size = w1.heap.size) := by omega
  have hne1 : ¬ (w.heap.size + 1 = w1.heap.size) := by omega
  have hne2 : ¬ (w1.heap.size = w.heap.size) := by omega
  have hne3 : ¬ (w1.heap.size = w.heap.size + 1) := by omega
  obtain ⟨W, hW⟩ : ∃ W : World, W = ((w3.setCell ⟨w1.heap.size, 3, none⟩ (.slice a3 (l.length - k) c3)).setCell ⟨w1.heap.size, 1, none⟩ (.int .i64 (next + ↑k))) := ⟨_, rfl⟩
  have HBW3 : Hid (Below w.heap.size w W) := Lib.hid (by rw [hW]; exact ((HBW.out.setCell om _).setCell om _))
  have HW3 : Hid (OwnB w2.heap.size w3.heap.size W (.slice a3 (l.length - k) c3) (l.drop k)) := Lib.hid (by rw [hW]; exact ((H3.out.setCell (b := w1.heap.size) (o := 3) (by omega) (.slice a3 (l.length - k) c3)).setCell (b := w1.heap.size) (o := 1) (by omega) (.int .i64 (next + ↑k))))
  have sW : w3.heap.size ≤ W.heap.size := by rw [hW]; simp
  have Yb0_0 : W.cell? ⟨w.heap.size, 0, none⟩ = some (.int .i64 cap) := by rw [hW]; simp [cell_setCell, *]
  have Yb0_1 : W.cell? ⟨w.heap.size, 1, none⟩ = some (.int .i64 next) := by rw [hW]; simp [cell_setCell, *]
  have Yb0_2 : W.cell? ⟨w.heap.size, 2, none⟩ = some (.bool false) := by rw [hW]; simp [cell_setCell, *]
  have Yb0_3 : W.cell? ⟨w.heap.size, 3, none⟩ = some (v) := by rw [hW]; simp [cell_setCell, *]
  have YZb0 : w.heap.size < W.heap.size := by rw [hW]; simp; omega
  have Yb2_0 : W.cell? ⟨w.heap.size + 1, 0, none⟩ = some (.int .i64 0) := by rw [hW]; simp [cell_setCell, *]
  have YGb2_0 : W.frozen? ⟨w.heap.size + 1, 0, none⟩ = false := by rw [hW]; simp [*]
  have Yb2_1 : W.cell? ⟨w.heap.size + 1, 1, none⟩ = some (.int .i64 0) := by rw [hW]; simp [cell_setCell, *]
  have YGb2_1 : W.frozen? ⟨w.heap.size + 1, 1, none⟩ = false := by rw [hW]; simp [*]
  have Yb2_2 : W.cell? ⟨w.heap.size + 1, 2, none⟩ = some (.bool false) := by rw [hW]; simp [cell_setCell, *]
  have YGb2_2 : W.frozen? ⟨w.heap.size + 1, 2, none⟩ = false := by rw [hW]; simp [*]
  have Yb2_3 : W.cell? ⟨w.heap.size + 1, 3, none⟩ = some (.slice none 0 0) := by rw [hW]; simp [cell_setCell, *]
  have YGb2_3 : W.frozen? ⟨w.heap.size + 1, 3, none⟩ = false := by rw [hW]; simp [*]
  have YZb2 : w.heap.size + 1 < W.heap.size := by rw [hW]; simp; omega
  have Yb3_0 : W.cell? ⟨w1.heap.size, 0, none⟩ = some (.int .i64 cap) := by rw [hW]; simp [cell_setCell, *]
  have YGb3_0 : W.frozen? ⟨w1.heap.size, 0, none⟩ = false := by rw [hW]; simp [*]
  have Yb3_1 : W.cell? ⟨w1.heap.size, 1, none⟩ = some (.int .i64 (next + ↑k)) := by rw [hW]; simp [cell_setCell, *]
  have YGb3_1 : W.frozen? ⟨w1.heap.size, 1, none⟩ = false := by rw [hW]; simp [*]
  have Yb3_2 : W.cell? ⟨w1.heap.size, 2, none⟩ = some (.bool false) := by rw [hW]; simp [cell_setCell, *]
  have YGb3_2 : W.frozen? ⟨w1.heap.size, 2, none⟩ = false := by rw [hW]; simp [*]
  have Yb3_3 : W.cell? ⟨w1.heap.size, 3, none⟩ = some (.slice a3 (l.length - k) c3) := by rw [hW]; simp [cell_setCell, *]
  have YGb3_3 : W.frozen? ⟨w1.heap.size, 3, none⟩ = false := by rw [hW]; simp [*]
  have YZb3 : w1.heap.size < W.heap.size := by rw [hW]; simp; omega
  rw [← hW]
  clear hW Kb0_0 Kb0_1 Kb0_2 Kb0_3 Kb2_0 Kb2_1 Kb2_2 Kb2_3 Kb3_0 Kb3_1 Kb3_2 Kb3_3 Gb2_0 Gb2_1 Gb2_2 Gb2_3 Gb3_0 Gb3_1 Gb3_2 Gb3_3
  go_region_held3 (fun w' => w'.cell? ⟨w.heap.size, 3, none⟩ = some v ∧ w'.cell? ⟨w1.heap.size, 0, none⟩ = some (.int .i64 cap) ∧ w'.cell? ⟨w1.heap.size, 1, none⟩ = some (.int .i64 (next + ↑k)) ∧ w'.cell? ⟨w1.heap.size, 2, none⟩ = some (.bool false) ∧ w'.cell? ⟨w1.heap.size, 3, none⟩ = some (.slice a3 (l.length - k) c3)) (first | go_keep | (simp [cell_setCell, *]; done))
    (first | (go_at_call 143; refine (spec_l08Entries_c _ (l.take k) _ (rt.below (show Below w.heap.size w _ from by repeat' (first | exact HBW3.out | refine Below.drew ?_ | refine Below.setCell ?_ ?_ _ | omega | (simp; done) | (simp; omega)))) hst).mono ?_; rintro e' w4 ⟨v4, rfl, ho4, hb4⟩; obtain ⟨a4, c4, e4⟩ := ho4.rd.isSlice; rw [show (l.take k).length = k from (by simp; try omega)] at e4; subst e4; have s4 := hb4.size; (try simp at s4); have H4 : Hid (OwnB W.heap.size w4.heap.size w4 (.slice a4 (k) c4) (l.take k)) := Lib.hid (ho4.mono (by first | (simp; done) | (simp; omega))).bd; have Xb3_0 : w4.cell? ⟨w1.heap.size, 0, none⟩ = some (.int .i64 cap) := (by rw [hb4.cell (p := ⟨w1.heap.size, 0, none⟩) (by simp; try omega)]; simp [*]); have Xb3_1 : w4.cell? ⟨w1.heap.size, 1, none⟩ = some (.int .i64 (next + ↑k)) := (by rw [hb4.cell (p := ⟨w1.heap.size, 1, none⟩) (by simp; try omega)]; simp [*]); have Xb3_2 : w4.cell? ⟨w1.heap.size, 2, none⟩ = some (.bool false) := (by rw [hb4.cell (p := ⟨w1.heap.size, 2, none⟩) (by simp; try omega)]; simp [*]); have Xb3_3 : w4.cell? ⟨w1.heap.size, 3, none⟩ = some (.slice a3 (l.length - k) c3) := (by rw [hb4.cell (p := ⟨w1.heap.size, 3, none⟩) (by simp; try omega)]; simp [*]); have Xb0_3 : w4.cell? ⟨w.heap.size, 3, none⟩ = some v := (by rw [hb4.cell (p := ⟨w.heap.size, 3, none⟩) (by simp; try omega)]; simp [*]); have Xb2_0 : w4.cell? ⟨w.heap.size + 1, 0, none⟩ = some (.int .i64 0) := (by rw [hb4.cell (p := ⟨w.heap.size + 1, 0, none⟩) (by simp; try omega)]; simp [*]); have XGb2_0 : w4.frozen? ⟨w.heap.size + 1, 0, none⟩ = false := (by rw [hb4.frozen (p := ⟨w.heap.size + 1, 0, none⟩) (by simp; try omega)]; simp [*]); have Xb2_1 : w4.cell? ⟨w.heap.size + 1, 1, none⟩ = some (.int .i64 0) := (by rw [hb4.cell (p := ⟨w.heap.size + 1, 1, none⟩) (by simp; try omega)]; simp [*]); have XGb2_1 : w4.frozen? ⟨w.heap.size + 1, 1, none⟩ = false := (by rw [hb4.frozen (p := ⟨w.heap.size + 1, 1, none⟩) (by simp; try omega)]; simp [*]); have Xb2_2 : w4.cell? ⟨w.heap.size + 1, 2, none⟩ = some (.bool false) := (by rw [hb4.cell (p := ⟨w.heap.size + 1, 2, none⟩) (by simp; try omega)]; simp [*]); have XGb2_2 : w4.frozen? ⟨w.heap.size + 1, 2, none⟩ = false := (by rw [hb4.frozen (p := ⟨w.heap.size + 1, 2, none⟩) (by simp; try omega)]; simp [*]); have Xb2_3 : w4.cell? ⟨w.heap.size + 1, 3, none⟩ = some (.slice none 0 0) := (by rw [hb4.cell (p := ⟨w.heap.size + 1, 3, none⟩) (by simp; try omega)]; simp [*]); have XGb2_3 : w4.frozen? ⟨w.heap.size + 1, 3, none⟩ = false := (by rw [hb4.frozen (p := ⟨w.heap.size + 1, 3, none⟩) (by simp; try omega)]; simp [*]); have HW4 : Hid (OwnB w2.heap.size w3.heap.size w4 (.slice a3 (l.length - k) c3) (l.drop k)) := Lib.hid (HW3.out.drew.below hb4); have HB4 : Hid (Below w.heap.size w w4) := Lib.hid ((show Below w.heap.size w _ from by repeat' (first | exact HBW3.out | refine Below.drew ?_ | refine Below.setCell ?_ ?_ _ | omega | (simp; done) | (simp; omega))).trans (hb4.mono (by simp; try omega))); clear hb4 ho4) | (go_at_call 143; refine (spec_l08Entries_c _ (l.take k) _ (rt.below (show Below w.heap.size w _ from by repeat' (first | exact HBW3.out | refine Below.drew ?_ | refine Below.setCell ?_ ?_ _ | omega | (simp; done) | (simp; omega)))) hst).mono ?_; rintro e' w4 ⟨v4, rfl, ho4, hb4⟩; obtain ⟨a4, c4, e4⟩ := ho4.rd.isSlice; rw [show (l.take k).length = k from (by simp; try omega)] at e4; subst e4; have s4 := hb4.size; (try simp at s4); have H4 : Hid (OwnB W.heap.size w4.heap.size w4 (.slice a4 (k) c4) (l.take k)) := Lib.hid (ho4.mono (by first | (simp; done) | (simp; omega))).bd; have Xb3_0 : w4.cell? ⟨w1.heap.size, 0, none⟩ = some (.int .i64 cap) := (by rw [hb4.cell (p := ⟨w1.heap.size, 0, none⟩) (by simp; try omega)]; simp [cell_setCell, *]); have Xb3_1 : w4.cell? ⟨w1.heap.size, 1, none⟩ = some (.int .i64 (next + ↑k)) := (by rw [hb4.cell (p := ⟨w1.heap.size, 1, none⟩) (by simp; try omega)]; simp [cell_setCell, *]); have Xb3_2 : w4.cell? ⟨w1.heap.size, 2, none⟩ = some (.bool false) := (by rw [hb4.cell (p := ⟨w1.heap.size, 2, none⟩) (by simp; try omega)]; simp [cell_setCell, *]); have Xb3_3 : w4.cell? ⟨w1.heap.size, 3, none⟩ = some (.slice a3 (l.length - k) c3) := (by rw [hb4.cell (p := ⟨w1.heap.size, 3, none⟩) (by simp; try omega)]; simp [cell_setCell, *]); have Xb0_3 : w4.cell? ⟨w.heap.size, 3, none⟩ = some v := (by rw [hb4.cell (p := ⟨w.heap.size, 3, none⟩) (by simp; try omega)]; simp [cell_setCell, *]); have Xb2_0 : w4.cell? ⟨w.heap.size + 1, 0, none⟩ = some (.int .i64 cap) := (by rw [hb4.cell (p := ⟨w.heap.size + 1, 0, none⟩) (by simp; try omega)]; simp [cell_setCell, *]); have XGb2_0 : w4.frozen? ⟨w.heap.size + 1, 0, none⟩ = false := (by rw [hb4.frozen (p := ⟨w.heap.size + 1, 0, none⟩) (by simp; try omega)]; simp [*]); have Xb2_1 : w4.cell? ⟨w.heap.size + 1, 1, none⟩ = some (.int .i64 (next + ↑k)) := (by rw [hb4.cell (p := ⟨w.heap.size + 1, 1, none⟩) (by simp; try omega)]; simp [cell_setCell, *]); have XGb2_1 : w4.frozen? ⟨w.heap.size + 1, 1, none⟩ = false := (by rw [hb4.frozen (p := ⟨w.heap.size + 1, 1, none⟩) (by simp; try omega)]; simp [*]); have Xb2_2 : w4.cell? ⟨w.heap.size + 1, 2, none⟩ = some (.bool false) := (by rw [hb4.cell (p := ⟨w.heap.size + 1, 2, none⟩) (by simp; try omega)]; simp [cell_setCell, *]); have XGb2_2 : w4.frozen? ⟨w.heap.size + 1, 2, none⟩ = false := (by rw [hb4.frozen (p := ⟨w.heap.size + 1, 2, none⟩) (by simp; try omega)]; simp [*]); have Xb2_3 : w4.cell? ⟨w.heap.size + 1, 3, none⟩ = some (.slice a3 (l.length - k) c3) := (by rw [hb4.cell (p := ⟨w.heap.size + 1, 3, none⟩) (by simp; try omega)]; simp [cell_setCell, *]); have XGb2_3 : w4.frozen? ⟨w.heap.size + 1, 3, none⟩ = false := (by rw [hb4.frozen (p := ⟨w.heap.size + 1, 3, none⟩) (by simp; try omega)]; simp [*]); have HW4 : Hid (OwnB w2.heap.size w3.heap.size w4 (.slice a3 (l.length - k) c3) (l.drop k)) := Lib.hid (OwnB.below (by repeat' (first | exact HW3.out | refine OwnB.drew ?_ | refine OwnB.setCell ?_ ?_ _ | omega)) hb4); have HB4 : Hid (Below w.heap.size w w4) := Lib.hid ((show Below w.heap.size w _ from by repeat' (first | exact HBW3.out | refine Below.drew ?_ | refine Below.setCell ?_ ?_ _ | omega | (simp; done) | (simp; omega))).trans (hb4.mono (by simp; try omega))); clear hb4 ho4))
  all_goals
    go_wp2
    rw [HV.out]
    exact bodyPost_ret (v := .tuple #[.agg #[.int .i64 cap, .int .i64 (next + ↑k), .bool false, .slice a3 (l.length - k) c3], .slice a4 (k) c4, .int .i64 0]) (by simp [results, Tryz.results88, go_sem, cell_setCell, *]) rfl (out_poll (C1 := w2.heap.size) (D1 := w3.heap.size) (C2 := W.heap.size) (D2 := w4.heap.size) (y0 := ⟨cap, next + ↑k, false, (l.drop k)⟩) (by repeat' (first | exact HW4.out | refine OwnB.setCell ?_ ?_ _ | omega)) (by repeat' (first | exact H4.out | refine OwnB.setCell ?_ ?_ _ | omega)) (by omega) (by omega) (by omega) (by repeat' (first | exact HB4.out | refine Below.setCell ?_ ?_ _ | omega | (simp; done) | (simp; omega))))
set_option maxHeartbeats 8000000 in
set_option maxRecDepth 100000 in
theorem spec_RingPoll_E (cap next : Int) (l : List DEntry) (n : Int) (v : Value) (w : World) (h : RdS w v l) (hs : szL l ≤ 4000000) (h1 : ringOk (⟨cap, next, false, l⟩ : DRing) = true) (h2 : 1 ≤ n) (h4 : ¬ n ≤ (l.length : Int)) :
    Calls Tryz.prog 88 #[.agg #[.int .i64 cap, .int .i64 next, .bool false, v], .int .i64 n] w (Out_Ring_EntryS_i w (ringPoll (⟨cap, next, false, l⟩ : DRing) n).1 (ringPoll (⟨cap, next, false, l⟩ : DRing) n).2.1 (ringPoll (⟨cap, next, false, l⟩ : DRing) n).2.2) := by
  have hl := fun w1 ty => h.len Tryz.underlying40 w1 ty
  have hnx := ringOk_next h1
  simp only at hnx
  obtain ⟨nx1, nx2, _, _⟩ := hnx
  have hl6 := ringOk_len h1
  simp only at hl6
  have HV := Lib.hid (ringPoll_in (r := (⟨cap, next, false, l⟩ : DRing)) ⟨h1, h2⟩ rfl (k := l.length) (by simp [pollK]; omega))
  have hk : l.length ≤ l.length := Nat.le_refl _
  have h2a : ¬ n < 1 := by omega
  have h2b : decide (n < 1) = false := by simp; omega
  have h5a : (l.length : Int) < n := by omega
  have h5b : decide ((l.length : Int) < n) = true := by simp; omega
  have hmin : min n (l.length : Int) = (l.length : Int) := by omega
  clear h2 h4
  obtain ⟨vd, hcd, rd⟩ := h.cutl Tryz.underlying40 szi_DEntry (lo := l.length) hk
  obtain ⟨vt, hct, rt⟩ := h.cuth Tryz.underlying40 szi_DEntry (hi := l.length) hk
  have hsd := Nat.le_trans (szL_sub l l.length).2 hs
  have hst := Nat.le_trans (szL_sub l l.length).1 hs
  go_enter Tryz.func88, Tryz.ntmps88
  go_wp2_with fail
  refine (spec_l10Copy_c (⟨cap, next, false, l⟩ : DRing) _ _ (h.below (((Below.refl w.heap.size w).alloc om _).alloc om _)) hs).mono ?_
  rintro e' w1 ⟨_, rfl, ho, hb1⟩
  obtain ⟨v1, rfl, ho1⟩ := inv_own_DRing ho
  obtain ⟨a1, c1, rfl⟩ := ho1.rd.isSlice
  have HO : Hid (OwnB (w.heap.size + 2) w1.heap.size w1 (.slice a1 l.length c1) l) := Lib.hid (ho1.mono (by simp)).bd
  clear ho ho1
  have s1 : w.heap.size + 2 ≤ w1.heap.size := by have := hb1.size; (try simp at this); omega
  have HBN : Hid (Below w.heap.size w w1) := Lib.hid ((((Below.refl w.heap.size w).alloc om _).alloc om _).trans (hb1.mono om))
  have HXb0 : Hid (Bx w1 (w.heap.size) [.int .i64 cap, .int .i64 next, .bool false, v]) := Lib.hid (((Bx.new (by first | rfl | simp | omega)).alloc _).at hb1)
  have Zb0 := HXb0.out.lt
  obtain ⟨Kb0_0, Kb0_1, Kb0_2, Kb0_3⟩ := HXb0.out.c4
  have HXb2 : Hid (Bx w1 (w.heap.size + 1) [.int .i64 0, .int .i64 0, .bool false, .slice none 0 0]) := Lib.hid ((Bx.new (by first | rfl | simp | omega)).at hb1)
  have Zb2 := HXb2.out.lt
  obtain ⟨Kb2_0, Kb2_1, Kb2_2, Kb2_3⟩ := HXb2.out.c4
  obtain ⟨Gb2_0, Gb2_1, Gb2_2, Gb2_3⟩ := HXb2.out.f4
  have HBW := HBN
  clear HBN
  clear hb1
  go_wp2_with fail
  refine (spec_RingOk_c (⟨cap, next, false, l⟩ : DRing) _ _ (h.below (HBW.out.alloc om _))).mono ?_
  rintro e' w2 ⟨rfl, hb2⟩
  rw [h1]
  have s2 : w1.heap.size + 1 ≤ w2.heap.size := by have := hb2.size; (try simp at this); omega
  have R2 : Hid (Below w1.heap.size w1 w2) := Lib.hid (((Below.refl w1.heap.size w1).alloc om _).trans (hb2.mono om))
  have HBN : Hid (Below w.heap.size w w2) := Lib.hid ((HBW.out.alloc om _).trans (hb2.mono om))
  clear HBW
  replace HO : Hid (OwnB (w.heap.size + 2) (w1.heap.size) w2 (.slice a1 l.length c1) (l)) := Lib.hid ((HO.out.alloc _).below hb2)
  replace HXb0 : Hid (Bx w2 (w.heap.size) [.int .i64 cap, .int .i64 next, .bool false, v]) := Lib.hid ((HXb0.out.alloc _).at hb2)
  clear Zb0 Kb0_0 Kb0_1 Kb0_2 Kb0_3
  have Zb0 := HXb0.out.lt
  obtain ⟨Kb0_0, Kb0_1, Kb0_2, Kb0_3⟩ := HXb0.out.c4
  replace HXb2 : Hid (Bx w2 (w.heap.size + 1) [.int .i64 0, .int .i64 0, .bool false, .slice none 0 0]) := Lib.hid ((HXb2.out.alloc _).at hb2)
  clear Zb2 Kb2_0 Kb2_1 Kb2_2 Kb2_3 Gb2_0 Gb2_1 Gb2_2 Gb2_3
  have Zb2 := HXb2.out.lt
  obtain ⟨Kb2_0, Kb2_1, Kb2_2, Kb2_3⟩ := HXb2.out.c4
  obtain ⟨Gb2_0, Gb2_1, Gb2_2, Gb2_3⟩ := HXb2.out.f4
  have HXb3 : Hid (Bx w2 (w1.heap.size) [.int .i64 cap, .int .i64 next, .bool false, .slice a1 l.length c1]) := Lib.hid ((Bx.new (by first | rfl | simp | omega)).at hb2)
  have Zb3 := HXb3.out.lt
  obtain ⟨Kb3_0, Kb3_1, Kb3_2, Kb3_3⟩ := HXb3.out.c4
  obtain ⟨Gb3_0, Gb3_1, Gb3_2, Gb3_3⟩ := HXb3.out.f4
  have HBW := HBN
  clear HBN
  clear hb2
  clear HO
  go_wp2_with fail
  refine (spec_l08Entries_c _ (l.drop l.length) _ (rd.below HBW.out) hsd).mono ?_
  rintro e' w3 ⟨v3, rfl, ho3, hb3⟩
  obtain ⟨a3, c3, e3⟩ := ho3.rd.isSlice
  rw [show (l.drop l.length).length = 0 from by simp] at e3
  subst e3
  have H3 : Hid (OwnB w2.heap.size w3.heap.size w3 (.slice a3 (0) c3) (l.drop l.length)) := Lib.hid ho3.bd
  clear ho3
  have s3 : w2.heap.size ≤ w3.heap.size := by have := hb3.size; (try simp at this); omega
  have R3 : Hid (Below w2.heap.size w2 w3) := Lib.hid ((Below.refl w2.heap.size w2).trans (hb3.mono om))
  have HBN : Hid (Below w.heap.size w w3) := Lib.hid (HBW.out.trans (hb3.mono om))
  clear HBW
  replace HXb0 : Hid (Bx w3 (w.heap.size) [.int .i64 cap, .int .i64 next, .bool false, v]) := Lib.hid (HXb0.out.at hb3)
  clear Zb0 Kb0_0 Kb0_1 Kb0_2 Kb0_3
  have Zb0 := HXb0.out.lt
  obtain ⟨Kb0_0, Kb0_1, Kb0_2, Kb0_3⟩ := HXb0.out.c4
  replace HXb2 : Hid (Bx w3 (w.heap.size + 1) [.int .i64 0, .int .i64 0, .bool false, .slice none 0 0]) := Lib.hid (HXb2.out.at hb3)
  clear Zb2 Kb2_0 Kb2_1 Kb2_2 Kb2_3 Gb2_0 Gb2_1 Gb2_2 Gb2_3
  have Zb2 := HXb2.out.lt
  obtain ⟨Kb2_0, Kb2_1, Kb2_2, Kb2_3⟩ := HXb2.out.c4
  obtain ⟨Gb2_0, Gb2_1, Gb2_2, Gb2_3⟩ := HXb2.out.f4
  replace HXb3 : Hid (Bx w3 (w1.heap.size) [.int .i64 cap, .int .i64 next, .bool false, .slice a1 l.length c1]) := Lib.hid (HXb3.out.at hb3)
  clear Zb3 Kb3_0 Kb3_1 Kb3_2 Kb3_3 Gb3_0 Gb3_1 Gb3_2 Gb3_3
  have Zb3 := HXb3.out.lt
  obtain ⟨Kb3_0, Kb3_1, Kb3_2, Kb3_3⟩ := HXb3.out.c4
  obtain ⟨Gb3_0, Gb3_1, Gb3_2, Gb3_3⟩ := HXb3.out.f4
  have HBW := HBN
  clear HBN
  clear hb3
  go_wp2_with fail
  have hne0 : ¬ (w.heap.size = w1.heap.size) := by omega
  have hne1 : ¬ (w.heap.size + 1 = w1.heap.size) := by omega
  have hne2 : ¬ (w1.heap.size = w.heap.size) := by omega
  have hne3 : ¬ (w1.heap.size = w.heap.size + 1) := by omega
  obtain ⟨W, hW⟩ : ∃ W : World, W = ((w3.setCell ⟨w1.heap.size, 3, none⟩ (.slice a3 (0) c3)).setCell ⟨w1.heap.size, 1, none⟩ (.int .i64 (next + ↑l.length))) := ⟨_, rfl⟩
  have HBW3 : Hid (Below w.heap.size w W) := Lib.hid (by rw [hW]; exact ((HBW.out.setCell om _).setCell om _))
  have HW3 : Hid (OwnB w2.heap.size w3.heap.size W (.slice a3 (0) c3) (l.drop l.length)) := Lib.hid (by rw [hW]; exact ((H3.out.setCell (b := w1.heap.size) (o := 3) (by omega) (.slice a3 (0) c3)).setCell (b := w1.heap.size) (o := 1) (by omega) (.int .i64 (next + ↑l.length))))
  have sW : w3.heap.size ≤ W.heap.size := by rw [hW]; simp
  have Yb0_0 : W.cell? ⟨w.heap.size, 0, none⟩ = some (.int .i64 cap) := by rw [hW]; simp [cell_setCell, *]
  have Yb0_1 : W.cell? ⟨w.heap.size, 1, none⟩ = some (.int .i64 next) := by rw [hW]; simp [cell_setCell, *]
  have Yb0_2 : W.cell? ⟨w.heap.size, 2, none⟩ = some (.bool false) := by rw [hW]; simp [cell_setCell, *]
  have Yb0_3 : W.cell? ⟨w.heap.size, 3, none⟩ = some (v) := by rw [hW]; simp [cell_setCell, *]
  have YZb0 : w.heap.size < W.heap.size := by rw [hW]; simp; omega
  have Yb2_0 : W.cell? ⟨w.heap.size + 1, 0, none⟩ = some (.int .i64 0) := by rw [hW]; simp [cell_setCell, *]
  have YGb2_0 : W.frozen? ⟨w.heap.size + 1, 0, none⟩ = false := by rw [hW]; simp [*]
  have Yb2_1 : W.cell? ⟨w.heap.size + 1, 1, none⟩ = some (.int .i64 0) := by rw [hW]; simp [cell_setCell, *]
  have YGb2_1 : W.frozen? ⟨w.heap.size + 1, 1, none⟩ = false := by rw [hW]; simp [*]
  have Yb2_2 : W.cell? ⟨w.heap.size + 1, 2, none⟩ = some (.bool false) := by rw [hW]; simp [cell_setCell, *]
  have YGb2_2 : W.frozen? ⟨w.heap.size + 1, 2, none⟩ = false := by rw [hW]; simp [*]
  have Yb2_3 : W.cell? ⟨w.heap.size + 1, 3, none⟩ = some (.slice none 0 0) := by rw [hW]; simp [cell_setCell, *]
  have YGb2_3 : W.frozen? ⟨w.heap.size + 1, 3, none⟩ = false := by rw [hW]; simp [*]
  have YZb2 : w.heap.size + 1 < W.heap.size := by rw [hW]; simp; omega
  have Yb3_0 : W.cell? ⟨w1.heap.size, 0, none⟩ = some (.int .i64 cap) := by rw [hW]; simp [cell_setCell, *]
  have YGb3_0 : W.frozen? ⟨w1.heap.size, 0, none⟩ = false := by rw [hW]; simp [*]
  have Yb3_1 : W.cell? ⟨w1.heap.size, 1, none⟩ = some (.int .i64 (next + ↑l.length)) := by rw [hW]; simp [cell_setCell, *]
  have YGb3_1 : W.frozen? ⟨w1.heap.size, 1, none⟩ = false := by rw [hW]; simp [*]
  have Yb3_2 : W.cell? ⟨w1.heap.size, 2, none⟩ = some (.bool false) := by rw [hW]; simp [cell_setCell, *]
  have YGb3_2 : W.frozen? ⟨w1.heap.size, 2, none⟩ = false := by rw [hW]; simp [*]
  have Yb3_3 : W.cell? ⟨w1.heap.size, 3, none⟩ = some (.slice a3 (0) c3) := by rw [hW]; simp [cell_setCell, *]
  have YGb3_3 : W.frozen? ⟨w1.heap.size, 3, none⟩ = false := by rw [hW]; simp [*]
  have YZb3 : w1.heap.size < W.heap.size := by rw [hW]; simp; omega
  rw [← hW]
  clear hW Kb0_0 Kb0_1 Kb0_2 Kb0_3 Kb2_0 Kb2_1 Kb2_2 Kb2_3 Kb3_0 Kb3_1 Kb3_2 Kb3_3 Gb2_0 Gb2_1 Gb2_2 Gb2_3 Gb3_0 Gb3_1 Gb3_2 Gb3_3
  go_region_held3 (fun w' => w'.cell? ⟨w.heap.size, 3, none⟩ = some v ∧ w'.cell? ⟨w1.heap.size, 0, none⟩ = some (.int .i64 cap) ∧ w'.cell? ⟨w1.heap.size, 1, none⟩ = some (.int .i64 (next + ↑l.length)) ∧ w'.cell? ⟨w1.heap.size, 2, none⟩ = some (.bool false) ∧ w'.cell? ⟨w1.heap.size, 3, none⟩ = some (.slice a3 (0) c3)) (first | go_keep | (simp [cell_setCell, *]; done))
    (first | (go_at_call 143; refine (spec_l08Entries_c _ (l.take l.length) _ (rt.below (show Below w.heap.size w _ from by repeat' (first | exact HBW3.out | refine Below.drew ?_ | refine Below.setCell ?_ ?_ _ | omega | (simp; done) | (simp; omega)))) hst).mono ?_; rintro e' w4 ⟨v4, rfl, ho4, hb4⟩; obtain ⟨a4, c4, e4⟩ := ho4.rd.isSlice; rw [show (l.take l.length).length = l.length from (by simp; try omega)] at e4; subst e4; have s4 := hb4.size; (try simp at s4); have H4 : Hid (OwnB W.heap.size w4.heap.size w4 (.slice a4 (l.length) c4) (l.take l.length)) := Lib.hid (ho4.mono (by first | (simp; done) | (simp; omega))).bd; have Xb3_0 : w4.cell? ⟨w1.heap.size, 0, none⟩ = some (.int .i64 cap) := (by rw [hb4.cell (p := ⟨w1.heap.size, 0, none⟩) (by simp; try omega)]; simp [*]); have Xb3_1 : w4.cell? ⟨w1.heap.size, 1, none⟩ = some (.int .i64 (next + ↑l.length)) := (by rw [hb4.cell (p := ⟨w1.heap.size, 1, none⟩) (by simp; try omega)]; simp [*]); have Xb3_2 : w4.cell? ⟨w1.heap.size, 2, none⟩ = some (.bool false) := (by rw [hb4.cell (p := ⟨w1.heap.size, 2, none⟩) (by simp; try omega)]; simp [*]); have Xb3_3 : w4.cell? ⟨w1.heap.size, 3, none⟩ = some (.slice a3 (0) c3) := (by rw [hb4.cell (p := ⟨w1.heap.size, 3, none⟩) (by simp; try omega)]; simp [*]); have Xb0_3 : w4.cell? ⟨w.heap.size, 3, none⟩ = some v := (by rw [hb4.cell (p := ⟨w.heap.size, 3, none⟩) (by simp; try omega)]; simp [*]); have Xb2_0 : w4.cell? ⟨w.heap.size + 1, 0, none⟩ = some (.int .i64 0) := (by rw [hb4.cell (p := ⟨w.heap.size + 1, 0, none⟩) (by simp; try omega)]; simp [*]); have XGb2_0 : w4.frozen? ⟨w.heap.size + 1, 0, none⟩ = false := (by rw [hb4.frozen (p := ⟨w.heap.size + 1, 0, none⟩) (by simp; try omega)]; simp [*]); have Xb2_1 : w4.cell? ⟨w.heap.size + 1, 1, none⟩ = some (.int .i64 0) := (by rw [hb4.cell (p := ⟨w.heap.size + 1, 1, none⟩) (by simp; try omega)]; simp [*]); have XGb2_1 : w4.frozen? ⟨w.heap.size + 1, 1, none⟩ = false := (by rw [hb4.frozen (p := ⟨w.heap.size + 1, 1, none⟩) (by simp; try omega)]; simp [*]); have Xb2_2 : w4.cell? ⟨w.heap.size + 1, 2, none⟩ = some (.bool false) := (by rw [hb4.cell (p := ⟨w.heap.size + 1, 2, none⟩) (by simp; try omega)]; simp [*]); have XGb2_2 : w4.frozen? ⟨w.heap.size + 1, 2, none⟩ = false := (by rw [hb4.frozen (p := ⟨w.heap.size + 1, 2, none⟩) (by simp; try omega)]; simp [*]); have Xb2_3 : w4.cell? ⟨w.heap.size + 1, 3, none⟩ = some (.slice none 0 0) := (by rw [hb4.cell (p := ⟨w.heap.size + 1, 3, none⟩) (by simp; try omega)]; simp [*]); have XGb2_3 : w4.frozen? ⟨w.heap.size + 1, 3, none⟩ = false := (by rw [hb4.frozen (p := ⟨w.heap.size + 1, 3, none⟩) (by simp; try omega)]; simp [*]); have HW4 : Hid (OwnB w2.heap.size w3.heap.size w4 (.slice a3 (0) c3) (l.drop l.length)) := Lib.hid (HW3.out.drew.below hb4); have HB4 : Hid (Below w.heap.size w w4) := Lib.hid ((show Below w.heap.size w _ from by repeat' (first | exact HBW3.out | refine Below.drew ?_ | refine Below.setCell ?_ ?_ _ | omega | (simp; done) | (simp; omega))).trans (hb4.mono (by simp; try omega))); clear hb4 ho4) | (go_at_call 143; refine (spec_l08Entries_c _ (l.take l.length) _ (rt.below (show Below w.heap.size w _ from by repeat' (first | exact HBW3.out | refine Below.drew ?_ | refine Below.setCell ?_ ?_ _ | omega | (simp; done) | (simp; omega)))) hst).mono ?_; rintro e' w4 ⟨v4, rfl, ho4, hb4⟩; obtain ⟨a4, c4, e4⟩ := ho4.rd.isSlice; rw [show (l.take l.length).length = l.length from (by simp; try omega)] at e4; subst e4; have s4 := hb4.size; (try simp at s4); have H4 : Hid (OwnB W.heap.size w4.heap.size w4 (.slice a4 (l.length) c4) (l.take l.length)) := Lib.hid (ho4.mono (by first | (simp; done) | (simp; omega))).bd; have Xb3_0 : w4.cell? ⟨w1.heap.size, 0, none⟩ = some (.int .i64 cap) := (by rw [hb4.cell (p := ⟨w1.heap.size, 0, none⟩) (by simp; try omega)]; simp [cell_setCell, *]); have Xb3_1 : w4.cell? ⟨w1.heap.size, 1, none⟩ = some (.int .i64 (next + ↑l.length)) := (by rw [hb4.cell (p := ⟨w1.heap.size, 1, none⟩) (by simp; try omega)]; simp [cell_setCell, *]); have Xb3_2 : w4.cell? ⟨w1.heap.size, 2, none⟩ = some (.bool false) := (by rw [hb4.cell (p := ⟨w1.heap.size, 2, none⟩) (by simp; try omega)]; simp [cell_setCell, *]); have Xb3_3 : w4.cell? ⟨w1.heap.size, 3, none⟩ = some (.slice a3 (0) c3) := (by rw [hb4.cell (p := ⟨w1.heap.size, 3, none⟩) (by simp; try omega)]; simp [cell_setCell, *]); have Xb0_3 : w4.cell? ⟨w.heap.size, 3, none⟩ = some v := (by rw [hb4.cell (p := ⟨w.heap.size, 3, none⟩) (by simp; try omega)]; simp [cell_setCell, *]); have Xb2_0 : w4.cell? ⟨w.heap.size + 1, 0, none⟩ = some (.int .i64 cap) := (by rw [hb4.cell (p := ⟨w.heap.size + 1, 0, none⟩) (by simp; try omega)]; simp [cell_setCell, *]); have XGb2_0 : w4.frozen? ⟨w.heap.size + 1, 0, none⟩ = false := (by rw [hb4.frozen (p := ⟨w.heap.size + 1, 0, none⟩) (by simp; try omega)]; simp [*]); have Xb2_1 : w4.cell? ⟨w.heap.size + 1, 1, none⟩ = some (.int .i64 (next + ↑l.length)) := (by rw [hb4.cell (p := ⟨w.heap.size + 1, 1, none⟩) (by simp; try omega)]; simp [cell_setCell, *]); have XGb2_1 : w4.frozen? ⟨w.heap.size + 1, 1, none⟩ = false := (by rw [hb4.frozen (p := ⟨w.heap.size + 1, 1, none⟩) (by simp; try omega)]; simp [*]); have Xb2_2 : w4.cell? ⟨w.heap.size + 1, 2, none⟩ = some (.bool false) := (by rw [hb4.cell (p := ⟨w.heap.size + 1, 2, none⟩) (by simp; try omega)]; simp [cell_setCell, *]); have XGb2_2 : w4.frozen? ⟨w.heap.size + 1, 2, none⟩ = false := (by rw [hb4.frozen (p := ⟨w.heap.size + 1, 2, none⟩) (by simp; try omega)]; simp [*]); have Xb2_3 : w4.cell? ⟨w.heap.size + 1, 3, none⟩ = some (.slice a3 (0) c3) := (by rw [hb4.cell (p := ⟨w.heap.size + 1, 3, none⟩) (by simp; try omega)]; simp [cell_setCell, *]); have XGb2_3 : w4.frozen? ⟨w.heap.size + 1, 3, none⟩ = false := (by rw [hb4.frozen (p := ⟨w.heap.size + 1, 3, none⟩) (by simp; try omega)]; simp [*]); have HW4 : Hid (OwnB w2.heap.size w3.heap.size w4 (.slice a3 (0) c3) (l.drop l.length)) := Lib.hid (OwnB.below (by repeat' (first | exact HW3.out | refine OwnB.drew ?_ | refine OwnB.setCell ?_ ?_ _ | omega)) hb4); have HB4 : Hid (Below w.heap.size w w4) := Lib.hid ((show Below w.heap.size w _ from by repeat' (first | exact HBW3.out | refine Below.drew ?_ | refine Below.setCell ?_ ?_ _ | omega | (simp; done) | (simp; omega))).trans (hb4.mono (by simp; try omega))); clear hb4 ho4))
  all_goals
    go_wp2
    rw [HV.out]
    exact bodyPost_ret (v := .tuple #[.agg #[.int .i64 cap, .int .i64 (next + ↑l.length), .bool false, .slice a3 (0) c3], .slice a4 (l.length) c4, .int .i64 0]) (by simp [results, Tryz.results88, go_sem, cell_setCell, *]) rfl (out_poll (C1 := w2.heap.size) (D1 := w3.heap.size) (C2 := W.heap.size) (D2 := w4.heap.size) (y0 := ⟨cap, next + ↑l.length, false, (l.drop l.length)⟩) (by repeat' (first | exact HW4.out | refine OwnB.setCell ?_ ?_ _ | omega)) (by repeat' (first | exact H4.out | refine OwnB.setCell ?_ ?_ _ | omega)) (by omega) (by omega) (by omega) (by repeat' (first | exact HB4.out | refine Below.setCell ?_ ?_ _ | omega | (simp; done) | (simp; omega))))
set_option maxHeartbeats 8000000 in
set_option maxRecDepth 100000 in
theorem impl_RingPoll_A (r : DRing) (n : Int) (v : Value) (w : World) (h : RdS w v r.list) (hs : szL r.list ≤ 4000000) (h1 : ringOk r = false) :
    Calls Tryz.prog 90 #[.agg #[.int .i64 r.cap, .int .i64 r.next, .bool r.out, v], .int .i64 n] w (Out_Ring_EntryS_i w (ringPoll r n).1 (ringPoll r n).2.1 (ringPoll r n).2.2) := by
  have hl := fun w1 ty => h.len Tryz.underlying40 w1 ty
  have HV := Lib.hid (ringPoll_no (r := r) (n := n) fun h => by rw [h1] at h; cases h.1)
  go_enter Tryz.func90, Tryz.ntmps90
  go_wp2_with fail
  refine (impl_copyRing_c r _ _ (h.below (((Below.refl w.heap.size w).alloc om _).alloc om _)) hs).mono ?_
  rintro e' w1 ⟨_, rfl, ho, hb1⟩
  obtain ⟨v1, rfl, ho1⟩ := inv_own_DRing ho
  obtain ⟨a1, c1, rfl⟩ := ho1.rd.isSlice
  have HO : Hid (OwnB (w.heap.size + 2) w1.heap.size w1 (.slice a1 r.list.length c1) r.list) := Lib.hid (ho1.mono (by simp)).bd
  clear ho ho1
  have s1 : w.heap.size + 2 ≤ w1.heap.size := by have := hb1.size; (try simp at this); omega
  have HBN : Hid (Below w.heap.size w w1) := Lib.hid ((((Below.refl w.heap.size w).alloc om _).alloc om _).trans (hb1.mono om))
  have HXb0 : Hid (Bx w1 (w.heap.size) [.int .i64 r.cap, .int .i64 r.next, .bool r.out, v]) := Lib.hid (((Bx.new (by first | rfl | simp | omega)).alloc _).at hb1)
  have Zb0 := HXb0.out.lt
  obtain ⟨Kb0_0, Kb0_1, Kb0_2, Kb0_3⟩ := HXb0.out.c4
  have HXb2 : Hid (Bx w1 (w.heap.size + 1) [.int .i64 0, .int .i64 0, .bool false, .slice none 0 0]) := Lib.hid ((Bx.new (by first | rfl | simp | omega)).at hb1)
  have Zb2 := HXb2.out.lt
  obtain ⟨Kb2_0, Kb2_1, Kb2_2, Kb2_3⟩ := HXb2.out.c4
  obtain ⟨Gb2_0, Gb2_1, Gb2_2, Gb2_3⟩ := HXb2.out.f4
  have HBW := HBN
  clear HBN
  clear hb1
  go_wp2_with fail
  refine (impl_RingOk_c r _ _ (h.below (HBW.out.alloc om _))).mono ?_
  rintro e' w2 ⟨rfl, hb2⟩
  rw [h1]
  have s2 : w1.heap.size + 1 ≤ w2.heap.size := by have := hb2.size; (try simp at this); omega
  have R2 : Hid (Below w1.heap.size w1 w2) := Lib.hid (((Below.refl w1.heap.size w1).alloc om _).trans (hb2.mono om))
  have HBN : Hid (Below w.heap.size w w2) := Lib.hid ((HBW.out.alloc om _).trans (hb2.mono om))
  clear HBW
  replace HO : Hid (OwnB (w.heap.size + 2) (w1.heap.size) w2 (.slice a1 r.list.length c1) (r.list)) := Lib.hid ((HO.out.alloc _).below hb2)
  replace HXb0 : Hid (Bx w2 (w.heap.size) [.int .i64 r.cap, .int .i64 r.next, .bool r.out, v]) := Lib.hid ((HXb0.out.alloc _).at hb2)
  clear Zb0 Kb0_0 Kb0_1 Kb0_2 Kb0_3
  have Zb0 := HXb0.out.lt
  obtain ⟨Kb0_0, Kb0_1, Kb0_2, Kb0_3⟩ := HXb0.out.c4
  replace HXb2 : Hid (Bx w2 (w.heap.size + 1) [.int .i64 0, .int .i64 0, .bool false, .slice none 0 0]) := Lib.hid ((HXb2.out.alloc _).at hb2)
  clear Zb2 Kb2_0 Kb2_1 Kb2_2 Kb2_3 Gb2_0 Gb2_1 Gb2_2 Gb2_3
  have Zb2 := HXb2.out.lt
  obtain ⟨Kb2_0, Kb2_1, Kb2_2, Kb2_3⟩ := HXb2.out.c4
  obtain ⟨Gb2_0, Gb2_1, Gb2_2, Gb2_3⟩ := HXb2.out.f4
  have HXb3 : Hid (Bx w2 (w1.heap.size) [.int .i64 r.cap, .int .i64 r.next, .bool r.out, .slice a1 r.list.length c1]) := Lib.hid ((Bx.new (by first | rfl | simp | omega)).at hb2)
  have Zb3 := HXb3.out.lt
  obtain ⟨Kb3_0, Kb3_1, Kb3_2, Kb3_3⟩ := HXb3.out.c4
  obtain ⟨Gb3_0, Gb3_1, Gb3_2, Gb3_3⟩ := HXb3.out.f4
  have HBW := HBN
  clear HBN
  clear hb2
  go_wp2
  rw [HV.out]
  have HB : Hid (Below w.heap.size w ((((w2.setCell ⟨w.heap.size + 1, 0, none⟩ (.int .i64 r.cap)).setCell ⟨w.heap.size + 1, 1, none⟩ (.int .i64 r.next)).setCell ⟨w.heap.size + 1, 2, none⟩ (.bool r.out)).setCell ⟨w.heap.size + 1, 3, none⟩ (.slice a1 r.list.length c1))) := Lib.hid ((((HBW.out.setCell om _).setCell om _).setCell om _).setCell om _)
  obtain ⟨f, sf, ff⟩ := ((((HO.out.setCell (b := w.heap.size + 1) (o := 0) (by omega) (.int .i64 r.cap)).setCell (b := w.heap.size + 1) (o := 1) (by omega) (.int .i64 r.next)).setCell (b := w.heap.size + 1) (o := 2) (by omega) (.bool r.out)).setCell (b := w.heap.size + 1) (o := 3) (by omega) (.slice a1 r.list.length c1)).own
  exact bodyPost_ret (v := .tuple #[.agg #[.int .i64 r.cap, .int .i64 r.next, .bool r.out, .slice a1 r.list.length c1], .slice none 0 0, .int .i64 1]) (by simp [results, Tryz.results90, go_sem, cell_setCell, *]) rfl ⟨_, _, f, [], rfl, sf, Sl.nil, by rw [List.append_nil]; exact ff.mono (by omega), HB.out⟩
set_option maxHeartbeats 8000000 in
set_option maxRecDepth 100000 in
theorem impl_RingPoll_B (r : DRing) (n : Int) (v : Value) (w : World) (h : RdS w v r.list) (hs : szL r.list ≤ 4000000) (h1 : ringOk r = true) (h2 : ¬ 1 ≤ n) :
    Calls Tryz.prog 90 #[.agg #[.int .i64 r.cap, .int .i64 r.next, .bool r.out, v], .int .i64 n] w (Out_Ring_EntryS_i w (ringPoll r n).1 (ringPoll r n).2.1 (ringPoll r n).2.2) := by
  have hl := fun w1 ty => h.len Tryz.underlying40 w1 ty
  have HV := Lib.hid (ringPoll_no (r := r) (n := n) fun h => h2 h.2)
  have h2a : n < 1 := by omega
  have h2b : decide (n < 1) = true := by simpa using h2a
  go_enter Tryz.func90, Tryz.ntmps90
  go_wp2_with fail
  refine (impl_copyRing_c r _ _ (h.below (((Below.refl w.heap.size w).alloc om _).alloc om _)) hs).mono ?_
  rintro e' w1 ⟨_, rfl, ho, hb1⟩
  obtain ⟨v1, rfl, ho1⟩ := inv_own_DRing ho
  obtain ⟨a1, c1, rfl⟩ := ho1.rd.isSlice
  have HO : Hid (OwnB (w.heap.size + 2) w1.heap.size w1 (.slice a1 r.list.length c1) r.list) := Lib.hid (ho1.mono (by simp)).bd
  clear ho ho1
  have s1 : w.heap.size + 2 ≤ w1.heap.size := by have := hb1.size; (try simp at this); omega
  have HBN : Hid (Below w.heap.size w w1) := Lib.hid ((((Below.refl w.heap.size w).alloc om _).alloc om _).trans (hb1.mono om))
  have HXb0 : Hid (Bx w1 (w.heap.size) [.int .i64 r.cap, .int .i64 r.next, .bool r.out, v]) := Lib.hid (((Bx.new (by first | rfl | simp | omega)).alloc _).at hb1)
  have Zb0 := HXb0.out.lt
  obtain ⟨Kb0_0, Kb0_1, Kb0_2, Kb0_3⟩ := HXb0.out.c4
  have HXb2 : Hid (Bx w1 (w.heap.size + 1) [.int .i64 0, .int .i64 0, .bool false, .slice none 0 0]) := Lib.hid ((Bx.new (by first | rfl | simp | omega)).at hb1)
  have Zb2 := HXb2.out.lt
  obtain ⟨Kb2_0, Kb2_1, Kb2_2, Kb2_3⟩ := HXb2.out.c4
  obtain ⟨Gb2_0, Gb2_1, Gb2_2, Gb2_3⟩ := HXb2.out.f4
  have HBW := HBN
  clear HBN
  clear hb1
  go_wp2_with fail
  refine (impl_RingOk_c r _ _ (h.below (HBW.out.alloc om _))).mono ?_
  rintro e' w2 ⟨rfl, hb2⟩
  rw [h1]
  have s2 : w1.heap.size + 1 ≤ w2.heap.size := by have := hb2.size; (try simp at this); omega
  have R2 : Hid (Below w1.heap.size w1 w2) := Lib.hid (((Below.refl w1.heap.size w1).alloc om _).trans (hb2.mono om))
  have HBN : Hid (Below w.heap.size w w2) := Lib.hid ((HBW.out.alloc om _).trans (hb2.mono om))
  clear HBW
  replace HO : Hid (OwnB (w.heap.size + 2) (w1.heap.size) w2 (.slice a1 r.list.length c1) (r.list)) := Lib.hid ((HO.out.alloc _).below hb2)
  replace HXb0 : Hid (Bx w2 (w.heap.size) [.int .i64 r.cap, .int .i64 r.next, .bool r.out, v]) := Lib.hid ((HXb0.out.alloc _).at hb2)
  clear Zb0 Kb0_0 Kb0_1 Kb0_2 Kb0_3
  have Zb0 := HXb0.out.lt
  obtain ⟨Kb0_0, Kb0_1, Kb0_2, Kb0_3⟩ := HXb0.out.c4
  replace HXb2 : Hid (Bx w2 (w.heap.size + 1) [.int .i64 0, .int .i64 0, .bool false, .slice none 0 0]) := Lib.hid ((HXb2.out.alloc _).at hb2)
  clear Zb2 Kb2_0 Kb2_1 Kb2_2 Kb2_3 Gb2_0 Gb2_1 Gb2_2 Gb2_3
  have Zb2 := HXb2.out.lt
  obtain ⟨Kb2_0, Kb2_1, Kb2_2, Kb2_3⟩ := HXb2.out.c4
  obtain ⟨Gb2_0, Gb2_1, Gb2_2, Gb2_3⟩ := HXb2.out.f4
  have HXb3 : Hid (Bx w2 (w1.heap.size) [.int .i64 r.cap, .int .i64 r.next, .bool r.out, .slice a1 r.list.length c1]) := Lib.hid ((Bx.new (by first | rfl | simp | omega)).at hb2)
  have Zb3 := HXb3.out.lt
  obtain ⟨Kb3_0, Kb3_1, Kb3_2, Kb3_3⟩ := HXb3.out.c4
  obtain ⟨Gb3_0, Gb3_1, Gb3_2, Gb3_3⟩ := HXb3.out.f4
  have HBW := HBN
  clear HBN
  clear hb2
  go_wp2
  rw [HV.out]
  have HB : Hid (Below w.heap.size w ((((w2.setCell ⟨w.heap.size + 1, 0, none⟩ (.int .i64 r.cap)).setCell ⟨w.heap.size + 1, 1, none⟩ (.int .i64 r.next)).setCell ⟨w.heap.size + 1, 2, none⟩ (.bool r.out)).setCell ⟨w.heap.size + 1, 3, none⟩ (.slice a1 r.list.length c1))) := Lib.hid ((((HBW.out.setCell om _).setCell om _).setCell om _).setCell om _)
  obtain ⟨f, sf, ff⟩ := ((((HO.out.setCell (b := w.heap.size + 1) (o := 0) (by omega) (.int .i64 r.cap)).setCell (b := w.heap.size + 1) (o := 1) (by omega) (.int .i64 r.next)).setCell (b := w.heap.size + 1) (o := 2) (by omega) (.bool r.out)).setCell (b := w.heap.size + 1) (o := 3) (by omega) (.slice a1 r.list.length c1)).own
  exact bodyPost_ret (v := .tuple #[.agg #[.int .i64 r.cap, .int .i64 r.next, .bool r.out, .slice a1 r.list.length c1], .slice none 0 0, .int .i64 1]) (by simp [results, Tryz.results90, go_sem, cell_setCell, *]) rfl ⟨_, _, f, [], rfl, sf, Sl.nil, by rw [List.append_nil]; exact ff.mono (by omega), HB.out⟩
set_option maxHeartbeats 8000000 in
set_option maxRecDepth 100000 in
theorem impl_RingPoll_C (cap next : Int) (l : List DEntry) (n : Int) (v : Value) (w : World) (h : RdS w v l) (hs : szL l ≤ 4000000) (h1 : ringOk (⟨cap, next, true, l⟩ : DRing) = true) (h2 : 1 ≤ n) :
    Calls Tryz.prog 90 #[.agg #[.int .i64 cap, .int .i64 next, .bool true, v], .int .i64 n] w (Out_Ring_EntryS_i w (ringPoll (⟨cap, next, true, l⟩ : DRing) n).1 (ringPoll (⟨cap, next, true, l⟩ : DRing) n).2.1 (ringPoll (⟨cap, next, true, l⟩ : DRing) n).2.2) := by
  have hl := fun w1 ty => h.len Tryz.underlying40 w1 ty
  have HV := Lib.hid (ringPoll_out (r := (⟨cap, next, true, l⟩ : DRing)) ⟨h1, h2⟩ rfl)
  have h2a : ¬ n < 1 := by omega
  have h2b : decide (n < 1) = false := by simp; omega
  go_enter Tryz.func90, Tryz.ntmps90
  go_wp2_with fail
  refine (impl_copyRing_c (⟨cap, next, true, l⟩ : DRing) _ _ (h.below (((Below.refl w.heap.size w).alloc om _).alloc om _)) hs).mono ?_
  rintro e' w1 ⟨_, rfl, ho, hb1⟩
  obtain ⟨v1, rfl, ho1⟩ := inv_own_DRing ho
  obtain ⟨a1, c1, rfl⟩ := ho1.rd.isSlice
  have HO : Hid (OwnB (w.heap.size + 2) w1.heap.size w1 (.slice a1 l.length c1) l) := Lib.hid (ho1.mono (by simp)).bd
  clear ho ho1
  have s1 : w.heap.size + 2 ≤ w1.heap.size := by have := hb1.size; (try simp at this); omega
  have HBN : Hid (Below w.heap.size w w1) := Lib.hid ((((Below.refl w.heap.size w).alloc om _).alloc om _).trans (hb1.mono om))
  have HXb0 : Hid (Bx w1 (w.heap.size) [.int .i64 cap, .int .i64 next, .bool true, v]) := Lib.hid (((Bx.new (by first | rfl | simp | omega)).alloc _).at hb1)
  have Zb0 := HXb0.out.lt
  obtain ⟨Kb0_0, Kb0_1, Kb0_2, Kb0_3⟩ := HXb0.out.c4
  have HXb2 : Hid (Bx w1 (w.heap.size + 1) [.int .i64 0, .int .i64 0, .bool false, .slice none 0 0]) := Lib.hid ((Bx.new (by first | rfl | simp | omega)).at hb1)
  have Zb2 := HXb2.out.lt
  obtain ⟨Kb2_0, Kb2_1, Kb2_2, Kb2_3⟩ := HXb2.out.c4
  obtain ⟨Gb2_0, Gb2_1, Gb2_2, Gb2_3⟩ := HXb2.out.f4
  have HBW := HBN
  clear HBN
  clear hb1
  go_wp2_with fail
  refine (impl_RingOk_c (⟨cap, next, true, l⟩ : DRing) _ _ (h.below (HBW.out.alloc om _))).mono ?_
  rintro e' w2 ⟨rfl, hb2⟩
  rw [h1]
  have s2 : w1.heap.size + 1 ≤ w2.heap.size := by have := hb2.size; (try simp at this); omega
  have R2 : Hid (Below w1.heap.size w1 w2) := Lib.hid (((Below.refl w1.heap.size w1).alloc om _).trans (hb2.mono om))
  have HBN : Hid (Below w.heap.size w w2) := Lib.hid ((HBW.out.alloc om _).trans (hb2.mono om))
  clear HBW
  replace HO : Hid (OwnB (w.heap.size + 2) (w1.heap.size) w2 (.slice a1 l.length c1) (l)) := Lib.hid ((HO.out.alloc _).below hb2)
  replace HXb0 : Hid (Bx w2 (w.heap.size) [.int .i64 cap, .int .i64 next, .bool true, v]) := Lib.hid ((HXb0.out.alloc _).at hb2)
  clear Zb0 Kb0_0 Kb0_1 Kb0_2 Kb0_3
  have Zb0 := HXb0.out.lt
  obtain ⟨Kb0_0, Kb0_1, Kb0_2, Kb0_3⟩ := HXb0.out.c4
  replace HXb2 : Hid (Bx w2 (w.heap.size + 1) [.int .i64 0, .int .i64 0, .bool false, .slice none 0 0]) := Lib.hid ((HXb2.out.alloc _).at hb2)
  clear Zb2 Kb2_0 Kb2_1 Kb2_2 Kb2_3 Gb2_0 Gb2_1 Gb2_2 Gb2_3
  have Zb2 := HXb2.out.lt
  obtain ⟨Kb2_0, Kb2_1, Kb2_2, Kb2_3⟩ := HXb2.out.c4
  obtain ⟨Gb2_0, Gb2_1, Gb2_2, Gb2_3⟩ := HXb2.out.f4
  have HXb3 : Hid (Bx w2 (w1.heap.size) [.int .i64 cap, .int .i64 next, .bool true, .slice a1 l.length c1]) := Lib.hid ((Bx.new (by first | rfl | simp | omega)).at hb2)
  have Zb3 := HXb3.out.lt
  obtain ⟨Kb3_0, Kb3_1, Kb3_2, Kb3_3⟩ := HXb3.out.c4
  obtain ⟨Gb3_0, Gb3_1, Gb3_2, Gb3_3⟩ := HXb3.out.f4
  have HBW := HBN
  clear HBN
  clear hb2
  go_wp2
  rw [HV.out]
  have HB : Hid (Below w.heap.size w ((((w2.setCell ⟨w.heap.size + 1, 0, none⟩ (.int .i64 cap)).setCell ⟨w.heap.size + 1, 1, none⟩ (.int .i64 next)).setCell ⟨w.heap.size + 1, 2, none⟩ (.bool true)).setCell ⟨w.heap.size + 1, 3, none⟩ (.slice a1 l.length c1))) := Lib.hid ((((HBW.out.setCell om _).setCell om _).setCell om _).setCell om _)
  obtain ⟨f, sf, ff⟩ := ((((HO.out.setCell (b := w.heap.size + 1) (o := 0) (by omega) (.int .i64 cap)).setCell (b := w.heap.size + 1) (o := 1) (by omega) (.int .i64 next)).setCell (b := w.heap.size + 1) (o := 2) (by omega) (.bool true)).setCell (b := w.heap.size + 1) (o := 3) (by omega) (.slice a1 l.length c1)).own
  exact bodyPost_ret (v := .tuple #[.agg #[.int .i64 cap, .int .i64 next, .bool true, .slice a1 l.length c1], .slice none 0 0, .int .i64 9]) (by simp [results, Tryz.results90, go_sem, cell_setCell, *]) rfl ⟨_, _, f, [], rfl, sf, Sl.nil, by rw [List.append_nil]; exact ff.mono (by omega), HB.out⟩
set_option maxHeartbeats 8000000 in
set_option maxRecDepth 100000 in
theorem impl_RingPoll_D (cap next : Int) (l : List DEntry) (n : Int) (v : Value) (w : World) (h : RdS w v l) (hs : szL l ≤ 4000000) (h1 : ringOk (⟨cap, next, false, l⟩ : DRing) = true) (h2 : 1 ≤ n) (h4 : n ≤ (l.length : Int)) :
    Calls Tryz.prog 90 #[.agg #[.int .i64 cap, .int .i64 next, .bool false, v], .int .i64 n] w (Out_Ring_EntryS_i w (ringPoll (⟨cap, next, false, l⟩ : DRing) n).1 (ringPoll (⟨cap, next, false, l⟩ : DRing) n).2.1 (ringPoll (⟨cap, next, false, l⟩ : DRing) n).2.2) := by
  have hl := fun w1 ty => h.len Tryz.underlying40 w1 ty
  have hnx := ringOk_next h1
  simp only at hnx
  obtain ⟨nx1, nx2, _, _⟩ := hnx
  have hl6 := ringOk_len h1
  simp only at hl6
  obtain ⟨k, rfl⟩ : ∃ k : Nat, n = k := ⟨n.toNat, by omega⟩
  have hk : k ≤ l.length := by omega
  have hk1 : 1 ≤ k := by omega
  have HV := Lib.hid (ringPoll_in (r := (⟨cap, next, false, l⟩ : DRing)) ⟨h1, h2⟩ rfl (k := k) (by simp [pollK]; omega))
  have h2a : ¬ (k : Int) < 1 := by omega
  have h2b : decide ((k : Int) < 1) = false := by simp; omega
  have h5a : ¬ (l.length : Int) < (k : Int) := by omega
  have h5b : decide ((l.length : Int) < (k : Int)) = false := by simp; omega
  have h5c : decide (l.length < k) = false := by simp; omega
  have h5d : ¬ l.length < k := by omega
  have hmin : min (k : Int) (l.length : Int) = (k : Int) := by omega
  clear h2 h4
  go_enter Tryz.func90, Tryz.ntmps90
  go_wp2_with fail
  refine (impl_copyRing_c (⟨cap, next, false, l⟩ : DRing) _ _ (h.below (((Below.refl w.heap.size w).alloc om _).alloc om _)) hs).mono ?_
  rintro e' w1 ⟨_, rfl, ho, hb1⟩
  obtain ⟨v1, rfl, ho1⟩ := inv_own_DRing ho
  have HO : Hid (OwnB (w.heap.size + 2) w1.heap.size w1 (v1) l) := Lib.hid (ho1.mono (by simp)).bd
  have hst1 := ho1.rd.stores Tryz.prog
  obtain ⟨hst1a, hst1b⟩ := hst1
  obtain ⟨fp, sfp, ffp⟩ := ho1
  have hlen1 := fun w2 ty => sfp.len (α := DEntry) Tryz.underlying40 w2 ty
  clear ho
  have s1 : w.heap.size + 2 ≤ w1.heap.size := by have := hb1.size; (try simp at this); omega
  have HBN : Hid (Below w.heap.size w w1) := Lib.hid ((((Below.refl w.heap.size w).alloc om _).alloc om _).trans (hb1.mono om))
  have HXb0 : Hid (Bx w1 (w.heap.size) [.int .i64 cap, .int .i64 next, .bool false, v]) := Lib.hid (((Bx.new (by first | rfl | simp | omega)).alloc _).at hb1)
  have Zb0 := HXb0.out.lt
  obtain ⟨Kb0_0, Kb0_1, Kb0_2, Kb0_3⟩ := HXb0.out.c4
  have HXb2 : Hid (Bx w1 (w.heap.size + 1) [.int .i64 0, .int .i64 0, .bool false, .slice none 0 0]) := Lib.hid ((Bx.new (by first | rfl | simp | omega)).at hb1)
  have Zb2 := HXb2.out.lt
  obtain ⟨Kb2_0, Kb2_1, Kb2_2, Kb2_3⟩ := HXb2.out.c4
  obtain ⟨Gb2_0, Gb2_1, Gb2_2, Gb2_3⟩ := HXb2.out.f4
  have HBW := HBN
  clear HBN
  clear hb1
  have rA := sfp.run_hm (α := DEntry) Tryz.underlying40 szi_DEntry (hi := k) (m := k) (Nat.le_refl _) (Nat.le_trans hk sfp.cap)
  have rB := sfp.run_l (α := DEntry) Tryz.underlying40 szi_DEntry (lo := k) hk
  have HPT := Lib.hid (sfp.parts ffp.nodup hk)
  have HGE := Lib.hid (ffp.mono (B' := w.heap.size + 2) (by simp)).ge
  have HFZ := Lib.hid ffp.free
  clear sfp ffp
  obtain ⟨x, hx⟩ : ∃ x, (cutV v1 (GoT.n DEntry) 0 k k) = x := ⟨_, rfl⟩
  obtain ⟨y, hy⟩ : ∃ y, (cutV v1 (GoT.n DEntry) k l.length (capV v1)) = y := ⟨_, rfl⟩
  rw [hx] at rA
  rw [hy] at rB
  have HX := Lib.hid hx
  have HY := Lib.hid hy
  clear hx hy
  go_wp2_with fail
  refine (impl_RingOk_c (⟨cap, next, false, l⟩ : DRing) _ _ (h.below (HBW.out.alloc om _))).mono ?_
  rintro e' w2 ⟨rfl, hb2⟩
  rw [h1]
  have s2 : w1.heap.size + 1 ≤ w2.heap.size := by have := hb2.size; (try simp at this); omega
  have R2 : Hid (Below w1.heap.size w1 w2) := Lib.hid (((Below.refl w1.heap.size w1).alloc om _).trans (hb2.mono om))
  have HBN : Hid (Below w.heap.size w w2) := Lib.hid ((HBW.out.alloc om _).trans (hb2.mono om))
  clear HBW
  replace HO : Hid (OwnB (w.heap.size + 2) (w1.heap.size) w2 (v1) (l)) := Lib.hid ((HO.out.alloc _).below hb2)
  replace HXb0 : Hid (Bx w2 (w.heap.size) [.int .i64 cap, .int .i64 next, .bool false, v]) := Lib.hid ((HXb0.out.alloc _).at hb2)
  clear Zb0 Kb0_0 Kb0_1 Kb0_2 Kb0_3
  have Zb0 := HXb0.out.lt
  obtain ⟨Kb0_0, Kb0_1, Kb0_2, Kb0_3⟩ := HXb0.out.c4
  replace HXb2 : Hid (Bx w2 (w.heap.size + 1) [.int .i64 0, .int .i64 0, .bool false, .slice none 0 0]) := Lib.hid ((HXb2.out.alloc _).at hb2)
  clear Zb2 Kb2_0 Kb2_1 Kb2_2 Kb2_3 Gb2_0 Gb2_1 Gb2_2 Gb2_3
  have Zb2 := HXb2.out.lt
  obtain ⟨Kb2_0, Kb2_1, Kb2_2, Kb2_3⟩ := HXb2.out.c4
  obtain ⟨Gb2_0, Gb2_1, Gb2_2, Gb2_3⟩ := HXb2.out.f4
  have HXb3 : Hid (Bx w2 (w1.heap.size) [.int .i64 cap, .int .i64 next, .bool false, v1]) := Lib.hid ((Bx.new (by first | rfl | simp | omega)).at hb2)
  have Zb3 := HXb3.out.lt
  obtain ⟨Kb3_0, Kb3_1, Kb3_2, Kb3_3⟩ := HXb3.out.c4
  obtain ⟨Gb3_0, Gb3_1, Gb3_2, Gb3_3⟩ := HXb3.out.f4
  have HBW := HBN
  clear HBN
  clear hb2
  obtain ⟨f1, f2, q1, q2, qn, qs⟩ := HPT.out
  rw [HX.out] at q1
  rw [HY.out] at q2
  obtain ⟨ya, yc, ye⟩ := q2.isS
  rw [show (l.drop k).length = l.length - k from by simp] at ye
  subst ye
  have hne0 : ¬ (w.heap.size = w1.heap.size) := by omega
  have hne1 : ¬ (w.heap.size + 1 = w1.heap.size) := by omega
  have hne2 : ¬ (w1.heap.size = w.heap.size) := by omega
  have hne3 : ¬ (w1.heap.size = w.heap.size + 1) := by omega
  have HQ1 := Lib.hid q1
  have HQ2 := Lib.hid q2
  have HQN := Lib.hid qn
  have HQS := Lib.hid qs
  clear q1 q2 qn qs HO HPT
  go_wp2
  rw [HV.out]
  have HLT : Hid (∀ p ∈ f1 ++ f2, w.heap.size + 2 ≤ p.1 ∧ p.1 < w1.heap.size) := Lib.hid fun p hp => ⟨by have := HGE.out p (HQS.out p hp); omega, (List.mem_append.1 hp).elim (Live.lt HQ1.out.live p) (Live.lt HQ2.out.live p)⟩
  have HF : Hid (Fresh (w.heap.size + 2) w2 (f1 ++ f2)) := Lib.hid (Fresh.belowL (w := w1) ⟨HQN.out, fun p hp => (HLT.out p hp).1, fun p hp => HFZ.out p (HQS.out p hp)⟩ R2.out fun p hp => (HLT.out p hp).2)
  exact bodyPost_ret (v := .tuple #[.agg #[.int .i64 cap, .int .i64 (next + ↑k), .bool false, .slice ya (l.length - k) yc], x, .int .i64 0]) (by simp [results, Tryz.results90, go_sem, cell_setCell, *]) rfl (out_poll2 (y0 := ⟨cap, next + ↑k, false, l.drop k⟩) (((((((HQ1.out.belowW R2.out).put (b := w1.heap.size) (o := 3) (fun hm => by have := HLT.out _ (List.mem_append.2 (.inl hm)); simp only at this; omega) (.slice ya (l.length - k) yc)).put (b := w1.heap.size) (o := 1) (fun hm => by have := HLT.out _ (List.mem_append.2 (.inl hm)); simp only at this; omega) (.int .i64 (next + ↑k))).put (b := w.heap.size + 1) (o := 0) (fun hm => by have := HLT.out _ (List.mem_append.2 (.inl hm)); simp only at this; omega) (.int .i64 cap)).put (b := w.heap.size + 1) (o := 1) (fun hm => by have := HLT.out _ (List.mem_append.2 (.inl hm)); simp only at this; omega) (.int .i64 (next + ↑k))).put (b := w.heap.size + 1) (o := 2) (fun hm => by have := HLT.out _ (List.mem_append.2 (.inl hm)); simp only at this; omega) (.bool false)).put (b := w.heap.size + 1) (o := 3) (fun hm => by have := HLT.out _ (List.mem_append.2 (.inl hm)); simp only at this; omega) (.slice ya (l.length - k) yc)) (((((((HQ2.out.belowW R2.out).put (b := w1.heap.size) (o := 3) (fun hm => by have := HLT.out _ (List.mem_append.2 (.inr hm)); simp only at this; omega) (.slice ya (l.length - k) yc)).put (b := w1.heap.size) (o := 1) (fun hm => by have := HLT.out _ (List.mem_append.2 (.inr hm)); simp only at this; omega) (.int .i64 (next + ↑k))).put (b := w.heap.size + 1) (o := 0) (fun hm => by have := HLT.out _ (List.mem_append.2 (.inr hm)); simp only at this; omega) (.int .i64 cap)).put (b := w.heap.size + 1) (o := 1) (fun hm => by have := HLT.out _ (List.mem_append.2 (.inr hm)); simp only at this; omega) (.int .i64 (next + ↑k))).put (b := w.heap.size + 1) (o := 2) (fun hm => by have := HLT.out _ (List.mem_append.2 (.inr hm)); simp only at this; omega) (.bool false)).put (b := w.heap.size + 1) (o := 3) (fun hm => by have := HLT.out _ (List.mem_append.2 (.inr hm)); simp only at this; omega) (.slice ya (l.length - k) yc)) (((((((HF.out.put ⟨w1.heap.size, 3, none⟩ (.slice ya (l.length - k) yc)).put ⟨w1.heap.size, 1, none⟩ (.int .i64 (next + ↑k))).put ⟨w.heap.size + 1, 0, none⟩ (.int .i64 cap)).put ⟨w.heap.size + 1, 1, none⟩ (.int .i64 (next + ↑k))).put ⟨w.heap.size + 1, 2, none⟩ (.bool false)).put ⟨w.heap.size + 1, 3, none⟩ (.slice ya (l.length - k) yc)).mono (by omega)) ((((((HBW.out.setCell om _).setCell om _).setCell om _).setCell om _).setCell om _).setCell om _))
set_option maxHeartbeats 8000000 in
set_option maxRecDepth 100000 in
theorem impl_RingPoll_E (cap next : Int) (l : List DEntry) (n : Int) (v : Value) (w : World) (h : RdS w v l) (hs : szL l ≤ 4000000) (h1 : ringOk (⟨cap, next, false, l⟩ : DRing) = true) (h2 : 1 ≤ n) (h4 : ¬ n ≤ (l.length : Int)) :
    Calls Tryz.prog 90 #[.agg #[.int .i64 cap, .int .i64 next, .bool false, v], .int .i64 n] w (Out_Ring_EntryS_i w (ringPoll (⟨cap, next, false, l⟩ : DRing) n).1 (ringPoll (⟨cap, next, false, l⟩ : DRing) n).2.1 (ringPoll (⟨cap, next, false, l⟩ : DRing) n).2.2) := by
  have hl := fun w1 ty => h.len Tryz.underlying40 w1 ty
  have hnx := ringOk_next h1
  simp only at hnx
  obtain ⟨nx1, nx2, _, _⟩ := hnx
  have hl6 := ringOk_len h1
  simp only at hl6
  have HV := Lib.hid (ringPoll_in (r := (⟨cap, next, false, l⟩ : DRing)) ⟨h1, h2⟩ rfl (k := l.length) (by simp [pollK]; omega))
  have hk : l.length ≤ l.length := Nat.le_refl _
  have h2a : ¬ n < 1 := by omega
  have h2b : decide (n < 1) = false := by simp; omega
  have h5a : (l.length : Int) < n := by omega
  have h5b : decide ((l.length : Int) < n) = true := by simp; omega
  have hmin : min n (l.length : Int) = (l.length : Int) := by omega
  clear h2 h4
  go_enter Tryz.func90, Tryz.ntmps90
  go_wp2_with fail
  refine (impl_copyRing_c (⟨cap, next, false, l⟩ : DRing) _ _ (h.below (((Below.refl w.heap.size w).alloc om _).alloc om _)) hs).mono ?_
  rintro e' w1 ⟨_, rfl, ho, hb1⟩
  obtain ⟨v1, rfl, ho1⟩ := inv_own_DRing ho
  have HO : Hid (OwnB (w.heap.size + 2) w1.heap.size w1 (v1) l) := Lib.hid (ho1.mono (by simp)).bd
  have hst1 := ho1.rd.stores Tryz.prog
  obtain ⟨hst1a, hst1b⟩ := hst1
  obtain ⟨fp, sfp, ffp⟩ := ho1
  have hlen1 := fun w2 ty => sfp.len (α := DEntry) Tryz.underlying40 w2 ty
  clear ho
  have s1 : w.heap.size + 2 ≤ w1.heap.size := by have := hb1.size; (try simp at this); omega
  have HBN : Hid (Below w.heap.size w w1) := Lib.hid ((((Below.refl w.heap.size w).alloc om _).alloc om _).trans (hb1.mono om))
  have HXb0 : Hid (Bx w1 (w.heap.size) [.int .i64 cap, .int .i64 next, .bool false, v]) := Lib.hid (((Bx.new (by first | rfl | simp | omega)).alloc _).at hb1)
  have Zb0 := HXb0.out.lt
  obtain ⟨Kb0_0, Kb0_1, Kb0_2, Kb0_3⟩ := HXb0.out.c4
  have HXb2 : Hid (Bx w1 (w.heap.size + 1) [.int .i64 0, .int .i64 0, .bool false, .slice none 0 0]) := Lib.hid ((Bx.new (by first | rfl | simp | omega)).at hb1)
  have Zb2 := HXb2.out.lt
  obtain ⟨Kb2_0, Kb2_1, Kb2_2, Kb2_3⟩ := HXb2.out.c4
  obtain ⟨Gb2_0, Gb2_1, Gb2_2, Gb2_3⟩ := HXb2.out.f4
  have HBW := HBN
  clear HBN
  clear hb1
  have rA := sfp.run_hm (α := DEntry) Tryz.underlying40 szi_DEntry (hi := l.length) (m := l.length) (Nat.le_refl _) (Nat.le_trans hk sfp.cap)
  have rB := sfp.run_l (α := DEntry) Tryz.underlying40 szi_DEntry (lo := l.length) hk
  have HPT := Lib.hid (sfp.parts ffp.nodup hk)
  have HGE := Lib.hid (ffp.mono (B' := w.heap.size + 2) (by simp)).ge
  have HFZ := Lib.hid ffp.free
  clear sfp ffp
  obtain ⟨x, hx⟩ : ∃ x, (cutV v1 (GoT.n DEntry) 0 l.length l.length) = x := ⟨_, rfl⟩
  obtain ⟨y, hy⟩ : ∃ y, (cutV v1 (GoT.n DEntry) l.length l.length (capV v1)) = y := ⟨_, rfl⟩
  rw [hx] at rA
  rw [hy] at rB
  have HX := Lib.hid hx
  have HY := Lib.hid hy
  clear hx hy
  go_wp2_with fail
  refine (impl_RingOk_c (⟨cap, next, false, l⟩ : DRing) _ _ (h.below (HBW.out.alloc om _))).mono ?_
  rintro e' w2 ⟨rfl, hb2⟩
  rw [h1]
  have s2 : w1.heap.size + 1 ≤ w2.heap.size := by have := hb2.size; (try simp at this); omega
  have R2 : Hid (Below w1.heap.size w1 w2) := Lib.hid (((Below.refl w1.heap.size w1).alloc om _).trans (hb2.mono om))
  have HBN : Hid (Below w.heap.size w w2) := Lib.hid ((HBW.out.alloc om _).trans (hb2.mono om))
  clear HBW
  replace HO : Hid (OwnB (w.heap.size + 2) (w1.heap.size) w2 (v1) (l)) := Lib.hid ((HO.out.alloc _).below hb2)
  replace HXb0 : Hid (Bx w2 (w.heap.size) [.int .i64 cap, .int .i64 next, .bool false, v]) := Lib.hid ((HXb0.out.alloc _).at hb2)
  clear Zb0 Kb0_0 Kb0_1 Kb0_2 Kb0_3
  have Zb0 := HXb0.out.lt
  obtain ⟨Kb0_0, Kb0_1, Kb0_2, Kb0_3⟩ := HXb0.out.c4
  replace HXb2 : Hid (Bx w2 (w.heap.size + 1) [.int .i64 0, .int .i64 0, .bool false, .slice none 0 0]) := Lib.hid ((HXb2.out.alloc _).at hb2)
  clear Zb2 Kb2_0 Kb2_1 Kb2_2 Kb2_3 Gb2_0 Gb2_1 Gb2_2 Gb2_3
  have Zb2 := HXb2.out.lt
  obtain ⟨Kb2_0, Kb2_1, Kb2_2, Kb2_3⟩ := HXb2.out.c4
  obtain ⟨Gb2_0, Gb2_1, Gb2_2, Gb2_3⟩ := HXb2.out.f4
  have HXb3 : Hid (Bx w2 (w1.heap.size) [.int .i64 cap, .int .i64 next, .bool false, v1]) := Lib.hid ((Bx.new (by first | rfl | simp | omega)).at hb2)
  have Zb3 := HXb3.out.lt
  obtain ⟨Kb3_0, Kb3_1, Kb3_2, Kb3_3⟩ := HXb3.out.c4
  obtain ⟨Gb3_0, Gb3_1, Gb3_2, Gb3_3⟩ := HXb3.out.f4
  have HBW := HBN
  clear HBN
  clear hb2
  obtain ⟨f1, f2, q1, q2, qn, qs⟩ := HPT.out
  rw [HX.out] at q1
  rw [HY.out] at q2
  obtain ⟨ya, yc, ye⟩ := q2.isS
  rw [show (l.drop l.length).length = 0 from by simp] at ye
  subst ye
  have hne0 : ¬ (w.heap.size = w1.heap.size) := by omega
  have hne1 : ¬ (w.heap.size + 1 = w1.heap.size) := by omega
  have hne2 : ¬ (w1.heap.size = w.heap.size) := by omega
  have hne3 : ¬ (w1.heap.size = w.heap.size + 1) := by omega
  have HQ1 := Lib.hid q1
  have HQ2 := Lib.hid q2
  have HQN := Lib.hid qn
  have HQS := Lib.hid qs
  clear q1 q2 qn qs HO HPT
  go_wp2
  rw [HV.out]
  have HLT : Hid (∀ p ∈ f1 ++ f2, w.heap.size + 2 ≤ p.1 ∧ p.1 < w1.heap.size) := Lib.hid fun p hp => ⟨by have := HGE.out p (HQS.out p hp); omega, (List.mem_append.1 hp).elim (Live.lt HQ1.out.live p) (Live.lt HQ2.out.live p)⟩
  have HF : Hid (Fresh (w.heap.size + 2) w2 (f1 ++ f2)) := Lib.hid (Fresh.belowL (w := w1) ⟨HQN.out, fun p hp => (HLT.out p hp).1, fun p hp => HFZ.out p (HQS.out p hp)⟩ R2.out fun p hp => (HLT.out p hp).2)
  exact bodyPost_ret (v := .tuple #[.agg #[.int .i64 cap, .int .i64 (next + ↑l.length), .bool false, .slice ya (0) yc], x, .int .i64 0]) (by simp [results, Tryz.results90, go_sem, cell_setCell, *]) rfl (out_poll2 (y0 := ⟨cap, next + ↑l.length, false, l.drop l.length⟩) (((((((HQ1.out.belowW R2.out).put (b := w1.heap.size) (o := 3) (fun hm => by have := HLT.out _ (List.mem_append.2 (.inl hm)); simp only at this; omega) (.slice ya (0) yc)).put (b := w1.heap.size) (o := 1) (fun hm => by have := HLT.out _ (List.mem_append.2 (.inl hm)); simp only at this; omega) (.int .i64 (next + ↑l.length))).put (b := w.heap.size + 1) (o := 0) (fun hm => by have := HLT.out _ (List.mem_append.2 (.inl hm)); simp only at this; omega) (.int .i64 cap)).put (b := w.heap.size + 1) (o := 1) (fun hm => by have := HLT.out _ (List.mem_append.2 (.inl hm)); simp only at this; omega) (.int .i64 (next + ↑l.length))).put (b := w.heap.size + 1) (o := 2) (fun hm => by have := HLT.out _ (List.mem_append.2 (.inl hm)); simp only at this; omega) (.bool false)).put (b := w.heap.size + 1) (o := 3) (fun hm => by have := HLT.out _ (List.mem_append.2 (.inl hm)); simp only at this; omega) (.slice ya (0) yc)) (((((((HQ2.out.belowW R2.out).put (b := w1.heap.size) (o := 3) (fun hm => by have := HLT.out _ (List.mem_append.2 (.inr hm)); simp only at this; omega) (.slice ya (0) yc)).put (b := w1.heap.size) (o := 1) (fun hm => by have := HLT.out _ (List.mem_append.2 (.inr hm)); simp only at this; omega) (.int .i64 (next + ↑l.length))).put (b := w.heap.size + 1) (o := 0) (fun hm => by have := HLT.out _ (List.mem_append.2 (.inr hm)); simp only at this; omega) (.int .i64 cap)).put (b := w.heap.size + 1) (o := 1) (fun hm => by have := HLT.out _ (List.mem_append.2 (.inr hm)); simp only at this; omega) (.int .i64 (next + ↑l.length))).put (b := w.heap.size + 1) (o := 2) (fun hm => by have := HLT.out _ (List.mem_append.2 (.inr hm)); simp only at this; omega) (.bool false)).put (b := w.heap.size + 1) (o := 3) (fun hm => by have := HLT.out _ (List.mem_append.2 (.inr hm)); simp only at this; omega) (.slice ya (0) yc)) (((((((HF.out.put ⟨w1.heap.size, 3, none⟩ (.slice ya (0) yc)).put ⟨w1.heap.size, 1, none⟩ (.int .i64 (next + ↑l.length))).put ⟨w.heap.size + 1, 0, none⟩ (.int .i64 cap)).put ⟨w.heap.size + 1, 1, none⟩ (.int .i64 (next + ↑l.length))).put ⟨w.heap.size + 1, 2, none⟩ (.bool false)).put ⟨w.heap.size + 1, 3, none⟩ (.slice ya (0) yc)).mono (by omega)) ((((((HBW.out.setCell om _).setCell om _).setCell om _).setCell om _).setCell om _).setCell om _))
theorem ringPoll_cnt (r : DRing) (n : Int) : cntL (ringPoll r n).1.list + cntL (ringPoll r n).2.1 ≤ 10 * szL r.list := by
  have h := cntL_le r.list
  unfold ringPoll
  split
  · split
    · simp [cntL]; omega
    · have h2 := cntL_sub r.list (pollK r n)
      simp only
      omega
  · simp [cntL]; omega
theorem spec_RingPoll_c (r : DRing) (n : Int) (v : Value) (w : World) (h : RdS w v r.list) (hs : szL r.list ≤ 4000000) :
    Calls Tryz.prog 88 #[.agg #[.int .i64 r.cap, .int .i64 r.next, .bool r.out, v], .int .i64 n] w (Out_Ring_EntryS_i w (ringPoll r n).1 (ringPoll r n).2.1 (ringPoll r n).2.2) := by
  by_cases h1 : ringOk r = true
  · by_cases h2 : 1 ≤ n
    · obtain ⟨cap, next, out, l⟩ := r
      cases out with
      | true => exact spec_RingPoll_C cap next l n v w h hs h1 h2
      | false =>
        by_cases h4 : n ≤ (l.length : Int)
        · exact spec_RingPoll_D cap next l n v w h hs h1 h2 h4
        · exact spec_RingPoll_E cap next l n v w h hs h1 h2 h4
    · exact spec_RingPoll_B r n v w h hs h1 h2
  · exact spec_RingPoll_A r n v w h hs (by simpa using h1)
theorem impl_RingPoll_c (r : DRing) (n : Int) (v : Value) (w : World) (h : RdS w v r.list) (hs : szL r.list ≤ 4000000) :
    Calls Tryz.prog 90 #[.agg #[.int .i64 r.cap, .int .i64 r.next, .bool r.out, v], .int .i64 n] w (Out_Ring_EntryS_i w (ringPoll r n).1 (ringPoll r n).2.1 (ringPoll r n).2.2) := by
  by_cases h1 : ringOk r = true
  · by_cases h2 : 1 ≤ n
    · obtain ⟨cap, next, out, l⟩ := r
      cases out with
      | true => exact impl_RingPoll_C cap next l n v w h hs h1 h2
      | false =>
        by_cases h4 : n ≤ (l.length : Int)
        · exact impl_RingPoll_D cap next l n v w h hs h1 h2 h4
        · exact impl_RingPoll_E cap next l n v w h hs h1 h2 h4
    · exact impl_RingPoll_B r n v w h hs h1 h2
  · exact impl_RingPoll_A r n v w h hs (by simpa using h1)
end Go.Proofs.YtddohcdkmhaheaaGreat
