/- Polling a ring. -/
import Derived.Test.YtfkaabpaolelgaaRps
import Derived.Test.YtfkaabpaolelgaaRo
import Derived.Deep.RegionHeld3
namespace Go.Proofs.Ytfkaabpaolelgaa
open Go.RowKit
def pollK (r : DRing) (n : Int) : Nat := min n.toNat r.list.length
def ringPoll (r : DRing) (n : Int) : DRing × List DEntry × Int :=
  if ringOk r = true ∧ 1 ≤ n then (if r.out = true then (r, [], 9) else (⟨r.cap, r.next + pollK r n, r.out, r.list.drop (pollK r n)⟩, r.list.take (pollK r n), 0)) else (r, [], 1)
theorem cntL_sub {α : Type} [GoT α] [GoM α] [GoS α] [GoMS α] (l : List α) (k : Nat) : cntL (l.take k) ≤ 5 * szL l ∧ cntL (l.drop k) ≤ 5 * szL l := by
  have h1 := cntL_le (l.take k)
  have h2 := cntL_le (l.drop k)
  have h3 := szL_sub l k
  omega
theorem out_poll {w wE : World} {y0 : DRing} {y1 : List DEntry} {y2 : Int} {v0 v1 : Value} {C1 D1 C2 D2 : Nat} (h0 : OwnB C1 D1 wE v0 y0.list) (h1 : OwnB C2 D2 wE v1 y1) (hd : D1 ≤ C2) (hC : w.heap.size ≤ C1) (hC2 : w.heap.size ≤ C2) (hb : Below w.heap.size w wE) :
    Out_Ring_EntryS_i w y0 y1 y2 (.returned (.tuple #[.agg #[.int .i64 y0.cap, .int .i64 y0.next, .bool y0.out, v0], v1, .int .i64 y2])) wE := by
  obtain ⟨f0, s0, k0, d0⟩ := h0
  obtain ⟨f1, s1, k1, _⟩ := h1
  refine ⟨v0, v1, f0, f1, rfl, s0, s1, (k0.mono hC).join (k1.mono hC2) fun p hp q hq e => ?_, hb⟩
  subst e
  have := d0 _ hp; have := k1.ge _ hq; omega
theorem out_poll2 {w wE : World} {y0 : DRing} {y1 : List DEntry} {y2 : Int} {v0 v1 : Value} {f1 f0 : List Pos} (h1 : Sl BIG wE v1 y1 f1) (h0 : Sl BIG wE v0 y0.list f0) (hf : Fresh w.heap.size wE (f1 ++ f0)) (hb : Below w.heap.size w wE) :
    Out_Ring_EntryS_i w y0 y1 y2 (.returned (.tuple #[.agg #[.int .i64 y0.cap, .int .i64 y0.next, .bool y0.out, v0], v1, .int .i64 y2])) wE :=
  ⟨v0, v1, f0, f1, rfl, h0, h1, hf.right.join hf.left fun p hp q hq e => (List.nodup_append.1 hf.nodup).2.2 q hq p hp e.symm, hb⟩
theorem ringPoll_no {r : DRing} {n : Int} (h : ¬ (ringOk r = true ∧ 1 ≤ n)) : ringPoll r n = (r, [], 1) := if_neg h
theorem ringPoll_out {r : DRing} {n : Int} (h : ringOk r = true ∧ 1 ≤ n) (h2 : r.out = true) : ringPoll r n = (r, [], 9) := by unfold ringPoll; rw [if_pos h, if_pos h2]
theorem ringPoll_in {r : DRing} {n : Int} (h : ringOk r = true ∧ 1 ≤ n) (h2 : r.out = false) {k : Nat} (hk : pollK r n = k) : ringPoll r n = (⟨r.cap, r.next + k, r.out, r.list.drop k⟩, r.list.take k, 0) := by
  unfold ringPoll; rw [if_pos h, if_neg (by rw [h2]; decide), hk]

set_option maxHeartbeats 8000000 in
set_option maxRecDepth 100000 in
theorem impl_RingPoll_A (r : DRing) (n : Int) (v : Value) (w : World) (h : RdS w v r.list) (hs : szL r.list ≤ 4000000) (h1 : ringOk r = false) :
    Calls Try.prog 10 #[.agg #[.int .i64 r.cap, .int .i64 r.next, .bool r.out, v], .int .i64 n] w (Out_Ring_EntryS_i w (ringPoll r n).1 (ringPoll r n).2.1 (ringPoll r n).2.2) := by
  have hl := fun w1 ty => h.len Try.underlying23 w1 ty
  have HV := Lib.hid (ringPoll_no (r := r) (n := n) fun h => by rw [h1] at h; cases h.1)
  go_enter Try.func10, Try.ntmps10
  go_wp2_with fail
  refine (impl_copyRing_c r _ _ (h.below (((Below.refl w.heap.size w).alloc om _).alloc om _)) hs).mono ?_
  rintro e' w1 ⟨_, rfl, ho, hb1⟩
  obtain ⟨v1, rfl, ho1⟩ := inv_own_DRing ho
  obtain ⟨a1, c1, rfl⟩ := ho1.rd.isSlice
  have HO : Hid (OwnB (w.heap.size + 2) w1.heap.size w1 (.slice a1 r.list.length c1) r.list) := Lib.hid (ho1.mono (by simp)).bd
  clear ho ho1
  have s1 : w.heap.size + 2 ≤ w1.heap.size := by have := hb1.size; (try simp at this); omega
  have HBN : Hid (Below w.heap.size w w1) := Lib.hid ((((Below.refl w.heap.size w).alloc om _).alloc om _).trans (hb1.mono om))
  have HXb0 : Hid (Bx w1 (w.heap.size) [.int .i64 r.cap, .int .i64 r.next, .bool r.out, v]) := Lib.hid (((Bx.new (by first | rfl | simp | omega)).alloc _).at hb1)
  have Zb0 := HXb0.out.lt
  obtain ⟨Kb0_0, Kb0_1, Kb0_2, Kb0_3⟩ := HXb0.out.c4
  have HXb2 : Hid (Bx w1 (w.heap.size + 1) [.int .i64 0, .int .i64 0, .bool false, .slice none 0 0]) := Lib.hid ((Bx.new (by first | rfl | simp | omega)).at hb1)
  have Zb2 := HXb2.out.lt
  obtain ⟨Kb2_0, Kb2_1, Kb2_2, Kb2_3⟩ := HXb2.out.c4
  obtain ⟨Gb2_0, Gb2_1, Gb2_2, Gb2_3⟩ := HXb2.out.f4
  have HBW := HBN
  clear HBN
  clear hb1
  go_wp2_with fail
  refine (impl_RingOk_c r _ _ (h.below (HBW.out.alloc om _))).mono ?_
  rintro e' w2 ⟨rfl, hb2⟩
  rw [h1]
  have s2 : w1.heap.size + 1 ≤ w2.heap.size := by have := hb2.size; (try simp at this); omega
  have R2 : Hid (Below w1.heap.size w1 w2) := Lib.hid (((Below.refl w1.heap.size w1).alloc om _).trans (hb2.mono om))
  have HBN : Hid (Below w.heap.size w w2) := Lib.hid ((HBW.out.alloc om _).trans (hb2.mono om))
  clear HBW
  replace HO : Hid (OwnB (w.heap.size + 2) (w1.heap.size) w2 (.slice a1 r.list.length c1) (r.list)) := Lib.hid ((HO.out.alloc _).below hb2)
  replace HXb0 : Hid (Bx w2 (w.heap.size) [.int .i64 r.cap, .int .i64 r.next, .bool r.out, v]) := Lib.hid ((HXb0.out.alloc _).at hb2)
  clear Zb0 Kb0_0 Kb0_1 Kb0_2 Kb0_3
  have Zb0 := HXb0.out.lt
  obtain ⟨Kb0_0, Kb0_1, Kb0_2, Kb0_3⟩ := HXb0.out.c4
  replace HXb2 : Hid (Bx w2 (w.heap.size + 1) [.int .i64 0, .int .i64 0, .bool false, .slice none 0 0]) := Lib.hid ((HXb2.out.alloc _).at hb2)
  clear Zb2 Kb2_0 Kb2_1 Kb2_2 Kb2_3 Gb2_0 Gb2_1 Gb2_2 Gb2_3
  have Zb2 := HXb2.out.lt
  obtain ⟨Kb2_0, Kb2_1, Kb2_2, Kb2_3⟩ := HXb2.out.c4
  obtain ⟨Gb2_0, Gb2_1, Gb2_2, Gb2_3⟩ := HXb2.out.f4
  have HXb3 : Hid (Bx w2 (w1.heap.size) [.int .i64 r.cap, .int .i64 r.next, .bool r.out, .slice a1 r.list.length c1]) := Lib.hid ((Bx.new (by first | rfl | simp | omega)).at hb2)
  have Zb3 := HXb3.out.lt
  obtain ⟨Kb3_0, Kb3_1, Kb3_2, Kb3_3⟩ := HXb3.out.c4
  obtain ⟨Gb3_0, Gb3_1, Gb3_2, Gb3_3⟩ := HXb3.out.f4
  have HBW := HBN
  clear HBN
  clear hb2
  go_wp2
  rw [HV.out]
  have HB : Hid (Below w.heap.size w ((((w2.setCell ⟨w.heap.size + 1, 0, none⟩ (.int .i64 r.cap)).setCell ⟨w.heap.size + 1, 1, none⟩ (.int .i64 r.next)).setCell ⟨w.heap.size + 1, 2, none⟩ (.bool r.out)).setCell ⟨w.heap.size + 1, 3, none⟩ (.slice a1 r.list.length c1))) := Lib.hid ((((HBW.out.setCell om _).setCell om _).setCell om _).setCell om _)
  obtain ⟨f, sf, ff⟩ := ((((HO.out.setCell (b := w.heap.size + 1) (o := 0) (by omega) (.int .i64 r.cap)).setCell (b := w.heap.size + 1) (o := 1) (by omega) (.int .i64 r.next)).setCell (b := w.heap.size + 1) (o := 2) (by omega) (.bool r.out)).setCell (b := w.heap.size + 1) (o := 3) (by omega) (.slice a1 r.list.length c1)).own
  exact bodyPost_ret (v := .tuple #[.agg #[.int .i64 r.cap, .int .i64 r.next, .bool r.out, .slice a1 r.list.length c1], .slice none 0 0, .int .i64 1]) (by simp [results, Try.results10, go_sem, cell_setCell, *]) rfl ⟨_, _, f, [], rfl, sf, Sl.nil, by rw [List.append_nil]; exact ff.mono (by omega), HB.out⟩
set_option maxHeartbeats 8000000 in
set_option maxRecDepth 100000 in
theorem impl_RingPoll_B (r : DRing) (n : Int) (v : Value) (w : World) (h : RdS w v r.list) (hs : szL r.list ≤ 4000000) (h1 : ringOk r = true) (h2 : ¬ 1 ≤ n) :
    Calls Try.prog 10 #[.agg #[.int .i64 r.cap, .int .i64 r.next, .bool r.out, v], .int .i64 n] w (Out_Ring_EntryS_i w (ringPoll r n).1 (ringPoll r n).2.1 (ringPoll r n).2.2) := by
  have hl := fun w1 ty => h.len Try.underlying23 w1 ty
  have HV := Lib.hid (ringPoll_no (r := r) (n := n) fun h => h2 h.2)
  have h2a : n < 1 := by omega
  have h2b : decide (n < 1) = true := by simpa using h2a
  go_enter Try.func10, Try.ntmps10
  go_wp2_with fail
  refine (impl_copyRing_c r _ _ (h.below (((Below.refl w.heap.size w).alloc om _).alloc om _)) hs).mono ?_
  rintro e' w1 ⟨_, rfl, ho, hb1⟩
  obtain ⟨v1, rfl, ho1⟩ := inv_own_DRing ho
  obtain ⟨a1, c1, rfl⟩ := ho1.rd.isSlice
  have HO : Hid (OwnB (w.heap.size + 2) w1.heap.size w1 (.slice a1 r.list.length c1) r.list) := Lib.hid (ho1.mono (by simp)).bd
  clear ho ho1
  have s1 : w.heap.size + 2 ≤ w1.heap.size := by have := hb1.size; (try simp at this); omega
  have HBN : Hid (Below w.heap.size w w1) := Lib.hid ((((Below.refl w.heap.size w).alloc om _).alloc om _).trans (hb1.mono om))
  have HXb0 : Hid (Bx w1 (w.heap.size) [.int .i64 r.cap, .int .i64 r.next, .bool r.out, v]) := Lib.hid (((Bx.new (by first | rfl | simp | omega)).alloc _).at hb1)
  have Zb0 := HXb0.out.lt
  obtain ⟨Kb0_0, Kb0_1, Kb0_2, Kb0_3⟩ := HXb0.out.c4
  have HXb2 : Hid (Bx w1 (w.heap.size + 1) [.int .i64 0, .int .i64 0, .bool false, .slice none 0 0]) := Lib.hid ((Bx.new (by first | rfl | simp | omega)).at hb1)
  have Zb2 := HXb2.out.lt
  obtain ⟨Kb2_0, Kb2_1, Kb2_2, Kb2_3⟩ := HXb2.out.c4
  obtain ⟨Gb2_0, Gb2_1, Gb2_2, Gb2_3⟩ := HXb2.out.f4
  have HBW := HBN
  clear HBN
  clear hb1
  go_wp2_with fail
  refine (impl_RingOk_c r _ _ (h.below (HBW.out.alloc om _))).mono ?_
  rintro e' w2 ⟨rfl, hb2⟩
  rw [h1]
  have s2 : w1.heap.size + 1 ≤ w2.heap.size := by have := hb2.size; (try simp at this); omega
  have R2 : Hid (Below w1.heap.size w1 w2) := Lib.hid (((Below.refl w1.heap.size w1).alloc om _).trans (hb2.mono om))
  have HBN : Hid (Below w.heap.size w w2) := Lib.hid ((HBW.out.alloc om _).trans (hb2.mono om))
  clear HBW
  replace HO : Hid (OwnB (w.heap.size + 2) (w1.heap.size) w2 (.slice a1 r.list.length c1) (r.list)) := Lib.hid ((HO.out.alloc _).below hb2)
  replace HXb0 : Hid (Bx w2 (w.heap.size) [.int .i64 r.cap, .int .i64 r.next, .bool r.out, v]) := Lib.hid ((HXb0.out.alloc _).at hb2)
  clear Zb0 Kb0_0 Kb0_1 Kb0_2 Kb0_3
  have Zb0 := HXb0.out.lt
  obtain ⟨Kb0_0, Kb0_1, Kb0_2, Kb0_3⟩ := HXb0.out.c4
  replace HXb2 : Hid (Bx w2 (w.heap.size + 1) [.int .i64 0, .int .i64 0, .bool false, .slice none 0 0]) := Lib.hid ((HXb2.out.alloc _).at hb2)
  clear Zb2 Kb2_0 Kb2_1 Kb2_2 Kb2_3 Gb2_0 Gb2_1 Gb2_2 Gb2_3
  have Zb2 := HXb2.out.lt
  obtain ⟨Kb2_0, Kb2_1, Kb2_2, Kb2_3⟩ := HXb2.out.c4
  obtain ⟨Gb2_0, Gb2_1, Gb2_2, Gb2_3⟩ := HXb2.out.f4
  have HXb3 : Hid (Bx w2 (w1.heap.size) [.int .i64 r.cap, .int .i64 r.next, .bool r.out, .slice a1 r.list.length c1]) := Lib.hid ((Bx.new (by first | rfl | simp | omega)).at hb2)
  have Zb3 := HXb3.out.lt
  obtain ⟨Kb3_0, Kb3_1, Kb3_2, Kb3_3⟩ := HXb3.out.c4
  obtain ⟨Gb3_0, Gb3_1, Gb3_2, Gb3_3⟩ := HXb3.out.f4
  have HBW := HBN
  clear HBN
  clear hb2
  go_wp2
  rw [HV.out]
  have HB : Hid (Below w.heap.size w ((((w2.setCell ⟨w.heap.size + 1, 0, none⟩ (.int .i64 r.cap)).setCell ⟨w.heap.size + 1, 1, none⟩ (.int .i64 r.next)).setCell ⟨w.heap.size + 1, 2, none⟩ (.bool r.out)).setCell ⟨w.heap.size + 1, 3, none⟩ (.slice a1 r.list.length c1))) := Lib.hid ((((HBW.out.setCell om _).setCell om _).setCell om _).setCell om _)
  obtain ⟨f, sf, ff⟩ := ((((HO.out.setCell (b := w.heap.size + 1) (o := 0) (by omega) (.int .i64 r.cap)).setCell (b := w.heap.size + 1) (o := 1) (by omega) (.int .i64 r.next)).setCell (b := w.heap.size + 1) (o := 2) (by omega) (.bool r.out)).setCell (b := w.heap.size + 1) (o := 3) (by omega) (.slice a1 r.list.length c1)).own
  exact bodyPost_ret (v := .tuple #[.agg #[.int .i64 r.cap, .int .i64 r.next, .bool r.out, .slice a1 r.list.length c1], .slice none 0 0, .int .i64 1]) (by simp [results, Try.results10, go_sem, cell_setCell, *]) rfl ⟨_, _, f, [], rfl, sf, Sl.nil, by rw [List.append_nil]; exact ff.mono (by omega), HB.out⟩
set_option maxHeartbeats 8000000 in
set_option maxRecDepth 100000 in
theorem impl_RingPoll_C (cap next : Int) (l : List DEntry) (n : Int) (v : Value) (w : World) (h : RdS w v l) (hs : szL l ≤ 4000000) (h1 : ringOk (⟨cap, next, true, l⟩ : DRing) = true) (h2 : 1 ≤ n) :
    Calls Try.prog 10 #[.agg #[.int .i64 cap, .int .i64 next, .bool true, v], .int .i64 n] w (Out_Ring_EntryS_i w (ringPoll (⟨cap, next, true, l⟩ : DRing) n).1 (ringPoll (⟨cap, next, true, l⟩ : DRing) n).2.1 (ringPoll (⟨cap, next, true, l⟩ : DRing) n).2.2) := by
  have hl := fun w1 ty => h.len Try.underlying23 w1 ty
  have HV := Lib.hid (ringPoll_out (r := (⟨cap, next, true, l⟩ : DRing)) ⟨h1, h2⟩ rfl)
  have h2a : ¬ n < 1 := by omega
  have h2b : decide (n < 1) = false := by simp; omega
  go_enter Try.func10, Try.ntmps10
  go_wp2_with fail
  refine (impl_copyRing_c (⟨cap, next, true, l⟩ : DRing) _ _ (h.below (((Below.refl w.heap.size w).alloc om _).alloc om _)) hs).mono ?_
  rintro e' w1 ⟨_, rfl, ho, hb1⟩
  obtain ⟨v1, rfl, ho1⟩ := inv_own_DRing ho
  obtain ⟨a1, c1, rfl⟩ := ho1.rd.isSlice
  have HO : Hid (OwnB (w.heap.size + 2) w1.heap.size w1 (.slice a1 l.length c1) l) := Lib.hid (ho1.mono (by simp)).bd
  clear ho ho1
  have s1 : w.heap.size + 2 ≤ w1.heap.size := by have := hb1.size; (try simp at this); omega
  have HBN : Hid (Below w.heap.size w w1) := Lib.hid ((((Below.refl w.heap.size w).alloc om _).alloc om _).trans (hb1.mono om))
  have HXb0 : Hid (Bx w1 (w.heap.size) [.int .i64 cap, .int .i64 next, .bool true, v]) := Lib.hid (((Bx.new (by first | rfl | simp | omega)).alloc _).at hb1)
  have Zb0 := HXb0.out.lt
  obtain ⟨Kb0_0, Kb0_1, Kb0_2, Kb0_3⟩ := HXb0.out.c4
  have HXb2 : Hid (Bx w1 (w.heap.size + 1) [.int .i64 0, .int .i64 0, .bool false, .slice none 0 0]) := Lib.hid ((Bx.new (by first | rfl | simp | omega)).at hb1)
  have Zb2 := HXb2.out.lt
  obtain ⟨Kb2_0, Kb2_1, Kb2_2, Kb2_3⟩ := HXb2.out.c4
  obtain ⟨Gb2_0, Gb2_1, Gb2_2, Gb2_3⟩ := HXb2.out.f4
  have HBW := HBN
  clear HBN
  clear hb1
  go_wp2_with fail
  refine (impl_RingOk_c (⟨cap, next, true, l⟩ : DRing) _ _ (h.below (HBW.out.alloc om _))).mono ?_
  rintro e' w2 ⟨rfl, hb2⟩
  rw [h1]
  have s2 : w1.heap.size + 1 ≤ w2.heap.size := by have := hb2.size; (try simp at this); omega
  have R2 : Hid (Below w1.heap.size w1 w2) := Lib.hid (((Below.refl w1.heap.size w1).alloc om _).trans (hb2.mono om))
  have HBN : Hid (Below w.heap.size w w2) := Lib.hid ((HBW.out.alloc om _).trans (hb2.mono om))
  clear HBW
  replace HO : Hid (OwnB (w.heap.size + 2) (w1.heap.size) w2 (.slice a1 l.length c1) (l)) := Lib.hid ((HO.out.alloc _).below hb2)
  replace HXb0 : Hid (Bx w2 (w.heap.size) [.int .i64 cap, .int .i64 next, .bool true, v]) := Lib.hid ((HXb0.out.alloc _).at hb2)
  clear Zb0 Kb0_0 Kb0_1 Kb0_2 Kb0_3
  have Zb0 := HXb0.out.lt
  obtain ⟨Kb0_0, Kb0_1, Kb0_2, Kb0_3⟩ := HXb0.out.c4
  replace HXb2 : Hid (Bx w2 (w.heap.size + 1) [.int .i64 0, .int .i64 0, .bool false, .slice none 0 0]) := Lib.hid ((HXb2.out.alloc _).at hb2)
  clear Zb2 Kb2_0 Kb2_1 Kb2_2 Kb2_3 Gb2_0 Gb2_1 Gb2_2 Gb2_3
  have Zb2 := HXb2.out.lt
  obtain ⟨Kb2_0, Kb2_1, Kb2_2, Kb2_3⟩ := HXb2.out.c4
  obtain ⟨Gb2_0, Gb2_1, Gb2_2, Gb2_3⟩ := HXb2.out.f4
  have HXb3 : Hid (Bx w2 (w1.heap.size) [.int .i64 cap, .int .i64 next, .bool true, .slice a1 l.length c1]) := Lib.hid ((Bx.new (by first | rfl | simp | omega)).at hb2)
  have Zb3 := HXb3.out.lt
  obtain ⟨Kb3_0, Kb3_1, Kb3_2, Kb3_3⟩ := HXb3.out.c4
  obtain ⟨Gb3_0, Gb3_1, Gb3_2, Gb3_3⟩ := HXb3.out.f4
  have HBW := HBN
  clear HBN
  clear hb2
  go_wp2
  rw [HV.out]
  have HB : Hid (Below w.heap.size w ((((w2.setCell ⟨w.heap.size + 1, 0, none⟩ (.int .i64 cap)).setCell ⟨w.heap.size + 1, 1, none⟩ (.int .i64 next)).setCell ⟨w.heap.size + 1, 2, none⟩ (.bool true)).setCell ⟨w.heap.size + 1, 3, none⟩ (.slice a1 l.length c1))) := Lib.hid ((((HBW.out.setCell om _).setCell om _).setCell om _).setCell om _)
  obtain ⟨f, sf, ff⟩ := ((((HO.out.setCell (b := w.heap.size + 1) (o := 0) (by omega) (.int .i64 cap)).setCell (b := w.heap.size + 1) (o := 1) (by omega) (.int .i64 next)).setCell (b := w.heap.size + 1) (o := 2) (by omega) (.bool true)).setCell (b := w.heap.size + 1) (o := 3) (by omega) (.slice a1 l.length c1)).own
  exact bodyPost_ret (v := .tuple #[.agg #[.int .i64 cap, .int .i64 next, .bool true, .slice a1 l.length c1], .slice none 0 0, .int .i64 9]) (by simp [results, Try.results10, go_sem, cell_setCell, *]) rfl ⟨_, _, f, [], rfl, sf, Sl.nil, by rw [List.append_nil]; exact ff.mono (by omega), HB.out⟩
set_option maxHeartbeats 8000000 in
set_option maxRecDepth 100000 in
theorem impl_RingPoll_D (cap next : Int) (l : List DEntry) (n : Int) (v : Value) (w : World) (h : RdS w v l) (hs : szL l ≤ 4000000) (h1 : ringOk (⟨cap, next, false, l⟩ : DRing) = true) (h2 : 1 ≤ n) (h4 : n ≤ (l.length : Int)) :
    Calls Try.prog 10 #[.agg #[.int .i64 cap, .int .i64 next, .bool false, v], .int .i64 n] w (Out_Ring_EntryS_i w (ringPoll (⟨cap, next, false, l⟩ : DRing) n).1 (ringPoll (⟨cap, next, false, l⟩ : DRing) n).2.1 (ringPoll (⟨cap, next, false, l⟩ : DRing) n).2.2) := by
  have hl := fun w1 ty => h.len Try.underlying23 w1 ty
  have hnx := ringOk_next h1
  simp only at hnx
  obtain ⟨nx1, nx2, _, _⟩ := hnx
  have hl6 := ringOk_len h1
  simp only at hl6
  obtain ⟨k, rfl⟩ : ∃ k : Nat, n = k := ⟨n.toNat, by omega⟩
  have hk : k ≤ l.length := by omega
  have hk1 : 1 ≤ k := by omega
  have HV := Lib.hid (ringPoll_in (r := (⟨cap, next, false, l⟩ : DRing)) ⟨h1, h2⟩ rfl (k := k) (by simp [pollK]; omega))
  have h2a : ¬ (k : Int) < 1 := by omega
  have h2b : decide ((k : Int) < 1) = false := by simp; omega
  have h5a : ¬ (l.length : Int) < (k : Int) := by omega
  have h5b : decide ((l.length : Int) < (k : Int)) = false := by simp; omega
  have h5c : decide (l.length < k) = false := by simp; omega
  have h5d : ¬ l.length < k := by omega
  have hmin : min (k : Int) (l.length : Int) = (k : Int) := by omega
  clear h2 h4
  go_enter Try.func10, Try.ntmps10
  go_wp2_with fail
  refine (impl_copyRing_c (⟨cap, next, false, l⟩ : DRing) _ _ (h.below (((Below.refl w.heap.size w).alloc om _).alloc om _)) hs).mono ?_
  rintro e' w1 ⟨_, rfl, ho, hb1⟩
  obtain ⟨v1, rfl, ho1⟩ := inv_own_DRing ho
  have HO : Hid (OwnB (w.heap.size + 2) w1.heap.size w1 (v1) l) := Lib.hid (ho1.mono (by simp)).bd
  have hst1 := ho1.rd.stores Try.prog
  obtain ⟨hst1a, hst1b⟩ := hst1
  obtain ⟨fp, sfp, ffp⟩ := ho1
  have hlen1 := fun w2 ty => sfp.len (α := DEntry) Try.underlying23 w2 ty
  clear ho
  have s1 : w.heap.size + 2 ≤ w1.heap.size := by have := hb1.size; (try simp at this); omega
  have HBN : Hid (Below w.heap.size w w1) := Lib.hid ((((Below.refl w.heap.size w).alloc om _).alloc om _).trans (hb1.mono om))
  have HXb0 : Hid (Bx w1 (w.heap.size) [.int .i64 cap, .int .i64 next, .bool false, v]) := Lib.hid (((Bx.new (by first | rfl | simp | omega)).alloc _).at hb1)
  have Zb0 := HXb0.out.lt
  obtain ⟨Kb0_0, Kb0_1, Kb0_2, Kb0_3⟩ := HXb0.out.c4
  have HXb2 : Hid (Bx w1 (w.heap.size + 1) [.int .i64 0, .int .i64 0, .bool false, .slice none 0 0]) := Lib.hid ((Bx.new (by first | rfl | simp | omega)).at hb1)
  have Zb2 := HXb2.out.lt
  obtain ⟨Kb2_0, Kb2_1, Kb2_2, Kb2_3⟩ := HXb2.out.c4
  obtain ⟨Gb2_0, Gb2_1, Gb2_2, Gb2_3⟩ := HXb2.out.f4
  have HBW := HBN
  clear HBN
  clear hb1
  have rA := sfp.run_hm (α := DEntry) Try.underlying23 szi_DEntry (hi := k) (m := k) (Nat.le_refl _) (Nat.le_trans hk sfp.cap)
  have rB := sfp.run_l (α := DEntry) Try.underlying23 szi_DEntry (lo := k) hk
  have HPT := Lib.hid (sfp.parts ffp.nodup hk)
  have HGE := Lib.hid (ffp.mono (B' := w.heap.size + 2) (by simp)).ge
  have HFZ := Lib.hid ffp.free
  clear sfp ffp
  obtain ⟨x, hx⟩ : ∃ x, (cutV v1 (GoT.n DEntry) 0 k k) = x := ⟨_, rfl⟩
  obtain ⟨y, hy⟩ : ∃ y, (cutV v1 (GoT.n DEntry) k l.length (capV v1)) = y := ⟨_, rfl⟩
  rw [hx] at rA
  rw [hy] at rB
  have HX := Lib.hid hx
  have HY := Lib.hid hy
  clear hx hy
  go_wp2_with fail
  refine (impl_RingOk_c (⟨cap, next, false, l⟩ : DRing) _ _ (h.below (HBW.out.alloc om _))).mono ?_
  rintro e' w2 ⟨rfl, hb2⟩
  rw [h1]
  have s2 : w1.heap.size + 1 ≤ w2.heap.size := by have := hb2.size; (try simp at this); omega
  have R2 : Hid (Below w1.heap.size w1 w2) := Lib.hid (((Below.refl w1.heap.size w1).alloc om _).trans (hb2.mono om))
  have HBN : Hid (Below w.heap.size w w2) := Lib.hid ((HBW.out.alloc om _).trans (hb2.mono om))
  clear HBW
  replace HO : Hid (OwnB (w.heap.size + 2) (w1.heap.size) w2 (v1) (l)) := Lib.hid ((HO.out.alloc _).below hb2)
  replace HXb0 : Hid (Bx w2 (w.heap.size) [.int .i64 cap, .int .i64 next, .bool false, v]) := Lib.hid ((HXb0.out.alloc _).at hb2)
  clear Zb0 Kb0_0 Kb0_1 Kb0_2 Kb0_3
  have Zb0 := HXb0.out.lt
  obtain ⟨Kb0_0, Kb0_1, Kb0_2, Kb0_3⟩ := HXb0.out.c4
  replace HXb2 : Hid (Bx w2 (w.heap.size + 1) [.int .i64 0, .int .i64 0, .bool false, .slice none 0 0]) := Lib.hid ((HXb2.out.alloc _).at hb2)
  clear Zb2 Kb2_0 Kb2_1 Kb2_2 Kb2_3 Gb2_0 Gb2_1 Gb2_2 Gb2_3
  have Zb2 := HXb2.out.lt
  obtain ⟨Kb2_0, Kb2_1, Kb2_2, Kb2_3⟩ := HXb2.out.c4
  obtain ⟨Gb2_0, Gb2_1, Gb2_2, Gb2_3⟩ := HXb2.out.f4
  have HXb3 : Hid (Bx w2 (w1.heap.size) [.int .i64 cap, .int .i64 next, .bool false, v1]) := Lib.hid ((Bx.new (by first | rfl | simp | omega)).at hb2)
  have Zb3 := HXb3.out.lt
  obtain ⟨Kb3_0, Kb3_1, Kb3_2, Kb3_3⟩ := HXb3.out.c4
  obtain ⟨Gb3_0, Gb3_1, Gb3_2, Gb3_3⟩ := HXb3.out.f4
  have HBW := HBN
  clear HBN
  clear hb2
  obtain ⟨f1, f2, q1, q2, qn, qs⟩ := HPT.out
  rw [HX.out] at q1
  rw [HY.out] at q2
  obtain ⟨ya, yc, ye⟩ := q2.isS
  rw [show (l.drop k).length = l.length - k from by simp] at ye
  subst ye
  have hne0 : ¬ (w.heap.size = w1.heap.size) := by omega
  have hne1 : ¬ (w.heap.size + 1 = w1.heap.size) := by omega
  have hne2 : ¬ (w1.heap.size = w.heap.size) := by omega
  have hne3 : ¬ (w1.heap.size = w.heap.size + 1) := by omega
  have HQ1 := Lib.hid q1
  have HQ2 := Lib.hid q2
  have HQN := Lib.hid qn
  have HQS := Lib.hid qs
  clear q1 q2 qn qs HO HPT
  go_wp2
  rw [HV.out]
  have HLT : Hid (∀ p ∈ f1 ++ f2, w.heap.size + 2 ≤ p.1 ∧ p.1 < w1.heap.size) := Lib.hid fun p hp => ⟨by have := HGE.out p (HQS.out p hp); omega, (List.mem_append.1 hp).elim (Live.lt HQ1.out.live p) (Live.lt HQ2.out.live p)⟩
  have HF : Hid (Fresh (w.heap.size + 2) w2 (f1 ++ f2)) := Lib.hid (Fresh.belowL (w := w1) ⟨HQN.out, fun p hp => (HLT.out p hp).1, fun p hp => HFZ.out p (HQS.out p hp)⟩ R2.out fun p hp => (HLT.out p hp).2)
  exact bodyPost_ret (v := .tuple #[.agg #[.int .i64 cap, .int .i64 (next + ↑k), .bool false, .slice ya (l.length - k) yc], x, .int .i64 0]) (by simp [results, Try.results10, go_sem, cell_setCell, *]) rfl (out_poll2 (y0 := ⟨cap, next + ↑k, false, l.drop k⟩) (((((((HQ1.out.belowW R2.out).put (b := w1.heap.size) (o := 3) (fun hm => by have := HLT.out _ (List.mem_append.2 (.inl hm)); simp only at this; omega) (.slice ya (l.length - k) yc)).put (b := w1.heap.size) (o := 1) (fun hm => by have := HLT.out _ (List.mem_append.2 (.inl hm)); simp only at this; omega) (.int .i64 (next + ↑k))).put (b := w.heap.size + 1) (o := 0) (fun hm => by have := HLT.out _ (List.mem_append.2 (.inl hm)); simp only at this; omega) (.int .i64 cap)).put (b := w.heap.size + 1) (o := 1) (fun hm => by have := HLT.out _ (List.mem_append.2 (.inl hm)); simp only at this; omega) (.int .i64 (next + ↑k))).put (b := w.heap.size + 1) (o := 2) (fun hm => by have := HLT.out _ (List.mem_append.2 (.inl hm)); simp only at this; omega) (.bool false)).put (b := w.heap.size + 1) (o := 3) (fun hm => by have := HLT.out _ (List.mem_append.2 (.inl hm)); simp only at this; omega) (.slice ya (l.length - k) yc)) (((((((HQ2.out.belowW R2.out).put (b := w1.heap.size) (o := 3) (fun hm => by have := HLT.out _ (List.mem_append.2 (.inr hm)); simp only at this; omega) (.slice ya (l.length - k) yc)).put (b := w1.heap.size) (o := 1) (fun hm => by have := HLT.out _ (List.mem_append.2 (.inr hm)); simp only at this; omega) (.int .i64 (next + ↑k))).put (b := w.heap.size + 1) (o := 0) (fun hm => by have := HLT.out _ (List.mem_append.2 (.inr hm)); simp only at this; omega) (.int .i64 cap)).put (b := w.heap.size + 1) (o := 1) (fun hm => by have := HLT.out _ (List.mem_append.2 (.inr hm)); simp only at this; omega) (.int .i64 (next + ↑k))).put (b := w.heap.size + 1) (o := 2) (fun hm => by have := HLT.out _ (List.mem_append.2 (.inr hm)); simp only at this; omega) (.bool false)).put (b := w.heap.size + 1) (o := 3) (fun hm => by have := HLT.out _ (List.mem_append.2 (.inr hm)); simp only at this; omega) (.slice ya (l.length - k) yc)) (((((((HF.out.put ⟨w1.heap.size, 3, none⟩ (.slice ya (l.length - k) yc)).put ⟨w1.heap.size, 1, none⟩ (.int .i64 (next + ↑k))).put ⟨w.heap.size + 1, 0, none⟩ (.int .i64 cap)).put ⟨w.heap.size + 1, 1, none⟩ (.int .i64 (next + ↑k))).put ⟨w.heap.size + 1, 2, none⟩ (.bool false)).put ⟨w.heap.size + 1, 3, none⟩ (.slice ya (l.length - k) yc)).mono (by omega)) ((((((HBW.out.setCell om _).setCell om _).setCell om _).setCell om _).setCell om _).setCell om _))
set_option maxHeartbeats 8000000 in
set_option maxRecDepth 100000 in
theorem impl_RingPoll_E (cap next : Int) (l : List DEntry) (n : Int) (v : Value) (w : World) (h : RdS w v l) (hs : szL l ≤ 4000000) (h1 : ringOk (⟨cap, next, false, l⟩ : DRing) = true) (h2 : 1 ≤ n) (h4 : ¬ n ≤ (l.length : Int)) :
    Calls Try.prog 10 #[.agg #[.int .i64 cap, .int .i64 next, .bool false, v], .int .i64 n] w (Out_Ring_EntryS_i w (ringPoll (⟨cap, next, false, l⟩ : DRing) n).1 (ringPoll (⟨cap, next, false, l⟩ : DRing) n).2.1 (ringPoll (⟨cap, next, false, l⟩ : DRing) n).2.2) := by
  have hl := fun w1 ty => h.len Try.underlying23 w1 ty
  have hnx := ringOk_next h1
  simp only at hnx
  obtain ⟨nx1, nx2, _, _⟩ := hnx
  have hl6 := ringOk_len h1
  simp only at hl6
  have HV := Lib.hid (ringPoll_in (r := (⟨cap, next, false, l⟩ : DRing)) ⟨h1, h2⟩ rfl (k := l.length) (by simp [pollK]; omega))
  have hk : l.length ≤ l.length := Nat.le_refl _
  have h2a : ¬ n < 1 := by omega
  have h2b : decide (n < 1) = false := by simp; omega
  have h5a : (l.length : Int) < n := by omega
  have h5b : decide ((l.length : Int) < n) = true := by simp; omega
  have hmin : min n (l.length : Int) = (l.length : Int) := by omega
  clear h2 h4
  go_enter Try.func10, Try.ntmps10
  go_wp2_with fail
  refine (impl_copyRing_c (⟨cap, next, false, l⟩ : DRing) _ _ (h.below (((Below.refl w.heap.size w).alloc om _).alloc om _)) hs).mono ?_
  rintro e' w1 ⟨_, rfl, ho, hb1⟩
  obtain ⟨v1, rfl, ho1⟩ := inv_own_DRing ho
  have HO : Hid (OwnB (w.heap.size + 2) w1.heap.size w1 (v1) l) := Lib.hid (ho1.mono (by simp)).bd
  have hst1 := ho1.rd.stores Try.prog
  obtain ⟨hst1a, hst1b⟩ := hst1
  obtain ⟨fp, sfp, ffp⟩ := ho1
  have hlen1 := fun w2 ty => sfp.len (α := DEntry) Try.underlying23 w2 ty
  clear ho
  have s1 : w.heap.size + 2 ≤ w1.heap.size := by have := hb1.size; (try simp at this); omega
  have HBN : Hid (Below w.heap.size w w1) := Lib.hid ((((Below.refl w.heap.size w).alloc om _).alloc om _).trans (hb1.mono om))
  have HXb0 : Hid (Bx w1 (w.heap.size) [.int .i64 cap, .int .i64 next, .bool false, v]) := Lib.hid (((Bx.new (by first | rfl | simp | omega)).alloc _).at hb1)
  have Zb0 := HXb0.out.lt
  obtain ⟨Kb0_0, Kb0_1, Kb0_2, Kb0_3⟩ := HXb0.out.c4
  have HXb2 : Hid (Bx w1 (w.heap.size + 1) [.int .i64 0, .int .i64 0, .bool false, .slice none 0 0]) := Lib.hid ((Bx.new (by first | rfl | simp | omega)).at hb1)
  have Zb2 := HXb2.out.lt
  obtain ⟨Kb2_0, Kb2_1, Kb2_2, Kb2_3⟩ := HXb2.out.c4
  obtain ⟨Gb2_0, Gb2_1, Gb2_2, Gb2_3⟩ := HXb2.out.f4
  have HBW := HBN
  clear HBN
  clear hb1
  have rA := sfp.run_hm (α := DEntry) Try.underlying23 szi_DEntry (hi := l.length) (m := l.length) (Nat.le_refl _) (Nat.le_trans hk sfp.cap)
  have rB := sfp.run_l (α := DEntry) Try.underlying23 szi_DEntry (lo := l.length) hk
  have HPT := Lib.hid (sfp.parts ffp.nodup hk)
  have HGE := Lib.hid (ffp.mono (B' := w.heap.size + 2) (by simp)).ge
  have HFZ := Lib.hid ffp.free
  clear sfp ffp
  obtain ⟨x, hx⟩ : ∃ x, (cutV v1 (GoT.n DEntry) 0 l.length l.length) = x := ⟨_, rfl⟩
  obtain ⟨y, hy⟩ : ∃ y, (cutV v1 (GoT.n DEntry) l.length l.length (capV v1)) = y := ⟨_, rfl⟩
  rw [hx] at rA
  rw [hy] at rB
  have HX := Lib.hid hx
  have HY := Lib.hid hy
  clear hx hy
  go_wp2_with fail
  refine (impl_RingOk_c (⟨cap, next, false, l⟩ : DRing) _ _ (h.below (HBW.out.alloc om _))).mono ?_
  rintro e' w2 ⟨rfl, hb2⟩
  rw [h1]
  have s2 : w1.heap.size + 1 ≤ w2.heap.size := by have := hb2.size; (try simp at this); omega
  have R2 : Hid (Below w1.heap.size w1 w2) := Lib.hid (((Below.refl w1.heap.size w1).alloc om _).trans (hb2.mono om))
  have HBN : Hid (Below w.heap.size w w2) := Lib.hid ((HBW.out.alloc om _).trans (hb2.mono om))
  clear HBW
  replace HO : Hid (OwnB (w.heap.size + 2) (w1.heap.size) w2 (v1) (l)) := Lib.hid ((HO.out.alloc _).below hb2)
  replace HXb0 : Hid (Bx w2 (w.heap.size) [.int .i64 cap, .int .i64 next, .bool false, v]) := Lib.hid ((HXb0.out.alloc _).at hb2)
  clear Zb0 Kb0_0 Kb0_1 Kb0_2 Kb0_3
  have Zb0 := HXb0.out.lt
  obtain ⟨Kb0_0, Kb0_1, Kb0_2, Kb0_3⟩ := HXb0.out.c4
  replace HXb2 : Hid (Bx w2 (w.heap.size + 1) [.int .i64 0, .int .i64 0, .bool false, .slice none 0 0]) := Lib.hid ((HXb2.out.alloc _).at hb2)
  clear Zb2 Kb2_0 Kb2_1 Kb2_2 Kb2_3 Gb2_0 Gb2_1 Gb2_2 Gb2_3
  have Zb2 := HXb2.out.lt
  obtain ⟨Kb2_0, Kb2_1, Kb2_2, Kb2_3⟩ := HXb2.out.c4
  obtain ⟨Gb2_0, Gb2_1, Gb2_2, Gb2_3⟩ := HXb2.out.f4
  have HXb3 : Hid (Bx w2 (w1.heap.size) [.int .i64 cap, .int .i64 next, .bool false, v1]) := Lib.hid ((Bx.new (by first | rfl | simp | omega)).at hb2)
  have Zb3 := HXb3.out.lt
  obtain ⟨Kb3_0, Kb3_1, Kb3_2, Kb3_3⟩ := HXb3.out.c4
  obtain ⟨Gb3_0, Gb3_1, Gb3_2, Gb3_3⟩ := HXb3.out.f4
  have HBW := HBN
  clear HBN
  clear hb2
  obtain ⟨f1, f2, q1, q2, qn, qs⟩ := HPT.out
  rw [HX.out] at q1
  rw [HY.out] at q2
  obtain ⟨ya, yc, ye⟩ := q2.isS
  rw [show (l.drop l.length).length = 0 from by simp] at ye
  subst ye
  have hne0 : ¬ (w.heap.size = w1.heap.size) := by omega
  have hne1 : ¬ (w.heap.size + 1 = w1.heap.size) := by omega
  have hne2 : ¬ (w1.heap.size = w.heap.size) := by omega
  have hne3 : ¬ (w1.heap.size = w.heap.size + 1) := by omega
  have HQ1 := Lib.hid q1
  have HQ2 := Lib.hid q2
  have HQN := Lib.hid qn
  have HQS := Lib.hid qs
  clear q1 q2 qn qs HO HPT
  go_wp2
  rw [HV.out]
  have HLT : Hid (∀ p ∈ f1 ++ f2, w.heap.size + 2 ≤ p.1 ∧ p.1 < w1.heap.size) := Lib.hid fun p hp => ⟨by have := HGE.out p (HQS.out p hp); omega, (List.mem_append.1 hp).elim (Live.lt HQ1.out.live p) (Live.lt HQ2.out.live p)⟩
  have HF : Hid (Fresh (w.heap.size + 2) w2 (f1 ++ f2)) := Lib.hid (Fresh.belowL (w := w1) ⟨HQN.out, fun p hp => (HLT.out p hp).1, fun p hp => HFZ.out p (HQS.out p hp)⟩ R2.out fun p hp => (HLT.out p hp).2)
  exact bodyPost_ret (v := .tuple #[.agg #[.int .i64 cap, .int .i64 (next + ↑l.length), .bool false, .slice ya (0) yc], x, .int .i64 0]) (by simp [results, Try.results10, go_sem, cell_setCell, *]) rfl (out_poll2 (y0 := ⟨cap, next + ↑l.length, false, l.drop l.length⟩) (((((((HQ1.out.belowW R2.out).put (b := w1.heap.size) (o := 3) (fun hm => by have := HLT.out _ (List.mem_append.2 (.inl hm)); simp only at this; omega) (.slice ya (0) yc)).put (b := w1.heap.size) (o := 1) (fun hm => by have := HLT.out _ (List.mem_append.2 (.inl hm)); simp only at this; omega) (.int .i64 (next + ↑l.length))).put (b := w.heap.size + 1) (o := 0) (fun hm => by have := HLT.out _ (List.mem_append.2 (.inl hm)); simp only at this; omega) (.int .i64 cap)).put (b := w.heap.size + 1) (o := 1) (fun hm => by have := HLT.out _ (List.mem_append.2 (.inl hm)); simp only at this; omega) (.int .i64 (next + ↑l.length))).put (b := w.heap.size + 1) (o := 2) (fun hm => by have := HLT.out _ (List.mem_append.2 (.inl hm)); simp only at this; omega) (.bool false)).put (b := w.heap.size + 1) (o := 3) (fun hm => by have := HLT.out _ (List.mem_append.2 (.inl hm)); simp only at this; omega) (.slice ya (0) yc)) (((((((HQ2.out.belowW R2.out).put (b := w1.heap.size) (o := 3) (fun hm => by have := HLT.out _ (List.mem_append.2 (.inr hm)); simp only at this; omega) (.slice ya (0) yc)).put (b := w1.heap.size) (o := 1) (fun hm => by have := HLT.out _ (List.mem_append.2 (.inr hm)); simp only at this; omega) (.int .i64 (next + ↑l.length))).put (b := w.heap.size + 1) (o := 0) (fun hm => by have := HLT.out _ (List.mem_append.2 (.inr hm)); simp only at this; omega) (.int .i64 cap)).put (b := w.heap.size + 1) (o := 1) (fun hm => by have := HLT.out _ (List.mem_append.2 (.inr hm)); simp only at this; omega) (.int .i64 (next + ↑l.length))).put (b := w.heap.size + 1) (o := 2) (fun hm => by have := HLT.out _ (List.mem_append.2 (.inr hm)); simp only at this; omega) (.bool false)).put (b := w.heap.size + 1) (o := 3) (fun hm => by have := HLT.out _ (List.mem_append.2 (.inr hm)); simp only at this; omega) (.slice ya (0) yc)) (((((((HF.out.put ⟨w1.heap.size, 3, none⟩ (.slice ya (0) yc)).put ⟨w1.heap.size, 1, none⟩ (.int .i64 (next + ↑l.length))).put ⟨w.heap.size + 1, 0, none⟩ (.int .i64 cap)).put ⟨w.heap.size + 1, 1, none⟩ (.int .i64 (next + ↑l.length))).put ⟨w.heap.size + 1, 2, none⟩ (.bool false)).put ⟨w.heap.size + 1, 3, none⟩ (.slice ya (0) yc)).mono (by omega)) ((((((HBW.out.setCell om _).setCell om _).setCell om _).setCell om _).setCell om _).setCell om _))
theorem ringPoll_cnt (r : DRing) (n : Int) : cntL (ringPoll r n).1.list + cntL (ringPoll r n).2.1 ≤ 10 * szL r.list := by
  have h := cntL_le r.list
  unfold ringPoll
  split
  · split
    · simp [cntL]; omega
    · have h2 := cntL_sub r.list (pollK r n)
      simp only
      omega
  · simp [cntL]; omega
theorem impl_RingPoll_c (r : DRing) (n : Int) (v : Value) (w : World) (h : RdS w v r.list) (hs : szL r.list ≤ 4000000) :
    Calls Try.prog 10 #[.agg #[.int .i64 r.cap, .int .i64 r.next, .bool r.out, v], .int .i64 n] w (Out_Ring_EntryS_i w (ringPoll r n).1 (ringPoll r n).2.1 (ringPoll r n).2.2) := by
  by_cases h1 : ringOk r = true
  · by_cases h2 : 1 ≤ n
    · obtain ⟨cap, next, out, l⟩ := r
      cases out with
      | true => exact impl_RingPoll_C cap next l n v w h hs h1 h2
      | false =>
        by_cases h4 : n ≤ (l.length : Int)
        · exact impl_RingPoll_D cap next l n v w h hs h1 h2 h4
        · exact impl_RingPoll_E cap next l n v w h hs h1 h2 h4
    · exact impl_RingPoll_B r n v w h hs h1 h2
  · exact impl_RingPoll_A r n v w h hs (by simpa using h1)
end Go.Proofs.Ytfkaabpaolelgaa
