/- Pushing onto a ring. -/
import Derived.Test.YtfkaabpaolelgaaRnw
import Derived.Test.YtfkaabpaolelgaaRo
import Derived.Deep.RegionLaw
namespace Go.Proofs.Ytfkaabpaolelgaa
open Go.RowKit
def ringPush (r : DRing) (e : DEntry) : DRing :=
  if ringOk r = true ∧ entryOk e = true ∧ r.out = false then (if (r.list.length : Int) = r.cap then ⟨r.cap, r.next, true, []⟩ else ⟨r.cap, r.next, r.out, r.list ++ [e]⟩) else r
theorem ringPush_no {r : DRing} {e : DEntry} (h : ¬ (ringOk r = true ∧ entryOk e = true ∧ r.out = false)) : ringPush r e = r := if_neg h
theorem ringPush_full {r : DRing} {e : DEntry} (h : ringOk r = true ∧ entryOk e = true ∧ r.out = false) (h2 : (r.list.length : Int) = r.cap) : ringPush r e = ⟨r.cap, r.next, true, []⟩ := by unfold ringPush; rw [if_pos h, if_pos h2]
theorem ringPush_app {r : DRing} {e : DEntry} (h : ringOk r = true ∧ entryOk e = true ∧ r.out = false) (h2 : ¬ (r.list.length : Int) = r.cap) : ringPush r e = ⟨r.cap, r.next, r.out, r.list ++ [e]⟩ := by unfold ringPush; rw [if_pos h, if_neg h2]
theorem ringPush_cnt (r : DRing) (e : DEntry) : cntL (ringPush r e).list ≤ 5 * szL r.list + (5 + 5 * szL e.o) := by
  have h := cntL_le r.list
  have h2 : GoM.cnt e ≤ 5 + 5 * GoS.sz e := GoMS.le e
  have h3 : GoS.sz e = szL e.o := rfl
  unfold ringPush
  split
  · split
    · simp [cntL]
    · simp only [cntL_append, cntL]; omega
  · omega
theorem ringOk_len {r : DRing} (h : ringOk r = true) : r.list.length ≤ 6 := by
  have h1 := ringOk_next h
  simp only [ringOk, ringHead, Bool.and_eq_true, decide_eq_true_eq] at h
  omega
theorem szL_one {α : Type} [GoT α] [GoS α] (x : α) : szL [x] = 1 + GoS.sz x := by simp [szL, szs]
theorem OwnB.row {α : Type} [GoT α] {C D : Nat} {w : World} {v : Value} {l : List α} (h : OwnB C D w v l) : ∃ fs, Row C w v l fs ∧ Fresh C w fs ∧ ∀ p ∈ rowP (GoT.n α) v ++ fs, p.1 < D := by
  obtain ⟨fp, h, k, hd⟩ := h
  obtain ⟨fs, rfl⟩ := h.split
  exact ⟨fs, ⟨h, k.left, fun _ hp hq => (List.nodup_append.1 k.nodup).2.2 _ hq _ hp rfl⟩, k.right, hd⟩

set_option maxHeartbeats 4000000 in
set_option maxRecDepth 100000 in
theorem impl_RingPush_A (r : DRing) (e : DEntry) (v u : Value) (w : World) (h : RdS w v r.list) (_k : RdS w u e.o) (hs : szL r.list ≤ 4000000) (_ks : szL e.o ≤ 3999999) (h1 : ringOk r = false) :
    Calls Try.prog 8 #[.agg #[.int .i64 r.cap, .int .i64 r.next, .bool r.out, v], .agg #[.int .i64 e.client, .int .i64 e.seq, u]] w (Out_Ring w (ringPush r e)) := by
  have hl := fun w1 ty => h.len Try.underlying23 w1 ty
  have HV := Lib.hid (ringPush_no (r := r) (e := e) fun h => by rw [h1] at h; cases h.1)
  go_enter Try.func8, Try.ntmps8
  go_wp2_with fail
  refine (impl_copyRing_c r _ _ (h.below ((((Below.refl w.heap.size w).alloc om _).alloc om _).alloc om _)) hs).mono ?_
  rintro e' w1 ⟨_, rfl, ho, hb1⟩
  obtain ⟨v1, rfl, ho1⟩ := inv_own_DRing ho
  obtain ⟨a1, c1, rfl⟩ := ho1.rd.isSlice
  have HO : Hid (OwnB (w.heap.size + 3) w1.heap.size w1 (.slice a1 r.list.length c1) r.list) := Lib.hid (ho1.mono (by simp)).bd
  clear ho ho1
  have s1 : w.heap.size + 3 ≤ w1.heap.size := by have := hb1.size; (try simp at this); omega
  have HBN : Hid (Below w.heap.size w w1) := Lib.hid (((((Below.refl w.heap.size w).alloc om _).alloc om _).alloc om _).trans (hb1.mono om))
  have HXb0 : Hid (Bx w1 (w.heap.size) [.int .i64 r.cap, .int .i64 r.next, .bool r.out, v]) := Lib.hid ((((Bx.new (by first | rfl | simp | omega)).alloc _).alloc _).at hb1)
  have Zb0 := HXb0.out.lt
  obtain ⟨Kb0_0, Kb0_1, Kb0_2, Kb0_3⟩ := HXb0.out.c4
  have HXb1 : Hid (Bx w1 (w.heap.size + 1) [.int .i64 e.client, .int .i64 e.seq, u]) := Lib.hid (((Bx.new (by first | rfl | simp | omega)).alloc _).at hb1)
  have Zb1 := HXb1.out.lt
  obtain ⟨Kb1_0, Kb1_1, Kb1_2⟩ := HXb1.out.c3
  have HXb2 : Hid (Bx w1 (w.heap.size + 2) [.int .i64 0, .int .i64 0, .bool false, .slice none 0 0]) := Lib.hid ((Bx.new (by first | rfl | simp | omega)).at hb1)
  have Zb2 := HXb2.out.lt
  obtain ⟨Kb2_0, Kb2_1, Kb2_2, Kb2_3⟩ := HXb2.out.c4
  obtain ⟨Gb2_0, Gb2_1, Gb2_2, Gb2_3⟩ := HXb2.out.f4
  have HBW := HBN
  clear HBN
  clear hb1
  go_wp2_with fail
  refine (impl_RingOk_c r _ _ (h.below (HBW.out.alloc om _))).mono ?_
  rintro e' w2 ⟨rfl, hb2⟩
  rw [h1]
  have s2 : w1.heap.size + 1 ≤ w2.heap.size := by have := hb2.size; (try simp at this); omega
  have R2 : Hid (Below w1.heap.size w1 w2) := Lib.hid (((Below.refl w1.heap.size w1).alloc om _).trans (hb2.mono om))
  have HBN : Hid (Below w.heap.size w w2) := Lib.hid ((HBW.out.alloc om _).trans (hb2.mono om))
  clear HBW
  replace HO : Hid (OwnB (w.heap.size + 3) (w1.heap.size) w2 (.slice a1 r.list.length c1) (r.list)) := Lib.hid ((HO.out.alloc _).below hb2)
  replace HXb0 : Hid (Bx w2 (w.heap.size) [.int .i64 r.cap, .int .i64 r.next, .bool r.out, v]) := Lib.hid ((HXb0.out.alloc _).at hb2)
  clear Zb0 Kb0_0 Kb0_1 Kb0_2 Kb0_3
  have Zb0 := HXb0.out.lt
  obtain ⟨Kb0_0, Kb0_1, Kb0_2, Kb0_3⟩ := HXb0.out.c4
  replace HXb1 : Hid (Bx w2 (w.heap.size + 1) [.int .i64 e.client, .int .i64 e.seq, u]) := Lib.hid ((HXb1.out.alloc _).at hb2)
  clear Zb1 Kb1_0 Kb1_1 Kb1_2
  have Zb1 := HXb1.out.lt
  obtain ⟨Kb1_0, Kb1_1, Kb1_2⟩ := HXb1.out.c3
  replace HXb2 : Hid (Bx w2 (w.heap.size + 2) [.int .i64 0, .int .i64 0, .bool false, .slice none 0 0]) := Lib.hid ((HXb2.out.alloc _).at hb2)
  clear Zb2 Kb2_0 Kb2_1 Kb2_2 Kb2_3 Gb2_0 Gb2_1 Gb2_2 Gb2_3
  have Zb2 := HXb2.out.lt
  obtain ⟨Kb2_0, Kb2_1, Kb2_2, Kb2_3⟩ := HXb2.out.c4
  obtain ⟨Gb2_0, Gb2_1, Gb2_2, Gb2_3⟩ := HXb2.out.f4
  have HXb3 : Hid (Bx w2 (w1.heap.size) [.int .i64 r.cap, .int .i64 r.next, .bool r.out, .slice a1 r.list.length c1]) := Lib.hid ((Bx.new (by first | rfl | simp | omega)).at hb2)
  have Zb3 := HXb3.out.lt
  obtain ⟨Kb3_0, Kb3_1, Kb3_2, Kb3_3⟩ := HXb3.out.c4
  obtain ⟨Gb3_0, Gb3_1, Gb3_2, Gb3_3⟩ := HXb3.out.f4
  have HBW := HBN
  clear HBN
  clear hb2
  go_wp2
  rw [HV.out]
  have HB : Hid (Below w.heap.size w ((((w2.setCell ⟨w.heap.size + 2, 0, none⟩ (.int .i64 r.cap)).setCell ⟨w.heap.size + 2, 1, none⟩ (.int .i64 r.next)).setCell ⟨w.heap.size + 2, 2, none⟩ (.bool r.out)).setCell ⟨w.heap.size + 2, 3, none⟩ (.slice a1 r.list.length c1))) := Lib.hid ((((HBW.out.setCell om _).setCell om _).setCell om _).setCell om _)
  obtain ⟨f, sf, ff⟩ := ((((HO.out.setCell (b := w.heap.size + 2) (o := 0) (by omega) (.int .i64 r.cap)).setCell (b := w.heap.size + 2) (o := 1) (by omega) (.int .i64 r.next)).setCell (b := w.heap.size + 2) (o := 2) (by omega) (.bool r.out)).setCell (b := w.heap.size + 2) (o := 3) (by omega) (.slice a1 r.list.length c1)).own
  exact bodyPost_ret (v := .agg #[.int .i64 r.cap, .int .i64 r.next, .bool r.out, .slice a1 r.list.length c1]) (by simp [results, Try.results8, go_sem, cell_setCell, *]) rfl ⟨_, f, rfl, sf, ff.mono (by omega), HB.out⟩
set_option maxHeartbeats 4000000 in
set_option maxRecDepth 100000 in
theorem impl_RingPush_B (r : DRing) (e : DEntry) (v u : Value) (w : World) (h : RdS w v r.list) (k : RdS w u e.o) (hs : szL r.list ≤ 4000000) (_ks : szL e.o ≤ 3999999) (h1 : ringOk r = true) (h2 : entryOk e = false) :
    Calls Try.prog 8 #[.agg #[.int .i64 r.cap, .int .i64 r.next, .bool r.out, v], .agg #[.int .i64 e.client, .int .i64 e.seq, u]] w (Out_Ring w (ringPush r e)) := by
  have hl := fun w1 ty => h.len Try.underlying23 w1 ty
  have HV := Lib.hid (ringPush_no (r := r) (e := e) fun h => by rw [h2] at h; cases h.2.1)
  go_enter Try.func8, Try.ntmps8
  go_wp2_with fail
  refine (impl_copyRing_c r _ _ (h.below ((((Below.refl w.heap.size w).alloc om _).alloc om _).alloc om _)) hs).mono ?_
  rintro e' w1 ⟨_, rfl, ho, hb1⟩
  obtain ⟨v1, rfl, ho1⟩ := inv_own_DRing ho
  obtain ⟨a1, c1, rfl⟩ := ho1.rd.isSlice
  have HO : Hid (OwnB (w.heap.size + 3) w1.heap.size w1 (.slice a1 r.list.length c1) r.list) := Lib.hid (ho1.mono (by simp)).bd
  clear ho ho1
  have s1 : w.heap.size + 3 ≤ w1.heap.size := by have := hb1.size; (try simp at this); omega
  have HBN : Hid (Below w.heap.size w w1) := Lib.hid (((((Below.refl w.heap.size w).alloc om _).alloc om _).alloc om _).trans (hb1.mono om))
  have HXb0 : Hid (Bx w1 (w.heap.size) [.int .i64 r.cap, .int .i64 r.next, .bool r.out, v]) := Lib.hid ((((Bx.new (by first | rfl | simp | omega)).alloc _).alloc _).at hb1)
  have Zb0 := HXb0.out.lt
  obtain ⟨Kb0_0, Kb0_1, Kb0_2, Kb0_3⟩ := HXb0.out.c4
  have HXb1 : Hid (Bx w1 (w.heap.size + 1) [.int .i64 e.client, .int .i64 e.seq, u]) := Lib.hid (((Bx.new (by first | rfl | simp | omega)).alloc _).at hb1)
  have Zb1 := HXb1.out.lt
  obtain ⟨Kb1_0, Kb1_1, Kb1_2⟩ := HXb1.out.c3
  have HXb2 : Hid (Bx w1 (w.heap.size + 2) [.int .i64 0, .int .i64 0, .bool false, .slice none 0 0]) := Lib.hid ((Bx.new (by first | rfl | simp | omega)).at hb1)
  have Zb2 := HXb2.out.lt
  obtain ⟨Kb2_0, Kb2_1, Kb2_2, Kb2_3⟩ := HXb2.out.c4
  obtain ⟨Gb2_0, Gb2_1, Gb2_2, Gb2_3⟩ := HXb2.out.f4
  have HBW := HBN
  clear HBN
  clear hb1
  go_wp2_with fail
  refine (impl_RingOk_c r _ _ (h.below (HBW.out.alloc om _))).mono ?_
  rintro e' w2 ⟨rfl, hb2⟩
  rw [h1]
  have s2 : w1.heap.size + 1 ≤ w2.heap.size := by have := hb2.size; (try simp at this); omega
  have R2 : Hid (Below w1.heap.size w1 w2) := Lib.hid (((Below.refl w1.heap.size w1).alloc om _).trans (hb2.mono om))
  have HBN : Hid (Below w.heap.size w w2) := Lib.hid ((HBW.out.alloc om _).trans (hb2.mono om))
  clear HBW
  replace HO : Hid (OwnB (w.heap.size + 3) (w1.heap.size) w2 (.slice a1 r.list.length c1) (r.list)) := Lib.hid ((HO.out.alloc _).below hb2)
  replace HXb0 : Hid (Bx w2 (w.heap.size) [.int .i64 r.cap, .int .i64 r.next, .bool r.out, v]) := Lib.hid ((HXb0.out.alloc _).at hb2)
  clear Zb0 Kb0_0 Kb0_1 Kb0_2 Kb0_3
  have Zb0 := HXb0.out.lt
  obtain ⟨Kb0_0, Kb0_1, Kb0_2, Kb0_3⟩ := HXb0.out.c4
  replace HXb1 : Hid (Bx w2 (w.heap.size + 1) [.int .i64 e.client, .int .i64 e.seq, u]) := Lib.hid ((HXb1.out.alloc _).at hb2)
  clear Zb1 Kb1_0 Kb1_1 Kb1_2
  have Zb1 := HXb1.out.lt
  obtain ⟨Kb1_0, Kb1_1, Kb1_2⟩ := HXb1.out.c3
  replace HXb2 : Hid (Bx w2 (w.heap.size + 2) [.int .i64 0, .int .i64 0, .bool false, .slice none 0 0]) := Lib.hid ((HXb2.out.alloc _).at hb2)
  clear Zb2 Kb2_0 Kb2_1 Kb2_2 Kb2_3 Gb2_0 Gb2_1 Gb2_2 Gb2_3
  have Zb2 := HXb2.out.lt
  obtain ⟨Kb2_0, Kb2_1, Kb2_2, Kb2_3⟩ := HXb2.out.c4
  obtain ⟨Gb2_0, Gb2_1, Gb2_2, Gb2_3⟩ := HXb2.out.f4
  have HXb3 : Hid (Bx w2 (w1.heap.size) [.int .i64 r.cap, .int .i64 r.next, .bool r.out, .slice a1 r.list.length c1]) := Lib.hid ((Bx.new (by first | rfl | simp | omega)).at hb2)
  have Zb3 := HXb3.out.lt
  obtain ⟨Kb3_0, Kb3_1, Kb3_2, Kb3_3⟩ := HXb3.out.c4
  obtain ⟨Gb3_0, Gb3_1, Gb3_2, Gb3_3⟩ := HXb3.out.f4
  have HBW := HBN
  clear HBN
  clear hb2
  go_wp2_with fail
  refine (impl_EntryOk_c e _ _ (k.below HBW.out)).mono ?_
  rintro e' w3 ⟨rfl, hb3⟩
  rw [h2]
  have s3 : w2.heap.size ≤ w3.heap.size := by have := hb3.size; (try simp at this); omega
  have R3 : Hid (Below w2.heap.size w2 w3) := Lib.hid ((Below.refl w2.heap.size w2).trans (hb3.mono om))
  have HBN : Hid (Below w.heap.size w w3) := Lib.hid (HBW.out.trans (hb3.mono om))
  clear HBW
  replace HO : Hid (OwnB (w.heap.size + 3) (w1.heap.size) w3 (.slice a1 r.list.length c1) (r.list)) := Lib.hid (HO.out.below hb3)
  replace HXb0 : Hid (Bx w3 (w.heap.size) [.int .i64 r.cap, .int .i64 r.next, .bool r.out, v]) := Lib.hid (HXb0.out.at hb3)
  clear Zb0 Kb0_0 Kb0_1 Kb0_2 Kb0_3
  have Zb0 := HXb0.out.lt
  obtain ⟨Kb0_0, Kb0_1, Kb0_2, Kb0_3⟩ := HXb0.out.c4
  replace HXb1 : Hid (Bx w3 (w.heap.size + 1) [.int .i64 e.client, .int .i64 e.seq, u]) := Lib.hid (HXb1.out.at hb3)
  clear Zb1 Kb1_0 Kb1_1 Kb1_2
  have Zb1 := HXb1.out.lt
  obtain ⟨Kb1_0, Kb1_1, Kb1_2⟩ := HXb1.out.c3
  replace HXb2 : Hid (Bx w3 (w.heap.size + 2) [.int .i64 0, .int .i64 0, .bool false, .slice none 0 0]) := Lib.hid (HXb2.out.at hb3)
  clear Zb2 Kb2_0 Kb2_1 Kb2_2 Kb2_3 Gb2_0 Gb2_1 Gb2_2 Gb2_3
  have Zb2 := HXb2.out.lt
  obtain ⟨Kb2_0, Kb2_1, Kb2_2, Kb2_3⟩ := HXb2.out.c4
  obtain ⟨Gb2_0, Gb2_1, Gb2_2, Gb2_3⟩ := HXb2.out.f4
  replace HXb3 : Hid (Bx w3 (w1.heap.size) [.int .i64 r.cap, .int .i64 r.next, .bool r.out, .slice a1 r.list.length c1]) := Lib.hid (HXb3.out.at hb3)
  clear Zb3 Kb3_0 Kb3_1 Kb3_2 Kb3_3 Gb3_0 Gb3_1 Gb3_2 Gb3_3
  have Zb3 := HXb3.out.lt
  obtain ⟨Kb3_0, Kb3_1, Kb3_2, Kb3_3⟩ := HXb3.out.c4
  obtain ⟨Gb3_0, Gb3_1, Gb3_2, Gb3_3⟩ := HXb3.out.f4
  have HBW := HBN
  clear HBN
  clear hb3
  go_wp2
  rw [HV.out]
  have HB : Hid (Below w.heap.size w ((((w3.setCell ⟨w.heap.size + 2, 0, none⟩ (.int .i64 r.cap)).setCell ⟨w.heap.size + 2, 1, none⟩ (.int .i64 r.next)).setCell ⟨w.heap.size + 2, 2, none⟩ (.bool r.out)).setCell ⟨w.heap.size + 2, 3, none⟩ (.slice a1 r.list.length c1))) := Lib.hid ((((HBW.out.setCell om _).setCell om _).setCell om _).setCell om _)
  obtain ⟨f, sf, ff⟩ := ((((HO.out.setCell (b := w.heap.size + 2) (o := 0) (by omega) (.int .i64 r.cap)).setCell (b := w.heap.size + 2) (o := 1) (by omega) (.int .i64 r.next)).setCell (b := w.heap.size + 2) (o := 2) (by omega) (.bool r.out)).setCell (b := w.heap.size + 2) (o := 3) (by omega) (.slice a1 r.list.length c1)).own
  exact bodyPost_ret (v := .agg #[.int .i64 r.cap, .int .i64 r.next, .bool r.out, .slice a1 r.list.length c1]) (by simp [results, Try.results8, go_sem, cell_setCell, *]) rfl ⟨_, f, rfl, sf, ff.mono (by omega), HB.out⟩
set_option maxHeartbeats 4000000 in
set_option maxRecDepth 100000 in
theorem impl_RingPush_C (cap next : Int) (l : List DEntry) (e : DEntry) (v u : Value) (w : World) (h : RdS w v l) (k : RdS w u e.o) (hs : szL l ≤ 4000000) (_ks : szL e.o ≤ 3999999) (h1 : ringOk (⟨cap, next, true, l⟩ : DRing) = true) (h2 : entryOk e = true) :
    Calls Try.prog 8 #[.agg #[.int .i64 cap, .int .i64 next, .bool true, v], .agg #[.int .i64 e.client, .int .i64 e.seq, u]] w (Out_Ring w (ringPush (⟨cap, next, true, l⟩ : DRing) e)) := by
  have hl := fun w1 ty => h.len Try.underlying23 w1 ty
  have HV := Lib.hid (ringPush_no (r := (⟨cap, next, true, l⟩ : DRing)) (e := e) fun h => by cases h.2.2)
  go_enter Try.func8, Try.ntmps8
  go_wp2_with fail
  refine (impl_copyRing_c (⟨cap, next, true, l⟩ : DRing) _ _ (h.below ((((Below.refl w.heap.size w).alloc om _).alloc om _).alloc om _)) hs).mono ?_
  rintro e' w1 ⟨_, rfl, ho, hb1⟩
  obtain ⟨v1, rfl, ho1⟩ := inv_own_DRing ho
  obtain ⟨a1, c1, rfl⟩ := ho1.rd.isSlice
  have HO : Hid (OwnB (w.heap.size + 3) w1.heap.size w1 (.slice a1 l.length c1) l) := Lib.hid (ho1.mono (by simp)).bd
  clear ho ho1
  have s1 : w.heap.size + 3 ≤ w1.heap.size := by have := hb1.size; (try simp at this); omega
  have HBN : Hid (Below w.heap.size w w1) := Lib.hid (((((Below.refl w.heap.size w).alloc om _).alloc om _).alloc om _).trans (hb1.mono om))
  have HXb0 : Hid (Bx w1 (w.heap.size) [.int .i64 cap, .int .i64 next, .bool true, v]) := Lib.hid ((((Bx.new (by first | rfl | simp | omega)).alloc _).alloc _).at hb1)
  have Zb0 := HXb0.out.lt
  obtain ⟨Kb0_0, Kb0_1, Kb0_2, Kb0_3⟩ := HXb0.out.c4
  have HXb1 : Hid (Bx w1 (w.heap.size + 1) [.int .i64 e.client, .int .i64 e.seq, u]) := Lib.hid (((Bx.new (by first | rfl | simp | omega)).alloc _).at hb1)
  have Zb1 := HXb1.out.lt
  obtain ⟨Kb1_0, Kb1_1, Kb1_2⟩ := HXb1.out.c3
  have HXb2 : Hid (Bx w1 (w.heap.size + 2) [.int .i64 0, .int .i64 0, .bool false, .slice none 0 0]) := Lib.hid ((Bx.new (by first | rfl | simp | omega)).at hb1)
  have Zb2 := HXb2.out.lt
  obtain ⟨Kb2_0, Kb2_1, Kb2_2, Kb2_3⟩ := HXb2.out.c4
  obtain ⟨Gb2_0, Gb2_1, Gb2_2, Gb2_3⟩ := HXb2.out.f4
  have HBW := HBN
  clear HBN
  clear hb1
  go_wp2_with fail
  refine (impl_RingOk_c (⟨cap, next, true, l⟩ : DRing) _ _ (h.below (HBW.out.alloc om _))).mono ?_
  rintro e' w2 ⟨rfl, hb2⟩
  rw [h1]
  have s2 : w1.heap.size + 1 ≤ w2.heap.size := by have := hb2.size; (try simp at this); omega
  have R2 : Hid (Below w1.heap.size w1 w2) := Lib.hid (((Below.refl w1.heap.size w1).alloc om _).trans (hb2.mono om))
  have HBN : Hid (Below w.heap.size w w2) := Lib.hid ((HBW.out.alloc om _).trans (hb2.mono om))
  clear HBW
  replace HO : Hid (OwnB (w.heap.size + 3) (w1.heap.size) w2 (.slice a1 l.length c1) (l)) := Lib.hid ((HO.out.alloc _).below hb2)
  replace HXb0 : Hid (Bx w2 (w.heap.size) [.int .i64 cap, .int .i64 next, .bool true, v]) := Lib.hid ((HXb0.out.alloc _).at hb2)
  clear Zb0 Kb0_0 Kb0_1 Kb0_2 Kb0_3
  have Zb0 := HXb0.out.lt
  obtain ⟨Kb0_0, Kb0_1, Kb0_2, Kb0_3⟩ := HXb0.out.c4
  replace HXb1 : Hid (Bx w2 (w.heap.size + 1) [.int .i64 e.client, .int .i64 e.seq, u]) := Lib.hid ((HXb1.out.alloc _).at hb2)
  clear Zb1 Kb1_0 Kb1_1 Kb1_2
  have Zb1 := HXb1.out.lt
  obtain ⟨Kb1_0, Kb1_1, Kb1_2⟩ := HXb1.out.c3
  replace HXb2 : Hid (Bx w2 (w.heap.size + 2) [.int .i64 0, .int .i64 0, .bool false, .slice none 0 0]) := Lib.hid ((HXb2.out.alloc _).at hb2)
  clear Zb2 Kb2_0 Kb2_1 Kb2_2 Kb2_3 Gb2_0 Gb2_1 Gb2_2 Gb2_3
  have Zb2 := HXb2.out.lt
  obtain ⟨Kb2_0, Kb2_1, Kb2_2, Kb2_3⟩ := HXb2.out.c4
  obtain ⟨Gb2_0, Gb2_1, Gb2_2, Gb2_3⟩ := HXb2.out.f4
  have HXb3 : Hid (Bx w2 (w1.heap.size) [.int .i64 cap, .int .i64 next, .bool true, .slice a1 l.length c1]) := Lib.hid ((Bx.new (by first | rfl | simp | omega)).at hb2)
  have Zb3 := HXb3.out.lt
  obtain ⟨Kb3_0, Kb3_1, Kb3_2, Kb3_3⟩ := HXb3.out.c4
  obtain ⟨Gb3_0, Gb3_1, Gb3_2, Gb3_3⟩ := HXb3.out.f4
  have HBW := HBN
  clear HBN
  clear hb2
  go_wp2_with fail
  refine (impl_EntryOk_c e _ _ (k.below HBW.out)).mono ?_
  rintro e' w3 ⟨rfl, hb3⟩
  rw [h2]
  have s3 : w2.heap.size ≤ w3.heap.size := by have := hb3.size; (try simp at this); omega
  have R3 : Hid (Below w2.heap.size w2 w3) := Lib.hid ((Below.refl w2.heap.size w2).trans (hb3.mono om))
  have HBN : Hid (Below w.heap.size w w3) := Lib.hid (HBW.out.trans (hb3.mono om))
  clear HBW
  replace HO : Hid (OwnB (w.heap.size + 3) (w1.heap.size) w3 (.slice a1 l.length c1) (l)) := Lib.hid (HO.out.below hb3)
  replace HXb0 : Hid (Bx w3 (w.heap.size) [.int .i64 cap, .int .i64 next, .bool true, v]) := Lib.hid (HXb0.out.at hb3)
  clear Zb0 Kb0_0 Kb0_1 Kb0_2 Kb0_3
  have Zb0 := HXb0.out.lt
  obtain ⟨Kb0_0, Kb0_1, Kb0_2, Kb0_3⟩ := HXb0.out.c4
  replace HXb1 : Hid (Bx w3 (w.heap.size + 1) [.int .i64 e.client, .int .i64 e.seq, u]) := Lib.hid (HXb1.out.at hb3)
  clear Zb1 Kb1_0 Kb1_1 Kb1_2
  have Zb1 := HXb1.out.lt
  obtain ⟨Kb1_0, Kb1_1, Kb1_2⟩ := HXb1.out.c3
  replace HXb2 : Hid (Bx w3 (w.heap.size + 2) [.int .i64 0, .int .i64 0, .bool false, .slice none 0 0]) := Lib.hid (HXb2.out.at hb3)
  clear Zb2 Kb2_0 Kb2_1 Kb2_2 Kb2_3 Gb2_0 Gb2_1 Gb2_2 Gb2_3
  have Zb2 := HXb2.out.lt
  obtain ⟨Kb2_0, Kb2_1, Kb2_2, Kb2_3⟩ := HXb2.out.c4
  obtain ⟨Gb2_0, Gb2_1, Gb2_2, Gb2_3⟩ := HXb2.out.f4
  replace HXb3 : Hid (Bx w3 (w1.heap.size) [.int .i64 cap, .int .i64 next, .bool true, .slice a1 l.length c1]) := Lib.hid (HXb3.out.at hb3)
  clear Zb3 Kb3_0 Kb3_1 Kb3_2 Kb3_3 Gb3_0 Gb3_1 Gb3_2 Gb3_3
  have Zb3 := HXb3.out.lt
  obtain ⟨Kb3_0, Kb3_1, Kb3_2, Kb3_3⟩ := HXb3.out.c4
  obtain ⟨Gb3_0, Gb3_1, Gb3_2, Gb3_3⟩ := HXb3.out.f4
  have HBW := HBN
  clear HBN
  clear hb3
  go_wp2
  rw [HV.out]
  have HB : Hid (Below w.heap.size w ((((w3.setCell ⟨w.heap.size + 2, 0, none⟩ (.int .i64 cap)).setCell ⟨w.heap.size + 2, 1, none⟩ (.int .i64 next)).setCell ⟨w.heap.size + 2, 2, none⟩ (.bool true)).setCell ⟨w.heap.size + 2, 3, none⟩ (.slice a1 l.length c1))) := Lib.hid ((((HBW.out.setCell om _).setCell om _).setCell om _).setCell om _)
  obtain ⟨f, sf, ff⟩ := ((((HO.out.setCell (b := w.heap.size + 2) (o := 0) (by omega) (.int .i64 cap)).setCell (b := w.heap.size + 2) (o := 1) (by omega) (.int .i64 next)).setCell (b := w.heap.size + 2) (o := 2) (by omega) (.bool true)).setCell (b := w.heap.size + 2) (o := 3) (by omega) (.slice a1 l.length c1)).own
  exact bodyPost_ret (v := .agg #[.int .i64 cap, .int .i64 next, .bool true, .slice a1 l.length c1]) (by simp [results, Try.results8, go_sem, cell_setCell, *]) rfl ⟨_, f, rfl, sf, ff.mono (by omega), HB.out⟩
set_option maxHeartbeats 4000000 in
set_option maxRecDepth 100000 in
theorem impl_RingPush_D (cap next : Int) (l : List DEntry) (e : DEntry) (v u : Value) (w : World) (h : RdS w v l) (k : RdS w u e.o) (hs : szL l ≤ 4000000) (_ks : szL e.o ≤ 3999999) (h1 : ringOk (⟨cap, next, false, l⟩ : DRing) = true) (h2 : entryOk e = true) (h4 : (l.length : Int) = cap) :
    Calls Try.prog 8 #[.agg #[.int .i64 cap, .int .i64 next, .bool false, v], .agg #[.int .i64 e.client, .int .i64 e.seq, u]] w (Out_Ring w (ringPush (⟨cap, next, false, l⟩ : DRing) e)) := by
  have hl := fun w1 ty => h.len Try.underlying23 w1 ty
  have hl6 := ringOk_len h1
  simp only at hl6
  have HV := Lib.hid (ringPush_full (r := (⟨cap, next, false, l⟩ : DRing)) ⟨h1, h2, rfl⟩ h4)
  have h4a : ((l.length : Int) == cap) = true := by simpa using h4
  clear h4
  go_enter Try.func8, Try.ntmps8
  go_wp2_with fail
  refine (impl_copyRing_c (⟨cap, next, false, l⟩ : DRing) _ _ (h.below ((((Below.refl w.heap.size w).alloc om _).alloc om _).alloc om _)) hs).mono ?_
  rintro e' w1 ⟨_, rfl, ho, hb1⟩
  obtain ⟨v1, rfl, ho1⟩ := inv_own_DRing ho
  obtain ⟨a1, c1, rfl⟩ := ho1.rd.isSlice
  have HO : Hid (OwnB (w.heap.size + 3) w1.heap.size w1 (.slice a1 l.length c1) l) := Lib.hid (ho1.mono (by simp)).bd
  clear ho ho1
  have s1 : w.heap.size + 3 ≤ w1.heap.size := by have := hb1.size; (try simp at this); omega
  have HBN : Hid (Below w.heap.size w w1) := Lib.hid (((((Below.refl w.heap.size w).alloc om _).alloc om _).alloc om _).trans (hb1.mono om))
  have HXb0 : Hid (Bx w1 (w.heap.size) [.int .i64 cap, .int .i64 next, .bool false, v]) := Lib.hid ((((Bx.new (by first | rfl | simp | omega)).alloc _).alloc _).at hb1)
  have Zb0 := HXb0.out.lt
  obtain ⟨Kb0_0, Kb0_1, Kb0_2, Kb0_3⟩ := HXb0.out.c4
  have HXb1 : Hid (Bx w1 (w.heap.size + 1) [.int .i64 e.client, .int .i64 e.seq, u]) := Lib.hid (((Bx.new (by first | rfl | simp | omega)).alloc _).at hb1)
  have Zb1 := HXb1.out.lt
  obtain ⟨Kb1_0, Kb1_1, Kb1_2⟩ := HXb1.out.c3
  have HXb2 : Hid (Bx w1 (w.heap.size + 2) [.int .i64 0, .int .i64 0, .bool false, .slice none 0 0]) := Lib.hid ((Bx.new (by first | rfl | simp | omega)).at hb1)
  have Zb2 := HXb2.out.lt
  obtain ⟨Kb2_0, Kb2_1, Kb2_2, Kb2_3⟩ := HXb2.out.c4
  obtain ⟨Gb2_0, Gb2_1, Gb2_2, Gb2_3⟩ := HXb2.out.f4
  have HBW := HBN
  clear HBN
  clear hb1
  go_wp2_with fail
  refine (impl_RingOk_c (⟨cap, next, false, l⟩ : DRing) _ _ (h.below (HBW.out.alloc om _))).mono ?_
  rintro e' w2 ⟨rfl, hb2⟩
  rw [h1]
  have s2 : w1.heap.size + 1 ≤ w2.heap.size := by have := hb2.size; (try simp at this); omega
  have R2 : Hid (Below w1.heap.size w1 w2) := Lib.hid (((Below.refl w1.heap.size w1).alloc om _).trans (hb2.mono om))
  have HBN : Hid (Below w.heap.size w w2) := Lib.hid ((HBW.out.alloc om _).trans (hb2.mono om))
  clear HBW
  replace HO : Hid (OwnB (w.heap.size + 3) (w1.heap.size) w2 (.slice a1 l.length c1) (l)) := Lib.hid ((HO.out.alloc _).below hb2)
  replace HXb0 : Hid (Bx w2 (w.heap.size) [.int .i64 cap, .int .i64 next, .bool false, v]) := Lib.hid ((HXb0.out.alloc _).at hb2)
  clear Zb0 Kb0_0 Kb0_1 Kb0_2 Kb0_3
  have Zb0 := HXb0.out.lt
  obtain ⟨Kb0_0, Kb0_1, Kb0_2, Kb0_3⟩ := HXb0.out.c4
  replace HXb1 : Hid (Bx w2 (w.heap.size + 1) [.int .i64 e.client, .int .i64 e.seq, u]) := Lib.hid ((HXb1.out.alloc _).at hb2)
  clear Zb1 Kb1_0 Kb1_1 Kb1_2
  have Zb1 := HXb1.out.lt
  obtain ⟨Kb1_0, Kb1_1, Kb1_2⟩ := HXb1.out.c3
  replace HXb2 : Hid (Bx w2 (w.heap.size + 2) [.int .i64 0, .int .i64 0, .bool false, .slice none 0 0]) := Lib.hid ((HXb2.out.alloc _).at hb2)
  clear Zb2 Kb2_0 Kb2_1 Kb2_2 Kb2_3 Gb2_0 Gb2_1 Gb2_2 Gb2_3
  have Zb2 := HXb2.out.lt
  obtain ⟨Kb2_0, Kb2_1, Kb2_2, Kb2_3⟩ := HXb2.out.c4
  obtain ⟨Gb2_0, Gb2_1, Gb2_2, Gb2_3⟩ := HXb2.out.f4
  have HXb3 : Hid (Bx w2 (w1.heap.size) [.int .i64 cap, .int .i64 next, .bool false, .slice a1 l.length c1]) := Lib.hid ((Bx.new (by first | rfl | simp | omega)).at hb2)
  have Zb3 := HXb3.out.lt
  obtain ⟨Kb3_0, Kb3_1, Kb3_2, Kb3_3⟩ := HXb3.out.c4
  obtain ⟨Gb3_0, Gb3_1, Gb3_2, Gb3_3⟩ := HXb3.out.f4
  have HBW := HBN
  clear HBN
  clear hb2
  go_wp2_with fail
  refine (impl_EntryOk_c e _ _ (k.below HBW.out)).mono ?_
  rintro e' w3 ⟨rfl, hb3⟩
  rw [h2]
  have s3 : w2.heap.size ≤ w3.heap.size := by have := hb3.size; (try simp at this); omega
  have R3 : Hid (Below w2.heap.size w2 w3) := Lib.hid ((Below.refl w2.heap.size w2).trans (hb3.mono om))
  have HBN : Hid (Below w.heap.size w w3) := Lib.hid (HBW.out.trans (hb3.mono om))
  clear HBW
  replace HO : Hid (OwnB (w.heap.size + 3) (w1.heap.size) w3 (.slice a1 l.length c1) (l)) := Lib.hid (HO.out.below hb3)
  replace HXb0 : Hid (Bx w3 (w.heap.size) [.int .i64 cap, .int .i64 next, .bool false, v]) := Lib.hid (HXb0.out.at hb3)
  clear Zb0 Kb0_0 Kb0_1 Kb0_2 Kb0_3
  have Zb0 := HXb0.out.lt
  obtain ⟨Kb0_0, Kb0_1, Kb0_2, Kb0_3⟩ := HXb0.out.c4
  replace HXb1 : Hid (Bx w3 (w.heap.size + 1) [.int .i64 e.client, .int .i64 e.seq, u]) := Lib.hid (HXb1.out.at hb3)
  clear Zb1 Kb1_0 Kb1_1 Kb1_2
  have Zb1 := HXb1.out.lt
  obtain ⟨Kb1_0, Kb1_1, Kb1_2⟩ := HXb1.out.c3
  replace HXb2 : Hid (Bx w3 (w.heap.size + 2) [.int .i64 0, .int .i64 0, .bool false, .slice none 0 0]) := Lib.hid (HXb2.out.at hb3)
  clear Zb2 Kb2_0 Kb2_1 Kb2_2 Kb2_3 Gb2_0 Gb2_1 Gb2_2 Gb2_3
  have Zb2 := HXb2.out.lt
  obtain ⟨Kb2_0, Kb2_1, Kb2_2, Kb2_3⟩ := HXb2.out.c4
  obtain ⟨Gb2_0, Gb2_1, Gb2_2, Gb2_3⟩ := HXb2.out.f4
  replace HXb3 : Hid (Bx w3 (w1.heap.size) [.int .i64 cap, .int .i64 next, .bool false, .slice a1 l.length c1]) := Lib.hid (HXb3.out.at hb3)
  clear Zb3 Kb3_0 Kb3_1 Kb3_2 Kb3_3 Gb3_0 Gb3_1 Gb3_2 Gb3_3
  have Zb3 := HXb3.out.lt
  obtain ⟨Kb3_0, Kb3_1, Kb3_2, Kb3_3⟩ := HXb3.out.c4
  obtain ⟨Gb3_0, Gb3_1, Gb3_2, Gb3_3⟩ := HXb3.out.f4
  have HBW := HBN
  clear HBN
  clear hb3
  go_wp2
  rw [HV.out]
  have hne : ¬ (w.heap.size + 1 + 1 = w1.heap.size) := by omega
  have hne2 : ¬ (w1.heap.size = w.heap.size + 1 + 1) := by omega
  have HB : Hid (Below w.heap.size w ((((((w3.setCell ⟨w1.heap.size, 2, none⟩ (.bool true)).setCell ⟨w1.heap.size, 3, none⟩ (.slice none 0 0)).setCell ⟨w.heap.size + 2, 0, none⟩ (.int .i64 cap)).setCell ⟨w.heap.size + 2, 1, none⟩ (.int .i64 next)).setCell ⟨w.heap.size + 2, 2, none⟩ (.bool true)).setCell ⟨w.heap.size + 2, 3, none⟩ (.slice none 0 0))) := Lib.hid ((((((HBW.out.setCell om _).setCell om _).setCell om _).setCell om _).setCell om _).setCell om _)
  exact bodyPost_ret (v := .agg #[.int .i64 cap, .int .i64 next, .bool true, .slice none 0 0]) (by simp [results, Try.results8, go_sem, cell_setCell, *]) rfl ⟨_, [], rfl, Sl.nil, Fresh.nil _ _, HB.out⟩
set_option maxHeartbeats 4000000 in
set_option maxRecDepth 100000 in
theorem impl_RingPush_E (cap next : Int) (l : List DEntry) (e : DEntry) (v u : Value) (w : World) (h : RdS w v l) (k : RdS w u e.o) (hs : szL l ≤ 4000000) (ks : szL e.o ≤ 3999999) (h1 : ringOk (⟨cap, next, false, l⟩ : DRing) = true) (h2 : entryOk e = true) (h4 : ¬ (l.length : Int) = cap) :
    Calls Try.prog 8 #[.agg #[.int .i64 cap, .int .i64 next, .bool false, v], .agg #[.int .i64 e.client, .int .i64 e.seq, u]] w (Out_Ring w (ringPush (⟨cap, next, false, l⟩ : DRing) e)) := by
  have hl := fun w1 ty => h.len Try.underlying23 w1 ty
  have hl6 := ringOk_len h1
  simp only at hl6
  have HV := Lib.hid (ringPush_app (r := (⟨cap, next, false, l⟩ : DRing)) ⟨h1, h2, rfl⟩ h4)
  have h4a : ((l.length : Int) == cap) = false := by simpa using h4
  clear h4
  obtain ⟨i0, hi, hz0, hz1, hz2⟩ := info_parts info_DEntry
  go_enter Try.func8, Try.ntmps8
  go_wp2_with fail
  refine (impl_copyRing_c (⟨cap, next, false, l⟩ : DRing) _ _ (h.below ((((Below.refl w.heap.size w).alloc om _).alloc om _).alloc om _)) hs).mono ?_
  rintro e' w1 ⟨_, rfl, ho, hb1⟩
  obtain ⟨v1, rfl, ho1⟩ := inv_own_DRing ho
  obtain ⟨a1, c1, rfl⟩ := ho1.rd.isSlice
  have HO : Hid (OwnB (w.heap.size + 3) w1.heap.size w1 (.slice a1 l.length c1) l) := Lib.hid (ho1.mono (by simp)).bd
  clear ho ho1
  have s1 : w.heap.size + 3 ≤ w1.heap.size := by have := hb1.size; (try simp at this); omega
  have HBN : Hid (Below w.heap.size w w1) := Lib.hid (((((Below.refl w.heap.size w).alloc om _).alloc om _).alloc om _).trans (hb1.mono om))
  have HXb0 : Hid (Bx w1 (w.heap.size) [.int .i64 cap, .int .i64 next, .bool false, v]) := Lib.hid ((((Bx.new (by first | rfl | simp | omega)).alloc _).alloc _).at hb1)
  have Zb0 := HXb0.out.lt
  obtain ⟨Kb0_0, Kb0_1, Kb0_2, Kb0_3⟩ := HXb0.out.c4
  have HXb1 : Hid (Bx w1 (w.heap.size + 1) [.int .i64 e.client, .int .i64 e.seq, u]) := Lib.hid (((Bx.new (by first | rfl | simp | omega)).alloc _).at hb1)
  have Zb1 := HXb1.out.lt
  obtain ⟨Kb1_0, Kb1_1, Kb1_2⟩ := HXb1.out.c3
  have HXb2 : Hid (Bx w1 (w.heap.size + 2) [.int .i64 0, .int .i64 0, .bool false, .slice none 0 0]) := Lib.hid ((Bx.new (by first | rfl | simp | omega)).at hb1)
  have Zb2 := HXb2.out.lt
  obtain ⟨Kb2_0, Kb2_1, Kb2_2, Kb2_3⟩ := HXb2.out.c4
  obtain ⟨Gb2_0, Gb2_1, Gb2_2, Gb2_3⟩ := HXb2.out.f4
  have HBW := HBN
  clear HBN
  clear hb1
  go_wp2_with fail
  refine (impl_RingOk_c (⟨cap, next, false, l⟩ : DRing) _ _ (h.below (HBW.out.alloc om _))).mono ?_
  rintro e' w2 ⟨rfl, hb2⟩
  rw [h1]
  have s2 : w1.heap.size + 1 ≤ w2.heap.size := by have := hb2.size; (try simp at this); omega
  have R2 : Hid (Below w1.heap.size w1 w2) := Lib.hid (((Below.refl w1.heap.size w1).alloc om _).trans (hb2.mono om))
  have HBN : Hid (Below w.heap.size w w2) := Lib.hid ((HBW.out.alloc om _).trans (hb2.mono om))
  clear HBW
  replace HO : Hid (OwnB (w.heap.size + 3) (w1.heap.size) w2 (.slice a1 l.length c1) (l)) := Lib.hid ((HO.out.alloc _).below hb2)
  replace HXb0 : Hid (Bx w2 (w.heap.size) [.int .i64 cap, .int .i64 next, .bool false, v]) := Lib.hid ((HXb0.out.alloc _).at hb2)
  clear Zb0 Kb0_0 Kb0_1 Kb0_2 Kb0_3
  have Zb0 := HXb0.out.lt
  obtain ⟨Kb0_0, Kb0_1, Kb0_2, Kb0_3⟩ := HXb0.out.c4
  replace HXb1 : Hid (Bx w2 (w.heap.size + 1) [.int .i64 e.client, .int .i64 e.seq, u]) := Lib.hid ((HXb1.out.alloc _).at hb2)
  clear Zb1 Kb1_0 Kb1_1 Kb1_2
  have Zb1 := HXb1.out.lt
  obtain ⟨Kb1_0, Kb1_1, Kb1_2⟩ := HXb1.out.c3
  replace HXb2 : Hid (Bx w2 (w.heap.size + 2) [.int .i64 0, .int .i64 0, .bool false, .slice none 0 0]) := Lib.hid ((HXb2.out.alloc _).at hb2)
  clear Zb2 Kb2_0 Kb2_1 Kb2_2 Kb2_3 Gb2_0 Gb2_1 Gb2_2 Gb2_3
  have Zb2 := HXb2.out.lt
  obtain ⟨Kb2_0, Kb2_1, Kb2_2, Kb2_3⟩ := HXb2.out.c4
  obtain ⟨Gb2_0, Gb2_1, Gb2_2, Gb2_3⟩ := HXb2.out.f4
  have HXb3 : Hid (Bx w2 (w1.heap.size) [.int .i64 cap, .int .i64 next, .bool false, .slice a1 l.length c1]) := Lib.hid ((Bx.new (by first | rfl | simp | omega)).at hb2)
  have Zb3 := HXb3.out.lt
  obtain ⟨Kb3_0, Kb3_1, Kb3_2, Kb3_3⟩ := HXb3.out.c4
  obtain ⟨Gb3_0, Gb3_1, Gb3_2, Gb3_3⟩ := HXb3.out.f4
  have HBW := HBN
  clear HBN
  clear hb2
  go_wp2_with fail
  refine (impl_EntryOk_c e _ _ (k.below HBW.out)).mono ?_
  rintro e' w3 ⟨rfl, hb3⟩
  rw [h2]
  have s3 : w2.heap.size ≤ w3.heap.size := by have := hb3.size; (try simp at this); omega
  have R3 : Hid (Below w2.heap.size w2 w3) := Lib.hid ((Below.refl w2.heap.size w2).trans (hb3.mono om))
  have HBN : Hid (Below w.heap.size w w3) := Lib.hid (HBW.out.trans (hb3.mono om))
  clear HBW
  replace HO : Hid (OwnB (w.heap.size + 3) (w1.heap.size) w3 (.slice a1 l.length c1) (l)) := Lib.hid (HO.out.below hb3)
  replace HXb0 : Hid (Bx w3 (w.heap.size) [.int .i64 cap, .int .i64 next, .bool false, v]) := Lib.hid (HXb0.out.at hb3)
  clear Zb0 Kb0_0 Kb0_1 Kb0_2 Kb0_3
  have Zb0 := HXb0.out.lt
  obtain ⟨Kb0_0, Kb0_1, Kb0_2, Kb0_3⟩ := HXb0.out.c4
  replace HXb1 : Hid (Bx w3 (w.heap.size + 1) [.int .i64 e.client, .int .i64 e.seq, u]) := Lib.hid (HXb1.out.at hb3)
  clear Zb1 Kb1_0 Kb1_1 Kb1_2
  have Zb1 := HXb1.out.lt
  obtain ⟨Kb1_0, Kb1_1, Kb1_2⟩ := HXb1.out.c3
  replace HXb2 : Hid (Bx w3 (w.heap.size + 2) [.int .i64 0, .int .i64 0, .bool false, .slice none 0 0]) := Lib.hid (HXb2.out.at hb3)
  clear Zb2 Kb2_0 Kb2_1 Kb2_2 Kb2_3 Gb2_0 Gb2_1 Gb2_2 Gb2_3
  have Zb2 := HXb2.out.lt
  obtain ⟨Kb2_0, Kb2_1, Kb2_2, Kb2_3⟩ := HXb2.out.c4
  obtain ⟨Gb2_0, Gb2_1, Gb2_2, Gb2_3⟩ := HXb2.out.f4
  replace HXb3 : Hid (Bx w3 (w1.heap.size) [.int .i64 cap, .int .i64 next, .bool false, .slice a1 l.length c1]) := Lib.hid (HXb3.out.at hb3)
  clear Zb3 Kb3_0 Kb3_1 Kb3_2 Kb3_3 Gb3_0 Gb3_1 Gb3_2 Gb3_3
  have Zb3 := HXb3.out.lt
  obtain ⟨Kb3_0, Kb3_1, Kb3_2, Kb3_3⟩ := HXb3.out.c4
  obtain ⟨Gb3_0, Gb3_1, Gb3_2, Gb3_3⟩ := HXb3.out.f4
  have HBW := HBN
  clear HBN
  clear hb3
  go_wp2_with fail
  obtain ⟨fs, hrow, hfs, hlt⟩ := HO.out.row
  have HROW := Lib.hid hrow
  have HFS := Lib.hid hfs
  have HLT := Lib.hid hlt
  clear hrow hfs hlt HO
  have HN : Hid (∀ j, ((w.heap.size + 1, j) : Pos) ∉ rowP (GoT.n DEntry) (.slice a1 l.length c1)) := Lib.hid fun j hm => by have := HROW.out.2.1.ge _ hm; simp at this; try omega
  have HN2 : Hid (∀ j, ((w1.heap.size, j) : Pos) ∉ rowP (GoT.n DEntry) (.slice a1 l.length c1)) := Lib.hid fun j hm => by have := HLT.out _ (List.mem_append.2 (.inl hm)); simp at this
  have HN3 : Hid (∀ j, ((w.heap.size + 2, j) : Pos) ∉ rowP (GoT.n DEntry) (.slice a1 l.length c1)) := Lib.hid fun j hm => by have := HROW.out.2.1.ge _ hm; simp at this
  obtain ⟨fu, hsu⟩ := k
  have HSU := Lib.hid hsu
  clear hsu
  go_region_law (first | (go_simp; go_at_call 19; refine (impl_copyEntries_c _ [e] _ ((rds_built (w := w3) (x := e) 32 (show GoT.rd (α := DEntry) BIG w3 [.int .i64 e.client, .int .i64 e.seq, u] e fu from ⟨u, fu, rfl, (HSU.out.keep (Live.same_below HBW.out (Live.lt HSU.out.live))), rfl⟩)).below (Below.refl _ _).drew) (by rw [szL_one]; show 1 + szL e.o ≤ _; omega)).mono ?_; rintro e' w4 ⟨v4, rfl, ho4, hb4⟩; obtain ⟨f0, sf0, ff0⟩ := ho4; obtain ⟨f4, hsrc, hsub, hfe⟩ := sf0.src; obtain ⟨a4, c4, rfl⟩ := RdS.isSlice ⟨_, sf0⟩; have HB4 : Hid (Below w3.heap.size w3 w4) := Lib.hid ((((Below.refl w3.heap.size w3).alloc (Nat.le_refl _) _).drew).trans (hb4.mono (by simp))); have s4 := HB4.out.size; have HS4 := Lib.hid hsrc; have HL4 := Lib.hid (Live.append.1 (hfe ▸ sf0.live)).2; have HF4 : Hid (Fresh w3.heap.size w4 f4) := Lib.hid ((hfe ▸ ff0).right.mono (by simp)); clear hb4 sf0 ff0 hsrc hsub hfe; have X4b1_0 : w4.cell? ⟨w.heap.size + 1, 0, none⟩ = some (.int .i64 e.client) := (HB4.out.cell (p := ⟨w.heap.size + 1, 0, none⟩) Zb1).trans Kb1_0; have X4b1_1 : w4.cell? ⟨w.heap.size + 1, 1, none⟩ = some (.int .i64 e.seq) := (HB4.out.cell (p := ⟨w.heap.size + 1, 1, none⟩) Zb1).trans Kb1_1; have X4b1_2 : w4.cell? ⟨w.heap.size + 1, 2, none⟩ = some (u) := (HB4.out.cell (p := ⟨w.heap.size + 1, 2, none⟩) Zb1).trans Kb1_2; have ZX4b1 : w.heap.size + 1 < w4.heap.size := (by omega); have X4b2_0 : w4.cell? ⟨w.heap.size + 2, 0, none⟩ = some (.int .i64 0) := (HB4.out.cell (p := ⟨w.heap.size + 2, 0, none⟩) Zb2).trans Kb2_0; have X4gb2_0 : w4.frozen? ⟨w.heap.size + 2, 0, none⟩ = false := (HB4.out.frozen (p := ⟨w.heap.size + 2, 0, none⟩) Zb2).trans Gb2_0; have X4b2_1 : w4.cell? ⟨w.heap.size + 2, 1, none⟩ = some (.int .i64 0) := (HB4.out.cell (p := ⟨w.heap.size + 2, 1, none⟩) Zb2).trans Kb2_1; have X4gb2_1 : w4.frozen? ⟨w.heap.size + 2, 1, none⟩ = false := (HB4.out.frozen (p := ⟨w.heap.size + 2, 1, none⟩) Zb2).trans Gb2_1; have X4b2_2 : w4.cell? ⟨w.heap.size + 2, 2, none⟩ = some (.bool false) := (HB4.out.cell (p := ⟨w.heap.size + 2, 2, none⟩) Zb2).trans Kb2_2; have X4gb2_2 : w4.frozen? ⟨w.heap.size + 2, 2, none⟩ = false := (HB4.out.frozen (p := ⟨w.heap.size + 2, 2, none⟩) Zb2).trans Gb2_2; have X4b2_3 : w4.cell? ⟨w.heap.size + 2, 3, none⟩ = some (.slice none 0 0) := (HB4.out.cell (p := ⟨w.heap.size + 2, 3, none⟩) Zb2).trans Kb2_3; have X4gb2_3 : w4.frozen? ⟨w.heap.size + 2, 3, none⟩ = false := (HB4.out.frozen (p := ⟨w.heap.size + 2, 3, none⟩) Zb2).trans Gb2_3; have ZX4b2 : w.heap.size + 2 < w4.heap.size := (by omega); have X4b3_0 : w4.cell? ⟨w1.heap.size, 0, none⟩ = some (.int .i64 cap) := (HB4.out.cell (p := ⟨w1.heap.size, 0, none⟩) Zb3).trans Kb3_0; have X4gb3_0 : w4.frozen? ⟨w1.heap.size, 0, none⟩ = false := (HB4.out.frozen (p := ⟨w1.heap.size, 0, none⟩) Zb3).trans Gb3_0; have X4b3_1 : w4.cell? ⟨w1.heap.size, 1, none⟩ = some (.int .i64 next) := (HB4.out.cell (p := ⟨w1.heap.size, 1, none⟩) Zb3).trans Kb3_1; have X4gb3_1 : w4.frozen? ⟨w1.heap.size, 1, none⟩ = false := (HB4.out.frozen (p := ⟨w1.heap.size, 1, none⟩) Zb3).trans Gb3_1; have X4b3_2 : w4.cell? ⟨w1.heap.size, 2, none⟩ = some (.bool false) := (HB4.out.cell (p := ⟨w1.heap.size, 2, none⟩) Zb3).trans Kb3_2; have X4gb3_2 : w4.frozen? ⟨w1.heap.size, 2, none⟩ = false := (HB4.out.frozen (p := ⟨w1.heap.size, 2, none⟩) Zb3).trans Gb3_2; have X4b3_3 : w4.cell? ⟨w1.heap.size, 3, none⟩ = some (.slice a1 l.length c1) := (HB4.out.cell (p := ⟨w1.heap.size, 3, none⟩) Zb3).trans Kb3_3; have X4gb3_3 : w4.frozen? ⟨w1.heap.size, 3, none⟩ = false := (HB4.out.frozen (p := ⟨w1.heap.size, 3, none⟩) Zb3).trans Gb3_3; have ZX4b3 : w1.heap.size < w4.heap.size := (by omega)) | (have HWB : Below w4.heap.size w4 w4 := Below.refl _ _; (refine step_append_row (by rfl) (.tmp 9) (.tmp 12) 23 (by rfl) Try.underlying23 hi hz0 hz1 hz2 rfl (by rfl) (by rfl) ((HROW.out.below HB4.out).below HWB) HS4.out (fun q hq hm => by have e1 := HF4.out.ge q hq; have e2 := HLT.out q (List.mem_append.2 (.inl hm)); omega) (le_BIG (by simp; omega)) (by simp; omega) (by first | omega | (simp; omega)) ?_); intro v5 w5 hr5 hw5 hn5; obtain ⟨a5, c5, rfl⟩ := hr5.rd.isSlice; have HWB5 := Lib.hid HWB; have HR5 := Lib.hid hr5; have HW5 := Lib.hid hw5; have HN5 := Lib.hid hn5; have s5 : w4.heap.size ≤ w5.heap.size := Nat.le_trans HWB.size hw5.size; have X5b1_0 : w5.cell? ⟨w.heap.size + 1, 0, none⟩ = some (.int .i64 e.client) := cellw HWB hw5 X4b1_0 (HN.out 0); have X5b1_1 : w5.cell? ⟨w.heap.size + 1, 1, none⟩ = some (.int .i64 e.seq) := cellw HWB hw5 X4b1_1 (HN.out 1); have X5b1_2 : w5.cell? ⟨w.heap.size + 1, 2, none⟩ = some (u) := cellw HWB hw5 X4b1_2 (HN.out 2); have ZX5b1 : w.heap.size + 1 < w5.heap.size := (by omega); have X5b2_0 : w5.cell? ⟨w.heap.size + 2, 0, none⟩ = some (.int .i64 0) := cellw HWB hw5 X4b2_0 (HN3.out 0); have X5gb2_0 : w5.frozen? ⟨w.heap.size + 2, 0, none⟩ = false := (hw5.frozen (w.heap.size + 2, 0) (Nat.lt_of_lt_of_le ZX4b2 HWB.size)).trans ((HWB.frozen (p := ⟨w.heap.size + 2, 0, none⟩) ZX4b2).trans X4gb2_0); have X5b2_1 : w5.cell? ⟨w.heap.size + 2, 1, none⟩ = some (.int .i64 0) := cellw HWB hw5 X4b2_1 (HN3.out 1); have X5gb2_1 : w5.frozen? ⟨w.heap.size + 2, 1, none⟩ = false := (hw5.frozen (w.heap.size + 2, 1) (Nat.lt_of_lt_of_le ZX4b2 HWB.size)).trans ((HWB.frozen (p := ⟨w.heap.size + 2, 1, none⟩) ZX4b2).trans X4gb2_1); have X5b2_2 : w5.cell? ⟨w.heap.size + 2, 2, none⟩ = some (.bool false) := cellw HWB hw5 X4b2_2 (HN3.out 2); have X5gb2_2 : w5.frozen? ⟨w.heap.size + 2, 2, none⟩ = false := (hw5.frozen (w.heap.size + 2, 2) (Nat.lt_of_lt_of_le ZX4b2 HWB.size)).trans ((HWB.frozen (p := ⟨w.heap.size + 2, 2, none⟩) ZX4b2).trans X4gb2_2); have X5b2_3 : w5.cell? ⟨w.heap.size + 2, 3, none⟩ = some (.slice none 0 0) := cellw HWB hw5 X4b2_3 (HN3.out 3); have X5gb2_3 : w5.frozen? ⟨w.heap.size + 2, 3, none⟩ = false := (hw5.frozen (w.heap.size + 2, 3) (Nat.lt_of_lt_of_le ZX4b2 HWB.size)).trans ((HWB.frozen (p := ⟨w.heap.size + 2, 3, none⟩) ZX4b2).trans X4gb2_3); have ZX5b2 : w.heap.size + 2 < w5.heap.size := (by omega); have X5b3_0 : w5.cell? ⟨w1.heap.size, 0, none⟩ = some (.int .i64 cap) := cellw HWB hw5 X4b3_0 (HN2.out 0); have X5gb3_0 : w5.frozen? ⟨w1.heap.size, 0, none⟩ = false := (hw5.frozen (w1.heap.size, 0) (Nat.lt_of_lt_of_le ZX4b3 HWB.size)).trans ((HWB.frozen (p := ⟨w1.heap.size, 0, none⟩) ZX4b3).trans X4gb3_0); have X5b3_1 : w5.cell? ⟨w1.heap.size, 1, none⟩ = some (.int .i64 next) := cellw HWB hw5 X4b3_1 (HN2.out 1); have X5gb3_1 : w5.frozen? ⟨w1.heap.size, 1, none⟩ = false := (hw5.frozen (w1.heap.size, 1) (Nat.lt_of_lt_of_le ZX4b3 HWB.size)).trans ((HWB.frozen (p := ⟨w1.heap.size, 1, none⟩) ZX4b3).trans X4gb3_1); have X5b3_2 : w5.cell? ⟨w1.heap.size, 2, none⟩ = some (.bool false) := cellw HWB hw5 X4b3_2 (HN2.out 2); have X5gb3_2 : w5.frozen? ⟨w1.heap.size, 2, none⟩ = false := (hw5.frozen (w1.heap.size, 2) (Nat.lt_of_lt_of_le ZX4b3 HWB.size)).trans ((HWB.frozen (p := ⟨w1.heap.size, 2, none⟩) ZX4b3).trans X4gb3_2); have X5b3_3 : w5.cell? ⟨w1.heap.size, 3, none⟩ = some (.slice a1 l.length c1) := cellw HWB hw5 X4b3_3 (HN2.out 3); have X5gb3_3 : w5.frozen? ⟨w1.heap.size, 3, none⟩ = false := (hw5.frozen (w1.heap.size, 3) (Nat.lt_of_lt_of_le ZX4b3 HWB.size)).trans ((HWB.frozen (p := ⟨w1.heap.size, 3, none⟩) ZX4b3).trans X4gb3_3); have ZX5b3 : w1.heap.size < w5.heap.size := (by omega); clear hr5 hw5 hn5 HWB))
  all_goals
    have HFP : Hid (∀ p ∈ rowP (GoT.n DEntry) (.slice a5 (l ++ [e]).length c5) ++ (fs ++ f4), p.1 ≠ w1.heap.size ∧ w.heap.size + 2 < p.1) := Lib.hid (by
      intro p hp
      have hq := HWB5.out.size
      rcases List.mem_append.1 hp with hp | hp
      · rcases HN5.out p hp with hp | hp
        · have q1 := HLT.out _ (List.mem_append.2 (.inl hp)); have q2 := HROW.out.2.1.ge _ hp; (try simp only at q1 q2); omega
        · omega
      · rcases List.mem_append.1 hp with hp | hp
        · have q1 := HLT.out _ (List.mem_append.2 (.inr hp)); have q2 := HFS.out.ge _ hp; omega
        · have q1 := HF4.out.ge _ hp; omega)
    have HS5 : Hid (Sl BIG w5 (.slice a5 (l ++ [e]).length c5) (l ++ [e]) (rowP (GoT.n DEntry) (.slice a5 (l ++ [e]).length c5) ++ (fs ++ f4))) := Lib.hid HR5.out.1
    have HF5 : Hid (Fresh (w.heap.size + 3) w5 (rowP (GoT.n DEntry) (.slice a5 (l ++ [e]).length c5) ++ (fs ++ f4))) := Lib.hid (by
      refine HR5.out.2.1.join ((HFS.out.wr2 (HB4.out.trans (HWB5.out.mono s4)) HW5.out (Live.lt HROW.out.live)).join ((HW5.out.fresh HL4.out HF4.out).mono (by omega)) fun p hp q hq ee => ?_) fun p hp q hq ee => HR5.out.2.2 q hq (ee ▸ hp)
      subst ee
      have q1 := HLT.out _ (List.mem_append.2 (.inr hp)); have q2 := HF4.out.ge _ hq; omega)
    have HB5 : Hid (Below w.heap.size w w5) := Lib.hid ((HBW.out.trans (HB4.out.mono (by omega))).trans (wrb (C := w.heap.size) HW5.out HWB5.out (by omega) (fun q hq => Nat.le_trans (by omega) (HROW.out.2.1.ge q hq))))
    simp only [List.length_append, List.length_singleton] at HS5 HF5 HFP
    clear HR5 HW5 HN5 HWB5 X4b1_0 X4b1_1 X4b1_2 X4b2_0 X4b2_1 X4b2_2 X4b2_3 X4b3_0 X4b3_1 X4b3_2 X4b3_3 X4gb2_0 X4gb2_1 X4gb2_2 X4gb2_3 X4gb3_0 X4gb3_1 X4gb3_2 X4gb3_3 Kb1_0 Kb1_1 Kb1_2 Kb2_0 Kb2_1 Kb2_2 Kb2_3 Kb3_0 Kb3_1 Kb3_2 Kb3_3 Gb2_0 Gb2_1 Gb2_2 Gb2_3 Gb3_0 Gb3_1 Gb3_2 Gb3_3
    go_wp2
    rw [HV.out]
    have hne : ¬ (w.heap.size + 1 + 1 = w1.heap.size) := by omega
    have hne2 : ¬ (w1.heap.size = w.heap.size + 1 + 1) := by omega
    exact bodyPost_ret (v := .agg #[.int .i64 cap, .int .i64 next, .bool false, .slice a5 (l.length + 1) c5]) (by simp [results, Try.results8, go_sem, cell_setCell, *]) rfl ⟨_, _, rfl, (((((HS5.out.put (b := w1.heap.size) (o := 3) (fun hm => (HFP.out _ hm).1 rfl) (.slice a5 (l.length + 1) c5)).put (b := w.heap.size + 2) (o := 0) (fun hm => Nat.lt_irrefl _ (HFP.out _ hm).2) (.int .i64 cap)).put (b := w.heap.size + 2) (o := 1) (fun hm => Nat.lt_irrefl _ (HFP.out _ hm).2) (.int .i64 next)).put (b := w.heap.size + 2) (o := 2) (fun hm => Nat.lt_irrefl _ (HFP.out _ hm).2) (.bool false)).put (b := w.heap.size + 2) (o := 3) (fun hm => Nat.lt_irrefl _ (HFP.out _ hm).2) (.slice a5 (l.length + 1) c5)), (((((HF5.out.put ⟨w1.heap.size, 3, none⟩ (.slice a5 (l.length + 1) c5)).put ⟨w.heap.size + 2, 0, none⟩ (.int .i64 cap)).put ⟨w.heap.size + 2, 1, none⟩ (.int .i64 next)).put ⟨w.heap.size + 2, 2, none⟩ (.bool false)).put ⟨w.heap.size + 2, 3, none⟩ (.slice a5 (l.length + 1) c5)).mono (by omega), (((((HB5.out.setCell (by simp; try omega) _).setCell (by simp; try omega) _).setCell (by simp; try omega) _).setCell (by simp; try omega) _).setCell (by simp; try omega) _)⟩
theorem impl_RingPush_c (r : DRing) (e : DEntry) (v u : Value) (w : World) (h : RdS w v r.list) (k : RdS w u e.o) (hs : szL r.list ≤ 4000000) (ks : szL e.o ≤ 3999999) :
    Calls Try.prog 8 #[.agg #[.int .i64 r.cap, .int .i64 r.next, .bool r.out, v], .agg #[.int .i64 e.client, .int .i64 e.seq, u]] w (Out_Ring w (ringPush r e)) := by
  by_cases h1 : ringOk r = true
  · by_cases h2 : entryOk e = true
    · obtain ⟨cap, next, out, l⟩ := r
      cases out with
      | true => exact impl_RingPush_C cap next l e v u w h k hs ks h1 h2
      | false =>
        by_cases h4 : (l.length : Int) = cap
        · exact impl_RingPush_D cap next l e v u w h k hs ks h1 h2 h4
        · exact impl_RingPush_E cap next l e v u w h k hs ks h1 h2 h4
    · exact impl_RingPush_B r e v u w h k hs ks h1 (by simpa using h2)
  · exact impl_RingPush_A r e v u w h k hs ks (by simpa using h1)
end Go.Proofs.Ytfkaabpaolelgaa
