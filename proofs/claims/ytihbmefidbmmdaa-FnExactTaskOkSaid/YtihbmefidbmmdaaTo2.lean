/- The copies that the laws make of their arguments. -/
import Derived.Test.YtihbmefidbmmdaaTo1
import Derived.Handy
namespace Go.Proofs.Ytihbmefidbmmdaa
open Go.RowKit



set_option maxHeartbeats 1000000 in
theorem toRing_c (x : DRing) (v_list : Value) (w : World)  (h_list : RdS w v_list x.list) :
    Calls Try.prog 19 #[.agg #[.int .i64 x.cap, .int .i64 x.next, .bool x.out, v_list]] w (Gives w x) := by
  go_enter Try.func19, Try.ntmps19
  go_wp2_with fail
  refine (toEntryS_c _ _ _ (h_list.below (by repeat' (first | (with_reducible exact Below.refl _ _) | (with_reducible refine Below.setCell ?_ ?_ _) | (with_reducible refine Below.alloc ?_ ?_ _) | (with_reducible refine Below.drew ?_) | (with_reducible refine belowN ?_ _) | (with_reducible refine below_after ?_ (by assumption) ?_) | omega | (simp; done) | (simp; omega))))).mono ?_
  rintro e w1 ⟨v1, rfl, ho0, hb1⟩
  have s1 : w.heap.size + 3 ≤ w1.heap.size := by have := hb1.size; (try simp at this); omega
  obtain ⟨a1_0, c1_0, rfl⟩ := ho0.rd.isSlice
  obtain ⟨C1_0, D1_0, HO1_0, jc1_0, jd1_0, je1_0⟩ := ho0.ex (m := w.heap.size + 3) (by simp) hb1.size
  clear ho0
  obtain ⟨hc1, hf1⟩ := bcell hb1
  have z1_0 : w.heap.size < w1.heap.size := by omega
  have z1_1 : w.heap.size + 1 < w1.heap.size := by omega
  have z1_2 : w.heap.size + 1 + 1 < w1.heap.size := by omega
  go_wp2
  refine bodyPost_ret (v := .agg #[.int .i64 x.cap, .int .i64 x.next, .bool x.out, .slice a1_0 x.list.length c1_0]) (by simp [results, Try.results19, go_sem, cell_setCell, *]) rfl ?_
  exact ⟨_, rfl, own_DRing (C0 := C1_0) (D0 := D1_0) x  (by repeat' (first | (with_reducible exact HO1_0) | (with_reducible refine OwnB.setCell ?_ ?_ _) | (with_reducible refine OwnB.drew ?_) | (with_reducible refine OwnB.drewN ?_ _) | (with_reducible refine OwnB.below ?_ (by assumption)) | (with_reducible refine OwnB.alloc ?_ _) | omega)) (by omega), (by repeat' (first | (with_reducible exact Below.refl _ _) | (with_reducible refine Below.setCell ?_ ?_ _) | (with_reducible refine Below.alloc ?_ ?_ _) | (with_reducible refine Below.drew ?_) | (with_reducible refine belowN ?_ _) | (with_reducible refine below_after ?_ (by assumption) ?_) | omega | (simp; done) | (simp; omega)))⟩



end Go.Proofs.Ytihbmefidbmmdaa
