/- The laws' comparisons, where both sides read as one datum. -/
import Derived.Test.YtihbmefidbmmdaaEq1
import Derived.Test.YtihbmefidbmmdaaTo2
import Derived.StillTailTactics
namespace Go.Proofs.Ytihbmefidbmmdaa
open Go.RowKit



set_option maxHeartbeats 1000000 in
theorem eqRing_c (x : DRing) (v_list u_list : Value) (w : World) (h_list : RdS w v_list x.list) (k_list : RdS w u_list x.list) :
    Calls Try.prog 21 #[.agg #[.int .i64 x.cap, .int .i64 x.next, .bool x.out, v_list], .agg #[.int .i64 x.cap, .int .i64 x.next, .bool x.out, u_list]] w (Tells w (.bool true)) := by
  go_enter Try.func21, Try.ntmps21
  go_wp2_with fail
  refine (eqEntryS_c _ _ _ _ (h_list.below (by repeat' (first | (with_reducible exact Below.refl _ _) | (with_reducible refine Below.setCell ?_ ?_ _) | (with_reducible refine Below.alloc ?_ ?_ _) | (with_reducible refine Below.drew ?_) | (with_reducible refine belowN ?_ _) | (with_reducible refine below_after ?_ (by assumption) ?_) | omega | (simp; done) | (simp; omega)))) (k_list.below (by repeat' (first | (with_reducible exact Below.refl _ _) | (with_reducible refine Below.setCell ?_ ?_ _) | (with_reducible refine Below.alloc ?_ ?_ _) | (with_reducible refine Below.drew ?_) | (with_reducible refine belowN ?_ _) | (with_reducible refine below_after ?_ (by assumption) ?_) | omega | (simp; done) | (simp; omega))))).mono ?_
  rintro e w1 ⟨rfl, hb1⟩
  have s1 : w.heap.size + 2 ≤ w1.heap.size := by have := hb1.size; (try simp at this); omega
  obtain ⟨hc1, hf1⟩ := bcell hb1
  have z1_0 : w.heap.size < w1.heap.size := by omega
  have z1_1 : w.heap.size + 1 < w1.heap.size := by omega
  go_wp2
  go_ret
  exact ⟨rfl, (by repeat' (first | (with_reducible exact Below.refl _ _) | (with_reducible refine Below.setCell ?_ ?_ _) | (with_reducible refine Below.alloc ?_ ?_ _) | (with_reducible refine Below.drew ?_) | (with_reducible refine belowN ?_ _) | (with_reducible refine below_after ?_ (by assumption) ?_) | omega | (simp; done) | (simp; omega)))⟩



end Go.Proofs.Ytihbmefidbmmdaa
