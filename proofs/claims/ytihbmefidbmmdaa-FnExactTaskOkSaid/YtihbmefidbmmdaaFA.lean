/- Contracts of the functions that compare, look up and tell. -/
import Derived.Test.YtihbmefidbmmdaaEq3
import Derived.Test.YtihbmefidbmmdaaSz3
namespace Go.Proofs.Ytihbmefidbmmdaa
open Go.RowKit
theorem i64_bounds {n : Int} (h : (Lit.int .i64 n).wf = true) : -9223372036854775808 ≤ n ∧ n ≤ 9223372036854775807 := by
  simp [Lit.wf, IntKind.min, IntKind.max, IntKind.bits, IntKind.signed] at h
  omega
def ringLag (x : DRing) : Int := if x.out = true then -1 else x.list.length
theorem ringLag_t {x : DRing} (h : x.out = true) : ringLag x = -1 := if_pos h
theorem ringLag_f {x : DRing} (h : x.out = false) : ringLag x = x.list.length := by unfold ringLag; rw [h]; rfl
theorem impl_RingLag_c (x : DRing) (v_list : Value) (w : World) (h_list : RdS w v_list x.list) :
    Calls Try.prog 43 #[.agg #[.int .i64 x.cap, .int .i64 x.next, .bool x.out, v_list]] w (Tells w (.int .i64 (ringLag x))) := by
  have hl := fun w1 ty => h_list.len Try.underlying38 w1 ty
  cases ho : x.out
  · rw [ringLag_f ho]
    go_enter Try.func43, Try.ntmps43
    go_wp2
    go_ret
    exact ⟨rfl, (by repeat' (first | (with_reducible exact Below.refl _ _) | (with_reducible refine Below.setCell ?_ ?_ _) | (with_reducible refine Below.alloc ?_ ?_ _) | (with_reducible refine Below.drew ?_) | (with_reducible refine belowN ?_ _) | (with_reducible refine below_after ?_ (by assumption) ?_) | omega | (simp; done) | (simp; omega)))⟩
  · rw [ringLag_t ho]
    go_enter Try.func43, Try.ntmps43
    go_wp2
    go_ret
    exact ⟨rfl, (by repeat' (first | (with_reducible exact Below.refl _ _) | (with_reducible refine Below.setCell ?_ ?_ _) | (with_reducible refine Below.alloc ?_ ?_ _) | (with_reducible refine Below.drew ?_) | (with_reducible refine belowN ?_ _) | (with_reducible refine below_after ?_ (by assumption) ?_) | omega | (simp; done) | (simp; omega)))⟩
end Go.Proofs.Ytihbmefidbmmdaa
