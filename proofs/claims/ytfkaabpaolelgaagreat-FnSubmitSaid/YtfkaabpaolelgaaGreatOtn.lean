/- The names of the codes 1 to 5. -/
import Derived.Test.YtfkaabpaolelgaaGreatPr
import Derived.Test.YtfkaabpaolelgaaGreatRo
namespace Go.Proofs.YtfkaabpaolelgaaGreat
open Go.RowKit
theorem impl_OtName_1 (w : World) : Calls Tryz.prog 16 #[.int .i64 1] w (Tells w (.string ⟨#[105, 110, 118, 97, 108, 105, 100]⟩)) := by
  go_enter Tryz.func16, Tryz.ntmps16
  go_wp2_with fail
  refine (impl_within_c 1 0 12 _).mono ?_
  rintro e' w1 ⟨rfl, hb⟩
  rw [show within 1 0 12 = true by decide]
  have q : w1.cell? ⟨w.heap.size, 1, none⟩ = some (.string ⟨#[105, 110, 118, 97, 108, 105, 100]⟩) := (hb.cell (p := ⟨w.heap.size, 1, none⟩) (by simp)).trans (by simp [go_sem])
  go_wp2
  go_ret
  exact ⟨rfl, blw⟩
theorem impl_OtName_2 (w : World) : Calls Tryz.prog 16 #[.int .i64 2] w (Tells w (.string ⟨#[102, 117, 116, 117, 114, 101]⟩)) := by
  go_enter Tryz.func16, Tryz.ntmps16
  go_wp2_with fail
  refine (impl_within_c 2 0 12 _).mono ?_
  rintro e' w1 ⟨rfl, hb⟩
  rw [show within 2 0 12 = true by decide]
  have q : w1.cell? ⟨w.heap.size, 2, none⟩ = some (.string ⟨#[102, 117, 116, 117, 114, 101]⟩) := (hb.cell (p := ⟨w.heap.size, 2, none⟩) (by simp)).trans (by simp [go_sem])
  go_wp2
  go_ret
  exact ⟨rfl, blw⟩
theorem impl_OtName_3 (w : World) : Calls Tryz.prog 16 #[.int .i64 3] w (Tells w (.string ⟨#[111, 108, 100]⟩)) := by
  go_enter Tryz.func16, Tryz.ntmps16
  go_wp2_with fail
  refine (impl_within_c 3 0 12 _).mono ?_
  rintro e' w1 ⟨rfl, hb⟩
  rw [show within 3 0 12 = true by decide]
  have q : w1.cell? ⟨w.heap.size, 3, none⟩ = some (.string ⟨#[111, 108, 100]⟩) := (hb.cell (p := ⟨w.heap.size, 3, none⟩) (by simp)).trans (by simp [go_sem])
  go_wp2
  go_ret
  exact ⟨rfl, blw⟩
theorem impl_OtName_4 (w : World) : Calls Tryz.prog 16 #[.int .i64 4] w (Tells w (.string ⟨#[115, 101, 113]⟩)) := by
  go_enter Tryz.func16, Tryz.ntmps16
  go_wp2_with fail
  refine (impl_within_c 4 0 12 _).mono ?_
  rintro e' w1 ⟨rfl, hb⟩
  rw [show within 4 0 12 = true by decide]
  have q : w1.cell? ⟨w.heap.size, 4, none⟩ = some (.string ⟨#[115, 101, 113]⟩) := (hb.cell (p := ⟨w.heap.size, 4, none⟩) (by simp)).trans (by simp [go_sem])
  go_wp2
  go_ret
  exact ⟨rfl, blw⟩
theorem impl_OtName_5 (w : World) : Calls Tryz.prog 16 #[.int .i64 5] w (Tells w (.string ⟨#[108, 97, 114, 103, 101]⟩)) := by
  go_enter Tryz.func16, Tryz.ntmps16
  go_wp2_with fail
  refine (impl_within_c 5 0 12 _).mono ?_
  rintro e' w1 ⟨rfl, hb⟩
  rw [show within 5 0 12 = true by decide]
  have q : w1.cell? ⟨w.heap.size, 5, none⟩ = some (.string ⟨#[108, 97, 114, 103, 101]⟩) := (hb.cell (p := ⟨w.heap.size, 5, none⟩) (by simp)).trans (by simp [go_sem])
  go_wp2
  go_ret
  exact ⟨rfl, blw⟩
end Go.Proofs.YtfkaabpaolelgaaGreat
