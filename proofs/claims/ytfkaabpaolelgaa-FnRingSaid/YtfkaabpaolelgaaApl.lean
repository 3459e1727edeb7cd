/- Applying operations. -/
import Derived.Test.YtfkaabpaolelgaaApn
import Derived.Test.YtfkaabpaolelgaaCp
namespace Go.Proofs.Ytfkaabpaolelgaa
open Go.RowKit
theorem szPS : ∀ w1, (sizeOf 30).run Try.prog w1 = .ok 1 w1 := fun _ => by kernel_rfl
def allRes : Option (List Int) → List Int × Bool
  | some u => (u, true)
  | none => ([], false)
theorem applyAllP_yes {l : List (List DPart)} {t : List Int} (h : textOk t = true) : applyAllP l t = allRes (appTo l t) := by unfold applyAllP; rw [if_pos h]; cases appTo l t <;> rfl
def fits (o : List DPart) (t : List Int) : Bool := opOk o && textOk t && decide (opFrom o = t.length)
theorem fits_yes {o : List DPart} {t : List Int} (h : fits o t = true) : applyP o t = ((appFold signsOf t o).2, true) := by
  simp only [fits, Bool.and_eq_true, decide_eq_true_eq] at h
  exact applyP_yes h.1.1 h.1.2 h.2
theorem fits_no {o : List DPart} {t : List Int} (h : fits o t = false) : applyP o t = ([], false) := applyP_no fun hk => by
  simp [fits, hk.1, hk.2.1, hk.2.2] at h
end Go.Proofs.Ytfkaabpaolelgaa
