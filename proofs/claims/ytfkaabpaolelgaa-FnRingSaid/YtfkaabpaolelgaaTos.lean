/- The copies that the laws make. -/
import Derived.Test.YtfkaabpaolelgaaBa
import Derived.Handy
namespace Go.Proofs.Ytfkaabpaolelgaa
open Go.RowKit

/-- a call that gives back a struct that can be read -/
def GivesR {α : Type} [GoT α] (w : World) (x : α) (e : Ending) (w' : World) : Prop := ∃ cs, e = .returned (.agg cs.toArray) ∧ Rd w' cs x ∧ Below w.heap.size w w'
theorem At.zero {w : World} {b o : Nat} {c : Value} {cs : List Value} (h : At w b o (c :: cs)) : w.cell? ⟨b, o, none⟩ = some c := h 0 c rfl


theorem info_DPart : (Try.prog.info? 61).map (fun i => (i.zero, i.size, i.bytes)) = some (some (.agg #[.int .i64 0, .int .i64 0, .slice none 0 0]), 3, 40) := by kernel_rfl


theorem info_DEntry : (Try.prog.info? 32).map (fun i => (i.zero, i.size, i.bytes)) = some (some (.agg #[.int .i64 0, .int .i64 0, .slice none 0 0]), 3, 40) := by kernel_rfl



end Go.Proofs.Ytfkaabpaolelgaa

namespace Go.Proofs.Ytfkaabpaolelgaa
open Go.RowKit






end Go.Proofs.Ytfkaabpaolelgaa

namespace Go.Proofs.Ytfkaabpaolelgaa
open Go.RowKit





end Go.Proofs.Ytfkaabpaolelgaa

