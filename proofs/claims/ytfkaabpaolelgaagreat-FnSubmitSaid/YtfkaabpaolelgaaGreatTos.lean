/- The copies that the laws make. -/
import Derived.Test.YtfkaabpaolelgaaGreatBa
import Derived.Handy
namespace Go.Proofs.YtfkaabpaolelgaaGreat
open Go.RowKit

/-- a call that gives back a struct that can be read -/
def GivesR {α : Type} [GoT α] (w : World) (x : α) (e : Ending) (w' : World) : Prop := ∃ cs, e = .returned (.agg cs.toArray) ∧ Rd w' cs x ∧ Below w.heap.size w w'
theorem At.zero {w : World} {b o : Nat} {c : Value} {cs : List Value} (h : At w b o (c :: cs)) : w.cell? ⟨b, o, none⟩ = some c := h 0 c rfl


theorem info_DPart : (Tryz.prog.info? 62).map (fun i => (i.zero, i.size, i.bytes)) = some (some (.agg #[.int .i64 0, .int .i64 0, .slice none 0 0]), 3, 40) := by kernel_rfl


theorem info_DEntry : (Tryz.prog.info? 54).map (fun i => (i.zero, i.size, i.bytes)) = some (some (.agg #[.int .i64 0, .int .i64 0, .slice none 0 0]), 3, 40) := by kernel_rfl


theorem info_DSeen : (Tryz.prog.info? 33).map (fun i => (i.zero, i.size, i.bytes)) = some (some (.agg #[.int .i64 0, .int .i64 0, .int .i64 0]), 3, 24) := by kernel_rfl

end Go.Proofs.YtfkaabpaolelgaaGreat

namespace Go.Proofs.YtfkaabpaolelgaaGreat
open Go.RowKit


theorem info_DDoc : (Tryz.prog.info? 27).map (fun i => (i.zero, i.size, i.bytes)) = some (some (.agg #[.string ByteArray.empty, .int .i64 0, .slice none 0 0, .slice none 0 0, .slice none 0 0]), 5, 96) := by kernel_rfl




end Go.Proofs.YtfkaabpaolelgaaGreat

namespace Go.Proofs.YtfkaabpaolelgaaGreat
open Go.RowKit





end Go.Proofs.YtfkaabpaolelgaaGreat

