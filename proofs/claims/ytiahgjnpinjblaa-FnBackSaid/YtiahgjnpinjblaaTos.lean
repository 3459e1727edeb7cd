/- The copies that the laws make. -/
import Derived.Test.YtiahgjnpinjblaaBa
import Derived.Handy
namespace Go.Proofs.Ytiahgjnpinjblaa
open Go.RowKit

/-- a call that gives back a struct that can be read -/
def GivesR {α : Type} [GoT α] (w : World) (x : α) (e : Ending) (w' : World) : Prop := ∃ cs, e = .returned (.agg cs.toArray) ∧ Rd w' cs x ∧ Below w.heap.size w w'
theorem At.zero {w : World} {b o : Nat} {c : Value} {cs : List Value} (h : At w b o (c :: cs)) : w.cell? ⟨b, o, none⟩ = some c := h 0 c rfl


theorem info_DPart : (Try.prog.info? 60).map (fun i => (i.zero, i.size, i.bytes)) = some (some (.agg #[.int .i64 0, .int .i64 0, .slice none 0 0]), 3, 40) := by kernel_rfl


theorem info_DEntry : (Try.prog.info? 76).map (fun i => (i.zero, i.size, i.bytes)) = some (some (.agg #[.int .i64 0, .int .i64 0, .slice none 0 0]), 3, 40) := by kernel_rfl


theorem info_DSeen : (Try.prog.info? 65).map (fun i => (i.zero, i.size, i.bytes)) = some (some (.agg #[.int .i64 0, .int .i64 0, .int .i64 0]), 3, 24) := by kernel_rfl

end Go.Proofs.Ytiahgjnpinjblaa

namespace Go.Proofs.Ytiahgjnpinjblaa
open Go.RowKit


theorem info_DDoc : (Try.prog.info? 27).map (fun i => (i.zero, i.size, i.bytes)) = some (some (.agg #[.string ByteArray.empty, .int .i64 0, .slice none 0 0, .slice none 0 0, .slice none 0 0]), 5, 96) := by kernel_rfl




end Go.Proofs.Ytiahgjnpinjblaa

namespace Go.Proofs.Ytiahgjnpinjblaa
open Go.RowKit





end Go.Proofs.Ytiahgjnpinjblaa

