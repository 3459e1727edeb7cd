/- A slice that is kept through draws, new blocks, stores elsewhere. -/
import Derived.Test.YtocdogemgojgaaaGreatRo
namespace Go.Proofs.YtocdogemgojgaaaGreat
open Go.RowKit
section
variable {α:Type} [GoT α] {M:Nat} {w:World} {v:Value} {l:List α} {f:List Pos}
theorem Sl.putS (h:Sl M w v l f){b o:Nat}(j:(b,o)∉f)(u:Value):Sl M (w.setCell ⟨b,o,none⟩ u) v l f:=h.put j u
end
