/- A slice that is kept through draws, new blocks, stores elsewhere. -/
import Derived.Test.YtbpbeomngflkfaaGreatRo
namespace Go.Proofs.YtbpbeomngflkfaaGreat
open Go.RowKit
section
variable {α : Type} [GoT α] {M : Nat} {w : World} {v : Value} {l : List α} {f : List Pos}
theorem Sl.drewS (h : Sl M w v l f) : Sl M w.drew v l f := h.keep fun _ _ => rfl
theorem Sl.allocS (h : Sl M w v l f) (o : Obj) : Sl M (w.alloc o) v l f := h.belowW ((Below.refl _ _).alloc (Nat.le_refl _) o)
theorem Sl.putS (h : Sl M w v l f) {b o : Nat} (hn : (b, o) ∉ f) (u : Value) : Sl M (w.setCell ⟨b, o, none⟩ u) v l f := h.put hn u
end
end Go.Proofs.YtbpbeomngflkfaaGreat
