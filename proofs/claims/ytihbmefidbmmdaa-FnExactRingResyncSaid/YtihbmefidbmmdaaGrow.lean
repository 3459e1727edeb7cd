/- A row that has grown by new memory is one's own. -/
import Derived.Test.YtihbmefidbmmdaaRow
import Derived.Test.YtihbmefidbmmdaaOut
namespace Go.Proofs.Ytihbmefidbmmdaa
open Go.RowKit
theorem Row.grown {α : Type} [GoT α] {B : Nat} {w0 W w1 : World} {v v' : Value} {l xs : List α} {fs gs : List Pos} (h : Row B w0 v l fs) (hf : Fresh B w0 fs) (hb : Below w0.heap.size w0 W) (hg : Fresh w0.heap.size W gs) (hgl : Live W gs) (hB : B ≤ w0.heap.size)
    (hr : Row B w1 v' (l ++ xs) (fs ++ gs)) (hw : Wr (rowP (GoT.n α) v) W w1) : OwnS B w1 v' (l ++ xs) := by
  have hl := Live.lt h.live
  refine hr.owns ((hf.wr2 hb hw hl).join ((hw.fresh hgl hg).mono hB) fun p hp q hq e => ?_)
  have h1 := hl p hp
  have h2 := hg.ge q hq
  rw [e] at h1
  omega
theorem OwnS.empty {α : Type} [GoT α] (B : Nat) (w : World) (ao : Option Addr) : OwnS (α := α) B w (.slice ao 0 0) [] := ⟨[], .inl ⟨_, rfl, rfl, rfl⟩, Fresh.nil _ _⟩
end Go.Proofs.Ytihbmefidbmmdaa
