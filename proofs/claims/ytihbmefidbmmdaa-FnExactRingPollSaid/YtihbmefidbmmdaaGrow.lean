/- A row that has grown by new memory is one's own. -/
import Derived.Test.YtihbmefidbmmdaaRow
import Derived.Test.YtihbmefidbmmdaaOut
namespace Go.Proofs.Ytihbmefidbmmdaa
open Go.RowKit
theorem Row.grown {α : Type} [GoT α] {B : Nat} {w0 W w1 : World} {v v' : Value} {l xs : List α} {fs gs : List Pos} (h : Row B w0 v l fs) (hf : Fresh B w0 fs) (hb : Below w0.heap.size w0 W) (hg : Fresh w0.heap.size W gs) (hgl : Live W gs) (hB : B ≤ w0.heap.size)
    (hr : Row B w1 v' (l ++ xs) (fs ++ gs)) (hw : Wr (rowP (GoT.n α) v) W w1) : OwnS B w1 v' (l ++ xs) := by
  have hl := Live.lt h.live
  refine hr.owns ((hf.wr2 hb hw hl).join ((hw.fresh hgl hg).mono hB) fun p hp q hq e => ?_)
  have h1 := hl p hp
  have h2 := hg.ge q hq
  rw [e] at h1
  omega
theorem OwnS.empty {α : Type} [GoT α] (B : Nat) (w : World) (ao : Option Addr) : OwnS (α := α) B w (.slice ao 0 0) [] := ⟨[], .inl ⟨_, rfl, rfl, rfl⟩, Fresh.nil _ _⟩
/-- a slice that lies in a block of its own -/
theorem sl_of_block {α : Type} [GoT α] {W : World} {g : Nat} {cs : List Value} {l : List α} {fs : List Pos} {E : TypeId} {fr : Nat × Nat} (hg : W.heap[g]? = some (.cells cs.toArray E fr)) (he : Els BIG W cs l fs) (hl : l.length ≤ BIG) :
    Sl BIG W (.slice (some ⟨g, 0, none⟩) l.length l.length) l (own g 0 (l.length * GoT.n α) ++ fs) := by
  have hc := he.length
  refine .inr ⟨g, 0, l.length, cs, fs, rfl, Nat.le_refl _, by have := BIG_le hl; unfold maxLen; omega, hl, ?_, he, ?_, rfl⟩
  · have := row_at (c1 := []) (c2 := cs) (c3 := []) (w := W) (E := E) (fr := fr) (by simpa using hg)
    simpa using this
  · intro p hp
    obtain ⟨e1, e2, e3⟩ := mem_own.1 hp
    rw [e1, row_cell hg, List.getElem?_eq_getElem (by omega)]
    rfl
theorem rds_built {α : Type} [GoT α] {w : World} {c : List Value} {x : α} {f : List Pos} (E : TypeId) (h : GoT.rd BIG w c x f) : RdS (w.alloc (.cells c.toArray E)) (.slice (some ⟨w.heap.size, 0, none⟩) 1 1) [x] := by
  have hb : Below w.heap.size w (w.alloc (.cells c.toArray E)) := (Below.refl _ _).alloc (Nat.le_refl _) _
  have he : Els BIG (w.alloc (.cells c.toArray E)) c [x] f := Els.single (GoT.keep h (Live.same_below hb (Live.lt (GoT.live h))))
  exact ⟨_, sl_of_block (heap_alloc_new w (.cells c.toArray E)) he (le_BIG (by simp))⟩
end Go.Proofs.Ytihbmefidbmmdaa
