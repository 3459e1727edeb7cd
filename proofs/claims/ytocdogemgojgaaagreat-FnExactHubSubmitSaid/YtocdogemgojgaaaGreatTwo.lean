/- Two slices of one's own, side by side. -/
import Derived.Test.YtocdogemgojgaaaGreatRo
namespace Go.Proofs.YtocdogemgojgaaaGreat
open Go.RowKit
def Two {α β:Type}[GoT α][GoT β](C D:Nat)(w:World)(v1 v2:Value)(l1:List α)(l2:List β)(f1 f2:List Pos):Prop:=Sl BIG w v1 l1 f1/\Sl BIG w v2 l2 f2/\Fresh C w (f1++f2)/\∀p∈f1++f2,p.1<D
section
variable {α β:Type} [GoT α] [GoT β] {C D:Nat} {w w':World} {v1 v2:Value} {l1:List α} {l2:List β} {f1 f2:List Pos}
theorem Two.block (h:Two C D w v1 v2 l1 l2 f1 f2)(q:∀k,C<=k->k<D->w'.heap[k]? =w.heap[k]?):Two C D w' v1 v2 l1 l2 f1 f2:=by
 obtain⟨a,b,c,d⟩:=h;have n:∀p∈f1++f2,w'.cell? ⟨p.1,p.2,none⟩=w.cell? ⟨p.1,p.2,none⟩:=fun p j=>by simp only[World.cell?];rw[q p.1 (c.ge p j) (d p j)]
 have u:∀p∈f1++f2,w'.frozen? ⟨p.1,p.2,none⟩=w.frozen? ⟨p.1,p.2,none⟩:=fun p j=>by simp only[World.frozen?];rw[q p.1 (c.ge p j) (d p j)]
 exact⟨a.keep fun p j=>n p (lu _ j),b.keep fun p j=>n p (lw _ j),⟨c.nodup,c.ge,fun p j=>(u p j).trans (c.free p j)⟩,d⟩
theorem Two.below (h:Two C D w v1 v2 l1 l2 f1 f2)(hb:Below D w w'):Two C D w' v1 v2 l1 l2 f1 f2:=h.block fun k _ j=>hb.block k j
theorem Two.setCell {b o:Nat}(h:Two C D w v1 v2 l1 l2 f1 f2)(p:b<C\/D<=b)(u:Value):Two C D (w.setCell ⟨b,o,none⟩ u) v1 v2 l1 l2 f1 f2:=h.block fun k j n=>Below.heap_setCell w ⟨b,o,none⟩ u k (by show k≠b;omega)
theorem Two.alloc (h:Two C D w v1 v2 l1 l2 f1 f2)(j:D<=w.heap.size)(o:Obj):Two C D (w.alloc o) v1 v2 l1 l2 f1 f2:=h.below ((lf _ _).alloc j o)
theorem Two.drew (h:Two C D w v1 v2 l1 l2 f1 f2):Two C D w.drew v1 v2 l1 l2 f1 f2:=h.block fun _ _ _=>rfl
end
