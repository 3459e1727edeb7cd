/- New rings and rings that begin anew. -/
import Derived.Test.YtocdogemgojgaaaGreatRok
import Derived.Test.YtocdogemgojgaaaGreatCp
import Derived.IntWalk
set_option maxRecDepth 100000
namespace Go.Proofs.YtocdogemgojgaaaGreat
open Go.RowKit
theorem ringOk_next {r:DRing}(h:ringOk r=true):1<=r.next/\r.next<=1000000000/\1<=r.cap/\r.cap<=6:=by
 simp only[ringOk,ringHead,Bool.and_eq_true,within_iff]at h;omega
theorem Fresh.poke {B:Nat}{w:World}{f:List Pos}(h:Fresh B w f)(a:Addr)(u:Value):Fresh B (w.setCell a u) f:=h.put a u
theorem Sl.poke {α:Type}[GoT α]{M B:Nat}{w:World}{v:Value}{l:List α}{f:List Pos}(h:Sl M w v l f)(j:Fresh B w f){b o:Nat}(hb:b<B)(u:Value):Sl M (w.setCell ⟨b,o,none⟩ u) v l f:=by
 refine h.keep fun p n=> ?_
 rw[cell_setCell,if_neg];rintro⟨e,_⟩;have:=j.ge p n;omega
