/- Hubs: shut. -/
import Derived.Test.YtocdogemgojgaaaGreatHok
import Derived.Test.YtocdogemgojgaaaGreatHcp
import Derived.Deep.Cut
set_option maxHeartbeats 8000000
set_option maxRecDepth 100000
namespace Go.Proofs.YtocdogemgojgaaaGreat
open Go.RowKit
attribute [local go_sem ↓] Go.wp_at_zero Go.wp_at_succ
def HubOwn (C D:Nat)(w:World)(vd vs:Value)(docs:List DDoc)(subs:List DSub):Prop:=
 ∃fd fs,Sl BIG w vd docs fd/\Sl BIG w vs subs fs/\Fresh C w (fd++fs)/\∀p∈fd++fs,p.1<D
section
variable {C D:Nat} {w w':World} {vd vs:Value} {docs:List DDoc} {subs:List DSub}
theorem HubOwn.of_own {n:List Value}{z:DHub}(h:Own C w n z):∃j vs,n=[.bool z.shut,j,vs,.int .i64 z.last]/\HubOwn C w.heap.size w j vs z.docs z.subs:=by
 obtain⟨f,⟨j,vs,fd,fs,rfl,p,q,rfl⟩,u⟩:=h;exact⟨j,vs,rfl,fd,fs,p,q,u,Live.lt (Live.append.2 ⟨p.live,q.live⟩)⟩
theorem HubOwn.rd1 (h:HubOwn C D w vd vs docs subs):RdS w vd docs:=let⟨fd,_,j,_⟩:=h;⟨fd,j⟩
theorem HubOwn.rd2 (h:HubOwn C D w vd vs docs subs):RdS w vs subs:=let⟨_,fs,_,j,_⟩:=h;⟨fs,j⟩
theorem HubOwn.mono {C':Nat}(h:HubOwn C D w vd vs docs subs)(j:C'<=C):HubOwn C' D w vd vs docs subs:=let⟨fd,fs,a,b,c,d⟩:=h;⟨fd,fs,a,b,c.mono j,d⟩
theorem HubOwn.block (h:HubOwn C D w vd vs docs subs)(q:∀k,C<=k->k<D->w'.heap[k]? =w.heap[k]?):HubOwn C D w' vd vs docs subs:=by
 obtain⟨fd,fs,a,b,c,d⟩:=h;have n:∀p∈fd++fs,w'.cell? ⟨p.1,p.2,none⟩=w.cell? ⟨p.1,p.2,none⟩:=fun p j=>by simp only[World.cell?];rw[q p.1 (c.ge p j) (d p j)]
 have u:∀p∈fd++fs,w'.frozen? ⟨p.1,p.2,none⟩=w.frozen? ⟨p.1,p.2,none⟩:=fun p j=>by simp only[World.frozen?];rw[q p.1 (c.ge p j) (d p j)]
 exact⟨fd,fs,a.keep fun p j=>n p (lu _ j),b.keep fun p j=>n p (lw _ j),⟨c.nodup,c.ge,fun p j=>(u p j).trans (c.free p j)⟩,d⟩
theorem HubOwn.below (h:HubOwn C D w vd vs docs subs)(hb:Below D w w'):HubOwn C D w' vd vs docs subs:=h.block fun k _ j=>hb.block k j
theorem HubOwn.setCell {b o:Nat}(h:HubOwn C D w vd vs docs subs)(p:b<C\/D<=b)(u:Value):HubOwn C D (w.setCell ⟨b,o,none⟩ u) vd vs docs subs:=h.block fun k j n=>Below.heap_setCell w ⟨b,o,none⟩ u k (by show k≠b;omega)
theorem HubOwn.alloc (h:HubOwn C D w vd vs docs subs)(j:D<=w.heap.size)(o:Obj):HubOwn C D (w.alloc o) vd vs docs subs:=h.below ((lf _ _).alloc j o)
theorem HubOwn.out_i_i {w0:World}{y:DHub}{n m:Int}(h:HubOwn C D w' vd vs y.docs y.subs)(j:w0.heap.size<=C)(hb:Below w0.heap.size w0 w'):Out_Hub_i_i w0 y n m (.returned (.tuple #[.agg #[.bool y.shut,vd,vs,.int .i64 y.last],.int .i64 n,.int .i64 m])) w':=
 let⟨fd,fs,a,b,c,_⟩:=h
 ⟨vd,vs,fd,fs,rfl,a,b,c.mono j,hb⟩
end
theorem hub_cnt (z:DHub):cntL z.docs+cntL z.subs<=5*(szL z.docs+szL z.subs):=by
 have:=cntL_le z.docs;have:=cntL_le z.subs;omega
