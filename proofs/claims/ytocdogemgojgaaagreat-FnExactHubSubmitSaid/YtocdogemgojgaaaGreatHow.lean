/- A hub in memory of one's own: what is answered; subscribers appended, and laid anew. -/
import Derived.Test.YtocdogemgojgaaaGreatHsh
import Derived.Test.YtocdogemgojgaaaGreatRo
import Derived.Test.YtocdogemgojgaaaGreatCp
namespace Go.Proofs.YtocdogemgojgaaaGreat
open Go.RowKit
section
variable {w w':World} {n m:Int}
theorem out_hub0_i_i (hb:Below w.heap.size w w'):Out_Hub_i_i w hub0 n m (.returned (.tuple #[.agg #[.bool false,.slice none 0 0,.slice none 0 0,.int .i64 0],.int .i64 n,.int .i64 m])) w':=
 ⟨_,_,[],[],rfl,Sl.nil,Sl.nil,Fresh.nil _ _,hb⟩
end
def HubNe (ob B:Nat)(w:World)(vd vs:Value)(docs:List DDoc)(subs:List DSub):Prop:=∃fd fs,Sl BIG w vd docs fd/\Sl BIG w vs subs fs/\Fresh B w (fd++fs)/\∀p∈fd++fs,p.1≠ob
section
variable {ob B:Nat} {w w':World} {vd vs:Value} {docs:List DDoc} {subs:List DSub}
theorem HubNe.block (h:HubNe ob B w vd vs docs subs)(q:∀k,B<=k->k≠ob->w'.heap[k]? =w.heap[k]?):HubNe ob B w' vd vs docs subs:=by
 obtain⟨fd,fs,a,b,c,d⟩:=h;have n:∀p∈fd++fs,w'.cell? ⟨p.1,p.2,none⟩=w.cell? ⟨p.1,p.2,none⟩:=fun p j=>by simp only[World.cell?];rw[q p.1 (c.ge p j) (d p j)]
 have u:∀p∈fd++fs,w'.frozen? ⟨p.1,p.2,none⟩=w.frozen? ⟨p.1,p.2,none⟩:=fun p j=>by simp only[World.frozen?];rw[q p.1 (c.ge p j) (d p j)]
 exact⟨fd,fs,a.keep fun p j=>n p (lu _ j),b.keep fun p j=>n p (lw _ j),⟨c.nodup,c.ge,fun p j=>(u p j).trans (c.free p j)⟩,d⟩
theorem HubNe.setCell {b o:Nat}(h:HubNe ob B w vd vs docs subs)(p:b<B\/b=ob)(u:Value):HubNe ob B (w.setCell ⟨b,o,none⟩ u) vd vs docs subs:=h.block fun k j n=>Below.heap_setCell w ⟨b,o,none⟩ u k (by show k≠b;omega)
theorem HubNe.drew (h:HubNe ob B w vd vs docs subs):HubNe ob B w.drew vd vs docs subs:=h.block fun _ _ _=>rfl
theorem HubNe.out_i_i {w0:World}{y:DHub}{n m:Int}(h:HubNe ob B w' vd vs y.docs y.subs)(j:w0.heap.size<=B)(hb:Below w0.heap.size w0 w'):Out_Hub_i_i w0 y n m (.returned (.tuple #[.agg #[.bool y.shut,vd,vs,.int .i64 y.last],.int .i64 n,.int .i64 m])) w':=
 let⟨fd,fs,a,b,c,_⟩:=h
 ⟨vd,vs,fd,fs,rfl,a,b,c.mono j,hb⟩
end
section
variable {C D:Nat} {w:World} {vd vs:Value} {docs:List DDoc} {subs:List DSub}
theorem HubOwn.row (h:HubOwn C D w vd vs docs subs){B ob:Nat}(Y:B<=C)(hCD:C<=D)(ho:D<=ob):∃z,Row C w vs subs z/\(∀p∈rowP (GoT.n DSub) vs++z,p.1<D)/\
 ∀(W I:World) (U:Value) (x:DSub) (f:List Pos),Below w.heap.size w W->Wr (rowP (GoT.n DSub) vs) W I->Row C I U (subs++[x]) (z++f)->(∀p∈rowP (GoT.n DSub) U,p∈rowP (GoT.n DSub) vs\/ob<p.1)->
  Fresh B W f->Live W f->(∀p∈f,p.1<C\/ob<p.1)->HubNe ob B I vd U docs (subs++[x]):=by
 obtain⟨fd,fs,sd,ss,M,J⟩:=h;obtain⟨z,rfl⟩:=ss.split;have R:=ln.1 M.nodup;have ns:=ln.1 R.2.1;refine⟨z,⟨ss,M.right.left,fun p j u=>ns.2.2 p u p j rfl⟩,fun p j=>J p (lw _ j),?_⟩
 intro W I U x f hb Q hr hn Z a0 N;have sd':=sd.wr2 hb Q (fun p j u=>R.2.2 p j p (lu _ u) rfl)
 have k1:Fresh C I fd:=M.left.wr2 hb Q (Live.lt sd.live);have k3:Fresh C I z:=M.right.right.wr2 hb Q (fun p j=>Live.lt ss.live p (lw _ j))
 have k4:Fresh B I f:=Q.fresh a0 Z;have hx:∀p∈fd++(rowP (GoT.n DSub) vs++z),p∉f:=fun p j u=>by
  have:=M.ge p j;have:=J p j;have:=N p u;omega
 have hs:Fresh B I (z++f):=(k3.mono Y).join k4 fun p j q u e=>hx p (lw _ (lw _ j)) (e▸u)
 refine⟨fd,_,sd',hr.1,(k1.mono Y).join ((hr.2.1.mono Y).join hs fun p j q u e=>hr.2.2 q u (e▸j)) fun p j q u e=> ?_,?_⟩
 ·subst e;have a:=J p (lu _ j);rcases lm.1 u with u|u
  ·rcases hn p u with u|u
   ·exact R.2.2 p j p (lu _ u) rfl
   ·omega
  ·rcases lm.1 u with u|u
   ·exact R.2.2 p j p (lw _ u) rfl
   ·exact hx p (lu _ j) u
 ·intro p j;rcases lm.1 j with j|j
  ·have:=J p (lu _ j);omega
  ·rcases lm.1 j with j|j
   ·rcases hn p j with j|j
    ·have:=J p (lw _ (lu _ j));omega
    ·omega
   ·rcases lm.1 j with j|j
    ·have:=J p (lw _ (lw _ j));omega
    ·have:=N p j;omega
theorem HubOwn.el (h:HubOwn C D w vd vs docs subs){B:Nat}(hB:B<=C){P:Program}{T E:TypeId}(hT:P.underlying T=some (.slice E))(hl:∀J,(sizeOf E).run P J= .ok (GoT.n DSub) J){k:Nat}{s:DSub}(hk:subs[k]? =some s):
 ∃b o vl,(∀J,(Instr.indexAt T vs (.int .i64 k)).run P J= .ok (.pointer (some ⟨b,o,none⟩)) J)/\C<=b/\b<D/\b<w.heap.size/\
  At w b o [.int .i64 s.id,.string s.doc,.int .i64 s.r.cap,.int .i64 s.r.next,.bool s.r.out,vl]/\RdS w vl s.r.list/\(∀j<6,w.frozen? ⟨b,o+j,none⟩=false)/\
  ∀(I:World) (r:DRing) (v':Value) (M:List Pos),Wr (own b o 6) w I->At I b o [.int .i64 s.id,.string s.doc,.int .i64 r.cap,.int .i64 r.next,.bool r.out,v']->Sl BIG I v' r.list M->Fresh B I M->
   (∀p∈M,p.1<C\/D<=p.1)->∃fd fs,Sl BIG I vd docs fd/\Sl BIG I vs (subs.set k ⟨s.id,s.doc,r⟩) fs/\Fresh B I (fd++fs)/\∀p∈fd++fs,(C<=p.1/\p.1<D)\/p∈M:=by
 obtain⟨fd,fs,sd,ss,N,hD⟩:=h;have nd:=ln.1 N.nodup;obtain⟨b,o,cap,c2,f2,rfl,ha,hrd,R,hsub,Y⟩:=ss.el (N.right.mono hB) hk;have hlt:=(lg.1 hk).1;have hi:∀J,(Instr.indexAt T (.slice (some ⟨b,o,none⟩) subs.length cap) (.int .i64 k)).run P J= .ok (.pointer (some ⟨b,o+k*GoT.n DSub,none⟩)) J:=fun J=>by
  have hi:¬subs.length<=k:=by omega
  simp[Instr.indexAt,run_underlying hT,asIntOf,hl,Addr.add_lit,Result.andThen];intro hh;exact absurd hh hi
 obtain⟨cr,fr,rfl,nn,⟨vl,fl,rfl,sl,rfl⟩,rfl⟩:=hrd;have Z:GoT.n DSub=6:=rfl;have hb:=R 0 (by rw[Z];omega)
 have hbC:=N.right.ge _ hb;have hbD:=hD _ (lw _ hb);have hbw:=Live.lt ss.live _ hb;refine⟨b,o+k*GoT.n DSub,vl,hi,hbC,hbD,hbw,ha,⟨_,sl⟩,fun j hj=>N.right.free _ (R j (by rw[Z];omega)),?_⟩
 intro I r v' M hw ha' s0 k0 hd0;have Q:∀p∈M,p∉fd++fs:=fun p u z=>by
  have:=N.ge p z;have:=hD p z;have:=hd0 p u;omega
 obtain⟨fp',g1,g2,g3⟩:=Y I _ ⟨s.id,s.doc,r⟩ M hw ha' ⟨_,_,rfl,nn,⟨v',M,rfl,s0,rfl⟩,rfl⟩ k0 (fun p u=> .inl fun z=>Q p u (lw _ z))
 have U:∀p∈own b (o+k*GoT.n DSub) 6,p∈fs:=fun p u=>by
  obtain⟨q1,q2,q3⟩:=mem_own.1 u;have:=R (p.2-(o+k*GoT.n DSub)) (by rw[Z];rw[Z]at q2 q3;omega)
  have e:(b,o+k*GoT.n DSub+(p.2-(o+k*GoT.n DSub)))=p:=Prod.ext q1.symm (Nat.add_sub_cancel' q2);rwa[e]at this
 have sd':=sd.wr hw (fun p u z=>nd.2.2 p u p (U p z) rfl)
 refine⟨fd,fp',sd',g1,((hw.fresh sd.live N.left).mono hB).join g2 fun p u q z e=> ?_,fun p u=> ?_⟩
 ·subst e;rcases g3 p z with z|z
  ·exact nd.2.2 p u p z rfl
  ·exact Q p z (lu _ u)
 ·rcases lm.1 u with u|u
  ·exact .inl ⟨N.left.ge p u,hD p (lu _ u)⟩
  ·rcases g3 p u with u|u
   ·exact .inl ⟨N.right.ge p u,hD p (lw _ u)⟩
   ·exact .inr u
end
