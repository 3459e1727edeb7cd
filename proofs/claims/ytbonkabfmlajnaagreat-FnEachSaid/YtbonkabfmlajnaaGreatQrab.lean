/- The copies that the laws make. -/
import Derived.Test.YtbonkabfmlajnaaGreatQraa
import Derived.Handy
import Derived.StillTailTactics
import Derived.Deep.Slices
namespace Go.Proofs.YtbonkabfmlajnaaGreat
open Go.RowKit
theorem At.zero {w:World}{b o:Nat}{c:Value}{j:List Value}(h:At w b o (c::j)):w.cell? ⟨b,o,none⟩=some c:=h 0 c rfl
theorem kao:(Tryz.prog.info? 87).map (fun i=>(i.zero,i.size,i.bytes))=some (some (.agg #[zI,zI,zN]),3,40):=by kernel_rfl
theorem xaR:(Tryz.prog.info? 33).map (fun i=>(i.zero,i.size,i.bytes))=some (some (.agg #[zI,ByteArray.empty,zI,zI,zI,zN,zN]),7,96):=by kernel_rfl
end Go.Proofs.YtbonkabfmlajnaaGreat
namespace Go.Proofs.YtbonkabfmlajnaaGreat
open Go.RowKit
theorem uae:∀j,(sizeOf 122).run Tryz.prog j= .ok 3 j:=fun _=>by kernel_rfl
theorem Kab:∀j,(sizeOf 87).run Tryz.prog j= .ok 3 j:=fun _=>by kernel_rfl
theorem Jak:∀j,(sizeOf 119).run Tryz.prog j= .ok 3 j:=fun _=>by kernel_rfl
theorem uag:∀j,(sizeOf 67).run Tryz.prog j= .ok 5 j:=fun _=>by kernel_rfl
theorem ual:∀j,(sizeOf 72).run Tryz.prog j= .ok 6 j:=fun _=>by kernel_rfl
theorem ya0:∀j,(sizeOf 33).run Tryz.prog j= .ok 7 j:=fun _=>by kernel_rfl
def RdM {α:Type}[GoT α](M:Nat)(w:World)(cs:List Value)(x:α):Prop:=∃fp,GoT.rd M w cs x fp
def Ka8 {α:Type}[GoT α](M:Nat)(w:World)(v:Value)(l:List α):Prop:=∃fp,Sl M w v l fp
section
variable {α:Type} [GoT α] {M:Nat} {w w':World} {v:Value} {l:List α}
theorem Ka8.below (h:Ka8 M w v l)(hb:Below w w w'):Ka8 M w' v l:=by
 obtain⟨fp,h⟩:=h;exact⟨fp,h.keep (Live.same_below hb (Live.lt h.live))⟩
theorem Ka8.len (h:Ka8 M w v l){P:Program}{T E:TypeId}(n:P.underlying T=some (.slice E))(j:World)(ty:TypeId):
 (Builtin.len_ #[T] ty #[v]).run P j= .ok (.int .i64 l.length) j:=let⟨_,h⟩:=h;h.len n j ty
theorem Ka8.le (h:Ka8 M w v l):l.length<=9223372036854775807:=let⟨_,h⟩:=h;by have:=h.le;unfold maxLen at this;omega
theorem Ka8.idx (h:Ka8 M w v l){P:Program}{T E:TypeId}(B:P.underlying T=some (.slice E))(I:∀j,(sizeOf E).run P j= .ok (GoT.n α) j)(k:Nat){x:α}(D:l[k]? =some x):
 ∃b o p,(∀j,(Instr.indexAt T v (.int .i64 k)).run P j= .ok (.pointer (some ⟨b,o,none⟩)) j)/\At w b o p/\RdM M w p x:=by
 obtain⟨fp,h⟩:=h;obtain⟨b,o,p,f,q,u,z,_⟩:=h.idx B I k D;exact⟨b,o,p,q,u,f,z⟩
end
class GoS (α:Type) [GoT α] where
 sz:α->Nat
 up:∀{M N:Nat} {w:World} {cs:List Value} {x:α} {fp:List Pos},GoT.rd M w cs x fp->sz x<=N->GoT.rd N w cs x fp
def szs {α:Type}[GoT α][GoS α]:List α->Nat
 |[]=>0
 |x::xs=>GoS.sz x+szs xs
def szL {α:Type}[GoT α][GoS α](l:List α):Nat:=l.length+szs l
section
variable {α:Type} [GoT α] [GoS α]
theorem uaR:∀(a b:List α),szs (a++b)=szs a+szs b
 |[],b=>by simp[szs]
 |x::j,b=>by simp[szs,uaR j];omega
theorem Els.up {M N:Nat}{w:World}:∀{l:List α} {j:List Value} {fp:List Pos},Els M w j l fp->szs l<=N->Els N w j l fp
 |[],_,_,h,_=>h
 |x::B,_,_,⟨c1,c2,f1,f2,q,n,p,u⟩,z=>by
  simp only[szs]at z;exact⟨c1,c2,f1,f2,q,GoS.up n om,Els.up p om,u⟩
theorem Sl.up {M N:Nat}{w:World}{v:Value}{l:List α}{fp:List Pos}(h:Sl M w v l fp)(B:szL l<=N):Sl N w v l fp:=by
 unfold szL at B;rcases h with h|⟨b,o,cap,j,fs,rfl,n,p,D,q,u,z,rfl⟩
 ·exact .inl h
 ·exact .inr ⟨b,o,cap,j,fs,rfl,n,p,by omega,q,u.up om,z,rfl⟩
end
instance:GoS Int where
 sz:=fun _=>0
 up:=fun h _=>h
theorem ja9:∀(l:List Int),szs l=0
 |[]=>rfl
 |x::j=>by simp[szs,ja9 j,GoS.sz]
theorem vaT (l:List Int):szL l=l.length:=by simp[szL,ja9]
instance:GoS zaa where
 sz:=fun x=>szL x.signs
 up:=by
  rintro M N w cs x fp ⟨v_signs,f_signs,rfl,h_signs,rfl⟩ hs;exact⟨v_signs,_,rfl,h_signs.up om,rfl⟩
instance:GoS yab where
 sz:=fun x=>szL x.o
 up:=by
  rintro M N w cs x fp ⟨v_o,f_o,rfl,h_o,rfl⟩ hs;exact⟨v_o,_,rfl,h_o.up om,rfl⟩
instance:GoS qac where
 sz:=fun _=>0
 up:=fun h _=>h
instance:GoS Xac where
 sz:=fun x=>x.name.size+szL x.text+szL x.list+szL x.seen
 up:=by
  rintro M N w cs x fp ⟨v_text,v_list,v_seen,f_text,f_list,f_seen,rfl,n_name,h_text,h_list,h_seen,rfl⟩ hs;exact⟨v_text,v_list,v_seen,_,_,_,rfl,om,h_text.up om,h_list.up om,h_seen.up om,rfl⟩
instance:GoS vac where
 sz:=fun x=>szL x.list
 up:=by
  rintro M N w cs x fp ⟨v_list,f_list,rfl,h_list,rfl⟩ hs;exact⟨v_list,_,rfl,h_list.up om,rfl⟩
instance:GoS yai where
 sz:=fun x=>x.doc.size+GoS.sz x.r
 up:=by
  rintro M N w cs x fp ⟨v_r,f_r,rfl,n_doc,h_r,rfl⟩ hs;exact⟨v_r,_,rfl,om,GoS.up h_r om,rfl⟩
instance:GoS qae where
 sz:=fun x=>szL x.docs+szL x.subs
 up:=by
  rintro M N w cs x fp ⟨v_docs,v_subs,f_docs,f_subs,rfl,h_docs,h_subs,rfl⟩ hs;exact⟨v_docs,v_subs,_,_,rfl,h_docs.up om,h_subs.up om,rfl⟩
instance:GoS Jag where
 sz:=fun x=>x.doc.size+szL x.o+szL x.text
 up:=by
  rintro M N w cs x fp ⟨v_o,v_text,f_o,f_text,rfl,n_doc,h_o,h_text,rfl⟩ hs;exact⟨v_o,v_text,_,_,rfl,om,h_o.up om,h_text.up om,rfl⟩
instance:GoS Kal where
 sz:=fun x=>szL x.text+szL x.list
 up:=by
  rintro M N w cs x fp ⟨v_text,v_list,f_text,f_list,rfl,h_text,h_list,rfl⟩ hs;exact⟨v_text,v_list,_,_,rfl,h_text.up om,h_list.up om,rfl⟩
theorem mapM_some {α β:Type}{f:α->Option β}:∀{l:List α} {r:List β},l.mapM f=some r->r.length=l.length/\∀(j:Nat) (x:α),l[j]? =some x->f x=r[j]?
 |[],r,h=>by
  simp at h;subst h;exact⟨rfl,fun j x n=>by simp at n⟩
 |a::l,r,h=>by
  simp only[List.mapM_cons,Option.bind_eq_bind,Option.bind_eq_some_iff,Option.pure_def,Option.some.injEq]at h;obtain⟨y,hy,z,p,rfl⟩:=h;obtain⟨q,u⟩:=mapM_some p;refine⟨by simp[q],fun j x n=> ?_⟩
  cases j with
  |zero=>simp only[List.getElem?_cons_zero,Option.some.injEq]at n⊢;subst n;exact hy
  |succ j=>simp only[List.getElem?_cons_succ]at n⊢;exact u j x n
theorem jaS {w:World}{base n:Nat}{a:Addr}{p:List Value}(h:w.cells? base a n=some p):p.length=n/\∀j,j<n->w.cell? (a.add j)=p[j]? :=by
 unfold World.cells? at h;split at h
 ·obtain⟨q,u⟩:=mapM_some h;rw[List.length_range]at q;exact⟨q,fun j z=>u j j (by rw[List.getElem?_range z])⟩
 ·cases h
def Zbf (α:Type)[GoT α](P:Program)(t:TypeId):Prop:=
 ∀(H:Type) (enc:TypeId×Value->H) (w:World) (base:Nat) (held:Bool) (fuel:Nat) (cs:List Value) (x:DataW H×List MemPlace),DataW.trod enc P w base (fun _=>true) held fuel t cs=some x->∃d:α,RdM maxLen w cs d
theorem qaM {α:Type}[GoT α]{w:World}:∀(j:List (List Value)),(∀n∈j,∃d:α,RdM maxLen w n d)->∃(l:List α) (fp:List Pos),l.length=j.length/\Els maxLen w j.flatten l fp
 |[],_=>⟨[],[],rfl,rfl,rfl⟩
 |c::j,h=>by
  obtain⟨d,f,hd⟩:=h c sm;obtain⟨l,fp,u,q⟩:=qaM j (fun n p=>h n (by simp[p]))
  exact⟨d::l,f++fp,by simp[u],c,j.flatten,f,fp,by simp,hd,q,rfl⟩
theorem za1 {α:Type}[GoT α]{P:Program}{t e:TypeId}(ht:P.underlying t=some (.slice e))(hn:P.cellsOf e=GoT.n α)(ho:Zbf α P e):Zbf (List α) P t:=by
 intro H enc w base held fuel cs x h;rcases Go.Deep.open_slice ht h with⟨rfl,_⟩|⟨a,len,cap,m,n,D,Pl,rfl,hb,hl,hm,hmm,_,hx⟩
 ·exact⟨[],[],_,rfl,Sl.nil⟩
 ·simp only[if_true]at hmm;subst hmm;have R:=GoT.pos (α:=α);rw[hn]at hx;by_cases hc0:m=0
  ·subst hc0;obtain rfl:len=0:=om;exact⟨[],[],_,rfl,.inl ⟨_,rfl,rfl,rfl⟩⟩
  ·have U:a.spot=none:=by
    obtain⟨z,J,_⟩:=hx 0 om;obtain⟨Z,h3⟩:=jaS J;have N:=h3 0 R;rw[List.getElem?_eq_getElem om]at N;simp only[Nat.zero_mul,Addr.add,if_true]at N;unfold World.cell? at N;cases hsp:a.spot with
    |none=>rfl
    |some s=>
     rw[hsp]at N;split at N<;>simp at N
   obtain⟨b,o,sp⟩:=a;simp only at U;subst U;have M:∀i,i<m->∃z,z.length=GoT.n α/\(∀j,j<GoT.n α->w.cell? ⟨b,o+i*GoT.n α+j,none⟩=z[j]?)/\∃d:α,RdM maxLen w z d:=by
    intro i hi;obtain⟨z,J,Z⟩:=hx i hi;obtain⟨h3,N⟩:=jaS J;refine⟨z,h3,fun j Y=> ?_,ho _ _ _ _ _ _ _ _ Z⟩
    have:=N j Y;rwa[Addr.add_lit,Addr.add_lit]at this
   obtain⟨B,hcss⟩:∃B:List (List Value),B.length=m/\∀i,i<m->∃z,B[i]? =some z/\z.length=GoT.n α/\(∀j,j<GoT.n α->w.cell? ⟨b,o+i*GoT.n α+j,none⟩=z[j]?)/\∃d:α,RdM maxLen w z d:=by
    refine⟨(List.range m).map fun i=>if h:i<m then Classical.choose (M i h)else[],by simp,fun i hi=>⟨Classical.choose (M i hi),?_,Classical.choose_spec (M i hi)⟩⟩
    rw[List.getElem?_map,List.getElem?_range hi];simp[hi]
   obtain⟨hcl,a0⟩:=hcss;have a4:∀c∈B,c.length=GoT.n α:=by
    intro c hc;obtain⟨i,hi,rfl⟩:=List.getElem_of_mem hc;obtain⟨z,J,Z,_⟩:=a0 i om;rw[List.getElem?_eq_getElem hi]at J;cases J;exact Z
   have a1:∀(L:List (List Value)) (i:Nat) (c:List Value),(∀c∈L,c.length=GoT.n α)->L[i]? =some c->∀j,j<GoT.n α->L.flatten[i*GoT.n α+j]? =c[j]? :=by
    intro L;induction L with
    |nil=>intro i c _ h;simp at h
    |cons c0 L ih=>
     intro i c hL hi j Y;have h0:=hL c0 sm;cases i with
     |zero=>
      simp only[List.getElem?_cons_zero,Option.some.injEq]at hi;subst hi;rw[List.flatten_cons,Nat.zero_mul,Nat.zero_add,List.getElem?_append_left om]
     |succ i=>
      simp only[List.getElem?_cons_succ]at hi;rw[List.flatten_cons,List.getElem?_append_right (by rw[h0,Nat.add_mul];omega),h0,Nat.add_mul,Nat.one_mul]
      rw[show i*GoT.n α+GoT.n α+j-GoT.n α=i*GoT.n α+j by omega]
      exact ih i c (fun c hc=>hL c (by simp[hc])) hi j Y
   have I:∀q,q<m*GoT.n α->∃v,w.cell? ⟨b,o+q,none⟩=some v/\B.flatten[q]? =some v:=by
    intro q hq;have hi:q/GoT.n α<m:=(Nat.div_lt_iff_lt_mul R).2 hq;have Y:q % GoT.n α<GoT.n α:=Nat.mod_lt _ R;obtain⟨z,J,Z,h3,_⟩:=a0 _ hi;have hq':q/GoT.n α*GoT.n α+q % GoT.n α=q:=by rw[Nat.mul_comm];exact Nat.div_add_mod q _
    have N:=h3 _ Y;have h5:=a1 B _ z a4 J _ Y;rw[hq']at h5;rw[Nat.add_assoc,hq']at N;obtain⟨v,hv⟩:=Jaa (l:=z) (k:=q % GoT.n α) om;rw[hv]at N h5;exact⟨v,N,h5⟩
   obtain⟨l,fp,hll,a3⟩:=qaM (B.take len) (fun c hc=>by
    obtain⟨i,hi,rfl⟩:=List.getElem_of_mem (List.mem_of_mem_take hc);obtain⟨z,J,_,_,N⟩:=a0 i om;rw[List.getElem?_eq_getElem hi]at J;cases J;exact N)
   have Q:l.length=len:=by rw[hll,List.length_take];omega
   refine⟨l,own b o (m*GoT.n α)++fp,_,rfl,.inr ⟨b,o,m,(B.take len).flatten,fp,by rw[Q],by omega,hm,by omega,?_,a3,?_,rfl⟩⟩
   ·intro j v Y;have a2:=(lg.1 Y).1;rw[a3.length,Q]at a2;have hjm:j<m*GoT.n α:=lq a2 (Nat.mul_le_mul_right _ hl);obtain⟨u,J,Z⟩:=I j hjm;have hpre:B.flatten=(B.take len).flatten++(B.drop len).flatten:=by rw[<-List.flatten_append,List.take_append_drop]
    rw[hpre,List.getElem?_append_left (by rw[a3.length,Q];exact a2),Y]at Z
    rw[J,<-Z]
   ·intro p hp;obtain⟨e1,e2,e3⟩:=Kaa.1 hp;obtain⟨v,J,_⟩:=I (p.2-o) om;rw[e1,show p.2=o+(p.2-o) by omega,J]
    rfl
