/- The entry that a document keeps for a client: what the reference and the program look up. -/
import Derived.Test.YtocdogemgojgaaaGreatRam
set_option maxHeartbeats 1000000
set_option linter.defProp false
set_option linter.unusedSimpArgs false
namespace Go.Proofs.YtocdogemgojgaaaGreat
open Go.RowKit
def xac (x:Jac)(client:Int):Zab×Bool:=match x.seen.find? (fun s=>decide (s.client=client))with|some s=>(s,true)|none=>(⟨0,0,0⟩,false)
theorem Jbe {x:Jac}{client:Int}{k:Nat}{s:Zab}(u:∀j<k,∀y,x.seen[j]? =some y->decide (y.client=client)=false)(B:x.seen[k]? =some s)(z:decide (s.client=client)=true):xac x client=(s,true):=by
 have:x.seen.find? (fun s=>decide (s.client=client))=some s:=by
  rw[List.find?_eq_some_iff_getElem];obtain⟨p,q⟩:=lg.1 B;refine⟨z,k,p,q,fun j n=> ?_⟩
  rw[u j n _ (List.getElem?_eq_getElem om)];rfl
 unfold xac;rw[this]
theorem Zbh {x:Jac}{client:Int}(p:∀j<x.seen.length,∀y,x.seen[j]? =some y->decide (y.client=client)=false):xac x client=(⟨0,0,0⟩,false):=by
 have:x.seen.find? (fun s=>decide (s.client=client))=none:=by
  rw[List.find?_eq_none];intro s q;obtain⟨j,n,e⟩:=List.mem_iff_getElem.1 q;rw[p j n s (by rw[List.getElem?_eq_getElem n,e])]
  simp
 unfold xac;rw[this]
theorem vaT {J:Nat}(h_:J=165\/J=172)(x:Jac)(z u p:Value)(client:Int)(w:World)(n:RdS w p x.seen):
 Calls Tryz.prog J #[.agg #[x.name,x.from_,z,u,p],client] w (Kba w (xac x client).1 (xac x client).2):=by
 rcases h_ with rfl|rfl
 go_enter Tryz.func165,Tryz.ntmps165
 rotate_left;go_enter Tryz.func172,Tryz.ntmps172
 all_goals
  have hl:=fun w1 ty=>n.len Tryz.underlying97 w1 ty
  have ba:=n.le;go_wp2;go_loopw [11] (fun i wr=>∃k:Nat,k<=x.seen.length/\i= .int .i64 k/\(∀j<k,∀y,x.seen[j]? =some y->decide (y.client=client)=false)/\Below (w+2) ((w.alloc (.cells #[x.name,x.from_,z,u,p] 99)).alloc (.cells #[zI,zI,zI] 167)) wr) (fun i _=>x.seen.length-(intOf i).toNat)
  case atStart=>exact⟨0,lz _,rfl,fun _ h=>absurd h (Nat.not_lt_zero _),blw⟩
  case round=>
   obtain⟨k,hk,rfl,N,q⟩:=hrel;have R:=q.size;simp only[World.size_alloc]at R;have B:Below w w wr:=(((lf _ _).alloc (lr _) _).alloc sm _).trans (q.mono om);have Z:wr.cell? ⟨w.heap.size+1,0,none⟩=some (.int .i64 0):=by rw[q.cell sm];simp
   have r1:wr.cell? ⟨w.heap.size+1,1,none⟩=some (.int .i64 0):=by rw[q.cell sm];simp
   have r2:wr.cell? ⟨w.heap.size+1,2,none⟩=some (.int .i64 0):=by rw[q.cell sm];simp
   have t0:wr.frozen? ⟨w.heap.size+1,0,none⟩=false:=by rw[q.frozen sm];simp
   have t1:wr.frozen? ⟨w.heap.size+1,1,none⟩=false:=by rw[q.frozen sm];simp
   have t2:wr.frozen? ⟨w.heap.size+1,2,none⟩=false:=by rw[q.frozen sm];simp
   have zz:w+1<wr.heap.size:=om;have D:=hH N;clear N;by_cases Q:k<x.seen.length
   ·obtain⟨s,U⟩:=jaa Q;obtain⟨b1,o1,cs,h1,M,h3⟩:=(n.below B).idx Tryz.underlying97 yaj k U;obtain rfl:=jaj h3;have q0:=M.zero;have q1:=M 1 _ rfl;have q2:=M 2 _ rfl;have Y:=hH U;clear U;by_cases e:s.client=client
    ·have e1:(s.client==client)=true:=by simpa using e
     have I:=hH (Jbe D.out Y.out (uaw e));clear e;go_wp2;refine bodyPost_ret (v:= .tuple #[.agg #[s.client,s.seq,s.rev],true]) (by simp[results,Tryz.results165,Tryz.results172,go_sem,zz,Z,r1,r2]) rfl ?_
     rw[I.out];exact⟨rfl,blw⟩
    ·have e1:(s.client==client)=false:=by simpa using e
     have E2:=hH (zao e);clear e;go_wp2;go_roundw
     case rel=>exact⟨k+1,by omega,by go_num,kaL Y.out E2.out D.out,blw⟩
     case measure=>simp[intOf];omega
   ·have I:=hH (Zbh (x:=x) (client:=client) fun j N=>D.out j om)
    go_wp2;refine bodyPost_ret (v:= .tuple #[.agg #[zI,zI,zI],false]) (by simp[results,Tryz.results165,Tryz.results172,go_sem,Z,r1,r2]) rfl ?_
    rw[I.out];exact⟨rfl,blw⟩
def jaW:=@vaT 165 (.inl rfl)
def vaW:=@vaT 172 (.inr rfl)
end Go.Proofs.YtocdogemgojgaaaGreat
namespace Go.Proofs.YtocdogemgojgaaaGreat
open Go.RowKit
def nsz (p:zaa):Nat:=(yaf p).toNat
def skip:List zaa->List zaa
 |[]=>[]
 |p::l=>if nsz p=0 then skip l else p::l
def cutL (p:zaa)(n:Nat):zaa:=if p.kind=2 then⟨p.kind,p.n,p.signs.take n⟩else⟨p.kind,n,p.signs⟩
def cutR (p:zaa)(n:Nat):zaa:=if p.kind=2 then⟨p.kind,p.n,p.signs.drop n⟩else⟨p.kind,p.n-n,p.signs⟩
def tf:Nat->List zaa->List zaa->List zaa×List zaa
 |0,_,_=>([],[])
 |m+1,r,s=>match skip r with
  |[]=>(match skip s with
   |[]=>([],[])
   |q::s'=>if q.kind=2 then
    (⟨1,q.signs.length,[]⟩::(tf m [] (cutR q (nsz q)::s')).1,cutL q (nsz q)::(tf m [] (cutR q (nsz q)::s')).2)else([],[]))
  |p::r'=>if p.kind=2 then
   (cutL p (nsz p)::(tf m (cutR p (nsz p)::r') s).1,⟨1,p.signs.length,[]⟩::(tf m (cutR p (nsz p)::r') s).2)else(match skip s with
   |[]=>([],[])
   |q::s'=>if q.kind=2 then
    (⟨1,q.signs.length,[]⟩::(tf m (p::r') (cutR q (nsz q)::s')).1,cutL q (nsz q)::(tf m (p::r') (cutR q (nsz q)::s')).2)else
    ((if q.kind=1 then[cutL p (min (nsz p) (nsz q))]else[])++(tf m (cutR p (min (nsz p) (nsz q))::r') (cutR q (min (nsz p) (nsz q))::s')).1,
     (if p.kind=1 then[cutL q (min (nsz p) (nsz q))]else[])++(tf m (cutR p (min (nsz p) (nsz q))::r') (cutR q (min (nsz p) (nsz q))::s')).2))
def mu:List zaa->Nat
 |[]=>0
 |p::l=>nsz p+1+mu l
theorem xan:∀l,skip (skip l)=skip l
 |[]=>rfl
 |p::l=>by
  by_cases h:nsz p=0
  ·have e:skip (p::l)=skip l:=by simp[skip,h]
   rw[e];exact xan l
  ·have e:skip (p::l)=p::l:=by simp[skip,h]
   rw[e,e]
theorem Xam {l:List zaa}{p:zaa}{t:List zaa}(h:skip l=p::t):nsz p≠0:=by
 induction l with
 |nil=>cases h
 |cons q l j=>
  unfold skip at h;split at h
  ·exact j h
  ·cases h;assumption
theorem yaG {l:List zaa}(h:l.all vab=true):(skip l).all vab=true:=by
 induction l with
 |nil=>exact h
 |cons q l j=>
  unfold skip;split
  ·simp only[List.all_cons,Bool.and_eq_true]at h;exact j h.2
  ·exact h
theorem Xap:∀l,mu (skip l)<=mu l
 |[]=>lr _
 |p::l=>by
  unfold skip;split
  ·have:=Xap l;simp only[mu];omega
  ·exact lr _
theorem zba:∀l,(skip l).length<=l.length
 |[]=>lr _
 |p::l=>by
  unfold skip;split
  ·have:=zba l;simp only[List.length_cons];omega
  ·exact lr _
theorem kav {p:zaa}(h:vab p=true):(nsz p:Int)=yaf p:=by unfold nsz;have:=QaK h;omega
theorem jam (b:Int){l:List zaa}(h:l.all vab=true):Qab b (skip l)=Qab b l:=by
 induction l with
 |nil=>rfl
 |cons q l j=>
  simp only[List.all_cons,Bool.and_eq_true]at h;unfold skip;split
  ·rename_i n
   have:=kav h.1;rw[j h.2];simp only[Qab];split<;>omega
  ·rfl
theorem qaB {p:zaa}(h:vab p=true){n:Nat}(J:n<=nsz p):vab (cutL p n)=true/\vab (cutR p n)=true/\(cutL p n).kind=p.kind/\(cutR p n).kind=p.kind/\yaf (cutL p n)=n/\yaf (cutR p n)=yaf p-n:=by
 have q:=kav h;rcases Jab h with⟨k,u,z,j⟩|⟨k,u,z,j⟩|⟨k,u,z,j⟩
 ·unfold yaf at q;rw[j]at q;simp at q;simp[cutL,cutR,k,vab,yaf,within,j];omega
 ·unfold yaf at q;simp only[u,Int.zero_add]at q;have I:nsz p=p.signs.length:=om;have B:(p.signs.take n).all Zak=true:=Kaz j n;have D:(p.signs.drop n).all Zak=true:=xaL j n;simp[cutL,cutR,k,vab,yaf,u,kal,B,D];omega
 ·unfold yaf at q;rw[j]at q;simp at q;simp[cutL,cutR,k,vab,yaf,within,j];omega
theorem vaJ {p:zaa}(h:vab p=true)(k:p.kind=2):nsz p=p.signs.length/\cutL p (nsz p)=p/\yaf p=p.signs.length/\p.signs.length<=200:=by
 rcases Jab h with⟨n,_⟩|⟨_,q,j,_⟩|⟨n,_⟩
 ·omega
 ·have e:nsz p=p.signs.length:=by unfold nsz yaf;omega
  refine⟨e,?_,by unfold yaf;omega,j⟩
  rw[e];unfold cutL;rw[if_pos k,List.take_length]
 ·omega
theorem ka5 (n:Nat)(h:n<=200):vab ⟨1,n,[]⟩=true:=by simp[vab,within];omega
structure ua7 (a b:List zaa):Prop where
 r:a.all vab=true
 s:b.all vab=true
 e:Qab 2 a=Qab 2 b
structure Jbn (m:Nat)(r s:List zaa)(z:List zaa×List zaa):Prop where
 ax:z.1.all vab=true
 ay:z.2.all vab=true
 lx:z.1.length<=m
 ly:z.2.length<=m
 fx:Qab 2 z.1=Qab 3 s
 fy:Qab 2 z.2=Qab 3 r
theorem Ja3 {p:zaa}(h:vab p=true)(k:¬p.kind=2):(p.kind=1\/p.kind=3)/\yaf p=p.n:=by
 rcases Jab h with⟨j,_,_,q⟩|⟨j,_⟩|⟨j,_,_,q⟩
 ·exact⟨.inl j,by simp[yaf,q]⟩
 ·exact absurd j k
 ·exact⟨.inr j,by simp[yaf,q]⟩
theorem jae (b:Int)(p:zaa)(l:List zaa):Qab b (p::l)=(if p.kind=b then 0 else yaf p)+Qab b l:=rfl
theorem vaz (b:Int):Qab b []=0:=rfl
theorem JaL (p:zaa)(l:List zaa):mu (p::l)=nsz p+1+mu l:=rfl
theorem Xaw {p:zaa}(h:vab p=true){n:Nat}(j:n<=nsz p):nsz (cutR p n)=nsz p-n:=by
 have:=(qaB h j).2.2.2.2.2;have q:=kav h;unfold nsz at *;omega
theorem jas {r s n:List zaa}{p:zaa}(h:ua7 r s)(B:skip r=p::n)(k:p.kind=2):ua7 (cutR p (nsz p)::n) s/\mu (cutR p (nsz p)::n)<mu r/\Qab 3 r=p.signs.length+Qab 3 (cutR p (nsz p)::n)/\vab p=true:=by
 have j:=yaG h.r;have q:=jam 2 h.r;have u:=jam 3 h.r;have z:=Xap r;have D:=Xam B;rw[B]at j q u z;simp only[List.all_cons,Bool.and_eq_true]at j;obtain⟨c1,c2,c3,c4,c5,c6⟩:=qaB j.1 (lr (nsz p));obtain⟨J,M,N,Q⟩:=vaJ j.1 k;have R:=Xaw j.1 (lr (nsz p));have I:=h.e;rw[jae,if_pos k]at q;rw[jae,if_neg om]at u;rw[JaL]at z;refine⟨⟨by simp[c2,j.2],h.s,?_⟩,?_,?_,j.1⟩
 ·rw[jae,if_pos om];omega
 ·rw[JaL];omega
 ·rw[jae,if_neg om];omega
theorem ua7.symm {r s:List zaa}(h:ua7 r s):ua7 s r:=⟨h.s,h.r,h.e.symm⟩
theorem ua7.skipR {r s:List zaa}(h:ua7 r s):ua7 (skip r) s:=⟨yaG h.r,h.s,by rw[jam 2 h.r];exact h.e⟩
theorem ka3 {r s I J:List zaa}{p q:zaa}(h:ua7 r s)(U:skip r=p::I)(Y:skip s=q::J)(kp:¬p.kind=2)(kq:¬q.kind=2):
 ua7 (cutR p (min (nsz p) (nsz q))::I) (cutR q (min (nsz p) (nsz q))::J)/\mu (cutR p (min (nsz p) (nsz q))::I)<mu r/\mu (cutR q (min (nsz p) (nsz q))::J)<mu s/\vab p=true/\vab q=true:=by
 have B:=yaG h.r;have Q:=jam 2 h.r;have R:=Xap r;have h5:=Xam U;rw[U]at B Q R;have z:=yaG h.s;have M:=jam 2 h.s;have N:=Xap s;have g5:=Xam Y;rw[Y]at z M N;simp only[List.all_cons,Bool.and_eq_true]at B z;have j:min (nsz p) (nsz q)<=nsz p:=Nat.min_le_left _ _;have u:min (nsz p) (nsz q)<=nsz q:=Nat.min_le_right _ _;have D:0<min (nsz p) (nsz q):=om;generalize min (nsz p) (nsz q)=n at j u D⊢;obtain⟨c1,c2,c3,c4,c5,c6⟩:=qaB B.1 j;obtain⟨d1,Z,d3,d4,d5,d6⟩:=qaB z.1 u;have z5:=Xaw B.1 j;have z6:=Xaw z.1 u;have he:=h.e;rw[jae,if_neg kp]at Q;rw[jae,if_neg kq]at M;rw[JaL]at R N;refine⟨⟨by simp[c2,B.2],by simp[Z,z.2],?_⟩,?_,?_,B.1,z.1⟩
 ·rw[jae,if_neg om,jae,if_neg om];omega
 ·rw[JaL];omega
 ·rw[JaL];omega
theorem JaK {r s z:List zaa}{p:zaa}(h:ua7 r s)(u:skip r=p::z)(B:skip s=[])(D:¬p.kind=2):False:=by
 have j:=yaG h.r;have q:=jam 2 h.r;have I:=Xam u;have n:=jam 2 h.s;have J:=h.e;rw[u]at j q;rw[B]at n;simp only[List.all_cons,Bool.and_eq_true]at j;have b:=xaz 2 z j.2;have M:=kav j.1;rw[jae,if_neg D]at q;simp only[Qab]at n;omega
theorem ubb:∀(m:Nat) (r s:List zaa),ua7 r s->mu r+mu s<m->Jbn m r s (tf m r s)
 |0,r,s,_,hm=>absurd hm (Nat.not_lt_zero _)
 |m+1,r,s,h,hm=>by
  rcases hr:skip r with _|⟨p,N⟩
  ·rcases hs:skip s with _|⟨q,Q⟩
   ·have e:tf (m+1) r s=([],[]):=by simp only[tf,hr,hs]
    have u:=jam 3 h.r;have U:=jam 3 h.s;rw[hr]at u;rw[hs]at U;rw[e];exact⟨rfl,rfl,lz _,lz _,U,u⟩
   ·by_cases k:q.kind=2
    ·have e:tf (m+1) r s=(⟨1,q.signs.length,[]⟩::(tf m [] (cutR q (nsz q)::Q)).1,cutL q (nsz q)::(tf m [] (cutR q (nsz q)::Q)).2):=by simp only[tf,hr,hs];rw[if_pos k]
     obtain⟨R,i2,J,D⟩:=jas h.symm hs k;have z:=h.skipR;rw[hr]at z;have i5:=(jas z.symm hs k).1;have j:=ubb m [] _ i5.symm (by have:mu ([]:List zaa)=0:=rfl;omega)
     obtain⟨z1,z2,z3,z4⟩:=vaJ D k;have u:=jam 3 h.r;rw[hr]at u;rw[e];refine⟨?_,?_,?_,?_,?_,?_⟩
     ·simp[j.ax,ka5 _ z4]
     ·simp[j.ay,(qaB D (lr _)).1]
     ·have:=j.lx;simp;omega
     ·have:=j.ly;simp;omega
     ·have:=j.fx;simp only[jae];rw[if_neg (by decide),this,J];simp[yaf]
     ·have:=j.fy;simp only[jae];rw[z2,if_pos k,this,<-u];simp
    ·exact(JaK h.symm hs hr k).elim
  ·by_cases k:p.kind=2
   ·have e:tf (m+1) r s=(cutL p (nsz p)::(tf m (cutR p (nsz p)::N) s).1,⟨1,p.signs.length,[]⟩::(tf m (cutR p (nsz p)::N) s).2):=by simp only[tf,hr];rw[if_pos k]
    obtain⟨R,i2,J,D⟩:=jas h hr k;have j:=ubb m _ _ R om;obtain⟨z1,z2,z3,z4⟩:=vaJ D k;rw[e];refine⟨?_,?_,?_,?_,?_,?_⟩
    ·simp[j.ax,(qaB D (lr _)).1]
    ·simp[j.ay,ka5 _ z4]
    ·have:=j.lx;simp;omega
    ·have:=j.ly;simp;omega
    ·have:=j.fx;simp only[jae];rw[z2,if_pos k,this];simp
    ·have:=j.fy;simp only[jae];rw[if_neg (by decide),this,J];simp[yaf]
   ·rcases hs:skip s with _|⟨q,Q⟩
    ·exact(JaK h hr hs k).elim
    ·by_cases B:q.kind=2
     ·have e:tf (m+1) r s=(⟨1,q.signs.length,[]⟩::(tf m (p::N) (cutR q (nsz q)::Q)).1,cutL q (nsz q)::(tf m (p::N) (cutR q (nsz q)::Q)).2):=by simp only[tf,hr,hs];rw[if_neg k,if_pos B]
      obtain⟨R,i2,J,D⟩:=jas h.symm hs B;have z:=h.skipR;have hmu:=Xap r;rw[hr]at z hmu;have i5:=(jas z.symm hs B).1;have j:=ubb m (p::N) _ i5.symm om;obtain⟨z1,z2,z3,z4⟩:=vaJ D B;have u:=jam 3 h.r;rw[hr]at u;rw[e];refine⟨?_,?_,?_,?_,?_,?_⟩
      ·simp[j.ax,ka5 _ z4]
      ·simp[j.ay,(qaB D (lr _)).1]
      ·have:=j.lx;simp;omega
      ·have:=j.ly;simp;omega
      ·have:=j.fx;simp only[jae];rw[if_neg (by decide),this,J];simp[yaf]
      ·have:=j.fy;rw[jae,z2,if_pos B,this,u];simp
     ·have e:tf (m+1) r s=((if q.kind=1 then[cutL p (min (nsz p) (nsz q))]else[])++(tf m (cutR p (min (nsz p) (nsz q))::N) (cutR q (min (nsz p) (nsz q))::Q)).1,
       (if p.kind=1 then[cutL q (min (nsz p) (nsz q))]else[])++(tf m (cutR p (min (nsz p) (nsz q))::N) (cutR q (min (nsz p) (nsz q))::Q)).2):=by simp only[tf,hr,hs];rw[if_neg k,if_neg B]
      obtain⟨R,i2,J,ip,iq⟩:=ka3 h hr hs k B;have j:=ubb m _ _ R om;have u:=jam 3 h.r;have U:=jam 3 h.s;rw[hr,jae]at u;rw[hs,jae]at U;have Y:min (nsz p) (nsz q)<=nsz p:=Nat.min_le_left _ _;have Z:min (nsz p) (nsz q)<=nsz q:=Nat.min_le_right _ _;rw[e];generalize min (nsz p) (nsz q)=n at Y Z R i2 J j⊢;obtain⟨c1,c2,c3,c4,c5,c6⟩:=qaB ip Y;obtain⟨d1,d2,d3,d4,d5,d6⟩:=qaB iq Z;have M:=(Ja3 ip k).1;have q1:=(Ja3 iq B).1;have jx:=j.fx;have jy:=j.fy;rw[jae]at jx jy;have a1:=j.ax;have a2:=j.ay;have l1:=j.lx;have l2:=j.ly;rw[d4,d6]at jx;rw[c4,c6]at jy;refine⟨?_,?_,?_,?_,?_,?_⟩
      ·by_cases I:q.kind=1<;>simp[I,a1,c1]
      ·by_cases I:p.kind=1<;>simp[I,a2,d1]
      ·by_cases I:q.kind=1<;>simp[I]<;>omega
      ·by_cases I:p.kind=1<;>simp[I]<;>omega
      ·rw[qah,jx,<-U];rcases q1 with q1|q1
       ·rw[if_pos q1];simp only[jae,vaz,c3,if_neg k,c5,q1];simp;omega
       ·rw[if_neg om,if_pos q1,if_pos q1];simp[vaz]
      ·rw[qah,jy,<-u];rcases M with M|M
       ·rw[if_pos M];simp only[jae,vaz,d3,if_neg B,d5,M];simp;omega
       ·rw[if_neg om,if_pos M,if_pos M];simp[vaz]
