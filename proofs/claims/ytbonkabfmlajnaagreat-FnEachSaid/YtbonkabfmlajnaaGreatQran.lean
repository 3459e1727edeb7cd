/- The entry that a document keeps for a client: what the reference and the program look up. -/
import Derived.Test.YtbonkabfmlajnaaGreatQram
import Derived.Test.YtbonkabfmlajnaaGreatQrai
set_option maxHeartbeats 1000000
set_option linter.defProp false
set_option linter.unusedSimpArgs false
namespace Go.Proofs.YtbonkabfmlajnaaGreat
open Go.RowKit
def uab (x:Xac)(client:Int):qac×Bool:=match x.seen.find? (fun s=>decide (s.client=client))with|some s=>(s,true)|none=>(⟨0,0,0⟩,false)
theorem Qa9 {x:Xac}{client:Int}{k:Nat}{s:qac}(u:∀j<k,∀y,x.seen[j]? =some y->decide (y.client=client)=false)(B:x.seen[k]? =some s)(z:decide (s.client=client)=true):uab x client=(s,true):=by
 have:x.seen.find? (fun s=>decide (s.client=client))=some s:=by
  rw[List.find?_eq_some_iff_getElem];obtain⟨p,q⟩:=lg.1 B;refine⟨z,k,p,q,fun j n=> ?_⟩
  rw[u j n _ (List.getElem?_eq_getElem om)];rfl
 unfold uab;rw[this]
theorem Qbb {x:Xac}{client:Int}(p:∀j<x.seen.length,∀y,x.seen[j]? =some y->decide (y.client=client)=false):uab x client=(⟨0,0,0⟩,false):=by
 have:x.seen.find? (fun s=>decide (s.client=client))=none:=by
  rw[List.find?_eq_none];intro s q;obtain⟨j,n,e⟩:=List.mem_iff_getElem.1 q;rw[p j n s (by rw[List.getElem?_eq_getElem n,e])]
  simp
 unfold uab;rw[this]
theorem jaR {J:Nat}(h_:J=99\/J=81)(x:Xac)(z u p:Value)(client:Int)(w:World)(n:RdS w p x.seen):
 Calls Tryz.prog J #[.agg #[x.name,x.from_,z,u,p],client] w (Ka7 w (uab x client).1 (uab x client).2):=by
 rcases h_ with rfl|rfl
 go_enter Tryz.func99,Tryz.ntmps99
 rotate_left;go_enter Tryz.func81,Tryz.ntmps81
 all_goals
  have hl:=fun w1 ty=>n.len Tryz.underlying65 w1 ty
  have ba:=n.le;go_wp2;go_loopw [11] (fun i wr=>∃k:Nat,k<=x.seen.length/\i= .int .i64 k/\(∀j<k,∀y,x.seen[j]? =some y->decide (y.client=client)=false)/\Below (w+2) ((w.alloc (.cells #[x.name,x.from_,z,u,p] 67)).alloc (.cells #[zI,zI,zI] 119)) wr) (fun i _=>x.seen.length-(intOf i).toNat)
  case atStart=>exact⟨0,lz _,rfl,fun _ h=>absurd h (Nat.not_lt_zero _),blw⟩
  case round=>
   obtain⟨k,hk,rfl,N,q⟩:=hrel;have R:=q.size;simp only[World.size_alloc]at R;have B:Below w w wr:=(((lf _ _).alloc (lr _) _).alloc sm _).trans (q.mono om);have Z:wr.cell? ⟨w.heap.size+1,0,none⟩=some (.int .i64 0):=by rw[q.cell sm];simp
   have r1:wr.cell? ⟨w.heap.size+1,1,none⟩=some (.int .i64 0):=by rw[q.cell sm];simp
   have r2:wr.cell? ⟨w.heap.size+1,2,none⟩=some (.int .i64 0):=by rw[q.cell sm];simp
   have t0:wr.frozen? ⟨w.heap.size+1,0,none⟩=false:=by rw[q.frozen sm];simp
   have t1:wr.frozen? ⟨w.heap.size+1,1,none⟩=false:=by rw[q.frozen sm];simp
   have t2:wr.frozen? ⟨w.heap.size+1,2,none⟩=false:=by rw[q.frozen sm];simp
   have zz:w+1<wr.heap.size:=om;have D:=hH N;clear N;by_cases Q:k<x.seen.length
   ·obtain⟨s,U⟩:=Jaa Q;obtain⟨b1,o1,cs,h1,M,h3⟩:=(n.below B).idx Tryz.underlying65 Jak k U;obtain rfl:=xam h3;have q0:=M.zero;have q1:=M 1 _ rfl;have q2:=M 2 _ rfl;have Y:=hH U;clear U;by_cases e:s.client=client
    ·have e1:(s.client==client)=true:=by simpa using e
     have I:=hH (Qa9 D.out Y.out (Jas e));clear e;go_wp2;refine bodyPost_ret (v:= .tuple #[.agg #[s.client,s.seq,s.rev],true]) (by simp[results,Tryz.results99,Tryz.results81,go_sem,zz,Z,r1,r2]) rfl ?_
     rw[I.out];exact⟨rfl,blw⟩
    ·have e1:(s.client==client)=false:=by simpa using e
     have E2:=hH (jan e);clear e;go_wp2;go_roundw
     case rel=>exact⟨k+1,by omega,by go_num,xaO Y.out E2.out D.out,blw⟩
     case measure=>simp[intOf];omega
   ·have I:=hH (Qbb (x:=x) (client:=client) fun j N=>D.out j om)
    go_wp2;refine bodyPost_ret (v:= .tuple #[.agg #[zI,zI,zI],false]) (by simp[results,Tryz.results99,Tryz.results81,go_sem,Z,r1,r2]) rfl ?_
    rw[I.out];exact⟨rfl,blw⟩
def Zav:=@jaR 99 (.inl rfl)
def JaS:=@jaR 81 (.inr rfl)
end Go.Proofs.YtbonkabfmlajnaaGreat
namespace Go.Proofs.YtbonkabfmlajnaaGreat
open Go.RowKit
def nsz (p:zaa):Nat:=(Xae p).toNat
def skip:List zaa->List zaa
 |[]=>[]
 |p::l=>if nsz p=0 then skip l else p::l
def cutL (p:zaa)(n:Nat):zaa:=if p.kind=2 then⟨p.kind,p.n,p.signs.take n⟩else⟨p.kind,n,p.signs⟩
def cutR (p:zaa)(n:Nat):zaa:=if p.kind=2 then⟨p.kind,p.n,p.signs.drop n⟩else⟨p.kind,p.n-n,p.signs⟩
def tf:Nat->List zaa->List zaa->List zaa×List zaa
 |0,_,_=>([],[])
 |m+1,r,s=>match skip r with
  |[]=>(match skip s with
   |[]=>([],[])
   |q::s'=>if q.kind=2 then
    (⟨1,q.signs.length,[]⟩::(tf m [] (cutR q (nsz q)::s')).1,cutL q (nsz q)::(tf m [] (cutR q (nsz q)::s')).2)else([],[]))
  |p::r'=>if p.kind=2 then
   (cutL p (nsz p)::(tf m (cutR p (nsz p)::r') s).1,⟨1,p.signs.length,[]⟩::(tf m (cutR p (nsz p)::r') s).2)else(match skip s with
   |[]=>([],[])
   |q::s'=>if q.kind=2 then
    (⟨1,q.signs.length,[]⟩::(tf m (p::r') (cutR q (nsz q)::s')).1,cutL q (nsz q)::(tf m (p::r') (cutR q (nsz q)::s')).2)else
    ((if q.kind=1 then[cutL p (min (nsz p) (nsz q))]else[])++(tf m (cutR p (min (nsz p) (nsz q))::r') (cutR q (min (nsz p) (nsz q))::s')).1,
     (if p.kind=1 then[cutL q (min (nsz p) (nsz q))]else[])++(tf m (cutR p (min (nsz p) (nsz q))::r') (cutR q (min (nsz p) (nsz q))::s')).2))
def mu:List zaa->Nat
 |[]=>0
 |p::l=>nsz p+1+mu l
theorem kam:∀l,skip (skip l)=skip l
 |[]=>rfl
 |p::l=>by
  by_cases h:nsz p=0
  ·have e:skip (p::l)=skip l:=by simp[skip,h]
   rw[e];exact kam l
  ·have e:skip (p::l)=p::l:=by simp[skip,h]
   rw[e,e]
theorem Qam {l:List zaa}{p:zaa}{t:List zaa}(h:skip l=p::t):nsz p≠0:=by
 induction l with
 |nil=>cases h
 |cons q l j=>
  unfold skip at h;split at h
  ·exact j h
  ·cases h;assumption
theorem QaC {l:List zaa}(h:l.all kab=true):(skip l).all kab=true:=by
 induction l with
 |nil=>exact h
 |cons q l j=>
  unfold skip;split
  ·simp only[List.all_cons,Bool.and_eq_true]at h;exact j h.2
  ·exact h
theorem Kao:∀l,mu (skip l)<=mu l
 |[]=>lr _
 |p::l=>by
  unfold skip;split
  ·have:=Kao l;simp only[mu];omega
  ·exact lr _
theorem Ka3:∀l,(skip l).length<=l.length
 |[]=>lr _
 |p::l=>by
  unfold skip;split
  ·have:=Ka3 l;simp only[List.length_cons];omega
  ·exact lr _
theorem qau {p:zaa}(h:kab p=true):(nsz p:Int)=Xae p:=by unfold nsz;have:=yaJ h;omega
theorem Qal (b:Int){l:List zaa}(h:l.all kab=true):vab b (skip l)=vab b l:=by
 induction l with
 |nil=>rfl
 |cons q l j=>
  simp only[List.all_cons,Bool.and_eq_true]at h;unfold skip;split
  ·rename_i n
   have:=qau h.1;rw[j h.2];simp only[vab];split<;>omega
  ·rfl
theorem Kay {p:zaa}(h:kab p=true){n:Nat}(J:n<=nsz p):kab (cutL p n)=true/\kab (cutR p n)=true/\(cutL p n).kind=p.kind/\(cutR p n).kind=p.kind/\Xae (cutL p n)=n/\Xae (cutR p n)=Xae p-n:=by
 have q:=qau h;rcases Zab h with⟨k,u,z,j⟩|⟨k,u,z,j⟩|⟨k,u,z,j⟩
 ·unfold Xae at q;rw[j]at q;simp at q;simp[cutL,cutR,k,kab,Xae,within,j];omega
 ·unfold Xae at q;simp only[u,Int.zero_add]at q;have I:nsz p=p.signs.length:=om;have B:(p.signs.take n).all kai=true:=zay j n;have D:(p.signs.drop n).all kai=true:=XaI j n;simp[cutL,cutR,k,kab,Xae,u,xai,B,D];omega
 ·unfold Xae at q;rw[j]at q;simp at q;simp[cutL,cutR,k,kab,Xae,within,j];omega
theorem KaF {p:zaa}(h:kab p=true)(k:p.kind=2):nsz p=p.signs.length/\cutL p (nsz p)=p/\Xae p=p.signs.length/\p.signs.length<=200:=by
 rcases Zab h with⟨n,_⟩|⟨_,q,j,_⟩|⟨n,_⟩
 ·omega
 ·have e:nsz p=p.signs.length:=by unfold nsz Xae;omega
  refine⟨e,?_,by unfold Xae;omega,j⟩
  rw[e];unfold cutL;rw[if_pos k,List.take_length]
 ·omega
theorem Ka2 (n:Nat)(h:n<=200):kab ⟨1,n,[]⟩=true:=by simp[kab,within];omega
structure qa5 (a b:List zaa):Prop where
 r:a.all kab=true
 s:b.all kab=true
 e:vab 2 a=vab 2 b
structure xbi (m:Nat)(r s:List zaa)(z:List zaa×List zaa):Prop where
 ax:z.1.all kab=true
 ay:z.2.all kab=true
 lx:z.1.length<=m
 ly:z.2.length<=m
 fx:vab 2 z.1=vab 3 s
 fy:vab 2 z.2=vab 3 r
theorem Ja0 {p:zaa}(h:kab p=true)(k:¬p.kind=2):(p.kind=1\/p.kind=3)/\Xae p=p.n:=by
 rcases Zab h with⟨j,_,_,q⟩|⟨j,_⟩|⟨j,_,_,q⟩
 ·exact⟨.inl j,by simp[Xae,q]⟩
 ·exact absurd j k
 ·exact⟨.inr j,by simp[Xae,q]⟩
theorem Kad (b:Int)(p:zaa)(l:List zaa):vab b (p::l)=(if p.kind=b then 0 else Xae p)+vab b l:=rfl
theorem Qay (b:Int):vab b []=0:=rfl
theorem KaJ (p:zaa)(l:List zaa):mu (p::l)=nsz p+1+mu l:=rfl
theorem Xav {p:zaa}(h:kab p=true){n:Nat}(j:n<=nsz p):nsz (cutR p n)=nsz p-n:=by
 have:=(Kay h j).2.2.2.2.2;have q:=qau h;unfold nsz at *;omega
theorem kas {r s n:List zaa}{p:zaa}(h:qa5 r s)(B:skip r=p::n)(k:p.kind=2):qa5 (cutR p (nsz p)::n) s/\mu (cutR p (nsz p)::n)<mu r/\vab 3 r=p.signs.length+vab 3 (cutR p (nsz p)::n)/\kab p=true:=by
 have j:=QaC h.r;have q:=Qal 2 h.r;have u:=Qal 3 h.r;have z:=Kao r;have D:=Qam B;rw[B]at j q u z;simp only[List.all_cons,Bool.and_eq_true]at j;obtain⟨c1,c2,c3,c4,c5,c6⟩:=Kay j.1 (lr (nsz p));obtain⟨J,M,N,Q⟩:=KaF j.1 k;have R:=Xav j.1 (lr (nsz p));have I:=h.e;rw[Kad,if_pos k]at q;rw[Kad,if_neg om]at u;rw[KaJ]at z;refine⟨⟨by simp[c2,j.2],h.s,?_⟩,?_,?_,j.1⟩
 ·rw[Kad,if_pos om];omega
 ·rw[KaJ];omega
 ·rw[Kad,if_neg om];omega
theorem qa5.symm {r s:List zaa}(h:qa5 r s):qa5 s r:=⟨h.s,h.r,h.e.symm⟩
theorem qa5.skipR {r s:List zaa}(h:qa5 r s):qa5 (skip r) s:=⟨QaC h.r,h.s,by rw[Qal 2 h.r];exact h.e⟩
theorem yaY {r s I J:List zaa}{p q:zaa}(h:qa5 r s)(U:skip r=p::I)(Y:skip s=q::J)(kp:¬p.kind=2)(kq:¬q.kind=2):
 qa5 (cutR p (min (nsz p) (nsz q))::I) (cutR q (min (nsz p) (nsz q))::J)/\mu (cutR p (min (nsz p) (nsz q))::I)<mu r/\mu (cutR q (min (nsz p) (nsz q))::J)<mu s/\kab p=true/\kab q=true:=by
 have B:=QaC h.r;have Q:=Qal 2 h.r;have R:=Kao r;have h5:=Qam U;rw[U]at B Q R;have z:=QaC h.s;have M:=Qal 2 h.s;have N:=Kao s;have g5:=Qam Y;rw[Y]at z M N;simp only[List.all_cons,Bool.and_eq_true]at B z;have j:min (nsz p) (nsz q)<=nsz p:=Nat.min_le_left _ _;have u:min (nsz p) (nsz q)<=nsz q:=Nat.min_le_right _ _;have D:0<min (nsz p) (nsz q):=om;generalize min (nsz p) (nsz q)=n at j u D⊢;obtain⟨c1,c2,c3,c4,c5,c6⟩:=Kay B.1 j;obtain⟨d1,Z,d3,d4,d5,d6⟩:=Kay z.1 u;have z5:=Xav B.1 j;have z6:=Xav z.1 u;have he:=h.e;rw[Kad,if_neg kp]at Q;rw[Kad,if_neg kq]at M;rw[KaJ]at R N;refine⟨⟨by simp[c2,B.2],by simp[Z,z.2],?_⟩,?_,?_,B.1,z.1⟩
 ·rw[Kad,if_neg om,Kad,if_neg om];omega
 ·rw[KaJ];omega
 ·rw[KaJ];omega
theorem ZaI {r s z:List zaa}{p:zaa}(h:qa5 r s)(u:skip r=p::z)(B:skip s=[])(D:¬p.kind=2):False:=by
 have j:=QaC h.r;have q:=Qal 2 h.r;have I:=Qam u;have n:=Qal 2 h.s;have J:=h.e;rw[u]at j q;rw[B]at n;simp only[List.all_cons,Bool.and_eq_true]at j;have b:=Xax 2 z j.2;have M:=qau j.1;rw[Kad,if_neg D]at q;simp only[vab]at n;omega
theorem xa8:∀(m:Nat) (r s:List zaa),qa5 r s->mu r+mu s<m->xbi m r s (tf m r s)
 |0,r,s,_,hm=>absurd hm (Nat.not_lt_zero _)
 |m+1,r,s,h,hm=>by
  rcases hr:skip r with _|⟨p,N⟩
  ·rcases hs:skip s with _|⟨q,Q⟩
   ·have e:tf (m+1) r s=([],[]):=by simp only[tf,hr,hs]
    have u:=Qal 3 h.r;have U:=Qal 3 h.s;rw[hr]at u;rw[hs]at U;rw[e];exact⟨rfl,rfl,lz _,lz _,U,u⟩
   ·by_cases k:q.kind=2
    ·have e:tf (m+1) r s=(⟨1,q.signs.length,[]⟩::(tf m [] (cutR q (nsz q)::Q)).1,cutL q (nsz q)::(tf m [] (cutR q (nsz q)::Q)).2):=by simp only[tf,hr,hs];rw[if_pos k]
     obtain⟨R,i2,J,D⟩:=kas h.symm hs k;have z:=h.skipR;rw[hr]at z;have i5:=(kas z.symm hs k).1;have j:=xa8 m [] _ i5.symm (by have:mu ([]:List zaa)=0:=rfl;omega)
     obtain⟨z1,z2,z3,z4⟩:=KaF D k;have u:=Qal 3 h.r;rw[hr]at u;rw[e];refine⟨?_,?_,?_,?_,?_,?_⟩
     ·simp[j.ax,Ka2 _ z4]
     ·simp[j.ay,(Kay D (lr _)).1]
     ·have:=j.lx;simp;omega
     ·have:=j.ly;simp;omega
     ·have:=j.fx;simp only[Kad];rw[if_neg (by decide),this,J];simp[Xae]
     ·have:=j.fy;simp only[Kad];rw[z2,if_pos k,this,<-u];simp
    ·exact(ZaI h.symm hs hr k).elim
  ·by_cases k:p.kind=2
   ·have e:tf (m+1) r s=(cutL p (nsz p)::(tf m (cutR p (nsz p)::N) s).1,⟨1,p.signs.length,[]⟩::(tf m (cutR p (nsz p)::N) s).2):=by simp only[tf,hr];rw[if_pos k]
    obtain⟨R,i2,J,D⟩:=kas h hr k;have j:=xa8 m _ _ R om;obtain⟨z1,z2,z3,z4⟩:=KaF D k;rw[e];refine⟨?_,?_,?_,?_,?_,?_⟩
    ·simp[j.ax,(Kay D (lr _)).1]
    ·simp[j.ay,Ka2 _ z4]
    ·have:=j.lx;simp;omega
    ·have:=j.ly;simp;omega
    ·have:=j.fx;simp only[Kad];rw[z2,if_pos k,this];simp
    ·have:=j.fy;simp only[Kad];rw[if_neg (by decide),this,J];simp[Xae]
   ·rcases hs:skip s with _|⟨q,Q⟩
    ·exact(ZaI h hr hs k).elim
    ·by_cases B:q.kind=2
     ·have e:tf (m+1) r s=(⟨1,q.signs.length,[]⟩::(tf m (p::N) (cutR q (nsz q)::Q)).1,cutL q (nsz q)::(tf m (p::N) (cutR q (nsz q)::Q)).2):=by simp only[tf,hr,hs];rw[if_neg k,if_pos B]
      obtain⟨R,i2,J,D⟩:=kas h.symm hs B;have z:=h.skipR;have hmu:=Kao r;rw[hr]at z hmu;have i5:=(kas z.symm hs B).1;have j:=xa8 m (p::N) _ i5.symm om;obtain⟨z1,z2,z3,z4⟩:=KaF D B;have u:=Qal 3 h.r;rw[hr]at u;rw[e];refine⟨?_,?_,?_,?_,?_,?_⟩
      ·simp[j.ax,Ka2 _ z4]
      ·simp[j.ay,(Kay D (lr _)).1]
      ·have:=j.lx;simp;omega
      ·have:=j.ly;simp;omega
      ·have:=j.fx;simp only[Kad];rw[if_neg (by decide),this,J];simp[Xae]
      ·have:=j.fy;rw[Kad,z2,if_pos B,this,u];simp
     ·have e:tf (m+1) r s=((if q.kind=1 then[cutL p (min (nsz p) (nsz q))]else[])++(tf m (cutR p (min (nsz p) (nsz q))::N) (cutR q (min (nsz p) (nsz q))::Q)).1,
       (if p.kind=1 then[cutL q (min (nsz p) (nsz q))]else[])++(tf m (cutR p (min (nsz p) (nsz q))::N) (cutR q (min (nsz p) (nsz q))::Q)).2):=by simp only[tf,hr,hs];rw[if_neg k,if_neg B]
      obtain⟨R,i2,J,ip,iq⟩:=yaY h hr hs k B;have j:=xa8 m _ _ R om;have u:=Qal 3 h.r;have U:=Qal 3 h.s;rw[hr,Kad]at u;rw[hs,Kad]at U;have Y:min (nsz p) (nsz q)<=nsz p:=Nat.min_le_left _ _;have Z:min (nsz p) (nsz q)<=nsz q:=Nat.min_le_right _ _;rw[e];generalize min (nsz p) (nsz q)=n at Y Z R i2 J j⊢;obtain⟨c1,c2,c3,c4,c5,c6⟩:=Kay ip Y;obtain⟨d1,d2,d3,d4,d5,d6⟩:=Kay iq Z;have M:=(Ja0 ip k).1;have q1:=(Ja0 iq B).1;have jx:=j.fx;have jy:=j.fy;rw[Kad]at jx jy;have a1:=j.ax;have a2:=j.ay;have l1:=j.lx;have l2:=j.ly;rw[d4,d6]at jx;rw[c4,c6]at jy;refine⟨?_,?_,?_,?_,?_,?_⟩
      ·by_cases I:q.kind=1<;>simp[I,a1,c1]
      ·by_cases I:p.kind=1<;>simp[I,a2,d1]
      ·by_cases I:q.kind=1<;>simp[I]<;>omega
      ·by_cases I:p.kind=1<;>simp[I]<;>omega
      ·rw[Qag,jx,<-U];rcases q1 with q1|q1
       ·rw[if_pos q1];simp only[Kad,Qay,c3,if_neg k,c5,q1];simp;omega
       ·rw[if_neg om,if_pos q1,if_pos q1];simp[Qay]
      ·rw[Qag,jy,<-u];rcases M with M|M
       ·rw[if_pos M];simp only[Kad,Qay,d3,if_neg B,d5,M];simp;omega
       ·rw[if_neg om,if_pos M,if_pos M];simp[Qay]
