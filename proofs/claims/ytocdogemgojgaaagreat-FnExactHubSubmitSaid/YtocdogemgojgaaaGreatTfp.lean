/- Transforming operations: plain Lean. -/
import Derived.Test.YtocdogemgojgaaaGreatApl
import Derived.Test.YtocdogemgojgaaaGreatBu
namespace Go.Proofs.YtocdogemgojgaaaGreat
open Go.RowKit
def nsz (p:DPart):Nat:=(psize p).toNat
def skip:List DPart->List DPart
 |[]=>[]
 |p::l=>if nsz p=0 then skip l else p::l
def cutL (p:DPart)(n:Nat):DPart:=if p.kind=2 then⟨p.kind,p.n,p.signs.take n⟩else⟨p.kind,n,p.signs⟩
def cutR (p:DPart)(n:Nat):DPart:=if p.kind=2 then⟨p.kind,p.n,p.signs.drop n⟩else⟨p.kind,p.n-n,p.signs⟩
def tf:Nat->List DPart->List DPart->List DPart×List DPart
 |0,_,_=>([],[])
 |m+1,r,s=>match skip r with
  |[]=>(match skip s with
   |[]=>([],[])
   |q::s'=>if q.kind=2 then
    (⟨1,q.signs.length,[]⟩::(tf m [] (cutR q (nsz q)::s')).1,cutL q (nsz q)::(tf m [] (cutR q (nsz q)::s')).2)else([],[]))
  |p::r'=>if p.kind=2 then
   (cutL p (nsz p)::(tf m (cutR p (nsz p)::r') s).1,⟨1,p.signs.length,[]⟩::(tf m (cutR p (nsz p)::r') s).2)else(match skip s with
   |[]=>([],[])
   |q::s'=>if q.kind=2 then
    (⟨1,q.signs.length,[]⟩::(tf m (p::r') (cutR q (nsz q)::s')).1,cutL q (nsz q)::(tf m (p::r') (cutR q (nsz q)::s')).2)else
    ((if q.kind=1 then[cutL p (min (nsz p) (nsz q))]else[])++(tf m (cutR p (min (nsz p) (nsz q))::r') (cutR q (min (nsz p) (nsz q))::s')).1,
     (if p.kind=1 then[cutL q (min (nsz p) (nsz q))]else[])++(tf m (cutR p (min (nsz p) (nsz q))::r') (cutR q (min (nsz p) (nsz q))::s')).2))
def mu:List DPart->Nat
 |[]=>0
 |p::l=>nsz p+1+mu l
theorem skip_idem:∀l,skip (skip l)=skip l
 |[]=>rfl
 |p::l=>by
  by_cases h:nsz p=0
  ·have e:skip (p::l)=skip l:=by simp[skip,h]
   rw[e];exact skip_idem l
  ·have e:skip (p::l)=p::l:=by simp[skip,h]
   rw[e,e]
theorem skip_cons {l:List DPart}{p:DPart}{t:List DPart}(h:skip l=p::t):nsz p≠0:=by
 induction l with
 |nil=>cases h
 |cons q l j=>
  unfold skip at h;split at h
  ·exact j h
  ·cases h;assumption
theorem skip_all {l:List DPart}(h:l.all partOk=true):(skip l).all partOk=true:=by
 induction l with
 |nil=>exact h
 |cons q l j=>
  unfold skip;split
  ·simp only[List.all_cons,Bool.and_eq_true]at h;exact j h.2
  ·exact h
theorem skip_mu:∀l,mu (skip l)<=mu l
 |[]=>lr _
 |p::l=>by
  unfold skip;split
  ·have:=skip_mu l;simp only[mu];omega
  ·exact lr _
theorem skip_len:∀l,(skip l).length<=l.length
 |[]=>lr _
 |p::l=>by
  unfold skip;split
  ·have:=skip_len l;simp only[List.length_cons];omega
  ·exact lr _
theorem nsz_eq {p:DPart}(h:partOk p=true):(nsz p:Int)=psize p:=by unfold nsz;have:=psize_bd h;omega
theorem skip_sum (b:Int){l:List DPart}(h:l.all partOk=true):sumBut b (skip l)=sumBut b l:=by
 induction l with
 |nil=>rfl
 |cons q l j=>
  simp only[List.all_cons,Bool.and_eq_true]at h;unfold skip;split
  ·rename_i n
   have:=nsz_eq h.1;rw[j h.2];simp only[sumBut];split<;>omega
  ·rfl
theorem cut_ok {p:DPart}(h:partOk p=true){n:Nat}(J:n<=nsz p):partOk (cutL p n)=true/\partOk (cutR p n)=true/\(cutL p n).kind=p.kind/\(cutR p n).kind=p.kind/\psize (cutL p n)=n/\psize (cutR p n)=psize p-n:=by
 have q:=nsz_eq h;rcases partOk_cases h with⟨k,u,z,j⟩|⟨k,u,z,j⟩|⟨k,u,z,j⟩
 ·unfold psize at q;rw[j]at q;simp at q;simp[cutL,cutR,k,partOk,psize,within,j];omega
 ·unfold psize at q;simp only[u,Int.zero_add]at q;have I:nsz p=p.signs.length:=by omega
  have B:(p.signs.take n).all signOk=true:=all_take j n;have D:(p.signs.drop n).all signOk=true:=all_drop j n;simp[cutL,cutR,k,partOk,psize,u,signsOk,B,D];omega
 ·unfold psize at q;rw[j]at q;simp at q;simp[cutL,cutR,k,partOk,psize,within,j];omega
theorem put_sz {p:DPart}(h:partOk p=true)(k:p.kind=2):nsz p=p.signs.length/\cutL p (nsz p)=p/\psize p=p.signs.length/\p.signs.length<=200:=by
 rcases partOk_cases h with⟨n,_⟩|⟨_,q,j,_⟩|⟨n,_⟩
 ·omega
 ·have e:nsz p=p.signs.length:=by unfold nsz psize;omega
  refine⟨e,?_,by unfold psize;omega,j⟩
  rw[e];unfold cutL;rw[if_pos k,List.take_length]
 ·omega
theorem keep_ok (n:Nat)(h:n<=200):partOk ⟨1,n,[]⟩=true:=by simp[partOk,within];omega
structure TInv (a b:List DPart):Prop where
 r:a.all partOk=true
 s:b.all partOk=true
 e:sumBut 2 a=sumBut 2 b
structure TOut (m:Nat)(r s:List DPart)(z:List DPart×List DPart):Prop where
 ax:z.1.all partOk=true
 ay:z.2.all partOk=true
 lx:z.1.length<=m
 ly:z.2.length<=m
 fx:sumBut 2 z.1=sumBut 3 s
 fy:sumBut 2 z.2=sumBut 3 r
theorem part_nk {p:DPart}(h:partOk p=true)(k:¬p.kind=2):(p.kind=1\/p.kind=3)/\psize p=p.n:=by
 rcases partOk_cases h with⟨j,_,_,q⟩|⟨j,_⟩|⟨j,_,_,q⟩
 ·exact⟨.inl j,by simp[psize,q]⟩
 ·exact absurd j k
 ·exact⟨.inr j,by simp[psize,q]⟩
theorem sumBut_cons (b:Int)(p:DPart)(l:List DPart):sumBut b (p::l)=(if p.kind=b then 0 else psize p)+sumBut b l:=rfl
theorem sumBut_nil (b:Int):sumBut b []=0:=rfl
theorem mu_cons (p:DPart)(l:List DPart):mu (p::l)=nsz p+1+mu l:=rfl
theorem nsz_cutR {p:DPart}(h:partOk p=true){n:Nat}(j:n<=nsz p):nsz (cutR p n)=nsz p-n:=by
 have:=(cut_ok h j).2.2.2.2.2;have q:=nsz_eq h;unfold nsz at *;omega
theorem tinv_putR {r s n:List DPart}{p:DPart}(h:TInv r s)(B:skip r=p::n)(k:p.kind=2):TInv (cutR p (nsz p)::n) s/\mu (cutR p (nsz p)::n)<mu r/\sumBut 3 r=p.signs.length+sumBut 3 (cutR p (nsz p)::n)/\partOk p=true:=by
 have j:=skip_all h.r;have q:=skip_sum 2 h.r;have u:=skip_sum 3 h.r;have z:=skip_mu r;have D:=skip_cons B;rw[B]at j q u z;simp only[List.all_cons,Bool.and_eq_true]at j;obtain⟨c1,c2,c3,c4,c5,c6⟩:=cut_ok j.1 (lr (nsz p));obtain⟨J,M,N,Q⟩:=put_sz j.1 k;have R:=nsz_cutR j.1 (lr (nsz p));have I:=h.e;rw[sumBut_cons,if_pos k]at q;rw[sumBut_cons,if_neg (by omega)]at u
 rw[mu_cons]at z;refine⟨⟨by simp[c2,j.2],h.s,?_⟩,?_,?_,j.1⟩
 ·rw[sumBut_cons,if_pos (by omega)];omega
 ·rw[mu_cons];omega
 ·rw[sumBut_cons,if_neg (by omega)];omega
theorem TInv.symm {r s:List DPart}(h:TInv r s):TInv s r:=⟨h.s,h.r,h.e.symm⟩
theorem TInv.skipR {r s:List DPart}(h:TInv r s):TInv (skip r) s:=⟨skip_all h.r,h.s,by rw[skip_sum 2 h.r];exact h.e⟩
theorem tinv_both {r s I J:List DPart}{p q:DPart}(h:TInv r s)(U:skip r=p::I)(Y:skip s=q::J)(kp:¬p.kind=2)(kq:¬q.kind=2):
 TInv (cutR p (min (nsz p) (nsz q))::I) (cutR q (min (nsz p) (nsz q))::J)/\mu (cutR p (min (nsz p) (nsz q))::I)<mu r/\mu (cutR q (min (nsz p) (nsz q))::J)<mu s/\partOk p=true/\partOk q=true:=by
 have B:=skip_all h.r;have Q:=skip_sum 2 h.r;have R:=skip_mu r;have h5:=skip_cons U;rw[U]at B Q R;have z:=skip_all h.s;have M:=skip_sum 2 h.s;have N:=skip_mu s;have g5:=skip_cons Y;rw[Y]at z M N;simp only[List.all_cons,Bool.and_eq_true]at B z;have j:min (nsz p) (nsz q)<=nsz p:=Nat.min_le_left _ _;have u:min (nsz p) (nsz q)<=nsz q:=Nat.min_le_right _ _;have D:0<min (nsz p) (nsz q):=by omega
 generalize min (nsz p) (nsz q)=n at j u D⊢;obtain⟨c1,c2,c3,c4,c5,c6⟩:=cut_ok B.1 j;obtain⟨d1,Z,d3,d4,d5,d6⟩:=cut_ok z.1 u;have z5:=nsz_cutR B.1 j;have z6:=nsz_cutR z.1 u;have he:=h.e;rw[sumBut_cons,if_neg kp]at Q;rw[sumBut_cons,if_neg kq]at M;rw[mu_cons]at R N;refine⟨⟨by simp[c2,B.2],by simp[Z,z.2],?_⟩,?_,?_,B.1,z.1⟩
 ·rw[sumBut_cons,if_neg (by omega),sumBut_cons,if_neg (by omega)];omega
 ·rw[mu_cons];omega
 ·rw[mu_cons];omega
theorem tinv_end {r s z:List DPart}{p:DPart}(h:TInv r s)(u:skip r=p::z)(B:skip s=[])(D:¬p.kind=2):False:=by
 have j:=skip_all h.r;have q:=skip_sum 2 h.r;have I:=skip_cons u;have n:=skip_sum 2 h.s;have J:=h.e;rw[u]at j q;rw[B]at n;simp only[List.all_cons,Bool.and_eq_true]at j;have b:=sumBut_bd 2 z j.2;have M:=nsz_eq j.1;rw[sumBut_cons,if_neg D]at q;simp only[sumBut]at n;omega
theorem tf_ok:∀(m:Nat) (r s:List DPart),TInv r s->mu r+mu s<m->TOut m r s (tf m r s)
 |0,r,s,_,hm=>absurd hm (Nat.not_lt_zero _)
 |m+1,r,s,h,hm=>by
  rcases hr:skip r with _|⟨p,N⟩
  ·rcases hs:skip s with _|⟨q,Q⟩
   ·have e:tf (m+1) r s=([],[]):=by simp only[tf,hr,hs]
    have u:=skip_sum 3 h.r;have U:=skip_sum 3 h.s;rw[hr]at u;rw[hs]at U;rw[e];exact⟨rfl,rfl,lz _,lz _,U,u⟩
   ·by_cases k:q.kind=2
    ·have e:tf (m+1) r s=(⟨1,q.signs.length,[]⟩::(tf m [] (cutR q (nsz q)::Q)).1,cutL q (nsz q)::(tf m [] (cutR q (nsz q)::Q)).2):=by simp only[tf,hr,hs];rw[if_pos k]
     obtain⟨R,i2,J,D⟩:=tinv_putR h.symm hs k;have z:=h.skipR;rw[hr]at z;have i5:=(tinv_putR z.symm hs k).1;have j:=tf_ok m [] _ i5.symm (by have:mu ([]:List DPart)=0:=rfl;omega)
     obtain⟨z1,z2,z3,z4⟩:=put_sz D k;have u:=skip_sum 3 h.r;rw[hr]at u;rw[e];refine⟨?_,?_,?_,?_,?_,?_⟩
     ·simp[j.ax,keep_ok _ z4]
     ·simp[j.ay,(cut_ok D (lr _)).1]
     ·have:=j.lx;simp;omega
     ·have:=j.ly;simp;omega
     ·have:=j.fx;simp only[sumBut_cons];rw[if_neg (by decide),this,J];simp[psize]
     ·have:=j.fy;simp only[sumBut_cons];rw[z2,if_pos k,this,<-u];simp
    ·exact(tinv_end h.symm hs hr k).elim
  ·by_cases k:p.kind=2
   ·have e:tf (m+1) r s=(cutL p (nsz p)::(tf m (cutR p (nsz p)::N) s).1,⟨1,p.signs.length,[]⟩::(tf m (cutR p (nsz p)::N) s).2):=by simp only[tf,hr];rw[if_pos k]
    obtain⟨R,i2,J,D⟩:=tinv_putR h hr k;have j:=tf_ok m _ _ R (by omega)
    obtain⟨z1,z2,z3,z4⟩:=put_sz D k;rw[e];refine⟨?_,?_,?_,?_,?_,?_⟩
    ·simp[j.ax,(cut_ok D (lr _)).1]
    ·simp[j.ay,keep_ok _ z4]
    ·have:=j.lx;simp;omega
    ·have:=j.ly;simp;omega
    ·have:=j.fx;simp only[sumBut_cons];rw[z2,if_pos k,this];simp
    ·have:=j.fy;simp only[sumBut_cons];rw[if_neg (by decide),this,J];simp[psize]
   ·rcases hs:skip s with _|⟨q,Q⟩
    ·exact(tinv_end h hr hs k).elim
    ·by_cases B:q.kind=2
     ·have e:tf (m+1) r s=(⟨1,q.signs.length,[]⟩::(tf m (p::N) (cutR q (nsz q)::Q)).1,cutL q (nsz q)::(tf m (p::N) (cutR q (nsz q)::Q)).2):=by simp only[tf,hr,hs];rw[if_neg k,if_pos B]
      obtain⟨R,i2,J,D⟩:=tinv_putR h.symm hs B;have z:=h.skipR;have hmu:=skip_mu r;rw[hr]at z hmu;have i5:=(tinv_putR z.symm hs B).1;have j:=tf_ok m (p::N) _ i5.symm (by omega)
      obtain⟨z1,z2,z3,z4⟩:=put_sz D B;have u:=skip_sum 3 h.r;rw[hr]at u;rw[e];refine⟨?_,?_,?_,?_,?_,?_⟩
      ·simp[j.ax,keep_ok _ z4]
      ·simp[j.ay,(cut_ok D (lr _)).1]
      ·have:=j.lx;simp;omega
      ·have:=j.ly;simp;omega
      ·have:=j.fx;simp only[sumBut_cons];rw[if_neg (by decide),this,J];simp[psize]
      ·have:=j.fy;rw[sumBut_cons,z2,if_pos B,this,u];simp
     ·have e:tf (m+1) r s=((if q.kind=1 then[cutL p (min (nsz p) (nsz q))]else[])++(tf m (cutR p (min (nsz p) (nsz q))::N) (cutR q (min (nsz p) (nsz q))::Q)).1,
       (if p.kind=1 then[cutL q (min (nsz p) (nsz q))]else[])++(tf m (cutR p (min (nsz p) (nsz q))::N) (cutR q (min (nsz p) (nsz q))::Q)).2):=by simp only[tf,hr,hs];rw[if_neg k,if_neg B]
      obtain⟨R,i2,J,ip,iq⟩:=tinv_both h hr hs k B;have j:=tf_ok m _ _ R (by omega)
      have u:=skip_sum 3 h.r;have U:=skip_sum 3 h.s;rw[hr,sumBut_cons]at u;rw[hs,sumBut_cons]at U;have Y:min (nsz p) (nsz q)<=nsz p:=Nat.min_le_left _ _;have Z:min (nsz p) (nsz q)<=nsz q:=Nat.min_le_right _ _;rw[e];generalize min (nsz p) (nsz q)=n at Y Z R i2 J j⊢;obtain⟨c1,c2,c3,c4,c5,c6⟩:=cut_ok ip Y;obtain⟨d1,d2,d3,d4,d5,d6⟩:=cut_ok iq Z;have M:=(part_nk ip k).1;have q1:=(part_nk iq B).1;have jx:=j.fx;have jy:=j.fy;rw[sumBut_cons]at jx jy;have a1:=j.ax;have a2:=j.ay;have l1:=j.lx;have l2:=j.ly;rw[d4,d6]at jx;rw[c4,c6]at jy;refine⟨?_,?_,?_,?_,?_,?_⟩
      ·by_cases I:q.kind=1<;>simp[I,a1,c1]
      ·by_cases I:p.kind=1<;>simp[I,a2,d1]
      ·by_cases I:q.kind=1<;>simp[I]<;>omega
      ·by_cases I:p.kind=1<;>simp[I]<;>omega
      ·rw[sumBut_append,jx,<-U];rcases q1 with q1|q1
       ·rw[if_pos q1];simp only[sumBut_cons,sumBut_nil,c3,if_neg k,c5,q1];simp;omega
       ·rw[if_neg (by omega),if_pos q1,if_pos q1];simp[sumBut_nil]
      ·rw[sumBut_append,jy,<-u];rcases M with M|M
       ·rw[if_pos M];simp only[sumBut_cons,sumBut_nil,d3,if_neg B,d5,M];simp;omega
       ·rw[if_neg (by omega),if_pos M,if_pos M];simp[sumBut_nil]
