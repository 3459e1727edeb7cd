/- Doing a call on a hub: what comes of it, and how much. -/
import Derived.Test.YtbonkabfmlajnaaGreatQbj
import Derived.Test.YtbonkabfmlajnaaGreatQbn
import Derived.Test.YtbonkabfmlajnaaGreatQbr
import Derived.Test.YtbonkabfmlajnaaGreatQaq
namespace Go.Proofs.YtbonkabfmlajnaaGreat
open Go.RowKit
def xaJ (n:Int):zaq:=⟨n,0,[],[]⟩
def uah (z:kae)(c:xah):zaq:=
 if z.shut=true then xaJ 12 else if xad z c.doc<0 then xaJ 6 else
 match z.docs[(xad z c.doc).toNat]? with
 |none=>xaJ 6
 |some d=>if c.kind=4 then⟨0,yaa d,jae d,[]⟩else⟨(Kar d c.n).2,0,[],(Kar d c.n).1⟩
def Xap (z:kae)(c:xah):kae×zaq:=
 if c.kind=1 then((xag z c.doc c.text).1,xaJ (xag z c.doc c.text).2)
 else if c.kind=2 then((Zad z c.doc c.client c.seq c.n c.o).1,⟨(Zad z c.doc c.client c.seq c.n c.o).2.2,(Zad z c.doc c.client c.seq c.n c.o).2.1,[],[]⟩)
 else if c.kind=5 then((Zac z c.doc c.n).1,⟨(Zac z c.doc c.n).2.2,(Zac z c.doc c.n).2.1,[],[]⟩)
 else if c.kind=6 then((Jai z c.client c.n).1,⟨(Jai z c.client c.n).2.2,0,[],(Jai z c.client c.n).2.1⟩)
 else if c.kind=7 then((Xaf z c.client).1,⟨(Xaf z c.client).2.2.2,(Xaf z c.client).2.2.1,(Xaf z c.client).2.1,[]⟩)
 else((kai z).1,xaJ (kai z).2)
def Zaj (z:kae)(c:xah):kae×zaq:=
 if uac z=true/\zac c=true then
  (if c.kind=3\/c.kind=4 then(z,uah z c)else if(Xap z c).2.code=0 then Xap z c else(z,xaJ (Xap z c).2.code))
 else(z,xaJ 1)
theorem yar {z:kae}{c:xah}(h:¬(uac z=true/\zac c=true)):Zaj z c=(z,xaJ 1):=if_neg h
theorem Xao {z:kae}{c:xah}(h:uac z=true/\zac c=true)(j:c.kind=3\/c.kind=4):Zaj z c=(z,uah z c):=by unfold Zaj;rw[if_pos h,if_pos j]
theorem JaE {z:kae}{c:xah}(h:uac z=true/\zac c=true)(n:¬(c.kind=3\/c.kind=4))(j:(Xap z c).2.code=0):Zaj z c=Xap z c:=by unfold Zaj;rw[if_pos h,if_neg n,if_pos j]
theorem qaM {z:kae}{c:xah}(h:uac z=true/\zac c=true)(n:¬(c.kind=3\/c.kind=4))(j:¬(Xap z c).2.code=0):Zaj z c=(z,xaJ (Xap z c).2.code):=by unfold Zaj;rw[if_pos h,if_neg n,if_neg j]
theorem ZaJ {z:kae}{c:xah}(h:z.shut=true):uah z c=xaJ 12:=if_pos h
theorem jaL {z:kae}{c:xah}(h:z.shut=false)(j:xad z c.doc<0):uah z c=xaJ 6:=by unfold uah;rw[if_neg (by simp[h]),if_pos j]
theorem QaW {z:kae}{c:xah}{k:Nat}{d:Qac}(h:z.shut=false)(j:xad z c.doc=k)(hd:z.docs[k]? =some d):
 uah z c=if c.kind=4 then⟨0,yaa d,jae d,[]⟩else⟨(Kar d c.n).2,0,[],(Kar d c.n).1⟩:=by
 unfold uah;rw[if_neg (by simp[h]),if_neg om,j,Int.toNat_natCast,hd]
end Go.Proofs.YtbonkabfmlajnaaGreat
namespace Go.Proofs.YtbonkabfmlajnaaGreat
open Go.RowKit
theorem xa4:∀{a b:List UInt8},Op.bytesLess a b=false->(a==b)=false->Op.bytesLess b a=true
 |[],[],_,h=>by simp at h
 |[],_::_,h,_=>by simp[Op.bytesLess]at h
 |_::_,[],_,_=>by simp[Op.bytesLess]
 |a::x,b::y,h,e=>by
  simp only[Op.bytesLess,Bool.or_eq_false_iff,Bool.and_eq_false_iff,decide_eq_false_iff_not]at h;simp only[Op.bytesLess,Bool.or_eq_true,Bool.and_eq_true,decide_eq_true_eq];by_cases j:a=b
  ·subst j;right;refine⟨by simp,xa4 (h.2.resolve_left sm) ?_⟩
   simpa using e
  ·left;have n:=h.1;rw[UInt8.lt_iff_toNat_lt]at *;have:a.toNat≠b.toNat:=fun k=>j (UInt8.toNat_inj.1 k)
   omega
theorem Jbf {a b:ByteArray}(h:slt a b=false)(n:¬a=b):slt b a=true:=xa4 h (KaH n)
def dOf (l:List Qac)(n:ByteArray):Option Qac:=l.find? fun d=>decide (d.name=n)
theorem QaX {h:kae}{n:ByteArray}{k:Nat}(p:xad h n=k):h.docs[k]? =dOf h.docs n/\(dOf h.docs n).isSome=true:=by
 unfold xad firstIdx at p;unfold dOf;rw[List.find?_eq_bind_findIdx?_getElem?];cases e:h.docs.findIdx? (fun d=>decide (d.name=n))with
 |none=>rw[e]at p;dsimp only at p;omega
 |some j=>
  rw[e]at p;obtain rfl:j=k:=by dsimp only at p;omega
  obtain⟨q,_⟩:=List.findIdx?_eq_some_iff_getElem.1 e;simp[List.getElem?_eq_getElem q]
theorem Zbe {h:kae}{n:ByteArray}(p:xad h n<0):dOf h.docs n=none:=by
 unfold xad firstIdx at p;unfold dOf;rw[List.find?_eq_bind_findIdx?_getElem?];cases e:h.docs.findIdx? (fun d=>decide (d.name=n))with
 |none=>rfl
 |some j=>rw[e]at p;dsimp only at p;omega
theorem Xbd {l:List Qac}{n:ByteArray}{d:Qac}(h:dOf l n=some d):d.name=n:=by simpa using List.find?_some h
def SubP (l:List Qac)(last:Int)(s:Kah):Prop:=(1<=s.id/\s.id<=last)/\vac s.r=true/\∃d,dOf l s.doc=some d/\(s.r.out=true\/s.r.next+s.r.list.length=yaa d+1)
structure Jbh (h:kae):Prop where
 nd:h.docs.length<=5
 ns:h.subs.length<=6
 l0:0<=h.last
 l1:h.last<=1000000000
 docs:∀d∈h.docs,uad d=true
 sort:∀j p d,h.docs[j]? =some p->h.docs[j+1]? =some d->slt p.name d.name=true
 subs:∀s∈h.subs,SubP h.docs h.last s
 ids:∀j p s,h.subs[j]? =some p->h.subs[j+1]? =some s->p.id<s.id
theorem jaq {h:kae}:uac h=true↔Jbh h:=by
 rw[vad];constructor
 ·intro p;refine⟨p.nd,p.ns,p.l0,p.l1,fun d hd=>p.doc hd,fun j a d n hd=> ?_,fun s u=> ?_,fun j a s n u=> ?_⟩
  ·have:=p.docs (j+1) d hd;simp only[hdI,n,Bool.and_eq_true]at this;exact this.2
  ·obtain⟨k,d,z,hd⟩:=p.at u;obtain⟨j,D⟩:=List.getElem?_of_mem u;have q:=p.subs j s D;simp only[hsI,Bool.and_eq_true,decide_eq_true_eq]at q;have e:=QaX z;refine⟨within_iff.1 q.1.1.1.1,q.1.1.1.2,d,by rw[<-e.1,hd],?_⟩
   have a:=q.2;rw[z,Int.toNat_natCast,hd]at a;simpa[vaN]using a
  ·have:=p.subs (j+1) s u;simp only[hsI,n,Bool.and_eq_true,decide_eq_true_eq]at this;exact this.1.2
 ·intro p;refine⟨p.nd,p.ns,p.l0,p.l1,fun j d hd=> ?_,fun j s u=> ?_⟩
  ·have B:=p.docs d (List.mem_of_getElem? hd);cases j with
   |zero=>exact Za3 B
   |succ j=>
    obtain⟨a,n⟩:=Jaa (l:=h.docs) (k:=j) (by have:=(lg.1 hd).1;omega)
    exact Za5 n B (p.sort j a d n hd)
  ·obtain⟨⟨J,M⟩,r,d,hd,o⟩:=p.subs s (List.mem_of_getElem? u);have N:0<=xad h s.doc:=by
    by_cases I:xad h s.doc<0
    ·rw[Zbe I]at hd;cases hd
    ·omega
   obtain⟨k,z⟩:∃k:Nat,xad h s.doc=k:=⟨(xad h s.doc).toNat,by omega⟩
   refine KaL (d:=d) (within_iff.2 ⟨J,M⟩) r z (by rw[(QaX z).1,hd]) (fun i a e n=> ?_) o
   subst e;exact p.ids i a s n u
theorem jai:uac Kan=true:=jaq.2 ⟨by simp[Kan],by simp[Kan],by simp[Kan],by simp[Kan],by simp[Kan],by simp[Kan],by simp[Kan],by simp[Kan]⟩
theorem ja5:∀(l:List Qac) (name:ByteArray),uaI l name<=l.length/\(∀j<uaI l name,∀d,l[j]? =some d->slt d.name name=true)/\∀d,l[uaI l name]? =some d->slt d.name name=false
 |[],_=>⟨lr _,fun _ _ _ h=>by simp at h,fun _ h=>by simp at h⟩
 |x::l,name=>by
  have n:=ja5 l name;unfold uaI at *;cases h:slt x.name name
  ·rw[List.takeWhile_cons_of_neg (by simp[h])]
   exact⟨lz _,fun _ h=>absurd h (Nat.not_lt_zero _),fun d hd=>by simp at hd;rw[<-hd];exact h⟩
  ·rw[List.takeWhile_cons_of_pos (by simp[h])]
   simp only[List.length_cons];refine⟨by omega,fun j p d hd=> ?_,fun d hd=>n.2.2 d (by simpa using hd)⟩
   cases j with
   |zero=>simp at hd;rw[<-hd];exact h
   |succ j=>exact n.2.1 j om d (by simpa using hd)
theorem jbf {α:Type}{l:List α}{k:Nat}{x:α}(n:k<=l.length)(j:Nat):(l.take k++x::l.drop k)[j]? =if j<k then l[j]? else if j=k then some x else l[j-1]? :=by
 by_cases h:j<k
 ·rw[if_pos h,List.getElem?_append_left (by simp;omega),List.getElem?_take,if_pos h]
 ·rw[if_neg h,List.getElem?_append_right (by simp;omega),List.length_take,Nat.min_eq_left n]
  by_cases e:j=k
  ·subst e;simp
  ·rw[if_neg e,show j-k=(j-k-1)+1 by omega,List.getElem?_cons_succ,List.getElem?_drop]
   congr 1;omega
theorem jay (z:kae)(name:ByteArray)(t:List Int):uac (xag z name t).1=true:=by
 unfold xag;split
 ·rename_i h
  split
  ·exact jai
  ·split
   ·exact jai
   ·rename_i Z
    split
    ·exact jai
    ·rename_i Y
     have p:=jaq.1 h.1;have D:uad (vap name t).1=true/\(vap name t).1.name=name:=by
      have:=h.2;unfold vap at this⊢;split
      ·rename_i g;exact⟨g,rfl⟩
      ·rename_i g;rw[if_neg g]at this;simp at this
     obtain⟨x,q⟩:∃x,(vap name t).1=x:=⟨_,rfl⟩;rw[q]at D;obtain⟨J,M,N⟩:=ja5 z.docs name;have B:=Zbe (h:=z) (n:=name) om;refine jaq.2 ⟨?_,p.ns,p.l0,p.l1,fun d hd=> ?_,fun j a d u hd=> ?_,fun s U=> ?_,p.ids⟩
     ·have:=p.nd;simp;omega
     ·simp only[q]at hd;rcases lm.1 hd with hd|hd
      ·exact p.docs d (List.mem_of_mem_take hd)
      ·rcases List.mem_cons.1 hd with rfl|hd
       ·exact D.1
       ·exact p.docs d (List.mem_of_mem_drop hd)
     ·simp only[q,jbf J]at u hd;split at u
      ·rename_i c1
       split at hd
       ·exact p.sort j a d u hd
       ·rw[if_pos om]at hd;cases hd;rw[D.2];exact M j c1 a u
      ·split at u
       ·rename_i c1 c2
        cases u;rw[if_neg om,if_neg om,Nat.add_sub_cancel]at hd;rw[D.2];subst c2;refine Jbf (N d hd) fun e=> ?_
        have:=List.find?_eq_none.1 B d (List.mem_of_getElem? hd);simp[e]at this
       ·rename_i c1 c2
        rw[if_neg om,if_neg om]at hd;exact p.sort (j-1) a d u (by rw[<-hd];congr 1;omega)
     ·obtain⟨Q,R,d,hd,o⟩:=p.subs s U;refine⟨Q,R,d,?_,o⟩;have I:¬x.name=s.doc:=fun e=>by rw[D.2]at e;rw[<-e,B]at hd;cases hd
      simp only[q];unfold dOf at hd⊢;rw[<-List.take_append_drop (uaI z.docs name) z.docs,List.find?_append]at hd;rw[List.find?_append,List.find?_cons_of_neg (by simpa using I)]
      exact hd
 ·exact jai
theorem JaT {α:Type}{l:List α}{k j:Nat}{x y:α}(h:(l.set k x)[j]? =some y):(j=k/\y=x)\/(j≠k/\l[j]? =some y):=by
 rw[List.getElem?_set]at h;split at h
 ·rename_i e
  split at h
  ·cases h;exact .inl ⟨e.symm,rfl⟩
  ·cases h
 ·rename_i e;exact .inr ⟨fun h=>e h.symm,h⟩
theorem Jbh.sub {z:kae}(p:Jbh z){k:Nat}{s:Kah}{r:kac}(u:z.subs[k]? =some s)(M:vac r=true)(J:∀d,dOf z.docs s.doc=some d->(s.r.out=true\/s.r.next+s.r.list.length=yaa d+1)->(r.out=true\/r.next+r.list.length=yaa d+1)):uac ⟨z.shut,z.docs,z.subs.set k (vaw s r),z.last⟩=true:=by
 refine jaq.2 ⟨p.nd,by simpa using p.ns,p.l0,p.l1,p.docs,p.sort,fun y hy=> ?_,fun j a b B hb=> ?_⟩
 ·rcases List.mem_or_eq_of_mem_set hy with hy|rfl
  ·exact p.subs y hy
  ·obtain⟨D,_,d,hd,o⟩:=p.subs s (List.mem_of_getElem? u);exact⟨D,M,d,hd,J d hd o⟩
 ·simp only at B hb;rcases JaT B with⟨rfl,rfl⟩|⟨N,n⟩<;>rcases JaT hb with⟨I,rfl⟩|⟨Q,q⟩
  ·omega
  ·exact p.ids j s b u q
  ·subst I;exact p.ids j a s n u
  ·exact p.ids j a b n q
theorem xaS (z:kae):uac (kai z).1=true:=by
 unfold kai;split
 ·rename_i h
  split
  ·exact jai
  ·have p:=jaq.1 h;exact jaq.2 ⟨p.nd,p.ns,p.l0,p.l1,p.docs,p.sort,p.subs,p.ids⟩
 ·exact jai
theorem yat {r:kac}:vac r=true↔(1<=r.cap/\r.cap<=6)/\(1<=r.next/\r.next<=1000000000)/\(r.list.length:Int)<=r.cap/\(r.out=true->r.list.length=0)/\r.list.all Jac=true:=by
 simp only[vac,Jad,Bool.and_eq_true,within_iff,decide_eq_true_eq,Bool.or_eq_true,Bool.not_eq_true'];constructor
 ·rintro⟨⟨⟨⟨a,b⟩,c⟩,d⟩,e⟩;exact⟨a,b,c,fun h=>d.resolve_left (by simp[h]),e⟩
 ·rintro⟨a,b,c,d,e⟩;refine⟨⟨⟨⟨a,b⟩,c⟩,?_⟩,e⟩;cases h:r.out
  ·exact .inl rfl
  ·exact .inr (d h)
theorem vax (z:kae)(name:ByteArray)(room:Int):uac (Zac z name room).1=true:=by
 unfold Zac;split
 ·rename_i h
  split
  ·exact jai
  ·split
   ·exact jai
   ·rename_i U
    split
    ·exact jai
    ·rename_i D
     have p:=jaq.1 h.1;obtain⟨k,d,B,hd⟩:=Kam U;have e:=QaX B;rw[hd]at e;have hb:=yaf (p.docs d (List.mem_of_getElem? hd));have M:QaB z name=yaa d:=by simp[QaB,B,hd]
     rw[M,yay h.2 hb.1 hb.2.1];have l0:=p.l0;have l1:=p.l1;have ns:=p.ns;have Y:=within_iff.1 h.2;have Q:¬z.subs.length=6:=fun x=>D (.inl x)
     have R:¬z.last=1000000000:=fun x=>D (.inr x)
     refine jaq.2 ⟨p.nd,by simp;omega,by show 0<=z.last+1;omega,by show z.last+1<=_;omega,p.docs,p.sort,fun s q=> ?_,fun j a b u n=> ?_⟩
     ·rcases lm.1 q with q|q
      ·obtain⟨⟨I,Z⟩,J⟩:=p.subs s q;exact⟨⟨I,by show s.id<=z.last+1;omega⟩,J⟩
      ·rw[List.mem_singleton.1 q];refine⟨⟨by show 1<=z.last+1;omega,Int.le_refl _⟩,yat.2 ⟨Y,⟨by show 1<=yaa d+1;omega,by show yaa d+1<=_;omega⟩,by show(0:Int)<=room;omega,(fun h=>by cases h),rfl⟩,d,e.1.symm,.inr (by show yaa d+1+((0:Nat):Int)=_;omega)⟩
     ·simp only at u n;have N:j+1<(z.subs++[(⟨z.last+1,name,⟨room,yaa d+1,false,[]⟩⟩:Kah)]).length:=(lg.1 n).1;simp only[List.length_append,List.length_singleton]at N;rw[List.getElem?_append_left om]at u;by_cases c:j+1<z.subs.length
      ·rw[List.getElem?_append_left c]at n;exact p.ids j a b u n
      ·rw[List.getElem?_append_right om,show j+1-z.subs.length=0 by omega]at n
       simp at n;rw[<-n];have:=(p.subs a (List.mem_of_getElem? u)).1.2;show a.id<z.last+1;omega
 ·exact jai
theorem kaS (z:kae)(id n:Int):uac (Jai z id n).1=true:=by
 unfold Jai;split
 ·rename_i h
  split
  ·exact jai
  ·split
   ·rename_i s J
    split
    ·rename_i D
     have p:=jaq.1 h.1;refine p.sub J ?_ ?_;all_goals
      obtain⟨_,B,M,u,R⟩:=p.subs s (List.mem_of_getElem? J);have q:=yat.1 B;have I:((s.r.list.drop (jaE s.r n)).length:Int)=s.r.list.length-jaE s.r n:=by unfold jaE;simp;omega
      have U:jaE s.r n<=s.r.list.length:=by unfold jaE;omega
      have j:s.r.out=false:=by
       cases Q:s.r.out
       ·rfl
       ·rw[ZaG ⟨B,h.2⟩ Q]at D;simp at D
      rw[kas ⟨B,h.2⟩ j rfl]
     ·have hb:=yaf (p.docs M (List.mem_of_find?_eq_some u));have o1:=R.resolve_left (by simp[j])
      exact yat.2 ⟨q.1,⟨by show 1<=s.r.next+_;omega,by show s.r.next+_<=_;omega⟩,by show((s.r.list.drop _).length:Int)<=s.r.cap;rw[I];omega,(fun h=>by rw[j]at h;cases h),List.all_eq_true.2 fun e N=>List.all_eq_true.1 q.2.2.2.2 e (List.mem_of_mem_drop N)⟩
     ·intro d hd o;refine .inr ?_;show s.r.next+_+((s.r.list.drop _).length:Int)=_;rw[I];have:=o.resolve_left (by simp[j])
      omega
    ·exact jai
   ·exact jai
 ·exact jai
theorem jaH (z:kae)(id:Int):uac (Xaf z id).1=true:=by
 by_cases h:uac z=true
 ·by_cases B:Jal z id<0
  ·rw[qaB h B];exact jai
  ·obtain⟨k,s,D,n⟩:=zaF B;obtain⟨M,d,j,hd⟩:=(vad.1 h).at (List.mem_of_getElem? n);rw[yaC h D n j hd];have p:=jaq.1 h;have hb:=yaf (p.docs d (List.mem_of_getElem? hd));obtain⟨_,I,_⟩:=p.subs s (List.mem_of_getElem? n);have q:=yat.1 I;refine p.sub n (yat.2 ⟨q.1,⟨by show 1<=yaa d+1;omega,by show yaa d+1<=_;omega⟩,by show(0:Int)<=s.r.cap;omega,(fun h=>by cases h),rfl⟩) fun J u _=> .inr ?_
   have e:=QaX j;rw[hd,u]at e;cases e.1;show yaa d+1+((0:Nat):Int)=_;omega
 ·rw[XaG (by simpa using h)];exact jai
theorem va0 (d:Qac)(client seq:Int)(x:List zaa):(zag d client seq x).name=d.name:=by unfold zag;split<;>rfl
theorem xa1 {d:Qac}{client seq base:Int}{o:List zaa}(h:(Zae d client seq base o).2.2=0):uad d=true/\((Zae d client seq base o).1=d\/(uad (Zae d client seq base o).1=true/\(Zae d client seq base o).1.name=d.name/\yaa (Zae d client seq base o).1=yaa d+1/\Jac (jab client seq (Xaa d base o).1)=true)):=by
 obtain⟨p,_,B⟩:=yaH h;refine⟨p,B.imp id ?_⟩;rintro⟨q,u,z⟩;have r:=uaC q;have j:within client 1 8=true/\within seq 1 1000000000=true:=by
  unfold Zae at h;split at h
  ·rename_i n;exact⟨n.2.1,n.2.2.1⟩
  ·simp at h
 have c:=jbc p j.1 j.2 r.2.1 r.2.2 u;rw[z];exact⟨c.1,va0 _ _ _ _,c.2.1,by simp only[Jac,jab,j.1,j.2,r.2.1,Bool.and_self]⟩
theorem qba {l:List Qac}{k:Nat}{d x:Qac}{n:ByteArray}(hd:l[k]? =some d)(q:x.name=n)(p:∀j<k,∀y,l[j]? =some y->¬y.name=n):dOf (l.set k x) n=some x:=by
 induction l generalizing k with
 |nil=>simp at hd
 |cons y l B=>
  cases k with
  |zero=>exact List.find?_cons_of_pos (by simp[q])
  |succ k=>
   have e:=p 0 om y rfl;simp only[List.set_cons_succ];exact(List.find?_cons_of_neg (by simp[e])).trans (B (k:=k) (by simpa using hd) fun j D z u=>p (j+1) om z (by simpa using u))
theorem Qba {l:List Qac}{k:Nat}{d x:Qac}{n:ByteArray}(hd:l[k]? =some d)(j:x.name=d.name)(h:¬d.name=n):dOf (l.set k x) n=dOf l n:=by
 unfold dOf;induction l generalizing k with
 |nil=>simp at hd
 |cons y l p=>
  cases k with
  |zero=>
   simp at hd;subst hd;rw[List.set_cons_zero,List.find?_cons_of_neg (by simp[j,h]),List.find?_cons_of_neg (by simp[h])]
  |succ k=>
   have i:=p (k:=k) (by simpa using hd)
   rw[List.set_cons_succ];by_cases e:y.name=n
   ·rw[List.find?_cons_of_pos (by simp[e]),List.find?_cons_of_pos (by simp[e])]
   ·rw[List.find?_cons_of_neg (by simp[e]),List.find?_cons_of_neg (by simp[e]),i]
theorem qaH (z:kae)(name:ByteArray)(client seq base:Int)(o:List zaa):uac (Zad z name client seq base o).1=true:=by
 unfold Zad;split
 ·rename_i h
  split
  ·exact jai
  ·split
   ·exact jai
   ·rename_i hn
    split
    ·exact jai
    ·rename_i d hd
     split
     ·rename_i hc
      have p:=jaq.1 h;obtain⟨k,_,hk,_⟩:=Kam hn;rw[hk,Int.toNat_natCast]at hd⊢;have e:=QaX hk;rw[hd]at e;have U:=Xbd e.1.symm;obtain⟨h1,J⟩:=xa1 hc;rcases J with J|⟨J,N,h4,h5⟩
      ·rw[J,if_pos rfl];have:z.docs.set k d=z.docs:=by
        obtain⟨q1,q2⟩:=lg.1 hd;rw[<-q2,List.set_getElem_self]
       rw[this];exact h
      ·obtain⟨x,hx⟩:∃x,(Zae d client seq base o).1=x:=⟨_,rfl⟩;rw[hx]at J N h4⊢;rw[if_neg om];have B:∀j<k,∀y,z.docs[j]? =some y->¬y.name=name:=by
        intro j hj y hy Z;have:=hk;unfold xad firstIdx at this;cases e3:z.docs.findIdx? (fun d=>decide (d.name=name))with
        |none=>rw[e3]at this;dsimp only at this;omega
        |some i=>
         rw[e3]at this;obtain rfl:i=k:=by dsimp only at this;omega
         obtain⟨_,_,q⟩:=List.findIdx?_eq_some_iff_getElem.1 e3;obtain⟨w1,w2⟩:=lg.1 hy;have:=q j hj;rw[w2]at this;simp[Z]at this
       refine jaq.2 ⟨by simpa using p.nd,by simpa using p.ns,p.l0,p.l1,fun y hy=> ?_,fun j a b D hb=> ?_,fun s hs=> ?_,fun j a b D hb=> ?_⟩
       ·rcases List.mem_or_eq_of_mem_set hy with hy|rfl
        ·exact p.docs y hy
        ·exact J
       ·simp only at D hb;rcases JaT D with⟨rfl,rfl⟩|⟨n1,Q⟩<;>rcases JaT hb with⟨Z,rfl⟩|⟨n2,R⟩
        ·omega
        ·rw[N];exact p.sort j d b hd R
        ·subst Z;rw[N];exact p.sort j a d Q hd
        ·exact p.sort j a b Q R
       ·obtain⟨n,hs0,rfl⟩:=List.mem_map.1 hs;obtain⟨b1,Y,d2,I,o2⟩:=p.subs n hs0;unfold kaF;simp only;by_cases u:n.doc=name
        ·rw[if_pos u];rw[u,<-e.1]at I;cases I;have q:=yat.1 Y;refine⟨b1,?_,x,?_,?_⟩
         ·by_cases g:vac n.r=true/\Jac (jab client seq (Xaa d base o).1)=true/\n.r.out=false
          rotate_left
          ·rw[uar g];exact Y
          by_cases M:(n.r.list.length:Int)=n.r.cap
          ·rw[Zau g M];exact yat.2 ⟨q.1,q.2.1,by show(0:Int)<=n.r.cap;omega,fun _=>rfl,rfl⟩
          ·rw[qat g M];exact yat.2 ⟨q.1,q.2.1,by show((n.r.list++[_]).length:Int)<=n.r.cap;simp;omega,(fun h=>by rw[g.2.2]at h;cases h),by rw[List.all_append,q.2.2.2.2];simp[h5]⟩
         ·show dOf _ n.doc=_;rw[u];exact qba hd (N.trans U) B
         ·by_cases g:vac n.r=true/\Jac (jab client seq (Xaa d base o).1)=true/\n.r.out=false
          rotate_left
          ·show(Xai _ _).out=true\/_;rw[uar g];have:n.r.out=true:=by
            cases ho:n.r.out
            ·exact absurd ⟨Y,h5,ho⟩ g
            ·rfl
           exact .inl this
          by_cases M:(n.r.list.length:Int)=n.r.cap
          ·rw[Zau g M];exact .inl rfl
          ·rw[qat g M];refine .inr ?_;have:=o2.resolve_left (by simp[g.2.2])
           show n.r.next+((n.r.list++[_]).length:Int)=_;rw[h4];simp;omega
        ·rw[if_neg u];refine⟨b1,Y,d2,?_,o2⟩;show dOf _ n.doc=_;rw[Qba hd N fun g=>u (g.symm.trans U),I]
       ·simp only[List.getElem?_map,Option.map_eq_some_iff]at D hb;obtain⟨a0,D,rfl⟩:=D;obtain⟨b0,hb,rfl⟩:=hb;have:=p.ids j a0 b0 D hb;unfold kaF;split<;>split<;>exact this
     ·exact jai
 ·exact jai
theorem qbe (z:kae)(c:xah):uac (Xap z c).1=true:=by
 unfold Xap;split
 ·exact jay z _ _
 ·split
  ·exact qaH z _ _ _ _ _
  ·split
   ·exact vax z _ _
   ·split
    ·exact kaS z _ _
    ·split
     ·exact jaH z _
     ·exact xaS z
theorem za0 {z:kae}(h:uac z=true)(c:xah):uac (Zaj z c).1=true:=by
 unfold Zaj;split
 ·split
  ·exact h
  ·split
   ·exact qbe z c
   ·exact h
 ·exact h
