/- Doing a call on a hub: what comes of it, and how much. -/
import Derived.Test.YtbonkabfmlajnaaGreatQrbj
import Derived.Test.YtbonkabfmlajnaaGreatQrbn
import Derived.Test.YtbonkabfmlajnaaGreatQrbr
import Derived.Test.YtbonkabfmlajnaaGreatQraq
namespace Go.Proofs.YtbonkabfmlajnaaGreat
open Go.RowKit
def jaA (n:Int):Kal:=⟨n,0,[],[]⟩
def Kah (z:qae)(c:Jag):Kal:=
 if z.shut=true then jaA 12 else if zad z c.doc<0 then jaA 6 else
 match z.docs[(zad z c.doc).toNat]? with
 |none=>jaA 6
 |some d=>if c.kind=4 then⟨0,yaa d,vae d,[]⟩else⟨(Qar d c.n).2,0,[],(Qar d c.n).1⟩
def Xah (z:qae)(c:Jag):qae×Kal:=
 if c.kind=1 then((kag z c.doc c.text).1,jaA (kag z c.doc c.text).2)
 else if c.kind=2 then((Kac z c.doc c.client c.seq c.n c.o).1,⟨(Kac z c.doc c.client c.seq c.n c.o).2.2,(Kac z c.doc c.client c.seq c.n c.o).2.1,[],[]⟩)
 else if c.kind=5 then((yac z c.doc c.n).1,⟨(yac z c.doc c.n).2.2,(yac z c.doc c.n).2.1,[],[]⟩)
 else if c.kind=6 then((qah z c.client c.n).1,⟨(qah z c.client c.n).2.2,0,[],(qah z c.client c.n).2.1⟩)
 else if c.kind=7 then((kae z c.client).1,⟨(kae z c.client).2.2.2,(kae z c.client).2.2.1,(kae z c.client).2.1,[]⟩)
 else((xan z).1,jaA (xan z).2)
def Xai (z:qae)(c:Jag):qae×Kal:=
 if Qac z=true/\xac c=true then
  (if c.kind=3\/c.kind=4 then(z,Kah z c)else if(Xah z c).2.code=0 then Xah z c else(z,jaA (Xah z c).2.code))
 else(z,jaA 1)
theorem xar {z:qae}{c:Jag}(h:¬(Qac z=true/\xac c=true)):Xai z c=(z,jaA 1):=if_neg h
theorem Qao {z:qae}{c:Jag}(h:Qac z=true/\xac c=true)(j:c.kind=3\/c.kind=4):Xai z c=(z,Kah z c):=by unfold Xai;rw[if_pos h,if_pos j]
theorem kay {z:qae}{c:Jag}(h:Qac z=true/\xac c=true)(n:¬(c.kind=3\/c.kind=4))(j:(Xah z c).2.code=0):Xai z c=Xah z c:=by unfold Xai;rw[if_pos h,if_neg n,if_pos j]
theorem ZaD {z:qae}{c:Jag}(h:Qac z=true/\xac c=true)(n:¬(c.kind=3\/c.kind=4))(j:¬(Xah z c).2.code=0):Xai z c=(z,jaA (Xah z c).2.code):=by unfold Xai;rw[if_pos h,if_neg n,if_neg j]
theorem QaN {z:qae}{c:Jag}(h:z.shut=true):Kah z c=jaA 12:=if_pos h
theorem jaK {z:qae}{c:Jag}(h:z.shut=false)(j:zad z c.doc<0):Kah z c=jaA 6:=by unfold Kah;rw[if_neg (by simp[h]),if_pos j]
theorem KaZ {z:qae}{c:Jag}{k:Nat}{d:Xac}(h:z.shut=false)(j:zad z c.doc=k)(hd:z.docs[k]? =some d):
 Kah z c=if c.kind=4 then⟨0,yaa d,vae d,[]⟩else⟨(Qar d c.n).2,0,[],(Qar d c.n).1⟩:=by
 unfold Kah;rw[if_neg (by simp[h]),if_neg om,j,Int.toNat_natCast,hd]
end Go.Proofs.YtbonkabfmlajnaaGreat
namespace Go.Proofs.YtbonkabfmlajnaaGreat
open Go.RowKit
theorem Ja3:∀{a b:List UInt8},Op.bytesLess a b=false->(a==b)=false->Op.bytesLess b a=true
 |[],[],_,h=>by simp at h
 |[],_::_,h,_=>by simp[Op.bytesLess]at h
 |_::_,[],_,_=>by simp[Op.bytesLess]
 |a::x,b::y,h,e=>by
  simp only[Op.bytesLess,Bool.or_eq_false_iff,Bool.and_eq_false_iff,decide_eq_false_iff_not]at h;simp only[Op.bytesLess,Bool.or_eq_true,Bool.and_eq_true,decide_eq_true_eq];by_cases j:a=b
  ·subst j;right;refine⟨by simp,Ja3 (h.2.resolve_left sm) ?_⟩
   simpa using e
  ·left;have n:=h.1;rw[UInt8.lt_iff_toNat_lt]at *;have:a.toNat≠b.toNat:=fun k=>j (UInt8.toNat_inj.1 k)
   omega
theorem kbf {a b:ByteArray}(h:slt a b=false)(n:¬a=b):slt b a=true:=Ja3 h (vaK n)
def dOf (l:List Xac)(n:ByteArray):Option Xac:=l.find? fun d=>decide (d.name=n)
theorem vaW {h:qae}{n:ByteArray}{k:Nat}(p:zad h n=k):h.docs[k]? =dOf h.docs n/\(dOf h.docs n).isSome=true:=by
 unfold zad firstIdx at p;unfold dOf;rw[List.find?_eq_bind_findIdx?_getElem?];cases e:h.docs.findIdx? (fun d=>decide (d.name=n))with
 |none=>rw[e]at p;dsimp only at p;omega
 |some j=>
  rw[e]at p;obtain rfl:j=k:=by dsimp only at p;omega
  obtain⟨q,_⟩:=List.findIdx?_eq_some_iff_getElem.1 e;simp[List.getElem?_eq_getElem q]
theorem Jbe {h:qae}{n:ByteArray}(p:zad h n<0):dOf h.docs n=none:=by
 unfold zad firstIdx at p;unfold dOf;rw[List.find?_eq_bind_findIdx?_getElem?];cases e:h.docs.findIdx? (fun d=>decide (d.name=n))with
 |none=>rfl
 |some j=>rw[e]at p;dsimp only at p;omega
theorem Jbd {l:List Xac}{n:ByteArray}{d:Xac}(h:dOf l n=some d):d.name=n:=by simpa using List.find?_some h
def SubP (l:List Xac)(last:Int)(s:yai):Prop:=(1<=s.id/\s.id<=last)/\uac s.r=true/\∃d,dOf l s.doc=some d/\(s.r.out=true\/s.r.next+s.r.list.length=yaa d+1)
structure Kbh (h:qae):Prop where
 nd:h.docs.length<=5
 ns:h.subs.length<=6
 l0:0<=h.last
 l1:h.last<=1000000000
 docs:∀d∈h.docs,Qad d=true
 sort:∀j p d,h.docs[j]? =some p->h.docs[j+1]? =some d->slt p.name d.name=true
 subs:∀s∈h.subs,SubP h.docs h.last s
 ids:∀j p s,h.subs[j]? =some p->h.subs[j+1]? =some s->p.id<s.id
theorem Kap {h:qae}:Qac h=true↔Kbh h:=by
 rw[vad];constructor
 ·intro p;refine⟨p.nd,p.ns,p.l0,p.l1,fun d hd=>p.doc hd,fun j a d n hd=> ?_,fun s u=> ?_,fun j a s n u=> ?_⟩
  ·have:=p.docs (j+1) d hd;simp only[hdI,n,Bool.and_eq_true]at this;exact this.2
  ·obtain⟨k,d,z,hd⟩:=p.at u;obtain⟨j,D⟩:=List.getElem?_of_mem u;have q:=p.subs j s D;simp only[hsI,Bool.and_eq_true,decide_eq_true_eq]at q;have e:=vaW z;refine⟨within_iff.1 q.1.1.1.1,q.1.1.1.2,d,by rw[<-e.1,hd],?_⟩
   have a:=q.2;rw[z,Int.toNat_natCast,hd]at a;simpa[ZaM]using a
  ·have:=p.subs (j+1) s u;simp only[hsI,n,Bool.and_eq_true,decide_eq_true_eq]at this;exact this.1.2
 ·intro p;refine⟨p.nd,p.ns,p.l0,p.l1,fun j d hd=> ?_,fun j s u=> ?_⟩
  ·have B:=p.docs d (List.mem_of_getElem? hd);cases j with
   |zero=>exact xa6 B
   |succ j=>
    obtain⟨a,n⟩:=Jaa (l:=h.docs) (k:=j) (by have:=(lg.1 hd).1;omega)
    exact Qa3 n B (p.sort j a d n hd)
  ·obtain⟨⟨J,M⟩,r,d,hd,o⟩:=p.subs s (List.mem_of_getElem? u);have N:0<=zad h s.doc:=by
    by_cases I:zad h s.doc<0
    ·rw[Jbe I]at hd;cases hd
    ·omega
   obtain⟨k,z⟩:∃k:Nat,zad h s.doc=k:=⟨(zad h s.doc).toNat,by omega⟩
   refine yaM (d:=d) (within_iff.2 ⟨J,M⟩) r z (by rw[(vaW z).1,hd]) (fun i a e n=> ?_) o
   subst e;exact p.ids i a s n u
theorem Qai:Qac zao=true:=Kap.2 ⟨by simp[zao],by simp[zao],by simp[zao],by simp[zao],by simp[zao],by simp[zao],by simp[zao],by simp[zao]⟩
theorem ja4:∀(l:List Xac) (name:ByteArray),KaH l name<=l.length/\(∀j<KaH l name,∀d,l[j]? =some d->slt d.name name=true)/\∀d,l[KaH l name]? =some d->slt d.name name=false
 |[],_=>⟨lr _,fun _ _ _ h=>by simp at h,fun _ h=>by simp at h⟩
 |x::l,name=>by
  have n:=ja4 l name;unfold KaH at *;cases h:slt x.name name
  ·rw[List.takeWhile_cons_of_neg (by simp[h])]
   exact⟨lz _,fun _ h=>absurd h (Nat.not_lt_zero _),fun d hd=>by simp at hd;rw[<-hd];exact h⟩
  ·rw[List.takeWhile_cons_of_pos (by simp[h])]
   simp only[List.length_cons];refine⟨by omega,fun j p d hd=> ?_,fun d hd=>n.2.2 d (by simpa using hd)⟩
   cases j with
   |zero=>simp at hd;rw[<-hd];exact h
   |succ j=>exact n.2.1 j om d (by simpa using hd)
theorem xbg {α:Type}{l:List α}{k:Nat}{x:α}(n:k<=l.length)(j:Nat):(l.take k++x::l.drop k)[j]? =if j<k then l[j]? else if j=k then some x else l[j-1]? :=by
 by_cases h:j<k
 ·rw[if_pos h,List.getElem?_append_left (by simp;omega),List.getElem?_take,if_pos h]
 ·rw[if_neg h,List.getElem?_append_right (by simp;omega),List.length_take,Nat.min_eq_left n]
  by_cases e:j=k
  ·subst e;simp
  ·rw[if_neg e,show j-k=(j-k-1)+1 by omega,List.getElem?_cons_succ,List.getElem?_drop]
   congr 1;omega
theorem Xay (z:qae)(name:ByteArray)(t:List Int):Qac (kag z name t).1=true:=by
 unfold kag;split
 ·rename_i h
  split
  ·exact Qai
  ·split
   ·exact Qai
   ·rename_i Z
    split
    ·exact Qai
    ·rename_i Y
     have p:=Kap.1 h.1;have D:Qad (kaq name t).1=true/\(kaq name t).1.name=name:=by
      have:=h.2;unfold kaq at this⊢;split
      ·rename_i g;exact⟨g,rfl⟩
      ·rename_i g;rw[if_neg g]at this;simp at this
     obtain⟨x,q⟩:∃x,(kaq name t).1=x:=⟨_,rfl⟩;rw[q]at D;obtain⟨J,M,N⟩:=ja4 z.docs name;have B:=Jbe (h:=z) (n:=name) om;refine Kap.2 ⟨?_,p.ns,p.l0,p.l1,fun d hd=> ?_,fun j a d u hd=> ?_,fun s U=> ?_,p.ids⟩
     ·have:=p.nd;simp;omega
     ·simp only[q]at hd;rcases lm.1 hd with hd|hd
      ·exact p.docs d (List.mem_of_mem_take hd)
      ·rcases List.mem_cons.1 hd with rfl|hd
       ·exact D.1
       ·exact p.docs d (List.mem_of_mem_drop hd)
     ·simp only[q,xbg J]at u hd;split at u
      ·rename_i c1
       split at hd
       ·exact p.sort j a d u hd
       ·rw[if_pos om]at hd;cases hd;rw[D.2];exact M j c1 a u
      ·split at u
       ·rename_i c1 c2
        cases u;rw[if_neg om,if_neg om,Nat.add_sub_cancel]at hd;rw[D.2];subst c2;refine kbf (N d hd) fun e=> ?_
        have:=List.find?_eq_none.1 B d (List.mem_of_getElem? hd);simp[e]at this
       ·rename_i c1 c2
        rw[if_neg om,if_neg om]at hd;exact p.sort (j-1) a d u (by rw[<-hd];congr 1;omega)
     ·obtain⟨Q,R,d,hd,o⟩:=p.subs s U;refine⟨Q,R,d,?_,o⟩;have I:¬x.name=s.doc:=fun e=>by rw[D.2]at e;rw[<-e,B]at hd;cases hd
      simp only[q];unfold dOf at hd⊢;rw[<-List.take_append_drop (KaH z.docs name) z.docs,List.find?_append]at hd;rw[List.find?_append,List.find?_cons_of_neg (by simpa using I)]
      exact hd
 ·exact Qai
theorem jaT {α:Type}{l:List α}{k j:Nat}{x y:α}(h:(l.set k x)[j]? =some y):(j=k/\y=x)\/(j≠k/\l[j]? =some y):=by
 rw[List.getElem?_set]at h;split at h
 ·rename_i e
  split at h
  ·cases h;exact .inl ⟨e.symm,rfl⟩
  ·cases h
 ·rename_i e;exact .inr ⟨fun h=>e h.symm,h⟩
theorem Kbh.sub {z:qae}(p:Kbh z){k:Nat}{s:yai}{r:vac}(u:z.subs[k]? =some s)(M:uac r=true)(J:∀d,dOf z.docs s.doc=some d->(s.r.out=true\/s.r.next+s.r.list.length=yaa d+1)->(r.out=true\/r.next+r.list.length=yaa d+1)):Qac ⟨z.shut,z.docs,z.subs.set k (Xaw s r),z.last⟩=true:=by
 refine Kap.2 ⟨p.nd,by simpa using p.ns,p.l0,p.l1,p.docs,p.sort,fun y hy=> ?_,fun j a b B hb=> ?_⟩
 ·rcases List.mem_or_eq_of_mem_set hy with hy|rfl
  ·exact p.subs y hy
  ·obtain⟨D,_,d,hd,o⟩:=p.subs s (List.mem_of_getElem? u);exact⟨D,M,d,hd,J d hd o⟩
 ·simp only at B hb;rcases jaT B with⟨rfl,rfl⟩|⟨N,n⟩<;>rcases jaT hb with⟨I,rfl⟩|⟨Q,q⟩
  ·omega
  ·exact p.ids j s b u q
  ·subst I;exact p.ids j a s n u
  ·exact p.ids j a b n q
theorem xa7 (z:qae):Qac (xan z).1=true:=by
 unfold xan;split
 ·rename_i h
  split
  ·exact Qai
  ·have p:=Kap.1 h;exact Kap.2 ⟨p.nd,p.ns,p.l0,p.l1,p.docs,p.sort,p.subs,p.ids⟩
 ·exact Qai
theorem Kas {r:vac}:uac r=true↔(1<=r.cap/\r.cap<=6)/\(1<=r.next/\r.next<=1000000000)/\(r.list.length:Int)<=r.cap/\(r.out=true->r.list.length=0)/\r.list.all Jac=true:=by
 simp only[uac,Jad,Bool.and_eq_true,within_iff,decide_eq_true_eq,Bool.or_eq_true,Bool.not_eq_true'];constructor
 ·rintro⟨⟨⟨⟨a,b⟩,c⟩,d⟩,e⟩;exact⟨a,b,c,fun h=>d.resolve_left (by simp[h]),e⟩
 ·rintro⟨a,b,c,d,e⟩;refine⟨⟨⟨⟨a,b⟩,c⟩,?_⟩,e⟩;cases h:r.out
  ·exact .inl rfl
  ·exact .inr (d h)
theorem Qaw (z:qae)(name:ByteArray)(room:Int):Qac (yac z name room).1=true:=by
 unfold yac;split
 ·rename_i h
  split
  ·exact Qai
  ·split
   ·exact Qai
   ·rename_i U
    split
    ·exact Qai
    ·rename_i D
     have p:=Kap.1 h.1;obtain⟨k,d,B,hd⟩:=qan U;have e:=vaW B;rw[hd]at e;have hb:=yaf (p.docs d (List.mem_of_getElem? hd));have M:QaD z name=yaa d:=by simp[QaD,B,hd]
     rw[M,jay h.2 hb.1 hb.2.1];have l0:=p.l0;have l1:=p.l1;have ns:=p.ns;have Y:=within_iff.1 h.2;have Q:¬z.subs.length=6:=fun x=>D (.inl x)
     have R:¬z.last=1000000000:=fun x=>D (.inr x)
     refine Kap.2 ⟨p.nd,by simp;omega,by show 0<=z.last+1;omega,by show z.last+1<=_;omega,p.docs,p.sort,fun s q=> ?_,fun j a b u n=> ?_⟩
     ·rcases lm.1 q with q|q
      ·obtain⟨⟨I,Z⟩,J⟩:=p.subs s q;exact⟨⟨I,by show s.id<=z.last+1;omega⟩,J⟩
      ·rw[List.mem_singleton.1 q];refine⟨⟨by show 1<=z.last+1;omega,Int.le_refl _⟩,Kas.2 ⟨Y,⟨by show 1<=yaa d+1;omega,by show yaa d+1<=_;omega⟩,by show(0:Int)<=room;omega,(fun h=>by cases h),rfl⟩,d,e.1.symm,.inr (by show yaa d+1+((0:Nat):Int)=_;omega)⟩
     ·simp only at u n;have N:j+1<(z.subs++[(⟨z.last+1,name,⟨room,yaa d+1,false,[]⟩⟩:yai)]).length:=(lg.1 n).1;simp only[List.length_append,List.length_singleton]at N;rw[List.getElem?_append_left om]at u;by_cases c:j+1<z.subs.length
      ·rw[List.getElem?_append_left c]at n;exact p.ids j a b u n
      ·rw[List.getElem?_append_right om,show j+1-z.subs.length=0 by omega]at n
       simp at n;rw[<-n];have:=(p.subs a (List.mem_of_getElem? u)).1.2;show a.id<z.last+1;omega
 ·exact Qai
theorem KaR (z:qae)(id n:Int):Qac (qah z id n).1=true:=by
 unfold qah;split
 ·rename_i h
  split
  ·exact Qai
  ·split
   ·rename_i s J
    split
    ·rename_i D
     have p:=Kap.1 h.1;refine p.sub J ?_ ?_;all_goals
      obtain⟨_,B,M,u,R⟩:=p.subs s (List.mem_of_getElem? J);have q:=Kas.1 B;have I:((s.r.list.drop (vaE s.r n)).length:Int)=s.r.list.length-vaE s.r n:=by unfold vaE;simp;omega
      have U:vaE s.r n<=s.r.list.length:=by unfold vaE;omega
      have j:s.r.out=false:=by
       cases Q:s.r.out
       ·rfl
       ·rw[xaG ⟨B,h.2⟩ Q]at D;simp at D
      rw[Jar ⟨B,h.2⟩ j rfl]
     ·have hb:=yaf (p.docs M (List.mem_of_find?_eq_some u));have o1:=R.resolve_left (by simp[j])
      exact Kas.2 ⟨q.1,⟨by show 1<=s.r.next+_;omega,by show s.r.next+_<=_;omega⟩,by show((s.r.list.drop _).length:Int)<=s.r.cap;rw[I];omega,(fun h=>by rw[j]at h;cases h),List.all_eq_true.2 fun e N=>List.all_eq_true.1 q.2.2.2.2 e (List.mem_of_mem_drop N)⟩
     ·intro d hd o;refine .inr ?_;show s.r.next+_+((s.r.list.drop _).length:Int)=_;rw[I];have:=o.resolve_left (by simp[j])
      omega
    ·exact Qai
   ·exact Qai
 ·exact Qai
theorem uaG (z:qae)(id:Int):Qac (kae z id).1=true:=by
 by_cases h:Qac z=true
 ·by_cases B:Jal z id<0
  ·rw[uaD h B];exact Qai
  ·obtain⟨k,s,D,n⟩:=yaE B;obtain⟨M,d,j,hd⟩:=(vad.1 h).at (List.mem_of_getElem? n);rw[kaB h D n j hd];have p:=Kap.1 h;have hb:=yaf (p.docs d (List.mem_of_getElem? hd));obtain⟨_,I,_⟩:=p.subs s (List.mem_of_getElem? n);have q:=Kas.1 I;refine p.sub n (Kas.2 ⟨q.1,⟨by show 1<=yaa d+1;omega,by show yaa d+1<=_;omega⟩,by show(0:Int)<=s.r.cap;omega,(fun h=>by cases h),rfl⟩) fun J u _=> .inr ?_
   have e:=vaW j;rw[hd,u]at e;cases e.1;show yaa d+1+((0:Nat):Int)=_;omega
 ·rw[JaG (by simpa using h)];exact Qai
theorem qa3 (d:Xac)(client seq:Int)(x:List zaa):(xag d client seq x).name=d.name:=by unfold xag;split<;>rfl
theorem ja1 {d:Xac}{client seq base:Int}{o:List zaa}(h:(Jae d client seq base o).2.2=0):Qad d=true/\((Jae d client seq base o).1=d\/(Qad (Jae d client seq base o).1=true/\(Jae d client seq base o).1.name=d.name/\yaa (Jae d client seq base o).1=yaa d+1/\Jac (jab client seq (Xaa d base o).1)=true)):=by
 obtain⟨p,_,B⟩:=jaG h;refine⟨p,B.imp id ?_⟩;rintro⟨q,u,z⟩;have r:=kaC q;have j:within client 1 8=true/\within seq 1 1000000000=true:=by
  unfold Jae at h;split at h
  ·rename_i n;exact⟨n.2.1,n.2.2.1⟩
  ·simp at h
 have c:=xbb p j.1 j.2 r.2.1 r.2.2 u;rw[z];exact⟨c.1,qa3 _ _ _ _,c.2.1,by simp only[Jac,jab,j.1,j.2,r.2.1,Bool.and_self]⟩
theorem vbb {l:List Xac}{k:Nat}{d x:Xac}{n:ByteArray}(hd:l[k]? =some d)(q:x.name=n)(p:∀j<k,∀y,l[j]? =some y->¬y.name=n):dOf (l.set k x) n=some x:=by
 induction l generalizing k with
 |nil=>simp at hd
 |cons y l B=>
  cases k with
  |zero=>exact List.find?_cons_of_pos (by simp[q])
  |succ k=>
   have e:=p 0 om y rfl;simp only[List.set_cons_succ];exact(List.find?_cons_of_neg (by simp[e])).trans (B (k:=k) (by simpa using hd) fun j D z u=>p (j+1) om z (by simpa using u))
theorem ubb {l:List Xac}{k:Nat}{d x:Xac}{n:ByteArray}(hd:l[k]? =some d)(j:x.name=d.name)(h:¬d.name=n):dOf (l.set k x) n=dOf l n:=by
 unfold dOf;induction l generalizing k with
 |nil=>simp at hd
 |cons y l p=>
  cases k with
  |zero=>
   simp at hd;subst hd;rw[List.set_cons_zero,List.find?_cons_of_neg (by simp[j,h]),List.find?_cons_of_neg (by simp[h])]
  |succ k=>
   have i:=p (k:=k) (by simpa using hd)
   rw[List.set_cons_succ];by_cases e:y.name=n
   ·rw[List.find?_cons_of_pos (by simp[e]),List.find?_cons_of_pos (by simp[e])]
   ·rw[List.find?_cons_of_neg (by simp[e]),List.find?_cons_of_neg (by simp[e]),i]
theorem ZaG (z:qae)(name:ByteArray)(client seq base:Int)(o:List zaa):Qac (Kac z name client seq base o).1=true:=by
 unfold Kac;split
 ·rename_i h
  split
  ·exact Qai
  ·split
   ·exact Qai
   ·rename_i hn
    split
    ·exact Qai
    ·rename_i d hd
     split
     ·rename_i hc
      have p:=Kap.1 h;obtain⟨k,_,hk,_⟩:=qan hn;rw[hk,Int.toNat_natCast]at hd⊢;have e:=vaW hk;rw[hd]at e;have U:=Jbd e.1.symm;obtain⟨h1,J⟩:=ja1 hc;rcases J with J|⟨J,N,h4,h5⟩
      ·rw[J,if_pos rfl];have:z.docs.set k d=z.docs:=by
        obtain⟨q1,q2⟩:=lg.1 hd;rw[<-q2,List.set_getElem_self]
       rw[this];exact h
      ·obtain⟨x,hx⟩:∃x,(Jae d client seq base o).1=x:=⟨_,rfl⟩;rw[hx]at J N h4⊢;rw[if_neg om];have B:∀j<k,∀y,z.docs[j]? =some y->¬y.name=name:=by
        intro j hj y hy Z;have:=hk;unfold zad firstIdx at this;cases e3:z.docs.findIdx? (fun d=>decide (d.name=name))with
        |none=>rw[e3]at this;dsimp only at this;omega
        |some i=>
         rw[e3]at this;obtain rfl:i=k:=by dsimp only at this;omega
         obtain⟨_,_,q⟩:=List.findIdx?_eq_some_iff_getElem.1 e3;obtain⟨w1,w2⟩:=lg.1 hy;have:=q j hj;rw[w2]at this;simp[Z]at this
       refine Kap.2 ⟨by simpa using p.nd,by simpa using p.ns,p.l0,p.l1,fun y hy=> ?_,fun j a b D hb=> ?_,fun s hs=> ?_,fun j a b D hb=> ?_⟩
       ·rcases List.mem_or_eq_of_mem_set hy with hy|rfl
        ·exact p.docs y hy
        ·exact J
       ·simp only at D hb;rcases jaT D with⟨rfl,rfl⟩|⟨n1,Q⟩<;>rcases jaT hb with⟨Z,rfl⟩|⟨n2,R⟩
        ·omega
        ·rw[N];exact p.sort j d b hd R
        ·subst Z;rw[N];exact p.sort j a d Q hd
        ·exact p.sort j a b Q R
       ·obtain⟨n,hs0,rfl⟩:=List.mem_map.1 hs;obtain⟨b1,Y,d2,I,o2⟩:=p.subs n hs0;unfold uaF;simp only;by_cases u:n.doc=name
        ·rw[if_pos u];rw[u,<-e.1]at I;cases I;have q:=Kas.1 Y;refine⟨b1,?_,x,?_,?_⟩
         ·by_cases g:uac n.r=true/\Jac (jab client seq (Xaa d base o).1)=true/\n.r.out=false
          rotate_left
          ·rw[Xas g];exact Y
          by_cases M:(n.r.list.length:Int)=n.r.cap
          ·rw[jav g M];exact Kas.2 ⟨q.1,q.2.1,by show(0:Int)<=n.r.cap;omega,fun _=>rfl,rfl⟩
          ·rw[xat g M];exact Kas.2 ⟨q.1,q.2.1,by show((n.r.list++[_]).length:Int)<=n.r.cap;simp;omega,(fun h=>by rw[g.2.2]at h;cases h),by rw[List.all_append,q.2.2.2.2];simp[h5]⟩
         ·show dOf _ n.doc=_;rw[u];exact vbb hd (N.trans U) B
         ·by_cases g:uac n.r=true/\Jac (jab client seq (Xaa d base o).1)=true/\n.r.out=false
          rotate_left
          ·show(Jai _ _).out=true\/_;rw[Xas g];have:n.r.out=true:=by
            cases ho:n.r.out
            ·exact absurd ⟨Y,h5,ho⟩ g
            ·rfl
           exact .inl this
          by_cases M:(n.r.list.length:Int)=n.r.cap
          ·rw[jav g M];exact .inl rfl
          ·rw[xat g M];refine .inr ?_;have:=o2.resolve_left (by simp[g.2.2])
           show n.r.next+((n.r.list++[_]).length:Int)=_;rw[h4];simp;omega
        ·rw[if_neg u];refine⟨b1,Y,d2,?_,o2⟩;show dOf _ n.doc=_;rw[ubb hd N fun g=>u (g.symm.trans U),I]
       ·simp only[List.getElem?_map,Option.map_eq_some_iff]at D hb;obtain⟨a0,D,rfl⟩:=D;obtain⟨b0,hb,rfl⟩:=hb;have:=p.ids j a0 b0 D hb;unfold uaF;split<;>split<;>exact this
     ·exact Qai
 ·exact Qai
theorem qbe (z:qae)(c:Jag):Qac (Xah z c).1=true:=by
 unfold Xah;split
 ·exact Xay z _ _
 ·split
  ·exact ZaG z _ _ _ _ _
  ·split
   ·exact Qaw z _ _
   ·split
    ·exact KaR z _ _
    ·split
     ·exact uaG z _
     ·exact xa7 z
theorem qaY {z:qae}(h:Qac z=true)(c:Jag):Qac (Xai z c).1=true:=by
 unfold Xai;split
 ·split
  ·exact h
  ·split
   ·exact qbe z c
   ·exact h
 ·exact h
