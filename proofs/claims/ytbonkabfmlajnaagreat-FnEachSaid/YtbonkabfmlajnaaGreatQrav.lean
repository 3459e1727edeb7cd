/- What the program's functions on hubs compute, in plain Lean. -/
import Derived.Test.YtbonkabfmlajnaaGreatQrak
import Derived.Test.YtbonkabfmlajnaaGreatQrau
import Derived.Test.YtbonkabfmlajnaaGreatQram
namespace Go.Proofs.YtbonkabfmlajnaaGreat
open Go.RowKit
def vbh {α:Type}(p:Nat->α->Bool)(l:List α):Bool:=(List.range l.length).all fun i=>match l[i]? with
 |some s=>p i s
 |none=>true
def slt (a b:ByteArray):Bool:=Op.bytesLess a.toList b.toList
def hdI (l:List Xac)(i:Nat)(d:Xac):Bool:=Qad d&&(match i with
 |0=>true
 |j+1=>(match l[j]? with
  |some p=>slt p.name d.name
  |none=>true))
def Qbh (l:List Xac):Bool:=vbh (hdI l) l
def ZaM (r:vac)(d:Option Xac):Bool:=r.out||(match d with
 |some d=>decide (r.next+r.list.length=yaa d+1)
 |none=>false)
def hsI (h:qae)(i:Nat)(s:yai):Bool:=within s.id 1 h.last&&uac s.r&&decide (0<=zad h s.doc)&&(match i with
 |0=>true
 |j+1=>(match h.subs[j]? with
  |some p=>decide (p.id<s.id)
  |none=>true))&&ZaM s.r h.docs[(zad h s.doc).toNat]?
def Xbh (h:qae):Bool:=vbh (hsI h) h.subs
def Qac (h:qae):Bool:=decide (h.docs.length<=5)&&decide (h.subs.length<=6)&&within h.last 0 1000000000&&Qbh h.docs&&Xbh h
theorem ja6 {α:Type}{p:Nat->α->Bool}{l:List α}:vbh p l=true↔∀j y,l[j]? =some y->p j y=true:=by
 unfold vbh;rw[List.all_eq_true];constructor
 ·intro h j y hy;have:=h j (List.mem_range.2 (lg.1 hy).1);rw[hy]at this;exact this
 ·intro h i hi;obtain⟨x,n⟩:=Jaa (List.mem_range.1 hi);rw[n];exact h i x n
theorem uav {l:List Xac}:Qbh l=true↔∀j y,l[j]? =some y->hdI l j y=true:=ja6
theorem QaT {h:qae}:Xbh h=true↔∀j y,h.subs[j]? =some y->hsI h j y=true:=ja6
theorem qa8 {h:qae}(e:¬h.docs.length<=5):Qac h=false:=by simp[Qac,e]
theorem ka8 {h:qae}(e:¬h.subs.length<=6):Qac h=false:=by simp[Qac,e]
theorem Qa8 {h:qae}(e:within h.last 0 1000000000=false):Qac h=false:=by simp[Qac,e]
theorem va6 {h:qae}{k:Nat}{d:Xac}(n:h.docs[k]? =some d)(e:hdI h.docs k d=false):Qac h=false:=by
 have:Qbh h.docs=false:=by
  rw[Bool.eq_false_iff];intro j;rw[uav.1 j k d n]at e;cases e
 simp[Qac,this]
theorem Xan {h:qae}{k:Nat}{s:yai}(n:h.subs[k]? =some s)(e:hsI h k s=false):Qac h=false:=by
 have:Xbh h=false:=by
  rw[Bool.eq_false_iff];intro j;rw[QaT.1 j k s n]at e;cases e
 simp[Qac,this]
theorem uaW {h:qae}(n:h.docs.length<=5)(p:h.subs.length<=6)(q:within h.last 0 1000000000=true)(u:∀j<h.docs.length,∀y,h.docs[j]? =some y->hdI h.docs j y=true)(z:∀j<h.subs.length,∀y,h.subs[j]? =some y->hsI h j y=true):Qac h=true:=by
 have a:Qbh h.docs=true:=uav.2 fun j y hy=>u j (lg.1 hy).1 y hy
 have b:Xbh h=true:=QaT.2 fun j y hy=>z j (lg.1 hy).1 y hy
 simp[Qac,n,p,q,a,b]
theorem qbf {l:List Xac}{i:Nat}{d:Xac}(h:Qad d=false):hdI l i d=false:=by simp[hdI,h]
theorem ubf {l:List Xac}{j:Nat}{d p:Xac}(n:l[j]? =some p)(h:slt p.name d.name=false):hdI l (j+1) d=false:=by simp[hdI,n,h]
theorem xa6 {l:List Xac}{d:Xac}(h:Qad d=true):hdI l 0 d=true:=by simp[hdI,h]
theorem Qa3 {l:List Xac}{j:Nat}{d p:Xac}(q:l[j]? =some p)(h:Qad d=true)(n:slt p.name d.name=true):hdI l (j+1) d=true:=by simp[hdI,q,h,n]
theorem Qbf {h:qae}{i:Nat}{s:yai}(e:within s.id 1 h.last=false):hsI h i s=false:=by simp[hsI,e]
theorem ya1 {h:qae}{i:Nat}{s:yai}(e:uac s.r=false):hsI h i s=false:=by simp[hsI,e]
theorem Qa2 {h:qae}{i:Nat}{s:yai}(e:zad h s.doc<0):hsI h i s=false:=by simp[hsI];omega
theorem yba {h:qae}{j:Nat}{s p:yai}(n:h.subs[j]? =some p)(e:¬p.id<s.id):hsI h (j+1) s=false:=by
 have:decide (p.id<s.id)=false:=by simpa using e
 simp only[hsI,n,this];simp
theorem Qba {h:qae}{i:Nat}{s:yai}{d:Xac}{k:Nat}(j:zad h s.doc=k)(hd:h.docs[k]? =some d)(n:s.r.out=false)(e:¬s.r.next+s.r.list.length=yaa d+1):hsI h i s=false:=by
 have:ZaM s.r h.docs[(zad h s.doc).toNat]? =false:=by rw[j,Int.toNat_natCast,hd];simp[ZaM,n,e]
 simp[hsI,this]
theorem yaM {h:qae}{i:Nat}{s:yai}{d:Xac}{k:Nat}(n:within s.id 1 h.last=true)(q:uac s.r=true)(D:zad h s.doc=k)(hd:h.docs[k]? =some d)(z:∀j p,i=j+1->h.subs[j]? =some p->p.id<s.id)(B:s.r.out=true\/s.r.next+s.r.list.length=yaa d+1):hsI h i s=true:=by
 have a:ZaM s.r h.docs[(zad h s.doc).toNat]? =true:=by
  rw[D,Int.toNat_natCast,hd];rcases B with h|h
  ·simp[ZaM,h]
  ·simp[ZaM,h]
 have b:(0:Int)<=zad h s.doc:=om;cases i with
 |zero=>simp[hsI,n,q,a,b]
 |succ j=>
  cases u:h.subs[j]? with
  |none=>simp[hsI,n,q,a,b,u]
  |some p=>simp[hsI,n,q,a,b,u,z j p rfl u]
structure Kbf (h:qae):Prop where
 nd:h.docs.length<=5
 ns:h.subs.length<=6
 l0:0<=h.last
 l1:h.last<=1000000000
 docs:∀j y,h.docs[j]? =some y->hdI h.docs j y=true
 subs:∀j y,h.subs[j]? =some y->hsI h j y=true
theorem vad {h:qae}:Qac h=true↔Kbf h:=by
 constructor
 ·intro e;simp only[Qac,Bool.and_eq_true,decide_eq_true_eq]at e;obtain⟨⟨⟨⟨n,p⟩,q⟩,u⟩,z⟩:=e;have:=within_iff.1 q;exact⟨n,p,this.1,this.2,uav.1 u,QaT.1 z⟩
 ·intro e;exact uaW e.nd e.ns (within_iff.2 ⟨e.l0,e.l1⟩) (fun j _ y=>e.docs j y) (fun j _ y=>e.subs j y)
theorem Kbf.doc {h:qae}(e:Kbf h){d:Xac}(p:d∈h.docs):Qad d=true:=by
 obtain⟨j,n⟩:=List.getElem?_of_mem p;have:=e.docs j d n;simp only[hdI,Bool.and_eq_true]at this;exact this.1
theorem Kbf.ring {h:qae}(e:Kbf h){s:yai}(p:s∈h.subs):uac s.r=true:=by
 obtain⟨j,n⟩:=List.getElem?_of_mem p;have:=e.subs j s n;simp only[hsI,Bool.and_eq_true]at this;exact this.1.1.1.2
theorem Kbf.at {h:qae}(e:Kbf h){s:yai}(q:s∈h.subs):∃(k:Nat) (d:Xac),zad h s.doc=k/\h.docs[k]? =some d:=by
 obtain⟨j,p⟩:=List.getElem?_of_mem q;have:=e.subs j s p;simp only[hsI,Bool.and_eq_true,decide_eq_true_eq]at this;have u:=this.1.1.2;have z:=(Jav (fun d:Xac=>decide (d.name=s.doc)) h.docs).2
 have n:(zad h s.doc).toNat<h.docs.length:=by unfold zad at *;omega
 obtain⟨d,hd⟩:=Jaa n;exact⟨_,d,by omega,hd⟩
theorem qan {h:qae}{s:ByteArray}(n:¬zad h s<0):∃(k:Nat) (d:Xac),zad h s=k/\h.docs[k]? =some d:=by
 have p:=(Jav (fun d:Xac=>decide (d.name=s)) h.docs).2
 have j:(zad h s).toNat<h.docs.length:=by unfold zad at *;omega
 obtain⟨d,hd⟩:=Jaa j;exact⟨_,d,by omega,hd⟩
theorem yaE {h:qae}{i:Int}(n:¬Jal h i<0):∃(k:Nat) (s:yai),Jal h i=k/\h.subs[k]? =some s:=by
 have p:=(Jav (fun d:yai=>decide (d.id=i)) h.subs).2
 have j:(Jal h i).toNat<h.subs.length:=by unfold Jal at *;omega
 obtain⟨d,hd⟩:=Jaa j;exact⟨_,d,by omega,hd⟩
theorem jbb {d:Xac}(h:Qad d=true):d.text.length<=4000000/\szL d.list<=4000000/\d.seen.length<=4000000:=by
 have j:=jaf.1 h;have:=j.tlen;have:=j.sz;have:=j.slen;omega
theorem ZaL {r:vac}(h:uac r=true):szL r.list<=4000000/\r.list.length<=6:=by
 simp only[uac,Jad,Bool.and_eq_true,decide_eq_true_eq]at h;obtain⟨⟨⟨⟨j,_⟩,p⟩,_⟩,n⟩:=h;have:=JaT n;have:=within_iff.1 j;omega
def zao:qae:=⟨false,[],[],0⟩
def xan (h:qae):qae×Int:=if Qac h=true then(if h.shut=true then(zao,12)else(⟨true,h.docs,h.subs,h.last⟩,0))else(zao,1)
def KaH (l:List Xac)(name:ByteArray):Nat:=(l.takeWhile fun d=>slt d.name name).length
def kag (h:qae)(name:ByteArray)(t:List Int):qae×Int:=
 if Qac h=true/\(kaq name t).2=true then
  (if h.shut=true then(zao,12)else if 0<=zad h name then(zao,7)else if h.docs.length=5 then(zao,10)
   else(⟨h.shut,h.docs.take (KaH h.docs name)++(kaq name t).1::h.docs.drop (KaH h.docs name),h.subs,h.last⟩,0))
 else(zao,1)
def QaD (h:qae)(name:ByteArray):Int:=match h.docs[(zad h name).toNat]? with
 |some d=>yaa d
 |none=>0
def yac (h:qae)(name:ByteArray)(room:Int):qae×Int×Int:=
 if Qac h=true/\within room 1 6=true then
  (if h.shut=true then(zao,0,12)else if zad h name<0 then(zao,0,6)else if h.subs.length=6\/h.last=1000000000 then(zao,0,10)
   else(⟨h.shut,h.docs,h.subs++[⟨h.last+1,name,(zaq room (QaD h name)).1⟩],h.last+1⟩,h.last+1,0))
 else(zao,0,1)
def kae (h:qae)(id:Int):qae×List Int×Int×Int:=
 if Qac h=true then(match h.subs[(Jal h id).toNat]? with
  |some s=>if Jal h id<0 then(zao,[],0,8)else
   (⟨h.shut,h.docs,h.subs.set (Jal h id).toNat ⟨s.id,s.doc,(yar s.r (QaD h s.doc)).1⟩,h.last⟩,
    (match h.docs[(zad h s.doc).toNat]? with|some d=>vae d|none=>[]),QaD h s.doc,0)
  |none=>(zao,[],0,8))
 else(zao,[],0,1)
end Go.Proofs.YtbonkabfmlajnaaGreat
namespace Go.Proofs.YtbonkabfmlajnaaGreat
open Go.RowKit
theorem Qbc {α:Type}{l:List α}{k:Nat}{x:α}(n:l[k]? =some x)(y:α):l.set k y=l.take k++(y::l.drop (k+1)):=by
 have j:=(lg.1 n).1;rw[List.set_eq_take_append_cons_drop,if_pos j]
theorem Sl.el {α:Type}[GoT α]{B:Nat}{w:World}{v:Value}{l:List α}{fp:List Pos}(h:Sl BIG w v l fp)(hf:Qaa B w fp){k:Nat}{x:α}(hk:l[k]? =some x):
 ∃b o cap c2 f2,v= .slice (some ⟨b,o,none⟩) l.length cap/\At w b (o+k*GoT.n α) c2/\GoT.rd BIG w c2 x f2/\(∀j<GoT.n α,(b,o+k*GoT.n α+j)∈fp)/\(∀p∈f2,p∈fp)/\
  ∀(D:World) (N:List Value) (y:α) (M:List Pos),Wr (own b (o+k*GoT.n α) (GoT.n α)) w D->At D b (o+k*GoT.n α) N->GoT.rd BIG D N y M->Qaa B D M->(∀p∈M,p∉fp\/p∈f2)->
   ∃U,Sl BIG D v (l.set k y) U/\Qaa B D U/\∀p∈U,p∈fp\/p∈M:=by
 have hlt:=(lg.1 hk).1;rcases h with⟨ao,rfl,rfl,rfl⟩|⟨b,o,cap,cs,fs,rfl,h1,h2,h3,h4,h5,h6,rfl⟩
 ·simp at hlt
 obtain⟨c1,c2,c3,f1,f2,f3,rfl,rfl,Y,e1,e2,e3⟩:=h5.at_ k hk;have hn:=GoT.len e2;have hcap:(k+1)*GoT.n α<=cap*GoT.n α:=Nat.mul_le_mul_right _ om;have hk1:(k+1)*GoT.n α=k*GoT.n α+GoT.n α:=Nat.succ_mul _ _;rw[List.append_assoc]at h4;obtain⟨a1,a23⟩:=At.append.1 h4;obtain⟨a2,a3⟩:=At.append.1 a23;rw[Y]at a2 a3;have hin:∀j<GoT.n α,(b,o+k*GoT.n α+j)∈own b o (cap*GoT.n α):=fun j hj=>Kaa.2 ⟨rfl,by simp only;omega,by simp only;omega⟩
 refine⟨b,o,cap,c2,f2,rfl,a2,e2,fun j hj=>lu _ (hin j hj),fun p u=>by simp[u],?_⟩
 intro D N y M hw hA hr Z hd;have hsub:∀p∈own b (o+k*GoT.n α) (GoT.n α),p∈own b o (cap*GoT.n α):=by
  intro p u;obtain⟨q1,q2,q3⟩:=Kaa.1 u;exact Kaa.2 ⟨q1,by omega,by omega⟩
 have J:=ln.1 hf.nodup;have Q:∀p∈f1++f2++f3,p∉own b (o+k*GoT.n α) (GoT.n α):=fun p u z=>J.2.2 _ (hsub p z) _ u rfl
 have hlf:Live w (f1++f2++f3):=h5.live;have R:=Live.append.1 hlf;have hl1:=(Live.append.1 R.1).1;have hl3:=R.2;have E1:Els BIG D c1 (l.take k) f1:=e1.keep (hw.same hl1 fun p u=>Q p (by simp[u]))
 have E3:Els BIG D c3 (l.drop (k+1)) f3:=e3.keep (hw.same hl3 fun p u=>Q p (by simp[u]))
 have hlen1:c1.length=k*GoT.n α:=Y;have hcs:(c1++(c2++c3)).length=l.length*GoT.n α:=by
  have:=h5.length;simpa using this
 have hlc:l.length*GoT.n α<=cap*GoT.n α:=Nat.mul_le_mul_right _ h1;have hbs:∀j,j<cap*GoT.n α->b<w.heap.size:=fun j hj=>h6.lt (b,o+j) (Kaa.2 ⟨rfl,by simp only;omega,by simp only;omega⟩)
 have A1:At D b o c1:=a1.keep fun j hj=>hw.cell (b,o+j) (hbs j om) fun hm=>by
  have:=(Kaa.1 hm).2.1;simp only at this;omega
 have hc':=GoT.len hr;simp only[List.length_append]at hcs;have A3:At D b (o+k*GoT.n α+N.length) c3:=by
  have a3':At w b (o+k*GoT.n α+N.length) c3:=by rw[hc',<-show c2.length=GoT.n α from hn];exact hn▸a3
  refine a3'.keep fun j hj=>hw.cell (b,_) (hbs 0 om) fun hm=> ?_
  have:=(Kaa.1 hm).2.2;simp only at this;omega
 have hE:Els BIG D (c1++(N++c3)) (l.set k y) (f1++(M++f3)):=by
  rw[Qbc hk];exact Els.append.2 ⟨c1,N++c3,f1,M++f3,rfl,E1,⟨N,c3,M,f3,rfl,hr,E3,rfl⟩,rfl⟩
 have hA':At D b o (c1++(N++c3)):=At.append.2 ⟨A1,by rw[Y];exact At.append.2 ⟨hA,A3⟩⟩
 have hl6:Live D (own b o (cap*GoT.n α)):=by
  intro p u;by_cases z:p∈own b (o+k*GoT.n α) (GoT.n α)
  ·obtain⟨q1,q2,q3⟩:=Kaa.1 z;have hj:p.2-(o+k*GoT.n α)<N.length:=om;have:=hA (p.2-(o+k*GoT.n α)) _ (List.getElem?_eq_getElem hj);rw[show p=(b,o+k*GoT.n α+(p.2-(o+k*GoT.n α))) by rw[<-q1];ext<;>simp;omega]
   simp only;rw[this];rfl
  ·rw[hw.cell p (h6.lt p u) z];exact h6 p u
 have I:Qaa B D (own b o (cap*GoT.n α)++(f1++f2++f3)):=hw.fresh (Live.append.2 ⟨h6,hlf⟩) hf;refine⟨own b o (cap*GoT.n α)++(f1++(M++f3)),.inr ⟨b,o,cap,_,_,by rw[List.length_set],by rw[List.length_set];exact h1,h2,by rw[List.length_set];exact h3,hA',hE,hl6,rfl⟩,?_,?_⟩
 ·have n12:=ln.1 J.2.1;have n1:=ln.1 n12.1;have hd1:∀p∈M,p∉own b o (cap*GoT.n α):=fun p u z=>(hd p u).elim (fun h=>h (lu _ z)) fun h=>J.2.2 _ z _ (by simp[h]) rfl
  have hd2:∀p∈M,p∉f1:=fun p u z=>(hd p u).elim (fun h=>h (by simp[z])) fun h=>n1.2.2 _ z _ h rfl
  have hd3:∀p∈M,p∉f3:=fun p u z=>(hd p u).elim (fun h=>h (by simp[z])) fun h=>n12.2.2 _ (by simp[h]) _ z rfl
  refine⟨?_,?_,?_⟩
  ·refine ln.2 ⟨J.1,ln.2 ⟨n1.1,ln.2 ⟨Z.nodup,n12.2.1,fun p u q z e=>hd3 p u (e▸z)⟩,?_⟩,?_⟩
   ·intro p u q z e;subst e;rcases lm.1 z with z|z
    ·exact hd2 p z u
    ·exact n12.2.2 p (by simp[u]) p z rfl
   ·intro p u q z e;subst e;rcases lm.1 z with z|z
    ·exact J.2.2 p u p (by simp[z]) rfl
    ·rcases lm.1 z with z|z
     ·exact hd1 p z u
     ·exact J.2.2 p u p (by simp[z]) rfl
  ·intro p u;rcases lm.1 u with u|u
   ·exact I.ge p (lu _ u)
   ·rcases lm.1 u with u|u
    ·exact I.ge p (by simp[u])
    ·rcases lm.1 u with u|u
     ·exact Z.ge p u
     ·exact I.ge p (by simp[u])
  ·intro p u;rcases lm.1 u with u|u
   ·exact I.free p (lu _ u)
   ·rcases lm.1 u with u|u
    ·exact I.free p (by simp[u])
    ·rcases lm.1 u with u|u
     ·exact Z.free p u
     ·exact I.free p (by simp[u])
 ·intro p u;rcases lm.1 u with u|u
  ·exact .inl (lu _ u)
  ·rcases lm.1 u with u|u
   ·exact .inl (by simp[u])
   ·rcases lm.1 u with u|u
    ·exact .inr u
    ·exact .inl (by simp[u])
