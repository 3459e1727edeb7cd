/- What leading an operation past others and submitting it compute, in plain Lean. -/
import Derived.Test.YtbonkabfmlajnaaGreatQrak
import Derived.Test.YtbonkabfmlajnaaGreatQran
namespace Go.Proofs.YtbonkabfmlajnaaGreat
open Go.RowKit
def tfz (a b:List zaa):List zaa×List zaa:=tf (mu a+mu b+1) a b
def Kaf (a b:List zaa):Option (List zaa×List zaa):=
 if yag a=true/\yag b=true/\kad a=kad b then
  (if yag (normal (tfz a b).1)=true/\yag (normal (tfz a b).2)=true then some (normal (tfz a b).1,normal (tfz a b).2)else none)
 else none
def Zam (s:Option (List (List zaa)×List zaa))(o:List zaa):Option (List (List zaa)×List zaa):=
 s.bind fun z=>(Kaf o z.2).map fun y=>(z.1++[y.1],y.2)
def qax (l:List (List zaa))(b:List zaa):Option (List (List zaa)×List zaa):=l.foldl Zam (some ([],Qak b))
def past (l:List (List zaa))(b:List zaa):Option (List (List zaa)×List zaa):=if yag b=true then qax l b else none
theorem yaF:∀(l:List (List zaa)),l.foldl Zam none=none
 |[]=>rfl
 |_::l=>yaF l
theorem Ka1 {l:List (List zaa)}{b:List zaa}{k:Nat}{o:List zaa}(h:l[k]? =some o):qax (l.take (k+1)) b=Zam (qax (l.take k) b) o:=by
 unfold qax;rw[Zag h,List.foldl_append];rfl
theorem Ka0 {l:List (List zaa)}{b:List zaa}{k:Nat}(h:qax (l.take k) b=none):qax l b=none:=by
 unfold qax at *;rw[<-List.take_append_drop k l,List.foldl_append,h,yaF]
theorem kaM {a b:List zaa}(j:yag a=true)(hb:yag b=true)(h:kad a=kad b):qa5 a b:=
 ⟨(Jam.1 j).1,(Jam.1 hb).1,by rw[<-Kan j,<-Kan hb];exact h⟩
theorem zaP {a b x y:List zaa}(h:Kaf a b=some (x,y)):yag a=true/\yag b=true/\kad a=kad b/\yag x=true/\yag y=true/\Jan x=true/\Jan y=true/\kad x=va8 b/\kad y=va8 a:=by
 unfold Kaf at h;split at h
 ·rename_i u
  obtain⟨n,hb,q⟩:=u;split at h
  ·rename_i z
   obtain⟨p,hy⟩:=z;cases h;have j:xbi (mu a+mu b+1) a b (tfz a b):=xa8 (mu a+mu b+1) a b (kaM n hb q) om;refine⟨n,hb,q,p,hy,JaN j.ax p,JaN j.ay hy,?_,?_⟩
   ·rw[Kan p,va0 hb,qar 2 (by decide) j.ax];exact j.fx
   ·rw[Kan hy,va0 n,qar 2 (by decide) j.ay];exact j.fy
  ·cases h
 ·cases h
theorem jaZ:∀{l:List (List zaa)} {t u:List Int} {z0 z:List (List zaa)×List zaa},jae t=true->vai l t=some u->l.foldl Zam (some z0)=some z->yag z0.2=true->Jan z0.2=true->kad z0.2=t.length->
 yag z.2=true/\Jan z.2=true/\kad z.2=u.length
 |[],t,u,z0,z,_,j,n,D,I,J=>by
  cases j;cases n;exact⟨D,I,J⟩
 |o::l,t,u,z0,z,Y,j,n,D,I,J=>by
  unfold vai at j;rw[List.foldl_cons]at j n;by_cases hy:(zab o t).2=true
  ·have e:QaV (some t) o=some (zab o t).1:=if_pos hy;rw[e]at j;obtain⟨R,U⟩:=xas hy;cases B:Kaf o z0.2 with
   |none=>
    have p:Zam (some z0) o=none:=by simp[Zam,B]
    rw[p,yaF]at n;cases n
   |some q=>
    obtain⟨x,y⟩:=q;have p:Zam (some z0) o=some (z0.1++[x],y):=by simp[Zam,B]
    rw[p]at n;obtain⟨_,_,_,_,M,_,N,_,Q⟩:=zaP B;exact jaZ R j n M N (by rw[Q];exact U.symm)
  ·have e:QaV (some t) o=none:=if_neg hy;rw[e,zar]at j;cases j
def Xaa (d:Xac)(base:Int)(o:List zaa):List zaa×Int:=
 if Qad d=true/\yag o=true then
  (if yaa d<base then([],2)else if base<d.from_ then([],3)else if kad o=(uan d base).1.length then
   (match past (jaj d base).1 o with
    |some z=>(z.2,0)
    |none=>([],5))else([],1))
 else([],1)
theorem yat {d:Xac}(h:Qad d=true):vai (xaq d.list) d.text=some (vae d)/\jae (vae d)=true:=by
 obtain⟨u,j,e,p⟩:=vay (qa7 h);have n:Xa0 d (yaa d)=d.list.length:=by unfold Xa0 yaa;omega
 rw[n,List.take_of_length_le (by simp[xaq])]at j
 have:vae d=u:=by unfold vae;rw[e]
 rw[this];exact⟨j,p⟩
theorem zaY {d:Xac}{base:Int}{o:List zaa}{z:List (List zaa)×List zaa}(q:uau d base)(p:yag o=true)(D:kad o=(uan d base).1.length)(j:past (jaj d base).1 o=some z):
 yag z.2=true/\Jan z.2=true/\kad z.2=(vae d).length:=by
 obtain⟨u,J,e,I⟩:=vay q;rw[Kaw q]at j;unfold past at j;rw[if_pos p]at j;have n:=(yat q.1).1;rw[<-List.take_append_drop (Xa0 d base) (xaq d.list),Jaw,J]at n;rw[e]at D;obtain⟨B,M,N,n4⟩:=zbb p;refine jaZ (z0:=([],Qak o)) I (by rw[<-ybb]at n;exact n) j B ?_ ?_
 ·exact qaS.2 ⟨B,n4⟩
 ·rw[Kan B,M,<-Kan p];exact D
theorem kaS {d:Xac}{base:Int}{o:List zaa}{z:List (List zaa)×List zaa}(j:uau d base)(u:yag o=true)(q:kad o=(uan d base).1.length)(B:past (jaj d base).1 o=some z):
 (zab z.2 (vae d)).2=true:=by
 obtain⟨n,D,p⟩:=zaY j u q B;rw[XaE n (yat j.1).2 p]
def kaa:List qac->qac->List qac
 |[],s=>[s]
 |y::l,s=>if y.client<s.client then y::kaa l s else if y.client=s.client then s::l else s::y::l
def xay:List qac->Int->Nat
 |[],_=>0
 |y::l,c=>if y.client<c then xay l c+1 else 0
theorem kaR:∀{l:List qac} {s y:qac} {k:Nat},xay l s.client=k->l[k]? =some y->y.client=s.client->kaa l s=l.set k s
 |[],s,y,k,_,hy,_=>by simp at hy
 |x::l,s,y,k,j,hy,p=>by
  by_cases n:x.client<s.client
  ·simp only[xay,if_pos n]at j;subst j;simp only[List.getElem?_cons_succ]at hy;simp only[kaa,if_pos n,List.set_cons_succ];rw[kaR rfl hy p]
  ·simp only[xay,if_neg n]at j;subst j;simp only[List.getElem?_cons_zero,Option.some.injEq]at hy;subst hy;simp[kaa,p]
theorem uaA:∀{l:List qac} {s:qac} {k:Nat},xay l s.client=k->(∀y,l[k]? =some y->y.client≠s.client)->kaa l s=l.take k++s::l.drop k
 |[],s,k,j,_=>by simp[kaa]
 |x::l,s,k,j,hy=>by
  by_cases n:x.client<s.client
  ·simp only[xay,if_pos n]at j;subst j;simp only[kaa,if_pos n,List.take_succ_cons,List.drop_succ_cons,List.cons_append];rw[uaA rfl fun y h=>hy y (by simpa using h)]
  ·simp only[xay,if_neg n]at j;subst j;have:=hy x sm;simp[kaa,n,this]
theorem va4:∀(l:List qac) (c:Int),xay l c<=l.length
 |[],_=>lr _
 |y::l,c=>by have:=va4 l c;unfold xay;split<;>simp<;>omega
theorem Za5:∀{l:List qac} {c:Int} {j:Nat} {y:qac},j<xay l c->l[j]? =some y->y.client<c
 |[],_,_,_,n,_=>absurd n (Nat.not_lt_zero _)
 |x::l,c,j,y,n,hy=>by
  unfold xay at n;split at n
  ·rename_i p
   cases j with
   |zero=>simp at hy;subst hy;exact p
   |succ j=>exact Za5 (l:=l) (j:=j) om (by simpa using hy)
  ·omega
theorem xa4:∀{l:List qac} {c:Int} {y:qac},l[xay l c]? =some y->¬y.client<c
 |[],_,_,hy=>by simp[xay]at hy
 |x::l,c,y,hy=>by
  unfold xay at hy;split at hy
  ·exact xa4 (by simpa using hy)
  ·rename_i j;simp at hy;subst hy;exact j
theorem QaU {l:List qac}{c:Int}{k:Nat}(n:∀j<k,∀y,l[j]? =some y->y.client<c)(q:k<=l.length)(p:∀y,l[k]? =some y->¬y.client<c):xay l c=k:=by
 rcases Nat.lt_trichotomy (xay l c) k with h|h|h
 ·obtain⟨y,hy⟩:=Jaa (l:=l) (k:=xay l c) om;exact absurd (n _ h y hy) (xa4 hy)
 ·exact h
 ·have:=va4 l c;obtain⟨y,hy⟩:=Jaa (l:=l) (k:=k) om;exact absurd (Za5 h hy) (p y hy)
def jab (client seq:Int)(o:List zaa):yab:=⟨client,seq,o⟩
def xag (d:Xac)(client seq:Int)(x:List zaa):Xac:=
 if(d.list++[jab client seq x]).length>8 then⟨d.name,d.from_+1,(zab ((d.list++[jab client seq x]).headD ⟨0,0,[]⟩).o d.text).1,(d.list++[jab client seq x]).drop 1,kaa d.seen ⟨client,seq,yaa d+1⟩⟩
 else⟨d.name,d.from_,d.text,d.list++[jab client seq x],kaa d.seen ⟨client,seq,yaa d+1⟩⟩
def Jae (d:Xac)(client seq base:Int)(o:List zaa):Xac×Int×Int:=
 if Qad d=true/\within client 1 8=true/\within seq 1 1000000000=true/\yag o=true then
  (if(uab d client).1.seq=seq then(d,(uab d client).1.rev,0)
   else if(uab d client).1.seq+1=seq then
    (if(Xaa d base o).2=0 then(if yaa d<999999000 then(xag d client seq (Xaa d base o).1,yaa d+1,0)else(Xa3,0,5))else(Xa3,0,(Xaa d base o).2))
   else(Xa3,0,4))
 else(Xa3,0,1)
end Go.Proofs.YtbonkabfmlajnaaGreat
namespace Go.Proofs.YtbonkabfmlajnaaGreat
open Go.RowKit
theorem za0 {hd:Int}{l:List qac}:qas hd l=true↔(∀s∈l,within s.client 1 8=true/\within s.seq 1 1000000000=true/\within s.rev 1 hd=true)/\l.Pairwise (fun a b=>a.client<b.client):=by
 constructor
 ·intro h;refine⟨fun s B=> ?_,List.pairwise_iff_getElem.2 fun i j hi p u=> ?_⟩
  ·obtain⟨k,z⟩:=List.getElem?_of_mem B;have n:=kak.1 h k s z;unfold Zan at n;simp only[Bool.and_eq_true]at n;exact⟨n.1.1.1,n.1.1.2,n.1.2⟩
  ·have:=ua0 h (j-i-1) i _ _ (List.getElem?_eq_getElem hi) (by rw[show i+(j-i-1)+1=j by omega];exact List.getElem?_eq_getElem p)
   omega
 ·rintro⟨n,q⟩;refine kak.2 fun j y hy=> ?_
  obtain⟨a,b,c⟩:=n y (List.mem_of_getElem? hy);cases j with
  |zero=>exact XaF a b c
  |succ j=>
   obtain⟨p,e⟩:=lg.1 hy;have:=List.pairwise_iff_getElem.1 q j (j+1) om p om;exact JaF (List.getElem?_eq_getElem om) a b c (by rw[<-e];exact this)
theorem QaA {s y:qac}:∀{l:List qac},y∈kaa l s->y=s\/y∈l
 |[],h=>by simp[kaa]at h;exact .inl h
 |x::l,h=>by
  unfold kaa at h;split at h
  ·rcases List.mem_cons.1 h with h|h
   ·exact .inr (h▸List.mem_cons_self)
   ·exact(QaA h).imp id (List.mem_cons_of_mem _)
  ·split at h
   ·exact(List.mem_cons.1 h).imp id (List.mem_cons_of_mem _)
   ·exact List.mem_cons.1 h
theorem jaQ {s:qac}:∀{l:List qac},l.Pairwise (fun a b=>a.client<b.client)->(kaa l s).Pairwise (fun a b=>a.client<b.client)
 |[],_=>by simp[kaa]
 |x::l,h=>by
  obtain⟨j,n⟩:=List.pairwise_cons.1 h;unfold kaa;split
  ·rename_i q
   refine List.pairwise_cons.2 ⟨fun y hy=> ?_,jaQ n⟩
   rcases QaA hy with rfl|hy
   ·exact q
   ·exact j y hy
  ·split
   ·rename_i p
    exact List.pairwise_cons.2 ⟨fun y hy=>p▸j y hy,n⟩
   ·refine List.pairwise_cons.2 ⟨fun y hy=> ?_,h⟩
    rcases List.mem_cons.1 hy with rfl|hy
    ·omega
    ·have:=j y hy;omega
theorem Ja7 {hd:Int}{l:List qac}{s:qac}(h:qas hd l=true)(p:within s.client 1 8=true)(q:within s.seq 1 1000000000=true)(z:s.rev=hd+1)(u:0<=hd):qas (hd+1) (kaa l s)=true:=by
 obtain⟨j,n⟩:=za0.1 h;refine za0.2 ⟨fun y hy=> ?_,jaQ n⟩
 rcases QaA hy with rfl|hy
 ·exact⟨p,q,within_iff.2 om⟩
 ·obtain⟨a,b,c⟩:=j y hy;have:=within_iff.1 c;exact⟨a,b,within_iff.2 om⟩
section
variable {d:Xac} {client seq:Int} {x:List zaa}
theorem Za8 {o:List zaa}{l:List (List zaa)}{t u:List Int}(h:vai (o::l) t=some u):(zab o t).2=true/\vai l (zab o t).1=some u:=by
 unfold vai at h;rw[List.foldl_cons]at h;by_cases hy:(zab o t).2=true
 ·have e:QaV (some t) o=some (zab o t).1:=if_pos hy;rw[e]at h;exact⟨hy,h⟩
 ·have e:QaV (some t) o=none:=if_neg hy;rw[e,zar]at h;cases h
theorem za9 {o:List zaa}{t:List Int}(h:(zab o t).2=true):vai [o] t=some (zab o t).1:=if_pos h
theorem zaO {u:List Int}(h:Qad d=true)(j:vai (xaq d.list) d.text=some u):vae d=u:=Option.some.inj ((yat h).1.symm.trans j)
theorem xbb (h:Qad d=true)(N:within client 1 8=true)(Q:within seq 1 1000000000=true)(hx:Jan x=true)(hf:(zab x (vae d)).2=true)(hr:yaa d<999999000):
 Qad (xag d client seq x)=true/\yaa (xag d client seq x)=yaa d+1/\vae (xag d client seq x)=(zab x (vae d)).1/\(xag d client seq x).seen=kaa d.seen ⟨client,seq,yaa d+1⟩/\1<=(xag d client seq x).list.length/\(xag d client seq x).list.getLast?=some (jab client seq x):=by
 have u:=jaf.1 h;have Z:Jac (jab client seq x)=true:=by simp only[Jac,jab,N,Q,hx,Bool.and_self]
 have j:(d.list++[jab client seq x]).all Jac=true:=by rw[List.all_append,u.ents];simp[Z]
 have n:vai (xaq (d.list++[jab client seq x])) d.text=some (zab x (vae d)).1:=by
  have e:xaq (d.list++[jab client seq x])=xaq d.list++[x]:=by simp[xaq,jab]
  rw[e,Jaw,(yat h).1];exact za9 hf
 have U:0<=yaa d:=by have:=u.f0;unfold yaa;omega
 have I:=Ja7 (s:=⟨client,seq,yaa d+1⟩) u.seen N Q rfl U;have z:yaa d=d.from_+d.list.length:=rfl;have hf0:=u.f0;unfold xag;split
 ·rename_i B
  rw[List.length_append,List.length_singleton]at B;rcases hd:d.list with _|⟨J,l⟩
  ·rw[hd]at B;simp at B
  ·rw[hd]at n j B z;rw[List.length_cons]at B z;have Y:=u.len;rw[hd,List.length_cons]at Y;simp only[List.cons_append,List.headD_cons,List.drop_succ_cons,List.drop_zero];obtain⟨R,M⟩:=Za8 (o:=J.o) (l:=xaq (l++[jab client seq x])) n;have p:(l++[jab client seq x]).length=l.length+1:=by simp
   have D:yaa (⟨d.name,d.from_+1,(zab J.o d.text).1,l++[jab client seq x],kaa d.seen ⟨client,seq,yaa d+1⟩⟩:Xac)=yaa d+1:=by
    show d.from_+1+((l++[jab client seq x]).length:Int)=_;rw[p,z];omega
   have q:Qad (⟨d.name,d.from_+1,(zab J.o d.text).1,l++[jab client seq x],kaa d.seen ⟨client,seq,yaa d+1⟩⟩:Xac)=true:=by
    refine jaf.2 ⟨u.name,by show 0<=d.from_+1;omega,by show d.from_+1<=999999000;omega,(xas R).1,by show(l++[jab client seq x]).length<=8;rw[p];omega,?_,⟨_,M⟩,by rw[D];exact I⟩
    rw[List.cons_append,List.all_cons,Bool.and_eq_true]at j;exact j.2
   exact⟨q,D,zaO q M,by trivial,by show 1<=(l++[jab client seq x]).length;omega,by show(l++[jab client seq x]).getLast?=_;simp⟩
 ·rename_i B
  rw[List.length_append,List.length_singleton]at B;have p:(d.list++[jab client seq x]).length=d.list.length+1:=by simp
  have D:yaa (⟨d.name,d.from_,d.text,d.list++[jab client seq x],kaa d.seen ⟨client,seq,yaa d+1⟩⟩:Xac)=yaa d+1:=by
   show d.from_+((d.list++[jab client seq x]).length:Int)=_;rw[p];omega
  have q:Qad (⟨d.name,d.from_,d.text,d.list++[jab client seq x],kaa d.seen ⟨client,seq,yaa d+1⟩⟩:Xac)=true:=
   jaf.2 ⟨u.name,u.f0,u.f1,u.text,by show(d.list++[jab client seq x]).length<=8;omega,j,⟨_,n⟩,by rw[D];exact I⟩
  exact⟨q,D,zaO q n,rfl,by show 1<=(d.list++[jab client seq x]).length;omega,by show(d.list++[jab client seq x]).getLast?=_;simp⟩
end
