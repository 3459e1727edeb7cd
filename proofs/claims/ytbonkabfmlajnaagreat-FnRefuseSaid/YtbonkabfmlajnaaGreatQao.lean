/- What leading an operation past others and submitting it compute, in plain Lean. -/
import Derived.Test.YtbonkabfmlajnaaGreatQak
import Derived.Test.YtbonkabfmlajnaaGreatQan
namespace Go.Proofs.YtbonkabfmlajnaaGreat
open Go.RowKit
def tfz (a b:List zaa):List zaa×List zaa:=tf (mu a+mu b+1) a b
def Kaf (a b:List zaa):Option (List zaa×List zaa):=
 if yag a=true/\yag b=true/\jad a=jad b then
  (if yag (normal (tfz a b).1)=true/\yag (normal (tfz a b).2)=true then some (normal (tfz a b).1,normal (tfz a b).2)else none)
 else none
def Zam (s:Option (List (List zaa)×List zaa))(o:List zaa):Option (List (List zaa)×List zaa):=
 s.bind fun z=>(Kaf o z.2).map fun y=>(z.1++[y.1],y.2)
def yax (l:List (List zaa))(b:List zaa):Option (List (List zaa)×List zaa):=l.foldl Zam (some ([],Qak b))
def past (l:List (List zaa))(b:List zaa):Option (List (List zaa)×List zaa):=if yag b=true then yax l b else none
theorem uaE:∀(l:List (List zaa)),l.foldl Zam none=none
 |[]=>rfl
 |_::l=>uaE l
theorem Ka0 {l:List (List zaa)}{b:List zaa}{k:Nat}{o:List zaa}(h:l[k]? =some o):yax (l.take (k+1)) b=Zam (yax (l.take k) b) o:=by
 unfold yax;rw[Zag h,List.foldl_append];rfl
theorem ya1 {l:List (List zaa)}{b:List zaa}{k:Nat}(h:yax (l.take k) b=none):yax l b=none:=by
 unfold yax at *;rw[<-List.take_append_drop k l,List.foldl_append,h,uaE]
theorem qaK {a b:List zaa}(j:yag a=true)(hb:yag b=true)(h:jad a=jad b):qa5 a b:=
 ⟨(Xam.1 j).1,(Xam.1 hb).1,by rw[<-Jan j,<-Jan hb];exact h⟩
theorem kaP {a b x y:List zaa}(h:Kaf a b=some (x,y)):yag a=true/\yag b=true/\jad a=jad b/\yag x=true/\yag y=true/\uan x=true/\uan y=true/\jad x=Xa6 b/\jad y=Xa6 a:=by
 unfold Kaf at h;split at h
 ·rename_i u
  obtain⟨n,hb,q⟩:=u;split at h
  ·rename_i z
   obtain⟨p,hy⟩:=z;cases h;have j:ybi (mu a+mu b+1) a b (tfz a b):=Ka6 (mu a+mu b+1) a b (qaK n hb q) om;refine⟨n,hb,q,p,hy,QaK j.ax p,QaK j.ay hy,?_,?_⟩
   ·rw[Jan p,Ka2 hb,qar 2 (by decide) j.ax];exact j.fx
   ·rw[Jan hy,Ka2 n,qar 2 (by decide) j.ay];exact j.fy
  ·cases h
 ·cases h
theorem yaX:∀{l:List (List zaa)} {t u:List Int} {z0 z:List (List zaa)×List zaa},qae t=true->yai l t=some u->l.foldl Zam (some z0)=some z->yag z0.2=true->uan z0.2=true->jad z0.2=t.length->
 yag z.2=true/\uan z.2=true/\jad z.2=u.length
 |[],t,u,z0,z,_,j,n,D,I,J=>by
  cases j;cases n;exact⟨D,I,J⟩
 |o::l,t,u,z0,z,Y,j,n,D,I,J=>by
  unfold yai at j;rw[List.foldl_cons]at j n;by_cases hy:(zab o t).2=true
  ·have e:qaW (some t) o=some (zab o t).1:=if_pos hy;rw[e]at j;obtain⟨R,U⟩:=Xar hy;cases B:Kaf o z0.2 with
   |none=>
    have p:Zam (some z0) o=none:=by simp[Zam,B]
    rw[p,uaE]at n;cases n
   |some q=>
    obtain⟨x,y⟩:=q;have p:Zam (some z0) o=some (z0.1++[x],y):=by simp[Zam,B]
    rw[p]at n;obtain⟨_,_,_,_,M,_,N,_,Q⟩:=kaP B;exact yaX R j n M N (by rw[Q];exact U.symm)
  ·have e:qaW (some t) o=none:=if_neg hy;rw[e,xar]at j;cases j
def Xaa (d:Qac)(base:Int)(o:List zaa):List zaa×Int:=
 if uad d=true/\yag o=true then
  (if yaa d<base then([],2)else if base<d.from_ then([],3)else if jad o=(Qan d base).1.length then
   (match past (Xaj d base).1 o with
    |some z=>(z.2,0)
    |none=>([],5))else([],1))
 else([],1)
theorem Kas {d:Qac}(h:uad d=true):yai (kaq d.list) d.text=some (jae d)/\qae (jae d)=true:=by
 obtain⟨u,j,e,p⟩:=qay (qa8 h);have n:ua1 d (yaa d)=d.list.length:=by unfold ua1 yaa;omega
 rw[n,List.take_of_length_le (by simp[kaq])]at j
 have:jae d=u:=by unfold jae;rw[e]
 rw[this];exact⟨j,p⟩
theorem zaX {d:Qac}{base:Int}{o:List zaa}{z:List (List zaa)×List zaa}(q:vau d base)(p:yag o=true)(D:jad o=(Qan d base).1.length)(j:past (Xaj d base).1 o=some z):
 yag z.2=true/\uan z.2=true/\jad z.2=(jae d).length:=by
 obtain⟨u,J,e,I⟩:=qay q;rw[zax q]at j;unfold past at j;rw[if_pos p]at j;have n:=(Kas q.1).1;rw[<-List.take_append_drop (ua1 d base) (kaq d.list),Kax,J]at n;rw[e]at D;obtain⟨B,M,N,n4⟩:=Xa9 p;refine yaX (z0:=([],Qak o)) I (by rw[<-ka9]at n;exact n) j B ?_ ?_
 ·exact XaQ.2 ⟨B,n4⟩
 ·rw[Jan B,M,<-Jan p];exact D
theorem KaQ {d:Qac}{base:Int}{o:List zaa}{z:List (List zaa)×List zaa}(j:vau d base)(u:yag o=true)(q:jad o=(Qan d base).1.length)(B:past (Xaj d base).1 o=some z):
 (zab z.2 (jae d)).2=true:=by
 obtain⟨n,D,p⟩:=zaX j u q B;rw[JaD n (Kas j.1).2 p]
def kaa:List xac->xac->List xac
 |[],s=>[s]
 |y::l,s=>if y.client<s.client then y::kaa l s else if y.client=s.client then s::l else s::y::l
def kaw:List xac->Int->Nat
 |[],_=>0
 |y::l,c=>if y.client<c then kaw l c+1 else 0
theorem qaQ:∀{l:List xac} {s y:xac} {k:Nat},kaw l s.client=k->l[k]? =some y->y.client=s.client->kaa l s=l.set k s
 |[],s,y,k,_,hy,_=>by simp at hy
 |x::l,s,y,k,j,hy,p=>by
  by_cases n:x.client<s.client
  ·simp only[kaw,if_pos n]at j;subst j;simp only[List.getElem?_cons_succ]at hy;simp only[kaa,if_pos n,List.set_cons_succ];rw[qaQ rfl hy p]
  ·simp only[kaw,if_neg n]at j;subst j;simp only[List.getElem?_cons_zero,Option.some.injEq]at hy;subst hy;simp[kaa,p]
theorem kaA:∀{l:List xac} {s:xac} {k:Nat},kaw l s.client=k->(∀y,l[k]? =some y->y.client≠s.client)->kaa l s=l.take k++s::l.drop k
 |[],s,k,j,_=>by simp[kaa]
 |x::l,s,k,j,hy=>by
  by_cases n:x.client<s.client
  ·simp only[kaw,if_pos n]at j;subst j;simp only[kaa,if_pos n,List.take_succ_cons,List.drop_succ_cons,List.cons_append];rw[kaA rfl fun y h=>hy y (by simpa using h)]
  ·simp only[kaw,if_neg n]at j;subst j;have:=hy x sm;simp[kaa,n,this]
theorem Ka3:∀(l:List xac) (c:Int),kaw l c<=l.length
 |[],_=>lr _
 |y::l,c=>by have:=Ka3 l c;unfold kaw;split<;>simp<;>omega
theorem za5:∀{l:List xac} {c:Int} {j:Nat} {y:xac},j<kaw l c->l[j]? =some y->y.client<c
 |[],_,_,_,n,_=>absurd n (Nat.not_lt_zero _)
 |x::l,c,j,y,n,hy=>by
  unfold kaw at n;split at n
  ·rename_i p
   cases j with
   |zero=>simp at hy;subst hy;exact p
   |succ j=>exact za5 (l:=l) (j:=j) om (by simpa using hy)
  ·omega
theorem Za4:∀{l:List xac} {c:Int} {y:xac},l[kaw l c]? =some y->¬y.client<c
 |[],_,_,hy=>by simp[kaw]at hy
 |x::l,c,y,hy=>by
  unfold kaw at hy;split at hy
  ·exact Za4 (by simpa using hy)
  ·rename_i j;simp at hy;subst hy;exact j
theorem yaU {l:List xac}{c:Int}{k:Nat}(n:∀j<k,∀y,l[j]? =some y->y.client<c)(q:k<=l.length)(p:∀y,l[k]? =some y->¬y.client<c):kaw l c=k:=by
 rcases Nat.lt_trichotomy (kaw l c) k with h|h|h
 ·obtain⟨y,hy⟩:=Jaa (l:=l) (k:=kaw l c) om;exact absurd (n _ h y hy) (Za4 hy)
 ·exact h
 ·have:=Ka3 l c;obtain⟨y,hy⟩:=Jaa (l:=l) (k:=k) om;exact absurd (za5 h hy) (p y hy)
def jab (client seq:Int)(o:List zaa):yab:=⟨client,seq,o⟩
def zag (d:Qac)(client seq:Int)(x:List zaa):Qac:=
 if(d.list++[jab client seq x]).length>8 then⟨d.name,d.from_+1,(zab ((d.list++[jab client seq x]).headD ⟨0,0,[]⟩).o d.text).1,(d.list++[jab client seq x]).drop 1,kaa d.seen ⟨client,seq,yaa d+1⟩⟩
 else⟨d.name,d.from_,d.text,d.list++[jab client seq x],kaa d.seen ⟨client,seq,yaa d+1⟩⟩
def Zae (d:Qac)(client seq base:Int)(o:List zaa):Qac×Int×Int:=
 if uad d=true/\within client 1 8=true/\within seq 1 1000000000=true/\yag o=true then
  (if(uab d client).1.seq=seq then(d,(uab d client).1.rev,0)
   else if(uab d client).1.seq+1=seq then
    (if(Xaa d base o).2=0 then(if yaa d<999999000 then(zag d client seq (Xaa d base o).1,yaa d+1,0)else(ja4,0,5))else(ja4,0,(Xaa d base o).2))
   else(ja4,0,4))
 else(ja4,0,1)
end Go.Proofs.YtbonkabfmlajnaaGreat
namespace Go.Proofs.YtbonkabfmlajnaaGreat
open Go.RowKit
theorem uaZ {hd:Int}{l:List xac}:Qas hd l=true↔(∀s∈l,within s.client 1 8=true/\within s.seq 1 1000000000=true/\within s.rev 1 hd=true)/\l.Pairwise (fun a b=>a.client<b.client):=by
 constructor
 ·intro h;refine⟨fun s B=> ?_,List.pairwise_iff_getElem.2 fun i j hi p u=> ?_⟩
  ·obtain⟨k,z⟩:=List.getElem?_of_mem B;have n:=yak.1 h k s z;unfold qan at n;simp only[Bool.and_eq_true]at n;exact⟨n.1.1.1,n.1.1.2,n.1.2⟩
  ·have:=Ka1 h (j-i-1) i _ _ (List.getElem?_eq_getElem hi) (by rw[show i+(j-i-1)+1=j by omega];exact List.getElem?_eq_getElem p)
   omega
 ·rintro⟨n,q⟩;refine yak.2 fun j y hy=> ?_
  obtain⟨a,b,c⟩:=n y (List.mem_of_getElem? hy);cases j with
  |zero=>exact yaE a b c
  |succ j=>
   obtain⟨p,e⟩:=lg.1 hy;have:=List.pairwise_iff_getElem.1 q j (j+1) om p om;exact xaF (List.getElem?_eq_getElem om) a b c (by rw[<-e];exact this)
theorem KaA {s y:xac}:∀{l:List xac},y∈kaa l s->y=s\/y∈l
 |[],h=>by simp[kaa]at h;exact .inl h
 |x::l,h=>by
  unfold kaa at h;split at h
  ·rcases List.mem_cons.1 h with h|h
   ·exact .inr (h▸List.mem_cons_self)
   ·exact(KaA h).imp id (List.mem_cons_of_mem _)
  ·split at h
   ·exact(List.mem_cons.1 h).imp id (List.mem_cons_of_mem _)
   ·exact List.mem_cons.1 h
theorem jaQ {s:xac}:∀{l:List xac},l.Pairwise (fun a b=>a.client<b.client)->(kaa l s).Pairwise (fun a b=>a.client<b.client)
 |[],_=>by simp[kaa]
 |x::l,h=>by
  obtain⟨j,n⟩:=List.pairwise_cons.1 h;unfold kaa;split
  ·rename_i q
   refine List.pairwise_cons.2 ⟨fun y hy=> ?_,jaQ n⟩
   rcases KaA hy with rfl|hy
   ·exact q
   ·exact j y hy
  ·split
   ·rename_i p
    exact List.pairwise_cons.2 ⟨fun y hy=>p▸j y hy,n⟩
   ·refine List.pairwise_cons.2 ⟨fun y hy=> ?_,h⟩
    rcases List.mem_cons.1 hy with rfl|hy
    ·omega
    ·have:=j y hy;omega
theorem ja8 {hd:Int}{l:List xac}{s:xac}(h:Qas hd l=true)(p:within s.client 1 8=true)(q:within s.seq 1 1000000000=true)(z:s.rev=hd+1)(u:0<=hd):Qas (hd+1) (kaa l s)=true:=by
 obtain⟨j,n⟩:=uaZ.1 h;refine uaZ.2 ⟨fun y hy=> ?_,jaQ n⟩
 rcases KaA hy with rfl|hy
 ·exact⟨p,q,within_iff.2 om⟩
 ·obtain⟨a,b,c⟩:=j y hy;have:=within_iff.1 c;exact⟨a,b,within_iff.2 om⟩
section
variable {d:Qac} {client seq:Int} {x:List zaa}
theorem Za7 {o:List zaa}{l:List (List zaa)}{t u:List Int}(h:yai (o::l) t=some u):(zab o t).2=true/\yai l (zab o t).1=some u:=by
 unfold yai at h;rw[List.foldl_cons]at h;by_cases hy:(zab o t).2=true
 ·have e:qaW (some t) o=some (zab o t).1:=if_pos hy;rw[e]at h;exact⟨hy,h⟩
 ·have e:qaW (some t) o=none:=if_neg hy;rw[e,xar]at h;cases h
theorem Qa9 {o:List zaa}{t:List Int}(h:(zab o t).2=true):yai [o] t=some (zab o t).1:=if_pos h
theorem zaL {u:List Int}(h:uad d=true)(j:yai (kaq d.list) d.text=some u):jae d=u:=Option.some.inj ((Kas h).1.symm.trans j)
theorem jbc (h:uad d=true)(N:within client 1 8=true)(Q:within seq 1 1000000000=true)(hx:uan x=true)(hf:(zab x (jae d)).2=true)(hr:yaa d<999999000):
 uad (zag d client seq x)=true/\yaa (zag d client seq x)=yaa d+1/\jae (zag d client seq x)=(zab x (jae d)).1/\(zag d client seq x).seen=kaa d.seen ⟨client,seq,yaa d+1⟩/\1<=(zag d client seq x).list.length/\(zag d client seq x).list.getLast?=some (jab client seq x):=by
 have u:=vaf.1 h;have Z:Jac (jab client seq x)=true:=by simp only[Jac,jab,N,Q,hx,Bool.and_self]
 have j:(d.list++[jab client seq x]).all Jac=true:=by rw[List.all_append,u.ents];simp[Z]
 have n:yai (kaq (d.list++[jab client seq x])) d.text=some (zab x (jae d)).1:=by
  have e:kaq (d.list++[jab client seq x])=kaq d.list++[x]:=by simp[kaq,jab]
  rw[e,Kax,(Kas h).1];exact Qa9 hf
 have U:0<=yaa d:=by have:=u.f0;unfold yaa;omega
 have I:=ja8 (s:=⟨client,seq,yaa d+1⟩) u.seen N Q rfl U;have z:yaa d=d.from_+d.list.length:=rfl;have hf0:=u.f0;unfold zag;split
 ·rename_i B
  rw[List.length_append,List.length_singleton]at B;rcases hd:d.list with _|⟨J,l⟩
  ·rw[hd]at B;simp at B
  ·rw[hd]at n j B z;rw[List.length_cons]at B z;have Y:=u.len;rw[hd,List.length_cons]at Y;simp only[List.cons_append,List.headD_cons,List.drop_succ_cons,List.drop_zero];obtain⟨R,M⟩:=Za7 (o:=J.o) (l:=kaq (l++[jab client seq x])) n;have p:(l++[jab client seq x]).length=l.length+1:=by simp
   have D:yaa (⟨d.name,d.from_+1,(zab J.o d.text).1,l++[jab client seq x],kaa d.seen ⟨client,seq,yaa d+1⟩⟩:Qac)=yaa d+1:=by
    show d.from_+1+((l++[jab client seq x]).length:Int)=_;rw[p,z];omega
   have q:uad (⟨d.name,d.from_+1,(zab J.o d.text).1,l++[jab client seq x],kaa d.seen ⟨client,seq,yaa d+1⟩⟩:Qac)=true:=by
    refine vaf.2 ⟨u.name,by show 0<=d.from_+1;omega,by show d.from_+1<=999999000;omega,(Xar R).1,by show(l++[jab client seq x]).length<=8;rw[p];omega,?_,⟨_,M⟩,by rw[D];exact I⟩
    rw[List.cons_append,List.all_cons,Bool.and_eq_true]at j;exact j.2
   exact⟨q,D,zaL q M,by trivial,by show 1<=(l++[jab client seq x]).length;omega,by show(l++[jab client seq x]).getLast?=_;simp⟩
 ·rename_i B
  rw[List.length_append,List.length_singleton]at B;have p:(d.list++[jab client seq x]).length=d.list.length+1:=by simp
  have D:yaa (⟨d.name,d.from_,d.text,d.list++[jab client seq x],kaa d.seen ⟨client,seq,yaa d+1⟩⟩:Qac)=yaa d+1:=by
   show d.from_+((d.list++[jab client seq x]).length:Int)=_;rw[p];omega
  have q:uad (⟨d.name,d.from_,d.text,d.list++[jab client seq x],kaa d.seen ⟨client,seq,yaa d+1⟩⟩:Qac)=true:=
   vaf.2 ⟨u.name,u.f0,u.f1,u.text,by show(d.list++[jab client seq x]).length<=8;omega,j,⟨_,n⟩,by rw[D];exact I⟩
  exact⟨q,D,zaL q n,rfl,by show 1<=(d.list++[jab client seq x]).length;omega,by show(d.list++[jab client seq x]).getLast?=_;simp⟩
end
