/- What leading an operation past others and submitting it compute, in plain Lean. -/
import Derived.Test.YtocdogemgojgaaaGreatRan
namespace Go.Proofs.YtocdogemgojgaaaGreat
open Go.RowKit
def tfz (a b:List zaa):List zaa×List zaa:=tf (mu a+mu b+1) a b
def uag (a b:List zaa):Option (List zaa×List zaa):=
 if Qag a=true/\Qag b=true/\zad a=zad b then
  (if Qag (normal (tfz a b).1)=true/\Qag (normal (tfz a b).2)=true then some (normal (tfz a b).1,normal (tfz a b).2)else none)
 else none
def jan (s:Option (List (List zaa)×List zaa))(o:List zaa):Option (List (List zaa)×List zaa):=
 s.bind fun z=>(uag o z.2).map fun y=>(z.1++[y.1],y.2)
def yaz (l:List (List zaa))(b:List zaa):Option (List (List zaa)×List zaa):=l.foldl jan (some ([],Kak b))
def past (l:List (List zaa))(b:List zaa):Option (List (List zaa)×List zaa):=if Qag b=true then yaz l b else none
theorem XaH:∀(l:List (List zaa)),l.foldl jan none=none
 |[]=>rfl
 |_::l=>XaH l
theorem ya6 {l:List (List zaa)}{b:List zaa}{k:Nat}{o:List zaa}(h:l[k]? =some o):yaz (l.take (k+1)) b=jan (yaz (l.take k) b) o:=by
 unfold yaz;rw[kag h,List.foldl_append];rfl
theorem Ka6 {l:List (List zaa)}{b:List zaa}{k:Nat}(h:yaz (l.take k) b=none):yaz l b=none:=by
 unfold yaz at *;rw[<-List.take_append_drop k l,List.foldl_append,h,XaH]
theorem XaO {a b:List zaa}(j:Qag a=true)(hb:Qag b=true)(h:zad a=zad b):ua7 a b:=
 ⟨(zan.1 j).1,(zan.1 hb).1,by rw[<-uao j,<-uao hb];exact h⟩
theorem vaR {a b x y:List zaa}(h:uag a b=some (x,y)):Qag a=true/\Qag b=true/\zad a=zad b/\Qag x=true/\Qag y=true/\Xao x=true/\Xao y=true/\zad x=zbc b/\zad y=zbc a:=by
 unfold uag at h;split at h
 ·rename_i u
  obtain⟨n,hb,q⟩:=u;split at h
  ·rename_i z
   obtain⟨p,hy⟩:=z;cases h;have j:Jbn (mu a+mu b+1) a b (tfz a b):=ubb (mu a+mu b+1) a b (XaO n hb q) om;refine⟨n,hb,q,p,hy,zaO j.ax p,zaO j.ay hy,?_,?_⟩
   ·rw[uao p,ka4 hb,qas 2 (by decide) j.ax];exact j.fx
   ·rw[uao hy,ka4 n,qas 2 (by decide) j.ay];exact j.fy
  ·cases h
 ·cases h
theorem za2:∀{l:List (List zaa)} {t u:List Int} {z0 z:List (List zaa)×List zaa},uae t=true->Xai l t=some u->l.foldl jan (some z0)=some z->Qag z0.2=true->Xao z0.2=true->zad z0.2=t.length->
 Qag z.2=true/\Xao z.2=true/\zad z.2=u.length
 |[],t,u,z0,z,_,j,n,D,I,J=>by
  cases j;cases n;exact⟨D,I,J⟩
 |o::l,t,u,z0,z,Y,j,n,D,I,J=>by
  unfold Xai at j;rw[List.foldl_cons]at j n;by_cases hy:(yab o t).2=true
  ·have e:yaX (some t) o=some (yab o t).1:=if_pos hy;rw[e]at j;obtain⟨R,U⟩:=Qap hy;cases B:uag o z0.2 with
   |none=>
    have p:jan (some z0) o=none:=by simp[jan,B]
    rw[p,XaH]at n;cases n
   |some q=>
    obtain⟨x,y⟩:=q;have p:jan (some z0) o=some (z0.1++[x],y):=by simp[jan,B]
    rw[p]at n;obtain⟨_,_,_,_,M,_,N,_,Q⟩:=vaR B;exact za2 R j n M N (by rw[Q];exact U.symm)
  ·have e:yaX (some t) o=none:=if_neg hy;rw[e,yas]at j;cases j
def Jaa (d:Jac)(base:Int)(o:List zaa):List zaa×Int:=
 if zae d=true/\Qag o=true then
  (if yaa d<base then([],2)else if base<d.from_ then([],3)else if zad o=(zaq d base).1.length then
   (match past (Kaj d base).1 o with
    |some z=>(z.2,0)
    |none=>([],5))else([],1))
 else([],1)
theorem Zat {d:Jac}(h:zae d=true):Xai (xar d.list) d.text=some (Kad d)/\uae (Kad d)=true:=by
 obtain⟨u,j,e,p⟩:=Xaz (ybb h);have n:Za6 d (yaa d)=d.list.length:=by unfold Za6 yaa;omega
 rw[n,List.take_of_length_le (by simp[xar])]at j
 have:Kad d=u:=by unfold Kad;rw[e]
 rw[this];exact⟨j,p⟩
theorem ya0 {d:Jac}{base:Int}{o:List zaa}{z:List (List zaa)×List zaa}(q:jav d base)(p:Qag o=true)(D:zad o=(zaq d base).1.length)(j:past (Kaj d base).1 o=some z):
 Qag z.2=true/\Xao z.2=true/\zad z.2=(Kad d).length:=by
 obtain⟨u,J,e,I⟩:=Xaz q;rw[uay q]at j;unfold past at j;rw[if_pos p]at j;have n:=(Zat q.1).1;rw[<-List.take_append_drop (Za6 d base) (xar d.list),Jay,J]at n;rw[e]at D;obtain⟨B,M,N,n4⟩:=xbg p;refine za2 (z0:=([],Kak o)) I (by rw[<-qbg]at n;exact n) j B ?_ ?_
 ·exact zaT.2 ⟨B,n4⟩
 ·rw[uao B,M,<-uao p];exact D
theorem yaS {d:Jac}{base:Int}{o:List zaa}{z:List (List zaa)×List zaa}(j:jav d base)(u:Qag o=true)(q:zad o=(zaq d base).1.length)(B:past (Kaj d base).1 o=some z):
 (yab z.2 (Kad d)).2=true:=by
 obtain⟨n,D,p⟩:=ya0 j u q B;rw[qaA n (Zat j.1).2 p]
def vaa:List Zab->Zab->List Zab
 |[],s=>[s]
 |y::l,s=>if y.client<s.client then y::vaa l s else if y.client=s.client then s::l else s::y::l
def yay:List Zab->Int->Nat
 |[],_=>0
 |y::l,c=>if y.client<c then yay l c+1 else 0
theorem qaU:∀{l:List Zab} {s y:Zab} {k:Nat},yay l s.client=k->l[k]? =some y->y.client=s.client->vaa l s=l.set k s
 |[],s,y,k,_,hy,_=>by simp at hy
 |x::l,s,y,k,j,hy,p=>by
  by_cases n:x.client<s.client
  ·simp only[yay,if_pos n]at j;subst j;simp only[List.getElem?_cons_succ]at hy;simp only[vaa,if_pos n,List.set_cons_succ];rw[qaU rfl hy p]
  ·simp only[yay,if_neg n]at j;subst j;simp only[List.getElem?_cons_zero,Option.some.injEq]at hy;subst hy;simp[vaa,p]
theorem uaC:∀{l:List Zab} {s:Zab} {k:Nat},yay l s.client=k->(∀y,l[k]? =some y->y.client≠s.client)->vaa l s=l.take k++s::l.drop k
 |[],s,k,j,_=>by simp[vaa]
 |x::l,s,k,j,hy=>by
  by_cases n:x.client<s.client
  ·simp only[yay,if_pos n]at j;subst j;simp only[vaa,if_pos n,List.take_succ_cons,List.drop_succ_cons,List.cons_append];rw[uaC rfl fun y h=>hy y (by simpa using h)]
  ·simp only[yay,if_neg n]at j;subst j;have:=hy x sm;simp[vaa,n,this]
theorem ja9:∀(l:List Zab) (c:Int),yay l c<=l.length
 |[],_=>lr _
 |y::l,c=>by have:=ja9 l c;unfold yay;split<;>simp<;>omega
theorem Za8:∀{l:List Zab} {c:Int} {j:Nat} {y:Zab},j<yay l c->l[j]? =some y->y.client<c
 |[],_,_,_,n,_=>absurd n (Nat.not_lt_zero _)
 |x::l,c,j,y,n,hy=>by
  unfold yay at n;split at n
  ·rename_i p
   cases j with
   |zero=>simp at hy;subst hy;exact p
   |succ j=>exact Za8 (l:=l) (j:=j) om (by simpa using hy)
  ·omega
theorem za8:∀{l:List Zab} {c:Int} {y:Zab},l[yay l c]? =some y->¬y.client<c
 |[],_,_,hy=>by simp[yay]at hy
 |x::l,c,y,hy=>by
  unfold yay at hy;split at hy
  ·exact za8 (by simpa using hy)
  ·rename_i j;simp at hy;subst hy;exact j
theorem qaW {l:List Zab}{c:Int}{k:Nat}(n:∀j<k,∀y,l[j]? =some y->y.client<c)(q:k<=l.length)(p:∀y,l[k]? =some y->¬y.client<c):yay l c=k:=by
 rcases Nat.lt_trichotomy (yay l c) k with h|h|h
 ·obtain⟨y,hy⟩:=jaa (l:=l) (k:=yay l c) om;exact absurd (n _ h y hy) (za8 hy)
 ·exact h
 ·have:=ja9 l c;obtain⟨y,hy⟩:=jaa (l:=l) (k:=k) om;exact absurd (Za8 h hy) (p y hy)
def zab (client seq:Int)(o:List zaa):xab:=⟨client,seq,o⟩
def yag (d:Jac)(client seq:Int)(x:List zaa):Jac:=
 if(d.list++[zab client seq x]).length>8 then⟨d.name,d.from_+1,(yab ((d.list++[zab client seq x]).headD ⟨0,0,[]⟩).o d.text).1,(d.list++[zab client seq x]).drop 1,vaa d.seen ⟨client,seq,yaa d+1⟩⟩
 else⟨d.name,d.from_,d.text,d.list++[zab client seq x],vaa d.seen ⟨client,seq,yaa d+1⟩⟩
def Xae (d:Jac)(client seq base:Int)(o:List zaa):Jac×Int×Int:=
 if zae d=true/\within client 1 8=true/\within seq 1 1000000000=true/\Qag o=true then
  (if(xac d client).1.seq=seq then(d,(xac d client).1.rev,0)
   else if(xac d client).1.seq+1=seq then
    (if(Jaa d base o).2=0 then(if yaa d<999999000 then(yag d client seq (Jaa d base o).1,yaa d+1,0)else(ZaY,0,5))else(ZaY,0,(Jaa d base o).2))
   else(ZaY,0,4))
 else(ZaY,0,1)
end Go.Proofs.YtocdogemgojgaaaGreat
namespace Go.Proofs.YtocdogemgojgaaaGreat
open Go.RowKit
theorem uaZ {hd:Int}{l:List Zab}:yat hd l=true↔(∀s∈l,within s.client 1 8=true/\within s.seq 1 1000000000=true/\within s.rev 1 hd=true)/\l.Pairwise (fun a b=>a.client<b.client):=by
 constructor
 ·intro h;refine⟨fun s B=> ?_,List.pairwise_iff_getElem.2 fun i j hi p u=> ?_⟩
  ·obtain⟨k,z⟩:=List.getElem?_of_mem B;have n:=zak.1 h k s z;unfold Kao at n;simp only[Bool.and_eq_true]at n;exact⟨n.1.1.1,n.1.1.2,n.1.2⟩
  ·have:=xa7 h (j-i-1) i _ _ (List.getElem?_eq_getElem hi) (by rw[show i+(j-i-1)+1=j by omega];exact List.getElem?_eq_getElem p)
   omega
 ·rintro⟨n,q⟩;refine zak.2 fun j y hy=> ?_
  obtain⟨a,b,c⟩:=n y (List.mem_of_getElem? hy);cases j with
  |zero=>exact QaG a b c
  |succ j=>
   obtain⟨p,e⟩:=lg.1 hy;have:=List.pairwise_iff_getElem.1 q j (j+1) om p om;exact vaG (List.getElem?_eq_getElem om) a b c (by rw[<-e];exact this)
theorem zaD {s y:Zab}:∀{l:List Zab},y∈vaa l s->y=s\/y∈l
 |[],h=>by simp[vaa]at h;exact .inl h
 |x::l,h=>by
  unfold vaa at h;split at h
  ·rcases List.mem_cons.1 h with h|h
   ·exact .inr (h▸List.mem_cons_self)
   ·exact(zaD h).imp id (List.mem_cons_of_mem _)
  ·split at h
   ·exact(List.mem_cons.1 h).imp id (List.mem_cons_of_mem _)
   ·exact List.mem_cons.1 h
theorem ZaT {s:Zab}:∀{l:List Zab},l.Pairwise (fun a b=>a.client<b.client)->(vaa l s).Pairwise (fun a b=>a.client<b.client)
 |[],_=>by simp[vaa]
 |x::l,h=>by
  obtain⟨j,n⟩:=List.pairwise_cons.1 h;unfold vaa;split
  ·rename_i q
   refine List.pairwise_cons.2 ⟨fun y hy=> ?_,ZaT n⟩
   rcases zaD hy with rfl|hy
   ·exact q
   ·exact j y hy
  ·split
   ·rename_i p
    exact List.pairwise_cons.2 ⟨fun y hy=>p▸j y hy,n⟩
   ·refine List.pairwise_cons.2 ⟨fun y hy=> ?_,h⟩
    rcases List.mem_cons.1 hy with rfl|hy
    ·omega
    ·have:=j y hy;omega
theorem xbc {hd:Int}{l:List Zab}{s:Zab}(h:yat hd l=true)(p:within s.client 1 8=true)(q:within s.seq 1 1000000000=true)(z:s.rev=hd+1)(u:0<=hd):yat (hd+1) (vaa l s)=true:=by
 obtain⟨j,n⟩:=uaZ.1 h;refine uaZ.2 ⟨fun y hy=> ?_,ZaT n⟩
 rcases zaD hy with rfl|hy
 ·exact⟨p,q,within_iff.2 om⟩
 ·obtain⟨a,b,c⟩:=j y hy;have:=within_iff.1 c;exact⟨a,b,within_iff.2 om⟩
section
variable {d:Jac} {client seq:Int} {x:List zaa}
theorem Jbc {o:List zaa}{l:List (List zaa)}{t u:List Int}(h:Xai (o::l) t=some u):(yab o t).2=true/\Xai l (yab o t).1=some u:=by
 unfold Xai at h;rw[List.foldl_cons]at h;by_cases hy:(yab o t).2=true
 ·have e:yaX (some t) o=some (yab o t).1:=if_pos hy;rw[e]at h;exact⟨hy,h⟩
 ·have e:yaX (some t) o=none:=if_neg hy;rw[e,yas]at h;cases h
theorem ubf {o:List zaa}{t:List Int}(h:(yab o t).2=true):Xai [o] t=some (yab o t).1:=if_pos h
theorem kaN {u:List Int}(h:zae d=true)(j:Xai (xar d.list) d.text=some u):Kad d=u:=Option.some.inj ((Zat h).1.symm.trans j)
theorem Qbd (h:zae d=true)(N:within client 1 8=true)(Q:within seq 1 1000000000=true)(hx:Xao x=true)(hf:(yab x (Kad d)).2=true)(hr:yaa d<999999000):
 zae (yag d client seq x)=true/\yaa (yag d client seq x)=yaa d+1/\Kad (yag d client seq x)=(yab x (Kad d)).1/\(yag d client seq x).seen=vaa d.seen ⟨client,seq,yaa d+1⟩/\1<=(yag d client seq x).list.length/\(yag d client seq x).list.getLast?=some (zab client seq x):=by
 have u:=Xaf.1 h;have Z:Kac (zab client seq x)=true:=by simp only[Kac,zab,N,Q,hx,Bool.and_self]
 have j:(d.list++[zab client seq x]).all Kac=true:=by rw[List.all_append,u.ents];simp[Z]
 have n:Xai (xar (d.list++[zab client seq x])) d.text=some (yab x (Kad d)).1:=by
  have e:xar (d.list++[zab client seq x])=xar d.list++[x]:=by simp[xar,zab]
  rw[e,Jay,(Zat h).1];exact ubf hf
 have U:0<=yaa d:=by have:=u.f0;unfold yaa;omega
 have I:=xbc (s:=⟨client,seq,yaa d+1⟩) u.seen N Q rfl U;have z:yaa d=d.from_+d.list.length:=rfl;have hf0:=u.f0;unfold yag;split
 ·rename_i B
  rw[List.length_append,List.length_singleton]at B;rcases hd:d.list with _|⟨J,l⟩
  ·rw[hd]at B;simp at B
  ·rw[hd]at n j B z;rw[List.length_cons]at B z;have Y:=u.len;rw[hd,List.length_cons]at Y;simp only[List.cons_append,List.headD_cons,List.drop_succ_cons,List.drop_zero];obtain⟨R,M⟩:=Jbc (o:=J.o) (l:=xar (l++[zab client seq x])) n;have p:(l++[zab client seq x]).length=l.length+1:=by simp
   have D:yaa (⟨d.name,d.from_+1,(yab J.o d.text).1,l++[zab client seq x],vaa d.seen ⟨client,seq,yaa d+1⟩⟩:Jac)=yaa d+1:=by
    show d.from_+1+((l++[zab client seq x]).length:Int)=_;rw[p,z];omega
   have q:zae (⟨d.name,d.from_+1,(yab J.o d.text).1,l++[zab client seq x],vaa d.seen ⟨client,seq,yaa d+1⟩⟩:Jac)=true:=by
    refine Xaf.2 ⟨u.name,by show 0<=d.from_+1;omega,by show d.from_+1<=999999000;omega,(Qap R).1,by show(l++[zab client seq x]).length<=8;rw[p];omega,?_,⟨_,M⟩,by rw[D];exact I⟩
    rw[List.cons_append,List.all_cons,Bool.and_eq_true]at j;exact j.2
   exact⟨q,D,kaN q M,by trivial,by show 1<=(l++[zab client seq x]).length;omega,by show(l++[zab client seq x]).getLast?=_;simp⟩
 ·rename_i B
  rw[List.length_append,List.length_singleton]at B;have p:(d.list++[zab client seq x]).length=d.list.length+1:=by simp
  have D:yaa (⟨d.name,d.from_,d.text,d.list++[zab client seq x],vaa d.seen ⟨client,seq,yaa d+1⟩⟩:Jac)=yaa d+1:=by
   show d.from_+((d.list++[zab client seq x]).length:Int)=_;rw[p];omega
  have q:zae (⟨d.name,d.from_,d.text,d.list++[zab client seq x],vaa d.seen ⟨client,seq,yaa d+1⟩⟩:Jac)=true:=
   Xaf.2 ⟨u.name,u.f0,u.f1,u.text,by show(d.list++[zab client seq x]).length<=8;omega,j,⟨_,n⟩,by rw[D];exact I⟩
  exact⟨q,D,kaN q n,rfl,by show 1<=(d.list++[zab client seq x]).length;omega,by show(d.list++[zab client seq x]).getLast?=_;simp⟩
end
