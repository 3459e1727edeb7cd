/- What leading an operation past others and submitting it compute, in plain Lean. -/
import Derived.Test.YtocdogemgojgaaaGreatQao
import Derived.Test.YtocdogemgojgaaaGreatQbb
namespace Go.Proofs.YtocdogemgojgaaaGreat
open Go.RowKit
def tfz (a b:List zaa):List zaa×List zaa:=tf (mu a+mu b+1) a b
def xag (a b:List zaa):Option (List zaa×List zaa):=
 if jag a=true/\jag b=true/\xad a=xad b then
  (if jag (normal (tfz a b).1)=true/\jag (normal (tfz a b).2)=true then some (normal (tfz a b).1,normal (tfz a b).2)else none)
 else none
def Kam (s:Option (List (List zaa)×List zaa))(o:List zaa):Option (List (List zaa)×List zaa):=
 s.bind fun z=>(xag o z.2).map fun y=>(z.1++[y.1],y.2)
def xax (l:List (List zaa))(b:List zaa):Option (List (List zaa)×List zaa):=l.foldl Kam (some ([],Xak b))
def past (l:List (List zaa))(b:List zaa):Option (List (List zaa)×List zaa):=if jag b=true then xax l b else none
theorem QaF:∀(l:List (List zaa)),l.foldl Kam none=none
 |[]=>rfl
 |_::l=>QaF l
theorem Ja4 {l:List (List zaa)}{b:List zaa}{k:Nat}{o:List zaa}(h:l[k]? =some o):xax (l.take (k+1)) b=Kam (xax (l.take k) b) o:=by
 unfold xax;rw[zag h,List.foldl_append];rfl
theorem ja2 {l:List (List zaa)}{b:List zaa}{k:Nat}(h:xax (l.take k) b=none):xax l b=none:=by
 unfold xax at *;rw[<-List.take_append_drop k l,List.foldl_append,h,QaF]
theorem uaN {a b:List zaa}(j:jag a=true)(hb:jag b=true)(h:xad a=xad b):ja6 a b:=
 ⟨(Zam.1 j).1,(Zam.1 hb).1,by rw[<-Zan j,<-Zan hb];exact h⟩
theorem QaQ {a b x y:List zaa}(h:xag a b=some (x,y)):jag a=true/\jag b=true/\xad a=xad b/\jag x=true/\jag y=true/\kao x=true/\kao y=true/\xad x=Xba b/\xad y=Xba a:=by
 unfold xag at h;split at h
 ·rename_i u
  obtain⟨n,hb,q⟩:=u;split at h
  ·rename_i z
   obtain⟨p,hy⟩:=z;cases h;have j:xbl (mu a+mu b+1) a b (tfz a b):=ya9 (mu a+mu b+1) a b (uaN n hb q) (by omega)
   refine⟨n,hb,q,p,hy,jaM j.ax p,jaM j.ay hy,?_,?_⟩
   ·rw[Zan p,qa4 hb,kar 2 (by decide) j.ax];exact j.fx
   ·rw[Zan hy,qa4 n,kar 2 (by decide) j.ay];exact j.fy
  ·cases h
 ·cases h
theorem JaZ:∀{l:List (List zaa)} {t u:List Int} {z0 z:List (List zaa)×List zaa},xae t=true->Zaj l t=some u->l.foldl Kam (some z0)=some z->jag z0.2=true->kao z0.2=true->xad z0.2=t.length->
 jag z.2=true/\kao z.2=true/\xad z.2=u.length
 |[],t,u,z0,z,_,j,n,D,I,J=>by
  cases j;cases n;exact⟨D,I,J⟩
 |o::l,t,u,z0,z,Y,j,n,D,I,J=>by
  unfold Zaj at j;rw[List.foldl_cons]at j n;by_cases hy:(qab o t).2=true
  ·have e:va2 (some t) o=some (qab o t).1:=if_pos hy;rw[e]at j;obtain⟨R,U⟩:=vas hy;cases B:xag o z0.2 with
   |none=>
    have p:Kam (some z0) o=none:=by simp[Kam,B]
    rw[p,QaF]at n;cases n
   |some q=>
    obtain⟨x,y⟩:=q;have p:Kam (some z0) o=some (z0.1++[x],y):=by simp[Kam,B]
    rw[p]at n;obtain⟨_,_,_,_,M,_,N,_,Q⟩:=QaQ B;exact JaZ R j n M N (by rw[Q];exact U.symm)
  ·have e:va2 (some t) o=none:=if_neg hy;rw[e,vau]at j;cases j
def Zaa (d:Jac)(base:Int)(o:List zaa):List zaa×Int:=
 if uae d=true/\jag o=true then
  (if yaa d<base then([],2)else if base<d.from_ then([],3)else if xad o=(Qap d base).1.length then
   (match past (zaj d base).1 o with
    |some z=>(z.2,0)
    |none=>([],5))else([],1))
 else([],1)
theorem yaI {d:Jac}(h:uae d=true):Zaj (Zas d.list) d.text=some (Zae d)/\xae (Zae d)=true:=by
 obtain⟨u,j,e,p⟩:=Zay (va9 h);have n:va3 d (yaa d)=d.list.length:=by unfold va3 yaa;omega
 rw[n,List.take_of_length_le (by simp[Zas])]at j
 have:Zae d=u:=by unfold Zae;rw[e]
 rw[this];exact⟨j,p⟩
theorem Xa0 {d:Jac}{base:Int}{o:List zaa}{z:List (List zaa)×List zaa}(q:Jau d base)(p:jag o=true)(D:xad o=(Qap d base).1.length)(j:past (zaj d base).1 o=some z):
 jag z.2=true/\kao z.2=true/\xad z.2=(Zae d).length:=by
 obtain⟨u,J,e,I⟩:=Zay q;rw[qax q]at j;unfold past at j;rw[if_pos p]at j;have n:=(yaI q.1).1;rw[<-List.take_append_drop (va3 d base) (Zas d.list),uaH,J]at n;rw[e]at D;obtain⟨B,M,N,n4⟩:=kbc p;refine JaZ (z0:=([],Xak o)) I (by rw[<-Xbc]at n;exact n) j B ?_ ?_
 ·exact yaR.2 ⟨B,n4⟩
 ·rw[Zan B,M,<-Zan p];exact D
theorem uaS {d:Jac}{base:Int}{o:List zaa}{z:List (List zaa)×List zaa}(j:Jau d base)(u:jag o=true)(q:xad o=(Qap d base).1.length)(B:past (zaj d base).1 o=some z):
 (qab z.2 (Zae d)).2=true:=by
 obtain⟨n,D,p⟩:=Xa0 j u q B;rw[qaz n (yaI j.1).2 p]
def vaa:List Jab->Jab->List Jab
 |[],s=>[s]
 |y::l,s=>if y.client<s.client then y::vaa l s else if y.client=s.client then s::l else s::y::l
def zax:List Jab->Int->Nat
 |[],_=>0
 |y::l,c=>if y.client<c then zax l c+1 else 0
theorem qaR:∀{l:List Jab} {s y:Jab} {k:Nat},zax l s.client=k->l[k]? =some y->y.client=s.client->vaa l s=l.set k s
 |[],s,y,k,_,hy,_=>by simp at hy
 |x::l,s,y,k,j,hy,p=>by
  by_cases n:x.client<s.client
  ·simp only[zax,if_pos n]at j;subst j;simp only[List.getElem?_cons_succ]at hy;simp only[vaa,if_pos n,List.set_cons_succ];rw[qaR rfl hy p]
  ·simp only[zax,if_neg n]at j;subst j;simp only[List.getElem?_cons_zero,Option.some.injEq]at hy;subst hy;simp[vaa,p]
theorem vaB:∀{l:List Jab} {s:Jab} {k:Nat},zax l s.client=k->(∀y,l[k]? =some y->y.client≠s.client)->vaa l s=l.take k++s::l.drop k
 |[],s,k,j,_=>by simp[vaa]
 |x::l,s,k,j,hy=>by
  by_cases n:x.client<s.client
  ·simp only[zax,if_pos n]at j;subst j;simp only[vaa,if_pos n,List.take_succ_cons,List.drop_succ_cons,List.cons_append];rw[vaB rfl fun y h=>hy y (by simpa using h)]
  ·simp only[zax,if_neg n]at j;subst j;have:=hy x (by simp)
   simp[vaa,n,this]
theorem Qa6:∀(l:List Jab) (c:Int),zax l c<=l.length
 |[],_=>lr _
 |y::l,c=>by have:=Qa6 l c;unfold zax;split<;>simp<;>omega
theorem Xa5:∀{l:List Jab} {c:Int} {j:Nat} {y:Jab},j<zax l c->l[j]? =some y->y.client<c
 |[],_,_,_,n,_=>absurd n (Nat.not_lt_zero _)
 |x::l,c,j,y,n,hy=>by
  unfold zax at n;split at n
  ·rename_i p
   cases j with
   |zero=>simp at hy;subst hy;exact p
   |succ j=>exact Xa5 (l:=l) (j:=j) (by omega) (by simpa using hy)
  ·omega
theorem za5:∀{l:List Jab} {c:Int} {y:Jab},l[zax l c]? =some y->¬y.client<c
 |[],_,_,hy=>by simp[zax]at hy
 |x::l,c,y,hy=>by
  unfold zax at hy;split at hy
  ·exact za5 (by simpa using hy)
  ·rename_i j;simp at hy;subst hy;exact j
theorem JaU {l:List Jab}{c:Int}{k:Nat}(n:∀j<k,∀y,l[j]? =some y->y.client<c)(q:k<=l.length)(p:∀y,l[k]? =some y->¬y.client<c):zax l c=k:=by
 rcases Nat.lt_trichotomy (zax l c) k with h|h|h
 ·obtain⟨y,hy⟩:=kaa (l:=l) (k:=zax l c) (by omega)
  exact absurd (n _ h y hy) (za5 hy)
 ·exact h
 ·have:=Qa6 l c;obtain⟨y,hy⟩:=kaa (l:=l) (k:=k) (by omega)
  exact absurd (Xa5 h hy) (p y hy)
def vab (client seq:Int)(o:List zaa):Kaa:=⟨client,seq,o⟩
def zah (d:Jac)(client seq:Int)(x:List zaa):Jac:=
 if(d.list++[vab client seq x]).length>8 then⟨d.name,d.from_+1,(qab ((d.list++[vab client seq x]).headD ⟨0,0,[]⟩).o d.text).1,(d.list++[vab client seq x]).drop 1,vaa d.seen ⟨client,seq,yaa d+1⟩⟩
 else⟨d.name,d.from_,d.text,d.list++[vab client seq x],vaa d.seen ⟨client,seq,yaa d+1⟩⟩
def Qae (d:Jac)(client seq base:Int)(o:List zaa):Jac×Int×Int:=
 if uae d=true/\within client 1 8=true/\within seq 1 1000000000=true/\jag o=true then
  (if(Kab d client).1.seq=seq then(d,(Kab d client).1.rev,0)
   else if(Kab d client).1.seq+1=seq then
    (if(Zaa d base o).2=0 then(if yaa d<999999000 then(zah d client seq (Zaa d base o).1,yaa d+1,0)else(vaX,0,5))else(vaX,0,(Zaa d base o).2))
   else(vaX,0,4))
 else(vaX,0,1)
