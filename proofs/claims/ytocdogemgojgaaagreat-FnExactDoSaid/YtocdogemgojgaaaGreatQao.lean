/- What the program's functions on documents compute, in plain Lean. -/
import Derived.Test.YtocdogemgojgaaaGreatQam
import Derived.Test.YtocdogemgojgaaaGreatQan
namespace Go.Proofs.YtocdogemgojgaaaGreat
open Go.RowKit
def yaa (d:Jac):Int:=d.from_+d.list.length
def zao (hd:Int)(l:List Jab)(i:Nat)(s:Jab):Bool:=
 within s.client 1 8&&within s.seq 1 1000000000&&within s.rev 1 hd&&(match i with
  |0=>true
  |j+1=>(match l[j]? with
   |some p=>decide (p.client<s.client)
   |none=>true))
def vaw (hd:Int)(l:List Jab):Bool:=(List.range l.length).all fun i=>match l[i]? with
 |some s=>zao hd l i s
 |none=>true
theorem qan {hd:Int}{l:List Jab}:vaw hd l=true↔∀j y,l[j]? =some y->zao hd l j y=true:=by
 unfold vaw;rw[List.all_eq_true];constructor
 ·intro h j y hy;have:=h j (List.mem_range.2 (lg.1 hy).1);rw[hy]at this;exact this
 ·intro h i hi;obtain⟨x,n⟩:=kaa (List.mem_range.1 hi);rw[n];exact h i x n
theorem qam {hd:Int}{l:List Jab}{k:Nat}{s:Jab}(h:l[k]? =some s)(j:zao hd l k s=false):vaw hd l=false:=by
 rw[Bool.eq_false_iff];intro n;rw[qan.1 n k s h]at j;cases j
theorem qba {hd:Int}{l:List Jab}(h:∀j<l.length,∀y,l[j]? =some y->zao hd l j y=true):vaw hd l=true:=
 qan.2 fun j y hy=>h j (lg.1 hy).1 y hy
theorem kaT {hd:Int}{l:List Jab}{s:Jab}(j:within s.client 1 8=true)(n:within s.seq 1 1000000000=true)(p:within s.rev 1 hd=true):zao hd l 0 s=true:=by simp[zao,j,n,p]
theorem KaR {hd:Int}{l:List Jab}{j:Nat}{s p:Jab}(B:l[j]? =some p)(n:within s.client 1 8=true)(q:within s.seq 1 1000000000=true)(u:within s.rev 1 hd=true)(z:p.client<s.client):zao hd l (j+1) s=true:=by
 simp[zao,n,q,u,B,z]
theorem vaY {hd:Int}{l:List Jab}{i:Nat}{s:Jab}(h:within s.client 1 8=false):zao hd l i s=false:=by simp[zao,h]
theorem JaO {hd:Int}{l:List Jab}{i:Nat}{s:Jab}(h:within s.seq 1 1000000000=false):zao hd l i s=false:=by simp[zao,h]
theorem qaL {hd:Int}{l:List Jab}{i:Nat}{s:Jab}(h:within s.rev 1 hd=false):zao hd l i s=false:=by simp[zao,h]
theorem XaX {hd:Int}{l:List Jab}{j:Nat}{s p:Jab}(n:l[j]? =some p)(h:¬p.client<s.client):zao hd l (j+1) s=false:=by simp[zao,n,h]
theorem ubd {hd:Int}{l:List Jab}(h:vaw hd l=true):∀(n i:Nat) (x y:Jab),l[i]? =some x->l[i+n+1]? =some y->x.client+n<y.client
 |0,i,x,y,j,hy=>by
  have:=qan.1 h (i+1) y (by simpa using hy)
  simp[zao,j]at this;have:=this.2;omega
 |n+1,i,x,y,j,hy=>by
  have q:=(lg.1 hy).1;obtain⟨z,p⟩:=kaa (l:=l) (k:=i+n+1) (by omega)
  have u:=ubd h n i x z j p;have:=qan.1 h (i+n+1+1) y (by rw[<-hy];congr 1)
  simp[zao,p]at this;have:=this.2;omega
theorem Xbf {hd:Int}{l:List Jab}(h:vaw hd l=true):l.length<=8:=by
 by_cases u:8<l.length
 ·obtain⟨x,j⟩:=kaa (l:=l) (k:=0) (by omega)
  obtain⟨y,hy⟩:=kaa (l:=l) (k:=8) (by omega)
  have q:=ubd h 7 0 x y j hy;have n:=qan.1 h 0 x j;have p:=qan.1 h 8 y hy;simp[zao,within]at n p;omega
 ·omega
def Zas (l:List Kaa):List (List zaa):=l.map Kaa.o
def uae (d:Jac):Bool:=jal d.name&&within d.from_ 0 999999000&&xae d.text&&decide (d.list.length<=8)&&d.list.all Qad&&(Zaj (Zas d.list) d.text).isSome&&vaw (yaa d) d.seen
structure xbj (d:Jac):Prop where
 name:jal d.name=true
 f0:0<=d.from_
 f1:d.from_<=999999000
 text:xae d.text=true
 len:d.list.length<=8
 ents:d.list.all Qad=true
 app:∃t,Zaj (Zas d.list) d.text=some t
 seen:vaw (yaa d) d.seen=true
theorem yah {d:Jac}:uae d=true↔xbj d:=by
 constructor
 ·intro h;simp only[uae,Bool.and_eq_true,within_iff,decide_eq_true_eq,Option.isSome_iff_exists]at h;obtain⟨⟨⟨⟨⟨⟨n,j⟩,p⟩,q⟩,u⟩,z⟩,B⟩:=h;exact⟨n,j.1,j.2,p,q,u,z,B⟩
 ·intro h;simp only[uae,Bool.and_eq_true,within_iff,decide_eq_true_eq,Option.isSome_iff_exists];exact⟨⟨⟨⟨⟨⟨h.name,h.f0,h.f1⟩,h.text⟩,h.len⟩,h.ents⟩,h.app⟩,h.seen⟩
theorem Zbk {o:List zaa}(h:jag o=true):szL o<=1000:=by
 obtain⟨j,q,_,u⟩:=Zam.1 h;have:∀{o:List zaa},o.all jab=true->(szs o:Int)<=kab 3 o:=by
  intro o;induction o with
  |nil=>intro _;simp[szs,kab]
  |cons p o n=>
   intro h;simp only[List.all_cons,Bool.and_eq_true]at h;have i:=n h.2;have e:szs (p::o)=szL p.signs+szs o:=rfl;rw[e,Zax];simp only[kab];rcases Zab h.1 with⟨k,a,b,c⟩|⟨k,a,b,_⟩|⟨k,a,b,c⟩
   ·rw[k,c];simp[Jae,c];omega
   ·rw[k];simp[Jae,a];omega
   ·rw[k,c];simp;omega
 have:=this j;unfold szL;omega
theorem vbg {e:Kaa}(h:Qad e=true):jag e.o=true/\Xak e.o=e.o:=by
 simp only[Qad,Bool.and_eq_true]at h;exact yaR.1 h.2
theorem xaV:∀{l:List Kaa},l.all Qad=true->szL l<=1001*l.length
 |[],_=>by simp[szL,szs]
 |e::l,h=>by
  simp only[List.all_cons,Bool.and_eq_true]at h;have n:=xaV h.2;have:=Zbk (vbg h.1).1;have j:szL (e::l)=1+szL e.o+szL l:=by simp only[szL,szs,List.length_cons];have:GoS.sz e=szL e.o:=rfl;unfold szL at this;omega
  rw[j,List.length_cons];omega
theorem xbj.sz {d:Jac}(h:xbj d):szL d.list<=9000:=by have:=xaV h.ents;have:=h.len;omega
theorem xbj.tlen {d:Jac}(h:xbj d):d.text.length<=200:=(kan.1 h.text).1
theorem xbj.slen {d:Jac}(h:xbj d):d.seen.length<=8:=Xbf h.seen
theorem qa9 {l:List (List zaa)}{t u:List Int}(j:xae t=true)(h:Zaj l t=some u):xae u=true:=by
 induction l generalizing t with
 |nil=>cases h;exact j
 |cons o l n=>
  unfold Zaj at h;rw[List.foldl_cons]at h;by_cases hy:(qab o t).2=true
  ·have e:va2 (some t) o=some (qab o t).1:=if_pos hy;rw[e]at h;exact n (vas hy).1 h
  ·have e:va2 (some t) o=none:=if_neg hy;rw[e,vau]at h;cases h
theorem uaH (l m:List (List zaa))(t:List Int):Zaj (l++m) t=(Zaj l t).bind (Zaj m):=by
 unfold Zaj;rw[List.foldl_append];cases l.foldl va2 (some t)with
 |none=>exact vau m
 |some u=>rfl
theorem uaR {l:List (List zaa)}{t u:List Int}(h:Zaj l t=some u)(k:Nat):∃v,Zaj (l.take k) t=some v/\Zaj (l.drop k) v=some u:=by
 rw[<-List.take_append_drop k l,uaH]at h;cases j:Zaj (l.take k) t with
 |none=>rw[j]at h;cases h
 |some v=>rw[j]at h;exact⟨v,rfl,h⟩
theorem vbb (l:List Kaa)(k:Nat):Zas (l.take k)=(Zas l).take k:=by simp[Zas]
theorem Xbc (l:List Kaa)(k:Nat):Zas (l.drop k)=(Zas l).drop k:=by simp[Zas]
theorem qaW {l:List Kaa}{k:Nat}{e:Kaa}(h:l[k]? =some e):(Zas l)[k]? =some e.o:=by simp[Zas,h]
def va3 (d:Jac)(rev:Int):Nat:=(rev-d.from_).toNat
def Jau (d:Jac)(rev:Int):Prop:=uae d=true/\d.from_<=rev/\rev<=yaa d
instance (d:Jac)(rev:Int):Decidable (Jau d rev):=inferInstanceAs (Decidable (_/\_/\_))
def Qap (d:Jac)(rev:Int):List Int×Bool:=if Jau d rev then((Zaj ((Zas d.list).take (va3 d rev)) d.text).getD [],true)else([],false)
def Zae (d:Jac):List Int:=(Qap d (yaa d)).1
def zaj (d:Jac)(rev:Int):List (List zaa)×Bool:=if Jau d rev then(Zas (d.list.drop (va3 d rev)),true)else([],false)
def uap (d:Jac)(rev:Int):Int:=if yaa d<rev then 2 else if rev<d.from_ then 3 else 0
def zaq (d:Jac)(rev:Int):List Kaa×Int:=if uae d=true then(if yaa d<rev then([],2)else if rev<d.from_ then([],3)else(d.list.drop (va3 d rev),0))else([],1)
def vaX:Jac:=⟨⟨#[]⟩,0,[],[],[]⟩
def Kau (name:ByteArray)(t:List Int):Jac×Bool:=if uae ⟨name,0,t,[],[]⟩=true then(⟨name,0,t,[],[]⟩,true)else(vaX,false)
theorem qbd {d:Jac}{rev:Int}(h:Jau d rev):va3 d rev<=d.list.length/\rev=d.from_+va3 d rev:=by
 unfold Jau yaa at h;unfold va3;omega
theorem JaC {d:Jac}{rev:Int}(h:¬Jau d rev):Qap d rev=([],false):=if_neg h
theorem Zay {d:Jac}{rev:Int}(h:Jau d rev):∃u,Zaj ((Zas d.list).take (va3 d rev)) d.text=some u/\Qap d rev=(u,true)/\xae u=true:=by
 have n:=yah.1 h.1;obtain⟨t,p⟩:=n.app;obtain⟨u,j,_⟩:=uaR p (va3 d rev);exact⟨u,j,by unfold Qap;rw[if_pos h,j];rfl,qa9 n.text j⟩
theorem JaS (d:Jac)(rev:Int):(Qap d rev).1.length<=200:=by
 by_cases h:Jau d rev
 ·obtain⟨u,_,e,j⟩:=Zay h;rw[e];exact(kan.1 j).1
 ·rw[JaC h];simp
theorem jaO {d:Jac}{rev:Int}(h:¬Jau d rev):zaj d rev=([],false):=if_neg h
theorem qax {d:Jac}{rev:Int}(h:Jau d rev):zaj d rev=(Zas (d.list.drop (va3 d rev)),true):=if_pos h
theorem vag {d:Jac}(h:uae d=true):0<=yaa d/\yaa d<=999999008/\0<=d.from_/\d.from_<=999999000:=by
 have j:=yah.1 h;have:=j.f0;have:=j.f1;have:=j.len;unfold yaa;omega
theorem va9 {d:Jac}(h:uae d=true):Jau d (yaa d):=⟨h,by unfold yaa;omega,Int.le_refl _⟩
