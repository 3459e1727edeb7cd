/- Writers: who has put each sign, when an operation has been applied. -/
import Derived.Test.YtocdogemgojgaaaGreatQaf
namespace Go.Proofs.YtocdogemgojgaaaGreat
open Go.RowKit
def kak (sub:zaa->List Int)(t:List Int)(s:Nat×List Int)(p:zaa):Nat×List Int:=
 if p.kind=1 then(s.1+p.n.toNat,s.2++(t.take (s.1+p.n.toNat)).drop s.1)else if p.kind=3 then(s.1+p.n.toNat,s.2)else(s.1,s.2++sub p)
def Xai (sub:zaa->List Int)(t:List Int)(o:List zaa):Nat×List Int:=o.foldl (kak sub t) (0,[])
theorem Xap {sub:zaa->List Int}{t:List Int}{o:List zaa}{k:Nat}{p:zaa}(h:o[k]? =some p):Xai sub t (o.take (k+1))=kak sub t (Xai sub t (o.take k)) p:=by
 unfold Xai;rw[zag h,List.foldl_append];rfl
theorem Kay (sub:zaa->List Int)(t:List Int){o:List zaa}(j:o.all jab=true):∀k,k<=o.length->((Xai sub t (o.take k)).1:Int)=kab 2 (o.take k)
 |0,_=>by simp[Xai,kab]
 |k+1,D=>by
  obtain⟨x,q⟩:=kaa (l:=o) (k:=k) (by omega)
  have B:=Kay sub t j k (by omega)
  rw[Xap q,zav 2 q,<-B];rcases Zab (yat j q)with⟨n,u,z,p⟩|⟨n,u,z,_⟩|⟨n,u,z,p⟩
  ·simp[kak,n,Jae,p];omega
  ·simp[kak,n]
  ·simp[kak,n,Jae,p];omega
theorem jaB (sub:zaa->List Int)(t:List Int){o:List zaa}(n:∀p,jab p=true->p.kind=2->(sub p).length=p.signs.length)(j:o.all jab=true)(q:kab 2 o=t.length):∀k,k<=o.length->((Xai sub t (o.take k)).2.length:Int)=kab 3 (o.take k)
 |0,_=>by simp[Xai,kab]
 |k+1,M=>by
  obtain⟨x,B⟩:=kaa (l:=o) (k:=k) (by omega)
  have Q:=jaB sub t n j q k (by omega)
  have R:=Kay sub t j k (by omega)
  have z:=Kay sub t j (k+1) M;have N:kab 2 (o.take (k+1))<=kab 2 o:=by
   have:=Zag 2 (o.take (k+1)) (o.drop (k+1));rw[List.take_append_drop]at this;have:=zay 2 (o.drop (k+1)) (xaK j _);omega
  rw[Xap B]at z⊢;rw[zav 3 B,<-Q];rcases Zab (yat j B)with⟨u,D,I,J⟩|⟨u,D,I,_⟩|⟨u,D,I,J⟩
  ·simp only[kak,u,if_true]at z;simp[kak,u,Jae,J];omega
  ·have:=n x (yat j B) u;simp[kak,u,Jae,D,this]
  ·simp[kak,u]
theorem xaP {o:List zaa}(j:o.all jab=true)(b:Int)(k:Nat):kab b (o.take k)<=kab b o:=by
 have:=Zag b (o.take k) (o.drop k);rw[List.take_append_drop]at this;have:=zay b (o.drop k) (xaK j _);omega
theorem Zam {o:List zaa}:jag o=true↔o.all jab=true/\o.length<=600/\kab 2 o<=200/\kab 3 o<=200:=by
 unfold jag xad Xba Jar;constructor
 ·intro h;simp only[Bool.and_eq_true,decide_eq_true_eq]at h;obtain⟨⟨j,n⟩,p⟩:=h;rw[if_pos j]at n p;obtain⟨q,z⟩:=Jah.1 j;exact⟨q,z,n,p⟩
 ·rintro⟨j,n,p,q⟩;have u:=Jah.2 ⟨j,n⟩;simp only[Bool.and_eq_true,decide_eq_true_eq];rw[if_pos u,if_pos u];exact⟨⟨u,p⟩,q⟩
theorem Zan {o:List zaa}(h:jag o=true):xad o=kab 2 o:=by
 obtain⟨j,n,_⟩:=Zam.1 h;unfold xad Jar;rw[if_pos (Jah.2 ⟨j,n⟩)]
theorem qa4 {o:List zaa}(h:jag o=true):Xba o=kab 3 o:=by
 obtain⟨j,n,_⟩:=Zam.1 h;unfold Xba Jar;rw[if_pos (Jah.2 ⟨j,n⟩)]
theorem kaE:(Tryz.prog.info? 3).map (fun i=>(i.zero,i.size,i.bytes))=some (some (.int .i64 0),1,8):=by kernel_rfl
theorem va7 {M:Nat}{w:World}{c:List Value}{x:Int}{f:List Pos}(h:GoT.rd M w c x f):f=[]:=h.2
theorem Ja6 (sub:zaa->List Int){t:List Int}{o:List zaa}{k:Nat}{p:zaa}(j:o.all jab=true)(J:kab 2 o=t.length)(B:o[k]? =some p)(_hk:p.kind=1\/p.kind=3):
 (Xai sub t (o.take k)).1+p.n.toNat<=t.length:=by
 have M:=(lg.1 B).1;have N:=Kay sub t j k (by omega)
 have z:=xaP j 2 (k+1);rw[zav 2 B]at z;rcases Zab (yat j B)with⟨q,D,I,u⟩|⟨q,D,I,_⟩|⟨q,D,I,u⟩
 ·simp[q,Jae,u]at z;omega
 ·omega
 ·simp[q,Jae,u]at z;omega
theorem kaZ (sub:zaa->List Int){t:List Int}{o:List zaa}(n:∀p,jab p=true->p.kind=2->(sub p).length=p.signs.length)(j:o.all jab=true)(q:kab 2 o=t.length)(z:kab 3 o<=200)(k:Nat)(u:k<=o.length):
 (Xai sub t (o.take k)).2.length<=200:=by
 have:=jaB sub t n j q k u;have:=xaP j 3 k;omega
theorem Row.ints {B:Nat}{w:World}{v:Value}{l:List Int}{fs:List Pos}(h:Row B w v l fs):fs=[]/\Xag B w v l:=by
 have:fs=[]:=by
  have:=Sl.flat (α:=Int) va7 h.1;exact List.append_right_eq_self.1 this
 subst this;exact⟨rfl,h.owns (Xaa.nil _ _)⟩
theorem Xag.ints {B:Nat}{w:World}{v:Value}{l:List Int}(h:Xag B w v l):Row B w v l []:=by
 obtain⟨fs,h,_⟩:=h.row;obtain⟨rfl,_⟩:=h.ints;exact h
theorem Src.ints {w:World}{v:Value}{l:List Int}(h:RdS w v l):Src w v l []:=by
 obtain⟨u,n,c,news,p,j,q⟩:=h.src;have:=Els.flat (α:=Int) va7 j;subst this;exact⟨n,c,news,p,j,q⟩
