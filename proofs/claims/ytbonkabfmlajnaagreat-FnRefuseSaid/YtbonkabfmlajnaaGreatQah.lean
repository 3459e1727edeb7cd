/- Writers: who has put each sign, when an operation has been applied. -/
import Derived.Test.YtbonkabfmlajnaaGreatQae
import Derived.Test.YtbonkabfmlajnaaGreatQad
namespace Go.Proofs.YtbonkabfmlajnaaGreat
open Go.RowKit
def vak (sub:zaa->List Int)(t:List Int)(s:Nat×List Int)(p:zaa):Nat×List Int:=
 if p.kind=1 then(s.1+p.n.toNat,s.2++(t.take (s.1+p.n.toNat)).drop s.1)else if p.kind=3 then(s.1+p.n.toNat,s.2)else(s.1,s.2++sub p)
def Kai (sub:zaa->List Int)(t:List Int)(o:List zaa):Nat×List Int:=o.foldl (vak sub t) (0,[])
theorem uap {sub:zaa->List Int}{t:List Int}{o:List zaa}{k:Nat}{p:zaa}(h:o[k]? =some p):Kai sub t (o.take (k+1))=vak sub t (Kai sub t (o.take k)) p:=by
 unfold Kai;rw[Zag h,List.foldl_append];rfl
theorem kay (sub:zaa->List Int)(t:List Int){o:List zaa}(j:o.all kab=true):∀k,k<=o.length->((Kai sub t (o.take k)).1:Int)=vab 2 (o.take k)
 |0,_=>by simp[Kai,vab]
 |k+1,D=>by
  obtain⟨x,q⟩:=Jaa (l:=o) (k:=k) om;have B:=kay sub t j k om;rw[uap q,qav 2 q,<-B];rcases Zab (zat j q)with⟨n,u,z,p⟩|⟨n,u,z,_⟩|⟨n,u,z,p⟩
  ·simp[vak,n,Qae,p];omega
  ·simp[vak,n]
  ·simp[vak,n,Qae,p];omega
theorem JaA (sub:zaa->List Int)(t:List Int){o:List zaa}(n:∀p,kab p=true->p.kind=2->(sub p).length=p.signs.length)(j:o.all kab=true)(q:vab 2 o=t.length):∀k,k<=o.length->((Kai sub t (o.take k)).2.length:Int)=vab 3 (o.take k)
 |0,_=>by simp[Kai,vab]
 |k+1,M=>by
  obtain⟨x,B⟩:=Jaa (l:=o) (k:=k) om;have Q:=JaA sub t n j q k om;have R:=kay sub t j k om;have z:=kay sub t j (k+1) M;have N:vab 2 (o.take (k+1))<=vab 2 o:=by
   have:=Qag 2 (o.take (k+1)) (o.drop (k+1));rw[List.take_append_drop]at this;have:=kax 2 (o.drop (k+1)) (KaI j _);omega
  rw[uap B]at z⊢;rw[qav 3 B,<-Q];rcases Zab (zat j B)with⟨u,D,I,J⟩|⟨u,D,I,_⟩|⟨u,D,I,J⟩
  ·simp only[vak,u,if_true]at z;simp[vak,u,Qae,J];omega
  ·have:=n x (zat j B) u;simp[vak,u,Qae,D,this]
  ·simp[vak,u]
theorem xaK {o:List zaa}(j:o.all kab=true)(b:Int)(k:Nat):vab b (o.take k)<=vab b o:=by
 have:=Qag b (o.take k) (o.drop k);rw[List.take_append_drop]at this;have:=kax b (o.drop k) (KaI j _);omega
theorem Xam {o:List zaa}:yag o=true↔o.all kab=true/\o.length<=600/\vab 2 o<=200/\vab 3 o<=200:=by
 unfold yag jad Xa6 xas;constructor
 ·intro h;simp only[Bool.and_eq_true,decide_eq_true_eq]at h;obtain⟨⟨j,n⟩,p⟩:=h;rw[if_pos j]at n p;obtain⟨q,z⟩:=Xah.1 j;exact⟨q,z,n,p⟩
 ·rintro⟨j,n,p,q⟩;have u:=Xah.2 ⟨j,n⟩;simp only[Bool.and_eq_true,decide_eq_true_eq];rw[if_pos u,if_pos u];exact⟨⟨u,p⟩,q⟩
theorem Jan {o:List zaa}(h:yag o=true):jad o=vab 2 o:=by
 obtain⟨j,n,_⟩:=Xam.1 h;unfold jad xas;rw[if_pos (Xah.2 ⟨j,n⟩)]
theorem Ka2 {o:List zaa}(h:yag o=true):Xa6 o=vab 3 o:=by
 obtain⟨j,n,_⟩:=Xam.1 h;unfold Xa6 xas;rw[if_pos (Xah.2 ⟨j,n⟩)]
theorem uau:(Tryz.prog.info? 3).map (fun i=>(i.zero,i.size,i.bytes))=some (some (.int .i64 0),1,8):=by kernel_rfl
theorem ka4 {M:Nat}{w:World}{c:List Value}{x:Int}{f:List Pos}(h:GoT.rd M w c x f):f=[]:=h.2
theorem Ka5 (sub:zaa->List Int){t:List Int}{o:List zaa}{k:Nat}{p:zaa}(j:o.all kab=true)(J:vab 2 o=t.length)(B:o[k]? =some p)(_hk:p.kind=1\/p.kind=3):
 (Kai sub t (o.take k)).1+p.n.toNat<=t.length:=by
 have M:=(lg.1 B).1;have N:=kay sub t j k om;have z:=xaK j 2 (k+1);rw[qav 2 B]at z;rcases Zab (zat j B)with⟨q,D,I,u⟩|⟨q,D,I,_⟩|⟨q,D,I,u⟩
 ·simp[q,Qae,u]at z;omega
 ·omega
 ·simp[q,Qae,u]at z;omega
theorem XaW (sub:zaa->List Int){t:List Int}{o:List zaa}(n:∀p,kab p=true->p.kind=2->(sub p).length=p.signs.length)(j:o.all kab=true)(q:vab 2 o=t.length)(z:vab 3 o<=200)(k:Nat)(u:k<=o.length):
 (Kai sub t (o.take k)).2.length<=200:=by
 have:=JaA sub t n j q k u;have:=xaK j 3 k;omega
theorem Row.ints {B:Nat}{w:World}{v:Value}{l:List Int}{fs:List Pos}(h:Row B w v l fs):fs=[]/\qaf B w v l:=by
 have:fs=[]:=by
  have:=Sl.flat (α:=Int) ka4 h.1;exact List.append_right_eq_self.1 this
 subst this;exact⟨rfl,h.owns (Qaa.nil _ _)⟩
theorem qaf.ints {B:Nat}{w:World}{v:Value}{l:List Int}(h:qaf B w v l):Row B w v l []:=by
 obtain⟨fs,h,_⟩:=h.row;obtain⟨rfl,_⟩:=h.ints;exact h
theorem Src.ints {w:World}{v:Value}{l:List Int}(h:RdS w v l):Src w v l []:=by
 obtain⟨u,n,c,news,p,j,q⟩:=h.src;have:=Els.flat (α:=Int) ka4 j;subst this;exact⟨n,c,news,p,j,q⟩
theorem JaW (w:World)(x:Int)(E:TypeId):Src (w.alloc (.cells #[x] E)) (.slice (some ⟨w,0,none⟩) 1 1) [x] []:=by
 refine Src.one (c:=[x]) ?_ ⟨rfl,rfl⟩;intro j u n;cases j with
 |zero=>simp at n;subst n;simp
 |succ j=>simp at n
