/- Writers: who has put each sign, when an operation has been applied. -/
import Derived.Test.YtbonkabfmlajnaaGreatQrae
import Derived.Test.YtbonkabfmlajnaaGreatQrad
namespace Go.Proofs.YtbonkabfmlajnaaGreat
open Go.RowKit
def vak (sub:zaa->List Int)(t:List Int)(s:Nat×List Int)(p:zaa):Nat×List Int:=
 if p.kind=1 then(s.1+p.n.toNat,s.2++(t.take (s.1+p.n.toNat)).drop s.1)else if p.kind=3 then(s.1+p.n.toNat,s.2)else(s.1,s.2++sub p)
def xaj (sub:zaa->List Int)(t:List Int)(o:List zaa):Nat×List Int:=o.foldl (vak sub t) (0,[])
theorem Zap {sub:zaa->List Int}{t:List Int}{o:List zaa}{k:Nat}{p:zaa}(h:o[k]? =some p):xaj sub t (o.take (k+1))=vak sub t (xaj sub t (o.take k)) p:=by
 unfold xaj;rw[Zag h,List.foldl_append];rfl
theorem Zay (sub:zaa->List Int)(t:List Int){o:List zaa}(j:o.all kab=true):∀k,k<=o.length->((xaj sub t (o.take k)).1:Int)=vab 2 (o.take k)
 |0,_=>by simp[xaj,vab]
 |k+1,D=>by
  obtain⟨x,q⟩:=Jaa (l:=o) (k:=k) om;have B:=Zay sub t j k om;rw[Zap q,xav 2 q,<-B];rcases Zab (jat j q)with⟨n,u,z,p⟩|⟨n,u,z,_⟩|⟨n,u,z,p⟩
  ·simp[vak,n,Xae,p];omega
  ·simp[vak,n]
  ·simp[vak,n,Xae,p];omega
theorem XaA (sub:zaa->List Int)(t:List Int){o:List zaa}(n:∀p,kab p=true->p.kind=2->(sub p).length=p.signs.length)(j:o.all kab=true)(q:vab 2 o=t.length):∀k,k<=o.length->((xaj sub t (o.take k)).2.length:Int)=vab 3 (o.take k)
 |0,_=>by simp[xaj,vab]
 |k+1,M=>by
  obtain⟨x,B⟩:=Jaa (l:=o) (k:=k) om;have Q:=XaA sub t n j q k om;have R:=Zay sub t j k om;have z:=Zay sub t j (k+1) M;have N:vab 2 (o.take (k+1))<=vab 2 o:=by
   have:=Qag 2 (o.take (k+1)) (o.drop (k+1));rw[List.take_append_drop]at this;have:=Xax 2 (o.drop (k+1)) (XaI j _);omega
  rw[Zap B]at z⊢;rw[xav 3 B,<-Q];rcases Zab (jat j B)with⟨u,D,I,J⟩|⟨u,D,I,_⟩|⟨u,D,I,J⟩
  ·simp only[vak,u,if_true]at z;simp[vak,u,Xae,J];omega
  ·have:=n x (jat j B) u;simp[vak,u,Xae,D,this]
  ·simp[vak,u]
theorem xaL {o:List zaa}(j:o.all kab=true)(b:Int)(k:Nat):vab b (o.take k)<=vab b o:=by
 have:=Qag b (o.take k) (o.drop k);rw[List.take_append_drop]at this;have:=Xax b (o.drop k) (XaI j _);omega
theorem Jam {o:List zaa}:yag o=true↔o.all kab=true/\o.length<=600/\vab 2 o<=200/\vab 3 o<=200:=by
 unfold yag kad va8 vas;constructor
 ·intro h;simp only[Bool.and_eq_true,decide_eq_true_eq]at h;obtain⟨⟨j,n⟩,p⟩:=h;rw[if_pos j]at n p;obtain⟨q,z⟩:=Zah.1 j;exact⟨q,z,n,p⟩
 ·rintro⟨j,n,p,q⟩;have u:=Zah.2 ⟨j,n⟩;simp only[Bool.and_eq_true,decide_eq_true_eq];rw[if_pos u,if_pos u];exact⟨⟨u,p⟩,q⟩
theorem Kan {o:List zaa}(h:yag o=true):kad o=vab 2 o:=by
 obtain⟨j,n,_⟩:=Jam.1 h;unfold kad vas;rw[if_pos (Zah.2 ⟨j,n⟩)]
theorem va0 {o:List zaa}(h:yag o=true):va8 o=vab 3 o:=by
 obtain⟨j,n,_⟩:=Jam.1 h;unfold va8 vas;rw[if_pos (Zah.2 ⟨j,n⟩)]
theorem Zau:(Tryz.prog.info? 3).map (fun i=>(i.zero,i.size,i.bytes))=some (some (.int .i64 0),1,8):=by kernel_rfl
theorem ya4 {M:Nat}{w:World}{c:List Value}{x:Int}{f:List Pos}(h:GoT.rd M w c x f):f=[]:=h.2
theorem ya6 (sub:zaa->List Int){t:List Int}{o:List zaa}{k:Nat}{p:zaa}(j:o.all kab=true)(J:vab 2 o=t.length)(B:o[k]? =some p)(_hk:p.kind=1\/p.kind=3):
 (xaj sub t (o.take k)).1+p.n.toNat<=t.length:=by
 have M:=(lg.1 B).1;have N:=Zay sub t j k om;have z:=xaL j 2 (k+1);rw[xav 2 B]at z;rcases Zab (jat j B)with⟨q,D,I,u⟩|⟨q,D,I,_⟩|⟨q,D,I,u⟩
 ·simp[q,Xae,u]at z;omega
 ·omega
 ·simp[q,Xae,u]at z;omega
theorem qaX (sub:zaa->List Int){t:List Int}{o:List zaa}(n:∀p,kab p=true->p.kind=2->(sub p).length=p.signs.length)(j:o.all kab=true)(q:vab 2 o=t.length)(z:vab 3 o<=200)(k:Nat)(u:k<=o.length):
 (xaj sub t (o.take k)).2.length<=200:=by
 have:=XaA sub t n j q k u;have:=xaL j 3 k;omega
theorem Row.ints {B:Nat}{w:World}{v:Value}{l:List Int}{fs:List Pos}(h:Row B w v l fs):fs=[]/\uaf B w v l:=by
 have:fs=[]:=by
  have:=Sl.flat (α:=Int) ya4 h.1;exact List.append_right_eq_self.1 this
 subst this;exact⟨rfl,h.owns (Qaa.nil _ _)⟩
theorem uaf.ints {B:Nat}{w:World}{v:Value}{l:List Int}(h:uaf B w v l):Row B w v l []:=by
 obtain⟨fs,h,_⟩:=h.row;obtain⟨rfl,_⟩:=h.ints;exact h
theorem Src.ints {w:World}{v:Value}{l:List Int}(h:RdS w v l):Src w v l []:=by
 obtain⟨u,n,c,news,p,j,q⟩:=h.src;have:=Els.flat (α:=Int) ya4 j;subst this;exact⟨n,c,news,p,j,q⟩
theorem QaW (w:World)(x:Int)(E:TypeId):Src (w.alloc (.cells #[x] E)) (.slice (some ⟨w,0,none⟩) 1 1) [x] []:=by
 refine Src.one (c:=[x]) ?_ ⟨rfl,rfl⟩;intro j u n;cases j with
 |zero=>simp at n;subst n;simp
 |succ j=>simp at n
