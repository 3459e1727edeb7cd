/- Writers: who has put each sign, when an operation has been applied. -/
import Derived.Test.YtocdogemgojgaaaGreatRaf
namespace Go.Proofs.YtocdogemgojgaaaGreat
open Go.RowKit
def Qak (sub:zaa->List Int)(t:List Int)(s:Nat×List Int)(p:zaa):Nat×List Int:=
 if p.kind=1 then(s.1+p.n.toNat,s.2++(t.take (s.1+p.n.toNat)).drop s.1)else if p.kind=3 then(s.1+p.n.toNat,s.2)else(s.1,s.2++sub p)
def qaj (sub:zaa->List Int)(t:List Int)(o:List zaa):Nat×List Int:=o.foldl (Qak sub t) (0,[])
theorem Zaq {sub:zaa->List Int}{t:List Int}{o:List zaa}{k:Nat}{p:zaa}(h:o[k]? =some p):qaj sub t (o.take (k+1))=Qak sub t (qaj sub t (o.take k)) p:=by
 unfold qaj;rw[kag h,List.foldl_append];rfl
theorem xaA (sub:zaa->List Int)(t:List Int){o:List zaa}(j:o.all vab=true):∀k,k<=o.length->((qaj sub t (o.take k)).1:Int)=Qab 2 (o.take k)
 |0,_=>by simp[qaj,Qab]
 |k+1,D=>by
  obtain⟨x,q⟩:=jaa (l:=o) (k:=k) om;have B:=xaA sub t j k om;rw[Zaq q,yaw 2 q,<-B];rcases Jab (xau j q)with⟨n,u,z,p⟩|⟨n,u,z,_⟩|⟨n,u,z,p⟩
  ·simp[Qak,n,yaf,p];omega
  ·simp[Qak,n]
  ·simp[Qak,n,yaf,p];omega
theorem xaD (sub:zaa->List Int)(t:List Int){o:List zaa}(n:∀p,vab p=true->p.kind=2->(sub p).length=p.signs.length)(j:o.all vab=true)(q:Qab 2 o=t.length):∀k,k<=o.length->((qaj sub t (o.take k)).2.length:Int)=Qab 3 (o.take k)
 |0,_=>by simp[qaj,Qab]
 |k+1,M=>by
  obtain⟨x,B⟩:=jaa (l:=o) (k:=k) om;have Q:=xaD sub t n j q k om;have R:=xaA sub t j k om;have z:=xaA sub t j (k+1) M;have N:Qab 2 (o.take (k+1))<=Qab 2 o:=by
   have:=qah 2 (o.take (k+1)) (o.drop (k+1));rw[List.take_append_drop]at this;have:=xaz 2 (o.drop (k+1)) (xaL j _);omega
  rw[Zaq B]at z⊢;rw[yaw 3 B,<-Q];rcases Jab (xau j B)with⟨u,D,I,J⟩|⟨u,D,I,_⟩|⟨u,D,I,J⟩
  ·simp only[Qak,u,if_true]at z;simp[Qak,u,yaf,J];omega
  ·have:=n x (xau j B) u;simp[Qak,u,yaf,D,this]
  ·simp[Qak,u]
theorem qaP {o:List zaa}(j:o.all vab=true)(b:Int)(k:Nat):Qab b (o.take k)<=Qab b o:=by
 have:=qah b (o.take k) (o.drop k);rw[List.take_append_drop]at this;have:=xaz b (o.drop k) (xaL j _);omega
theorem zan {o:List zaa}:Qag o=true↔o.all vab=true/\o.length<=600/\Qab 2 o<=200/\Qab 3 o<=200:=by
 unfold Qag zad zbc Qas;constructor
 ·intro h;simp only[Bool.and_eq_true,decide_eq_true_eq]at h;obtain⟨⟨j,n⟩,p⟩:=h;rw[if_pos j]at n p;obtain⟨q,z⟩:=zai.1 j;exact⟨q,z,n,p⟩
 ·rintro⟨j,n,p,q⟩;have u:=zai.2 ⟨j,n⟩;simp only[Bool.and_eq_true,decide_eq_true_eq];rw[if_pos u,if_pos u];exact⟨⟨u,p⟩,q⟩
theorem uao {o:List zaa}(h:Qag o=true):zad o=Qab 2 o:=by
 obtain⟨j,n,_⟩:=zan.1 h;unfold zad Qas;rw[if_pos (zai.2 ⟨j,n⟩)]
theorem ka4 {o:List zaa}(h:Qag o=true):zbc o=Qab 3 o:=by
 obtain⟨j,n,_⟩:=zan.1 h;unfold zbc Qas;rw[if_pos (zai.2 ⟨j,n⟩)]
theorem qaD:(Tryz.prog.info? 3).map (fun i=>(i.zero,i.size,i.bytes))=some (some (.int .i64 0),1,8):=by kernel_rfl
theorem za9 {M:Nat}{w:World}{c:List Value}{x:Int}{f:List Pos}(h:GoT.rd M w c x f):f=[]:=h.2
theorem Qa9 (sub:zaa->List Int){t:List Int}{o:List zaa}{k:Nat}{p:zaa}(j:o.all vab=true)(J:Qab 2 o=t.length)(B:o[k]? =some p)(_hk:p.kind=1\/p.kind=3):
 (qaj sub t (o.take k)).1+p.n.toNat<=t.length:=by
 have M:=(lg.1 B).1;have N:=xaA sub t j k om;have z:=qaP j 2 (k+1);rw[yaw 2 B]at z;rcases Jab (xau j B)with⟨q,D,I,u⟩|⟨q,D,I,_⟩|⟨q,D,I,u⟩
 ·simp[q,yaf,u]at z;omega
 ·omega
 ·simp[q,yaf,u]at z;omega
theorem Qa2 (sub:zaa->List Int){t:List Int}{o:List zaa}(n:∀p,vab p=true->p.kind=2->(sub p).length=p.signs.length)(j:o.all vab=true)(q:Qab 2 o=t.length)(z:Qab 3 o<=200)(k:Nat)(u:k<=o.length):
 (qaj sub t (o.take k)).2.length<=200:=by
 have:=xaD sub t n j q k u;have:=qaP j 3 k;omega
theorem Row.ints {B:Nat}{w:World}{v:Value}{l:List Int}{fs:List Pos}(h:Row B w v l fs):fs=[]/\zah B w v l:=by
 have:fs=[]:=by
  have:=Sl.flat (α:=Int) za9 h.1;exact List.append_right_eq_self.1 this
 subst this;exact⟨rfl,h.owns (uaa.nil _ _)⟩
theorem zah.ints {B:Nat}{w:World}{v:Value}{l:List Int}(h:zah B w v l):Row B w v l []:=by
 obtain⟨fs,h,_⟩:=h.row;obtain⟨rfl,_⟩:=h.ints;exact h
theorem Src.ints {w:World}{v:Value}{l:List Int}(h:RdS w v l):Src w v l []:=by
 obtain⟨u,n,c,news,p,j,q⟩:=h.src;have:=Els.flat (α:=Int) za9 j;subst this;exact⟨n,c,news,p,j,q⟩
