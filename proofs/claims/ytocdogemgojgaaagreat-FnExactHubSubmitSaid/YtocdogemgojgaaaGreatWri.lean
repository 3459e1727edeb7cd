/- Writers: who has put each sign, when an operation has been applied. -/
import Derived.Test.YtocdogemgojgaaaGreatRo
import Derived.Test.YtocdogemgojgaaaGreatPr
import Derived.Deep.QuietTactic
import Derived.BigQuiet
namespace Go.Proofs.YtocdogemgojgaaaGreat
open Go.RowKit
def appStep (sub:DPart->List Int)(t:List Int)(s:Nat×List Int)(p:DPart):Nat×List Int:=
 if p.kind=1 then(s.1+p.n.toNat,s.2++(t.take (s.1+p.n.toNat)).drop s.1)else if p.kind=3 then(s.1+p.n.toNat,s.2)else(s.1,s.2++sub p)
def appFold (sub:DPart->List Int)(t:List Int)(o:List DPart):Nat×List Int:=o.foldl (appStep sub t) (0,[])
theorem appFold_snoc {sub:DPart->List Int}{t:List Int}{o:List DPart}{k:Nat}{p:DPart}(h:o[k]? =some p):appFold sub t (o.take (k+1))=appStep sub t (appFold sub t (o.take k)) p:=by
 unfold appFold;rw[take_snoc h,List.foldl_append];rfl
theorem appFold_at (sub:DPart->List Int)(t:List Int){o:List DPart}(j:o.all partOk=true):∀k,k<=o.length->((appFold sub t (o.take k)).1:Int)=sumBut 2 (o.take k)
 |0,_=>by simp[appFold,sumBut]
 |k+1,D=>by
  obtain⟨x,q⟩:=get_some (l:=o) (k:=k) (by omega)
  have B:=appFold_at sub t j k (by omega)
  rw[appFold_snoc q,sumBut_snoc 2 q,<-B];rcases partOk_cases (all_at j q)with⟨n,u,z,p⟩|⟨n,u,z,_⟩|⟨n,u,z,p⟩
  ·simp[appStep,n,psize,p];omega
  ·simp[appStep,n]
  ·simp[appStep,n,psize,p];omega
theorem appFold_len (sub:DPart->List Int)(t:List Int){o:List DPart}(n:∀p,partOk p=true->p.kind=2->(sub p).length=p.signs.length)(j:o.all partOk=true)(q:sumBut 2 o=t.length):∀k,k<=o.length->((appFold sub t (o.take k)).2.length:Int)=sumBut 3 (o.take k)
 |0,_=>by simp[appFold,sumBut]
 |k+1,M=>by
  obtain⟨x,B⟩:=get_some (l:=o) (k:=k) (by omega)
  have Q:=appFold_len sub t n j q k (by omega)
  have R:=appFold_at sub t j k (by omega)
  have z:=appFold_at sub t j (k+1) M;have N:sumBut 2 (o.take (k+1))<=sumBut 2 o:=by
   have:=sumBut_append 2 (o.take (k+1)) (o.drop (k+1));rw[List.take_append_drop]at this;have:=sumBut_bd 2 (o.drop (k+1)) (all_drop j _);omega
  rw[appFold_snoc B]at z⊢;rw[sumBut_snoc 3 B,<-Q];rcases partOk_cases (all_at j B)with⟨u,D,I,J⟩|⟨u,D,I,_⟩|⟨u,D,I,J⟩
  ·simp only[appStep,u,if_true]at z;simp[appStep,u,psize,J];omega
  ·have:=n x (all_at j B) u;simp[appStep,u,psize,D,this]
  ·simp[appStep,u]
theorem sumBut_mono {o:List DPart}(j:o.all partOk=true)(b:Int)(k:Nat):sumBut b (o.take k)<=sumBut b o:=by
 have:=sumBut_append b (o.take k) (o.drop k);rw[List.take_append_drop]at this;have:=sumBut_bd b (o.drop k) (all_drop j _);omega
theorem opOk_iff {o:List DPart}:opOk o=true↔o.all partOk=true/\o.length<=600/\sumBut 2 o<=200/\sumBut 3 o<=200:=by
 unfold opOk opFrom opTo sizeBut;constructor
 ·intro h;simp only[Bool.and_eq_true,decide_eq_true_eq]at h;obtain⟨⟨j,n⟩,p⟩:=h;rw[if_pos j]at n p;obtain⟨q,z⟩:=partsOk_iff.1 j;exact⟨q,z,n,p⟩
 ·rintro⟨j,n,p,q⟩;have u:=partsOk_iff.2 ⟨j,n⟩;simp only[Bool.and_eq_true,decide_eq_true_eq];rw[if_pos u,if_pos u];exact⟨⟨u,p⟩,q⟩
theorem opFrom_of {o:List DPart}(h:opOk o=true):opFrom o=sumBut 2 o:=by
 obtain⟨j,n,_⟩:=opOk_iff.1 h;unfold opFrom sizeBut;rw[if_pos (partsOk_iff.2 ⟨j,n⟩)]
theorem opTo_of {o:List DPart}(h:opOk o=true):opTo o=sumBut 3 o:=by
 obtain⟨j,n,_⟩:=opOk_iff.1 h;unfold opTo sizeBut;rw[if_pos (partsOk_iff.2 ⟨j,n⟩)]
theorem info_int1:(Tryz.prog.info? 3).map (fun i=>(i.zero,i.size,i.bytes))=some (some (.int .i64 0),1,8):=by kernel_rfl
theorem rdInt_fp {M:Nat}{w:World}{c:List Value}{x:Int}{f:List Pos}(h:GoT.rd M w c x f):f=[]:=h.2
theorem app_fits (sub:DPart->List Int){t:List Int}{o:List DPart}{k:Nat}{p:DPart}(j:o.all partOk=true)(J:sumBut 2 o=t.length)(B:o[k]? =some p)(_hk:p.kind=1\/p.kind=3):
 (appFold sub t (o.take k)).1+p.n.toNat<=t.length:=by
 have M:=(lg.1 B).1;have N:=appFold_at sub t j k (by omega)
 have z:=sumBut_mono j 2 (k+1);rw[sumBut_snoc 2 B]at z;rcases partOk_cases (all_at j B)with⟨q,D,I,u⟩|⟨q,D,I,_⟩|⟨q,D,I,u⟩
 ·simp[q,psize,u]at z;omega
 ·omega
 ·simp[q,psize,u]at z;omega
theorem app_small (sub:DPart->List Int){t:List Int}{o:List DPart}(n:∀p,partOk p=true->p.kind=2->(sub p).length=p.signs.length)(j:o.all partOk=true)(q:sumBut 2 o=t.length)(z:sumBut 3 o<=200)(k:Nat)(u:k<=o.length):
 (appFold sub t (o.take k)).2.length<=200:=by
 have:=appFold_len sub t n j q k u;have:=sumBut_mono j 3 k;omega
theorem Row.ints {B:Nat}{w:World}{v:Value}{l:List Int}{fs:List Pos}(h:Row B w v l fs):fs=[]/\OwnS B w v l:=by
 have:fs=[]:=by
  have:=Sl.flat (α:=Int) rdInt_fp h.1;exact List.append_right_eq_self.1 this
 subst this;exact⟨rfl,h.owns (Fresh.nil _ _)⟩
theorem OwnS.ints {B:Nat}{w:World}{v:Value}{l:List Int}(h:OwnS B w v l):Row B w v l []:=by
 obtain⟨fs,h,_⟩:=h.row;obtain⟨rfl,_⟩:=h.ints;exact h
theorem Src.ints {w:World}{v:Value}{l:List Int}(h:RdS w v l):Src w v l []:=by
 obtain⟨u,n,c,news,p,j,q⟩:=h.src;have:=Els.flat (α:=Int) rdInt_fp j;subst this;exact⟨n,c,news,p,j,q⟩
