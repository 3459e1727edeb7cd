/- What leading an operation past others and submitting it compute, in plain Lean. -/
import Derived.Test.YtocdogemgojgaaaGreatDpl
import Derived.Test.YtocdogemgojgaaaGreatTfp
import Derived.Test.YtocdogemgojgaaaGreatSeen
namespace Go.Proofs.YtocdogemgojgaaaGreat
open Go.RowKit
def tfz (a b:List DPart):List DPart×List DPart:=tf (mu a+mu b+1) a b
def transform (a b:List DPart):Option (List DPart×List DPart):=
 if opOk a=true/\opOk b=true/\opFrom a=opFrom b then
  (if opOk (normal (tfz a b).1)=true/\opOk (normal (tfz a b).2)=true then some (normal (tfz a b).1,normal (tfz a b).2)else none)
 else none
def pastStep (s:Option (List (List DPart)×List DPart))(o:List DPart):Option (List (List DPart)×List DPart):=
 s.bind fun z=>(transform o z.2).map fun y=>(z.1++[y.1],y.2)
def pastTo (l:List (List DPart))(b:List DPart):Option (List (List DPart)×List DPart):=l.foldl pastStep (some ([],opNorm b))
def past (l:List (List DPart))(b:List DPart):Option (List (List DPart)×List DPart):=if opOk b=true then pastTo l b else none
theorem foldP_none:∀(l:List (List DPart)),l.foldl pastStep none=none
 |[]=>rfl
 |_::l=>foldP_none l
theorem pastTo_snoc {l:List (List DPart)}{b:List DPart}{k:Nat}{o:List DPart}(h:l[k]? =some o):pastTo (l.take (k+1)) b=pastStep (pastTo (l.take k) b) o:=by
 unfold pastTo;rw[take_snoc h,List.foldl_append];rfl
theorem pastTo_none {l:List (List DPart)}{b:List DPart}{k:Nat}(h:pastTo (l.take k) b=none):pastTo l b=none:=by
 unfold pastTo at *;rw[<-List.take_append_drop k l,List.foldl_append,h,foldP_none]
theorem opOk_tinv {a b:List DPart}(j:opOk a=true)(hb:opOk b=true)(h:opFrom a=opFrom b):TInv a b:=
 ⟨(opOk_iff.1 j).1,(opOk_iff.1 hb).1,by rw[<-opFrom_of j,<-opFrom_of hb];exact h⟩
theorem transform_some {a b x y:List DPart}(h:transform a b=some (x,y)):opOk a=true/\opOk b=true/\opFrom a=opFrom b/\opOk x=true/\opOk y=true/\isNorm x=true/\isNorm y=true/\opFrom x=opTo b/\opFrom y=opTo a:=by
 unfold transform at h;split at h
 ·rename_i u
  obtain⟨n,hb,q⟩:=u;split at h
  ·rename_i z
   obtain⟨p,hy⟩:=z;cases h;have j:TOut (mu a+mu b+1) a b (tfz a b):=tf_ok (mu a+mu b+1) a b (opOk_tinv n hb q) (by omega)
   refine⟨n,hb,q,p,hy,normal_norm j.ax p,normal_norm j.ay hy,?_,?_⟩
   ·rw[opFrom_of p,opTo_of hb,normal_sum 2 (by decide) j.ax];exact j.fx
   ·rw[opFrom_of hy,opTo_of n,normal_sum 2 (by decide) j.ay];exact j.fy
  ·cases h
 ·cases h
theorem past_fits:∀{l:List (List DPart)} {t u:List Int} {z0 z:List (List DPart)×List DPart},textOk t=true->appTo l t=some u->l.foldl pastStep (some z0)=some z->opOk z0.2=true->isNorm z0.2=true->opFrom z0.2=t.length->
 opOk z.2=true/\isNorm z.2=true/\opFrom z.2=u.length
 |[],t,u,z0,z,_,j,n,D,I,J=>by
  cases j;cases n;exact⟨D,I,J⟩
 |o::l,t,u,z0,z,Y,j,n,D,I,J=>by
  unfold appTo at j;rw[List.foldl_cons]at j n;by_cases hy:(applyP o t).2=true
  ·have e:stepA (some t) o=some (applyP o t).1:=if_pos hy;rw[e]at j;obtain⟨R,U⟩:=applyP_text hy;cases B:transform o z0.2 with
   |none=>
    have p:pastStep (some z0) o=none:=by simp[pastStep,B]
    rw[p,foldP_none]at n;cases n
   |some q=>
    obtain⟨x,y⟩:=q;have p:pastStep (some z0) o=some (z0.1++[x],y):=by simp[pastStep,B]
    rw[p]at n;obtain⟨_,_,_,_,M,_,N,_,Q⟩:=transform_some B;exact past_fits R j n M N (by rw[Q];exact U.symm)
  ·have e:stepA (some t) o=none:=if_neg hy;rw[e,foldA_none]at j;cases j
def rebase (d:DDoc)(base:Int)(o:List DPart):List DPart×Int:=
 if docOk d=true/\opOk o=true then
  (if headRev d<base then([],2)else if base<d.from_ then([],3)else if opFrom o=(textAt d base).1.length then
   (match past (opsSince d base).1 o with
    |some z=>(z.2,0)
    |none=>([],5))else([],1))
 else([],1)
theorem headText_yes {d:DDoc}(h:docOk d=true):appTo (opsL d.list) d.text=some (headText d)/\textOk (headText d)=true:=by
 obtain⟨u,j,e,p⟩:=textAt_yes (atRev_head h);have n:revK d (headRev d)=d.list.length:=by unfold revK headRev;omega
 rw[n,List.take_of_length_le (by simp[opsL])]at j
 have:headText d=u:=by unfold headText;rw[e]
 rw[this];exact⟨j,p⟩
theorem past_head {d:DDoc}{base:Int}{o:List DPart}{z:List (List DPart)×List DPart}(q:atRev d base)(p:opOk o=true)(D:opFrom o=(textAt d base).1.length)(j:past (opsSince d base).1 o=some z):
 opOk z.2=true/\isNorm z.2=true/\opFrom z.2=(headText d).length:=by
 obtain⟨u,J,e,I⟩:=textAt_yes q;rw[opsSince_yes q]at j;unfold past at j;rw[if_pos p]at j;have n:=(headText_yes q.1).1;rw[<-List.take_append_drop (revK d base) (opsL d.list),appTo_append,J]at n;rw[e]at D;obtain⟨B,M,N,n4⟩:=opNorm_ok p;refine past_fits (z0:=([],opNorm o)) I (by rw[<-opsL_drop]at n;exact n) j B ?_ ?_
 ·exact isNorm_iff.2 ⟨B,n4⟩
 ·rw[opFrom_of B,M,<-opFrom_of p];exact D
theorem past_apply {d:DDoc}{base:Int}{o:List DPart}{z:List (List DPart)×List DPart}(j:atRev d base)(u:opOk o=true)(q:opFrom o=(textAt d base).1.length)(B:past (opsSince d base).1 o=some z):
 (applyP z.2 (headText d)).2=true:=by
 obtain⟨n,D,p⟩:=past_head j u q B;rw[applyP_yes n (headText_yes j.1).2 p]
def seenSet:List DSeen->DSeen->List DSeen
 |[],s=>[s]
 |y::l,s=>if y.client<s.client then y::seenSet l s else if y.client=s.client then s::l else s::y::l
def seenK:List DSeen->Int->Nat
 |[],_=>0
 |y::l,c=>if y.client<c then seenK l c+1 else 0
theorem seenSet_at:∀{l:List DSeen} {s y:DSeen} {k:Nat},seenK l s.client=k->l[k]? =some y->y.client=s.client->seenSet l s=l.set k s
 |[],s,y,k,_,hy,_=>by simp at hy
 |x::l,s,y,k,j,hy,p=>by
  by_cases n:x.client<s.client
  ·simp only[seenK,if_pos n]at j;subst j;simp only[List.getElem?_cons_succ]at hy;simp only[seenSet,if_pos n,List.set_cons_succ];rw[seenSet_at rfl hy p]
  ·simp only[seenK,if_neg n]at j;subst j;simp only[List.getElem?_cons_zero,Option.some.injEq]at hy;subst hy;simp[seenSet,p]
theorem seenSet_ins:∀{l:List DSeen} {s:DSeen} {k:Nat},seenK l s.client=k->(∀y,l[k]? =some y->y.client≠s.client)->seenSet l s=l.take k++s::l.drop k
 |[],s,k,j,_=>by simp[seenSet]
 |x::l,s,k,j,hy=>by
  by_cases n:x.client<s.client
  ·simp only[seenK,if_pos n]at j;subst j;simp only[seenSet,if_pos n,List.take_succ_cons,List.drop_succ_cons,List.cons_append];rw[seenSet_ins rfl fun y h=>hy y (by simpa using h)]
  ·simp only[seenK,if_neg n]at j;subst j;have:=hy x (by simp)
   simp[seenSet,n,this]
theorem seenK_le:∀(l:List DSeen) (c:Int),seenK l c<=l.length
 |[],_=>lr _
 |y::l,c=>by have:=seenK_le l c;unfold seenK;split<;>simp<;>omega
theorem seenK_lt:∀{l:List DSeen} {c:Int} {j:Nat} {y:DSeen},j<seenK l c->l[j]? =some y->y.client<c
 |[],_,_,_,n,_=>absurd n (Nat.not_lt_zero _)
 |x::l,c,j,y,n,hy=>by
  unfold seenK at n;split at n
  ·rename_i p
   cases j with
   |zero=>simp at hy;subst hy;exact p
   |succ j=>exact seenK_lt (l:=l) (j:=j) (by omega) (by simpa using hy)
  ·omega
theorem seenK_at:∀{l:List DSeen} {c:Int} {y:DSeen},l[seenK l c]? =some y->¬y.client<c
 |[],_,_,hy=>by simp[seenK]at hy
 |x::l,c,y,hy=>by
  unfold seenK at hy;split at hy
  ·exact seenK_at (by simpa using hy)
  ·rename_i j;simp at hy;subst hy;exact j
theorem seenK_eq {l:List DSeen}{c:Int}{k:Nat}(n:∀j<k,∀y,l[j]? =some y->y.client<c)(q:k<=l.length)(p:∀y,l[k]? =some y->¬y.client<c):seenK l c=k:=by
 rcases Nat.lt_trichotomy (seenK l c) k with h|h|h
 ·obtain⟨y,hy⟩:=get_some (l:=l) (k:=seenK l c) (by omega)
  exact absurd (n _ h y hy) (seenK_at hy)
 ·exact h
 ·have:=seenK_le l c;obtain⟨y,hy⟩:=get_some (l:=l) (k:=k) (by omega)
  exact absurd (seenK_lt h hy) (p y hy)
def entry1 (client seq:Int)(o:List DPart):DEntry:=⟨client,seq,o⟩
def commit (d:DDoc)(client seq:Int)(x:List DPart):DDoc:=
 if(d.list++[entry1 client seq x]).length>8 then⟨d.name,d.from_+1,(applyP ((d.list++[entry1 client seq x]).headD ⟨0,0,[]⟩).o d.text).1,(d.list++[entry1 client seq x]).drop 1,seenSet d.seen ⟨client,seq,headRev d+1⟩⟩
 else⟨d.name,d.from_,d.text,d.list++[entry1 client seq x],seenSet d.seen ⟨client,seq,headRev d+1⟩⟩
def submit (d:DDoc)(client seq base:Int)(o:List DPart):DDoc×Int×Int:=
 if docOk d=true/\within client 1 8=true/\within seq 1 1000000000=true/\opOk o=true then
  (if(seenOf d client).1.seq=seq then(d,(seenOf d client).1.rev,0)
   else if(seenOf d client).1.seq+1=seq then
    (if(rebase d base o).2=0 then(if headRev d<999999000 then(commit d client seq (rebase d base o).1,headRev d+1,0)else(doc0,0,5))else(doc0,0,(rebase d base o).2))
   else(doc0,0,4))
 else(doc0,0,1)
