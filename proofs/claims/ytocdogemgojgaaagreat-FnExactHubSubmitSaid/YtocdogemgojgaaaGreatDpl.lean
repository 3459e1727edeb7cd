/- What the program's functions on documents compute, in plain Lean. -/
import Derived.Test.YtocdogemgojgaaaGreatDcp
import Derived.Test.YtocdogemgojgaaaGreatNfs
namespace Go.Proofs.YtocdogemgojgaaaGreat
open Go.RowKit
def headRev (d:DDoc):Int:=d.from_+d.list.length
def seenI (hd:Int)(l:List DSeen)(i:Nat)(s:DSeen):Bool:=
 within s.client 1 8&&within s.seq 1 1000000000&&within s.rev 1 hd&&(match i with
  |0=>true
  |j+1=>(match l[j]? with
   |some p=>decide (p.client<s.client)
   |none=>true))
def seenOk (hd:Int)(l:List DSeen):Bool:=(List.range l.length).all fun i=>match l[i]? with
 |some s=>seenI hd l i s
 |none=>true
theorem seenOk_iff {hd:Int}{l:List DSeen}:seenOk hd l=true↔∀j y,l[j]? =some y->seenI hd l j y=true:=by
 unfold seenOk;rw[List.all_eq_true];constructor
 ·intro h j y hy;have:=h j (List.mem_range.2 (lg.1 hy).1);rw[hy]at this;exact this
 ·intro h i hi;obtain⟨x,n⟩:=get_some (List.mem_range.1 hi);rw[n];exact h i x n
theorem seenOk_no {hd:Int}{l:List DSeen}{k:Nat}{s:DSeen}(h:l[k]? =some s)(j:seenI hd l k s=false):seenOk hd l=false:=by
 rw[Bool.eq_false_iff];intro n;rw[seenOk_iff.1 n k s h]at j;cases j
theorem seenOk_yes {hd:Int}{l:List DSeen}(h:∀j<l.length,∀y,l[j]? =some y->seenI hd l j y=true):seenOk hd l=true:=
 seenOk_iff.2 fun j y hy=>h j (lg.1 hy).1 y hy
theorem seenI_zero {hd:Int}{l:List DSeen}{s:DSeen}(j:within s.client 1 8=true)(n:within s.seq 1 1000000000=true)(p:within s.rev 1 hd=true):seenI hd l 0 s=true:=by simp[seenI,j,n,p]
theorem seenI_succ {hd:Int}{l:List DSeen}{j:Nat}{s p:DSeen}(B:l[j]? =some p)(n:within s.client 1 8=true)(q:within s.seq 1 1000000000=true)(u:within s.rev 1 hd=true)(z:p.client<s.client):seenI hd l (j+1) s=true:=by
 simp[seenI,n,q,u,B,z]
theorem seenI_no1 {hd:Int}{l:List DSeen}{i:Nat}{s:DSeen}(h:within s.client 1 8=false):seenI hd l i s=false:=by simp[seenI,h]
theorem seenI_no2 {hd:Int}{l:List DSeen}{i:Nat}{s:DSeen}(h:within s.seq 1 1000000000=false):seenI hd l i s=false:=by simp[seenI,h]
theorem seenI_no3 {hd:Int}{l:List DSeen}{i:Nat}{s:DSeen}(h:within s.rev 1 hd=false):seenI hd l i s=false:=by simp[seenI,h]
theorem seenI_no4 {hd:Int}{l:List DSeen}{j:Nat}{s p:DSeen}(n:l[j]? =some p)(h:¬p.client<s.client):seenI hd l (j+1) s=false:=by simp[seenI,n,h]
theorem seen_lt {hd:Int}{l:List DSeen}(h:seenOk hd l=true):∀(n i:Nat) (x y:DSeen),l[i]? =some x->l[i+n+1]? =some y->x.client+n<y.client
 |0,i,x,y,j,hy=>by
  have:=seenOk_iff.1 h (i+1) y (by simpa using hy)
  simp[seenI,j]at this;have:=this.2;omega
 |n+1,i,x,y,j,hy=>by
  have q:=(lg.1 hy).1;obtain⟨z,p⟩:=get_some (l:=l) (k:=i+n+1) (by omega)
  have u:=seen_lt h n i x z j p;have:=seenOk_iff.1 h (i+n+1+1) y (by rw[<-hy];congr 1)
  simp[seenI,p]at this;have:=this.2;omega
theorem seen_len {hd:Int}{l:List DSeen}(h:seenOk hd l=true):l.length<=8:=by
 by_cases u:8<l.length
 ·obtain⟨x,j⟩:=get_some (l:=l) (k:=0) (by omega)
  obtain⟨y,hy⟩:=get_some (l:=l) (k:=8) (by omega)
  have q:=seen_lt h 7 0 x y j hy;have n:=seenOk_iff.1 h 0 x j;have p:=seenOk_iff.1 h 8 y hy;simp[seenI,within]at n p;omega
 ·omega
def opsL (l:List DEntry):List (List DPart):=l.map DEntry.o
def docOk (d:DDoc):Bool:=nameOk d.name&&within d.from_ 0 999999000&&textOk d.text&&decide (d.list.length<=8)&&d.list.all entryOk&&(appTo (opsL d.list) d.text).isSome&&seenOk (headRev d) d.seen
structure DocP (d:DDoc):Prop where
 name:nameOk d.name=true
 f0:0<=d.from_
 f1:d.from_<=999999000
 text:textOk d.text=true
 len:d.list.length<=8
 ents:d.list.all entryOk=true
 app:∃t,appTo (opsL d.list) d.text=some t
 seen:seenOk (headRev d) d.seen=true
theorem docOk_iff {d:DDoc}:docOk d=true↔DocP d:=by
 constructor
 ·intro h;simp only[docOk,Bool.and_eq_true,within_iff,decide_eq_true_eq,Option.isSome_iff_exists]at h;obtain⟨⟨⟨⟨⟨⟨n,j⟩,p⟩,q⟩,u⟩,z⟩,B⟩:=h;exact⟨n,j.1,j.2,p,q,u,z,B⟩
 ·intro h;simp only[docOk,Bool.and_eq_true,within_iff,decide_eq_true_eq,Option.isSome_iff_exists];exact⟨⟨⟨⟨⟨⟨h.name,h.f0,h.f1⟩,h.text⟩,h.len⟩,h.ents⟩,h.app⟩,h.seen⟩
theorem op_sz {o:List DPart}(h:opOk o=true):szL o<=1000:=by
 obtain⟨j,q,_,u⟩:=opOk_iff.1 h;have:∀{o:List DPart},o.all partOk=true->(szs o:Int)<=sumBut 3 o:=by
  intro o;induction o with
  |nil=>intro _;simp[szs,sumBut]
  |cons p o n=>
   intro h;simp only[List.all_cons,Bool.and_eq_true]at h;have i:=n h.2;have e:szs (p::o)=szL p.signs+szs o:=rfl;rw[e,szL_int];simp only[sumBut];rcases partOk_cases h.1 with⟨k,a,b,c⟩|⟨k,a,b,_⟩|⟨k,a,b,c⟩
   ·rw[k,c];simp[psize,c];omega
   ·rw[k];simp[psize,a];omega
   ·rw[k,c];simp;omega
 have:=this j;unfold szL;omega
theorem entry_op {e:DEntry}(h:entryOk e=true):opOk e.o=true/\opNorm e.o=e.o:=by
 simp only[entryOk,Bool.and_eq_true]at h;exact isNorm_iff.1 h.2
theorem ents_sz:∀{l:List DEntry},l.all entryOk=true->szL l<=1001*l.length
 |[],_=>by simp[szL,szs]
 |e::l,h=>by
  simp only[List.all_cons,Bool.and_eq_true]at h;have n:=ents_sz h.2;have:=op_sz (entry_op h.1).1;have j:szL (e::l)=1+szL e.o+szL l:=by simp only[szL,szs,List.length_cons];have:GoS.sz e=szL e.o:=rfl;unfold szL at this;omega
  rw[j,List.length_cons];omega
theorem DocP.sz {d:DDoc}(h:DocP d):szL d.list<=9000:=by have:=ents_sz h.ents;have:=h.len;omega
theorem DocP.tlen {d:DDoc}(h:DocP d):d.text.length<=200:=(textOk_iff.1 h.text).1
theorem DocP.slen {d:DDoc}(h:DocP d):d.seen.length<=8:=seen_len h.seen
theorem appTo_text {l:List (List DPart)}{t u:List Int}(j:textOk t=true)(h:appTo l t=some u):textOk u=true:=by
 induction l generalizing t with
 |nil=>cases h;exact j
 |cons o l n=>
  unfold appTo at h;rw[List.foldl_cons]at h;by_cases hy:(applyP o t).2=true
  ·have e:stepA (some t) o=some (applyP o t).1:=if_pos hy;rw[e]at h;exact n (applyP_text hy).1 h
  ·have e:stepA (some t) o=none:=if_neg hy;rw[e,foldA_none]at h;cases h
theorem appTo_append (l m:List (List DPart))(t:List Int):appTo (l++m) t=(appTo l t).bind (appTo m):=by
 unfold appTo;rw[List.foldl_append];cases l.foldl stepA (some t)with
 |none=>exact foldA_none m
 |some u=>rfl
theorem appTo_take {l:List (List DPart)}{t u:List Int}(h:appTo l t=some u)(k:Nat):∃v,appTo (l.take k) t=some v/\appTo (l.drop k) v=some u:=by
 rw[<-List.take_append_drop k l,appTo_append]at h;cases j:appTo (l.take k) t with
 |none=>rw[j]at h;cases h
 |some v=>rw[j]at h;exact⟨v,rfl,h⟩
theorem opsL_take (l:List DEntry)(k:Nat):opsL (l.take k)=(opsL l).take k:=by simp[opsL]
theorem opsL_drop (l:List DEntry)(k:Nat):opsL (l.drop k)=(opsL l).drop k:=by simp[opsL]
theorem opsL_get {l:List DEntry}{k:Nat}{e:DEntry}(h:l[k]? =some e):(opsL l)[k]? =some e.o:=by simp[opsL,h]
def revK (d:DDoc)(rev:Int):Nat:=(rev-d.from_).toNat
def atRev (d:DDoc)(rev:Int):Prop:=docOk d=true/\d.from_<=rev/\rev<=headRev d
instance (d:DDoc)(rev:Int):Decidable (atRev d rev):=inferInstanceAs (Decidable (_/\_/\_))
def textAt (d:DDoc)(rev:Int):List Int×Bool:=if atRev d rev then((appTo ((opsL d.list).take (revK d rev)) d.text).getD [],true)else([],false)
def headText (d:DDoc):List Int:=(textAt d (headRev d)).1
def opsSince (d:DDoc)(rev:Int):List (List DPart)×Bool:=if atRev d rev then(opsL (d.list.drop (revK d rev)),true)else([],false)
def atBase (d:DDoc)(rev:Int):Int:=if headRev d<rev then 2 else if rev<d.from_ then 3 else 0
def doc0:DDoc:=⟨⟨#[]⟩,0,[],[],[]⟩
theorem atRev_k {d:DDoc}{rev:Int}(h:atRev d rev):revK d rev<=d.list.length/\rev=d.from_+revK d rev:=by
 unfold atRev headRev at h;unfold revK;omega
theorem textAt_no {d:DDoc}{rev:Int}(h:¬atRev d rev):textAt d rev=([],false):=if_neg h
theorem textAt_yes {d:DDoc}{rev:Int}(h:atRev d rev):∃u,appTo ((opsL d.list).take (revK d rev)) d.text=some u/\textAt d rev=(u,true)/\textOk u=true:=by
 have n:=docOk_iff.1 h.1;obtain⟨t,p⟩:=n.app;obtain⟨u,j,_⟩:=appTo_take p (revK d rev);exact⟨u,j,by unfold textAt;rw[if_pos h,j];rfl,appTo_text n.text j⟩
theorem opsSince_no {d:DDoc}{rev:Int}(h:¬atRev d rev):opsSince d rev=([],false):=if_neg h
theorem opsSince_yes {d:DDoc}{rev:Int}(h:atRev d rev):opsSince d rev=(opsL (d.list.drop (revK d rev)),true):=if_pos h
theorem headRev_bd {d:DDoc}(h:docOk d=true):0<=headRev d/\headRev d<=999999008/\0<=d.from_/\d.from_<=999999000:=by
 have j:=docOk_iff.1 h;have:=j.f0;have:=j.f1;have:=j.len;unfold headRev;omega
theorem atRev_head {d:DDoc}(h:docOk d=true):atRev d (headRev d):=⟨h,by unfold headRev;omega,Int.le_refl _⟩
