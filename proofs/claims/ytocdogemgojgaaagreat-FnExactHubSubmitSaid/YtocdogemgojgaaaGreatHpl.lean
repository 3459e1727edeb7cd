/- What the program's functions on hubs compute, in plain Lean. -/
import Derived.Test.YtocdogemgojgaaaGreatDpl
import Derived.Test.YtocdogemgojgaaaGreatRnw
import Derived.Test.YtocdogemgojgaaaGreatHub1
namespace Go.Proofs.YtocdogemgojgaaaGreat
open Go.RowKit
def allI {α:Type}(p:Nat->α->Bool)(l:List α):Bool:=(List.range l.length).all fun i=>match l[i]? with
 |some s=>p i s
 |none=>true
def slt (a b:ByteArray):Bool:=Op.bytesLess a.toList b.toList
def hdI (l:List DDoc)(i:Nat)(d:DDoc):Bool:=docOk d&&(match i with
 |0=>true
 |j+1=>(match l[j]? with
  |some p=>slt p.name d.name
  |none=>true))
def hdOk (l:List DDoc):Bool:=allI (hdI l) l
def atHead (r:DRing)(d:Option DDoc):Bool:=r.out||(match d with
 |some d=>decide (r.next+r.list.length=headRev d+1)
 |none=>false)
def hsI (h:DHub)(i:Nat)(s:DSub):Bool:=within s.id 1 h.last&&ringOk s.r&&decide (0<=hubDoc h s.doc)&&(match i with
 |0=>true
 |j+1=>(match h.subs[j]? with
  |some p=>decide (p.id<s.id)
  |none=>true))&&atHead s.r h.docs[(hubDoc h s.doc).toNat]?
def hsOk (h:DHub):Bool:=allI (hsI h) h.subs
def hubOk (h:DHub):Bool:=decide (h.docs.length<=5)&&decide (h.subs.length<=6)&&within h.last 0 1000000000&&hdOk h.docs&&hsOk h
theorem allI_iff {α:Type}{p:Nat->α->Bool}{l:List α}:allI p l=true↔∀j y,l[j]? =some y->p j y=true:=by
 unfold allI;rw[List.all_eq_true];constructor
 ·intro h j y hy;have:=h j (List.mem_range.2 (lg.1 hy).1);rw[hy]at this;exact this
 ·intro h i hi;obtain⟨x,n⟩:=get_some (List.mem_range.1 hi);rw[n];exact h i x n
theorem hdOk_iff {l:List DDoc}:hdOk l=true↔∀j y,l[j]? =some y->hdI l j y=true:=allI_iff
theorem hsOk_iff {h:DHub}:hsOk h=true↔∀j y,h.subs[j]? =some y->hsI h j y=true:=allI_iff
theorem hubOk_docs {h:DHub}(e:¬h.docs.length<=5):hubOk h=false:=by simp[hubOk,e]
theorem hubOk_subs {h:DHub}(e:¬h.subs.length<=6):hubOk h=false:=by simp[hubOk,e]
theorem hubOk_last {h:DHub}(e:within h.last 0 1000000000=false):hubOk h=false:=by simp[hubOk,e]
theorem hubOk_hd {h:DHub}{k:Nat}{d:DDoc}(n:h.docs[k]? =some d)(e:hdI h.docs k d=false):hubOk h=false:=by
 have:hdOk h.docs=false:=by
  rw[Bool.eq_false_iff];intro j;rw[hdOk_iff.1 j k d n]at e;cases e
 simp[hubOk,this]
theorem hubOk_hs {h:DHub}{k:Nat}{s:DSub}(n:h.subs[k]? =some s)(e:hsI h k s=false):hubOk h=false:=by
 have:hsOk h=false:=by
  rw[Bool.eq_false_iff];intro j;rw[hsOk_iff.1 j k s n]at e;cases e
 simp[hubOk,this]
theorem hubOk_yes {h:DHub}(n:h.docs.length<=5)(p:h.subs.length<=6)(q:within h.last 0 1000000000=true)(u:∀j<h.docs.length,∀y,h.docs[j]? =some y->hdI h.docs j y=true)(z:∀j<h.subs.length,∀y,h.subs[j]? =some y->hsI h j y=true):hubOk h=true:=by
 have a:hdOk h.docs=true:=hdOk_iff.2 fun j y hy=>u j (lg.1 hy).1 y hy
 have b:hsOk h=true:=hsOk_iff.2 fun j y hy=>z j (lg.1 hy).1 y hy
 simp[hubOk,n,p,q,a,b]
theorem hdI_no1 {l:List DDoc}{i:Nat}{d:DDoc}(h:docOk d=false):hdI l i d=false:=by simp[hdI,h]
theorem hdI_no2 {l:List DDoc}{j:Nat}{d p:DDoc}(n:l[j]? =some p)(h:slt p.name d.name=false):hdI l (j+1) d=false:=by simp[hdI,n,h]
theorem hdI_zero {l:List DDoc}{d:DDoc}(h:docOk d=true):hdI l 0 d=true:=by simp[hdI,h]
theorem hdI_succ {l:List DDoc}{j:Nat}{d p:DDoc}(q:l[j]? =some p)(h:docOk d=true)(n:slt p.name d.name=true):hdI l (j+1) d=true:=by simp[hdI,q,h,n]
theorem hsI_no1 {h:DHub}{i:Nat}{s:DSub}(e:within s.id 1 h.last=false):hsI h i s=false:=by simp[hsI,e]
theorem hsI_no2 {h:DHub}{i:Nat}{s:DSub}(e:ringOk s.r=false):hsI h i s=false:=by simp[hsI,e]
theorem hsI_no3 {h:DHub}{i:Nat}{s:DSub}(e:hubDoc h s.doc<0):hsI h i s=false:=by simp[hsI];omega
theorem hsI_no4 {h:DHub}{j:Nat}{s p:DSub}(n:h.subs[j]? =some p)(e:¬p.id<s.id):hsI h (j+1) s=false:=by
 have:decide (p.id<s.id)=false:=by simpa using e
 simp only[hsI,n,this];simp
theorem hsI_no5 {h:DHub}{i:Nat}{s:DSub}{d:DDoc}{k:Nat}(j:hubDoc h s.doc=k)(hd:h.docs[k]? =some d)(n:s.r.out=false)(e:¬s.r.next+s.r.list.length=headRev d+1):hsI h i s=false:=by
 have:atHead s.r h.docs[(hubDoc h s.doc).toNat]? =false:=by rw[j,Int.toNat_natCast,hd];simp[atHead,n,e]
 simp[hsI,this]
theorem hsI_yes {h:DHub}{i:Nat}{s:DSub}{d:DDoc}{k:Nat}(n:within s.id 1 h.last=true)(q:ringOk s.r=true)(D:hubDoc h s.doc=k)(hd:h.docs[k]? =some d)(z:∀j p,i=j+1->h.subs[j]? =some p->p.id<s.id)(B:s.r.out=true\/s.r.next+s.r.list.length=headRev d+1):hsI h i s=true:=by
 have a:atHead s.r h.docs[(hubDoc h s.doc).toNat]? =true:=by
  rw[D,Int.toNat_natCast,hd];rcases B with h|h
  ·simp[atHead,h]
  ·simp[atHead,h]
 have b:(0:Int)<=hubDoc h s.doc:=by omega
 cases i with
 |zero=>simp[hsI,n,q,a,b]
 |succ j=>
  cases u:h.subs[j]? with
  |none=>simp[hsI,n,q,a,b,u]
  |some p=>simp[hsI,n,q,a,b,u,z j p rfl u]
structure HubP (h:DHub):Prop where
 nd:h.docs.length<=5
 ns:h.subs.length<=6
 l0:0<=h.last
 l1:h.last<=1000000000
 docs:∀j y,h.docs[j]? =some y->hdI h.docs j y=true
 subs:∀j y,h.subs[j]? =some y->hsI h j y=true
theorem hubOk_iff {h:DHub}:hubOk h=true↔HubP h:=by
 constructor
 ·intro e;simp only[hubOk,Bool.and_eq_true,decide_eq_true_eq]at e;obtain⟨⟨⟨⟨n,p⟩,q⟩,u⟩,z⟩:=e;have:=within_iff.1 q;exact⟨n,p,this.1,this.2,hdOk_iff.1 u,hsOk_iff.1 z⟩
 ·intro e;exact hubOk_yes e.nd e.ns (within_iff.2 ⟨e.l0,e.l1⟩) (fun j _ y=>e.docs j y) (fun j _ y=>e.subs j y)
theorem HubP.doc {h:DHub}(e:HubP h){d:DDoc}(p:d∈h.docs):docOk d=true:=by
 obtain⟨j,n⟩:=List.getElem?_of_mem p;have:=e.docs j d n;simp only[hdI,Bool.and_eq_true]at this;exact this.1
theorem HubP.ring {h:DHub}(e:HubP h){s:DSub}(p:s∈h.subs):ringOk s.r=true:=by
 obtain⟨j,n⟩:=List.getElem?_of_mem p;have:=e.subs j s n;simp only[hsI,Bool.and_eq_true]at this;exact this.1.1.1.2
theorem HubP.at {h:DHub}(e:HubP h){s:DSub}(q:s∈h.subs):∃(k:Nat) (d:DDoc),hubDoc h s.doc=k/\h.docs[k]? =some d:=by
 obtain⟨j,p⟩:=List.getElem?_of_mem q;have:=e.subs j s p;simp only[hsI,Bool.and_eq_true,decide_eq_true_eq]at this;have u:=this.1.1.2;have z:=(firstIdx_lt (fun d:DDoc=>decide (d.name=s.doc)) h.docs).2
 have n:(hubDoc h s.doc).toNat<h.docs.length:=by unfold hubDoc at *;omega
 obtain⟨d,hd⟩:=get_some n;exact⟨_,d,by omega,hd⟩
theorem hubDoc_get {h:DHub}{s:ByteArray}(n:¬hubDoc h s<0):∃(k:Nat) (d:DDoc),hubDoc h s=k/\h.docs[k]? =some d:=by
 have p:=(firstIdx_lt (fun d:DDoc=>decide (d.name=s)) h.docs).2
 have j:(hubDoc h s).toNat<h.docs.length:=by unfold hubDoc at *;omega
 obtain⟨d,hd⟩:=get_some j;exact⟨_,d,by omega,hd⟩
theorem doc_sizes {d:DDoc}(h:docOk d=true):d.text.length<=4000000/\szL d.list<=4000000/\d.seen.length<=4000000:=by
 have j:=docOk_iff.1 h;have:=j.tlen;have:=j.sz;have:=j.slen;omega
theorem ringOk_sz {r:DRing}(h:ringOk r=true):szL r.list<=4000000/\r.list.length<=6:=by
 simp only[ringOk,ringHead,Bool.and_eq_true,decide_eq_true_eq]at h;obtain⟨⟨⟨⟨j,_⟩,p⟩,_⟩,n⟩:=h;have:=ents_sz n;have:=within_iff.1 j;omega
def hub0:DHub:=⟨false,[],[],0⟩
