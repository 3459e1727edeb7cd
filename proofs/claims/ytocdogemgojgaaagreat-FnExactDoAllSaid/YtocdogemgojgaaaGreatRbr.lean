/- What is seen of a client, laid anew by a walk through the list: plain Lean. -/
import Derived.Test.YtocdogemgojgaaaGreatRbk
namespace Go.Proofs.YtocdogemgojgaaaGreat
open Go.RowKit
def Xaq (s:Zab)(a:List Zab×Bool)(y:Zab):List Zab×Bool:=
 if y.client=s.client then a else if a.2=false/\s.client<y.client then(a.1++[s]++[y],true)else(a.1++[y],a.2)
def Ja6 (s:Zab)(a:List Zab×Bool):List Zab:=if a.2=false then a.1++[s]else a.1
def Qa3 (l:List Zab)(s:Zab)(k:Nat):List Zab×Bool:=(l.take k).foldl (Xaq s) ([],false)
theorem Za0 {l:List Zab}{s y:Zab}{k:Nat}(h:l[k]? =some y):Qa3 l s (k+1)=Xaq s (Qa3 l s k) y:=by
 unfold Qa3;rw[kag h,List.foldl_append];rfl
def zbn:List Zab->Prop
 |[]=>True
 |x::l=>(∀y∈l,x.client<y.client)/\zbn l
theorem Xbe (s:Zab):∀(l:List Zab) (j:List Zab),(∀y∈l,s.client<y.client)->l.foldl (Xaq s) (j,true)=(j++l,true)
 |[],j,_=>by simp
 |y::l,j,h=>by
  have p:=h y sm;have e:Xaq s (j,true) y=(j++[y],true):=by unfold Xaq;rw[if_neg om,if_neg sm]
  rw[List.foldl_cons,e,Xbe s l _ fun z n=>h z (by simp[n])]
  simp
theorem uaY {s:Zab}:∀{l:List Zab},(∀y∈l,s.client<y.client)->vaa l s=s::l
 |[],_=>rfl
 |y::l,h=>by
  have:=h y sm;unfold vaa;rw[if_neg om,if_neg om]
theorem Ka9 (s:Zab):∀(l:List Zab) (j:List Zab),(∀y∈l,s.client<y.client)->Ja6 s (l.foldl (Xaq s) (j,false))=j++s::l
 |[],j,_=>by simp[Ja6]
 |y::l,j,h=>by
  have n:=h y sm;have e:Xaq s (j,false) y=(j++[s]++[y],true):=by unfold Xaq;rw[if_neg om,if_pos ⟨rfl,n⟩]
  rw[List.foldl_cons,e,Xbe s l _ fun z p=>h z (by simp[p])]
  simp[Ja6]
theorem ybl (s:Zab):∀(l:List Zab) (j:List Zab),zbn l->Ja6 s (l.foldl (Xaq s) (j,false))=j++vaa l s
 |[],j,_=>by simp[Ja6,vaa]
 |y::l,j,h=>by
  by_cases u:y.client<s.client
  ·have e:Xaq s (j,false) y=(j++[y],false):=by unfold Xaq;rw[if_neg om,if_neg (by simp;omega)]
   have q:vaa (y::l) s=y::vaa l s:=by rw[vaa,if_pos u]
   rw[List.foldl_cons,e,ybl s l _ h.2,q];simp
  ·by_cases B:y.client=s.client
   ·have e:Xaq s (j,false) y=(j,false):=by unfold Xaq;rw[if_pos B]
    have q:vaa (y::l) s=s::l:=by rw[vaa,if_neg u,if_pos B]
    rw[List.foldl_cons,e,Ka9 s l _ fun z p=>by have:=h.1 z p;omega,q]
   ·have n:∀z∈y::l,s.client<z.client:=fun z p=>by
     rcases List.mem_cons.1 p with rfl|p
     ·omega
     ·have:=h.1 z p;omega
    rw[Ka9 s (y::l) j n,uaY n]
theorem Xbg:∀{l:List Zab},(∀j a b,l[j]? =some a->l[j+1]? =some b->a.client<b.client)->zbn l
 |[],_=>trivial
 |x::l,h=>by
  have n:zbn l:=Xbg fun j a b q hb=>h (j+1) a b (by simpa using q) (by simpa using hb)
  refine⟨fun y hy=> ?_,n⟩
  cases l with
  |nil=>cases hy
  |cons z l=>
   have p:=h 0 x z rfl rfl;rcases List.mem_cons.1 hy with rfl|hy
   ·exact p
   ·have:=n.1 y hy;omega
theorem Za4 {hd:Int}{l:List Zab}(h:yat hd l=true):zbn l:=Xbg fun j a b p hb=>by
 have n:=zak.1 h (j+1) b hb;simp only[Kao,p,Bool.and_eq_true,decide_eq_true_eq]at n;exact n.2
theorem vbb {hd:Int}{l:List Zab}(h:yat hd l=true)(s:Zab):Ja6 s (Qa3 l s l.length)=vaa l s:=by
 unfold Qa3;rw[List.take_length,ybl s l [] (Za4 h),List.nil_append]
theorem JaV (l:List Zab)(s:Zab):∀k,k<=l.length->(Qa3 l s k).1.length<=2*k
 |0,_=>by simp[Qa3]
 |k+1,j=>by
  obtain⟨y,hy⟩:=jaa (l:=l) (k:=k) om;have n:=JaV l s k om;rw[Za0 hy];unfold Xaq;split
  ·omega
  ·split<;>simp<;>omega
end Go.Proofs.YtocdogemgojgaaaGreat
namespace Go.Proofs.YtocdogemgojgaaaGreat
open Go.RowKit
theorem ZaO (w:World)(s:Zab):GoT.rd BIG w [s.client,s.seq,s.rev] s []:=⟨rfl,rfl⟩
theorem xaT {M:Nat}{w:World}{c:List Value}{x:Zab}{f:List Pos}(h:GoT.rd M w c x f):f=[]:=h.2
theorem xal {w0 j:World}{n m:Int}(hb:Below w0 w0 j):Xas w0 ZaY n m (.returned (.tuple #[.agg #[.string ⟨#[]⟩,zI,zN,zN,zN],n,m])) j:=
 ⟨_,_,_,[],[],[],rfl,Sl.nil,Sl.nil,Sl.nil,by decide,uaa.nil _ _,hb⟩
section
variable {d:Jac} {client seq base:Int} {o:List zaa}
theorem kaq (h:¬(zae d=true/\within client 1 8=true/\within seq 1 1000000000=true/\Qag o=true)):Xae d client seq base o=(ZaY,0,1):=if_neg h
variable (h:zae d=true/\within client 1 8=true/\within seq 1 1000000000=true/\Qag o=true)
include h
theorem yaP (j:(xac d client).1.seq=seq):Xae d client seq base o=(d,(xac d client).1.rev,0):=by unfold Xae;rw[if_pos h,if_pos j]
theorem XaS (j:¬(xac d client).1.seq=seq)(n:¬(xac d client).1.seq+1=seq):Xae d client seq base o=(ZaY,0,4):=by unfold Xae;rw[if_pos h,if_neg j,if_neg n]
theorem jaO (j:¬(xac d client).1.seq=seq)(n:(xac d client).1.seq+1=seq)(p:¬(Jaa d base o).2=0):Xae d client seq base o=(ZaY,0,(Jaa d base o).2):=by unfold Xae;rw[if_pos h,if_neg j,if_pos n,if_neg p]
theorem KaH (j:¬(xac d client).1.seq=seq)(n:(xac d client).1.seq+1=seq)(p:(Jaa d base o).2=0)(q:¬yaa d<999999000):Xae d client seq base o=(ZaY,0,5):=by unfold Xae;rw[if_pos h,if_neg j,if_pos n,if_pos p,if_neg q]
theorem qaT (j:¬(xac d client).1.seq=seq)(n:(xac d client).1.seq+1=seq)(p:(Jaa d base o).2=0)(q:yaa d<999999000):Xae d client seq base o=(yag d client seq (Jaa d base o).1,yaa d+1,0):=by unfold Xae;rw[if_pos h,if_neg j,if_pos n,if_pos p,if_pos q]
end
theorem ja0 {d:Jac}(h:zae d=true)(client:Int):0<=(xac d client).1.seq/\(xac d client).1.seq<=1000000000/\((xac d client).2=false->(xac d client).1.seq=0):=by
 unfold xac;rcases hf:d.seen.find? (fun s=>decide (s.client=client))with _|s
 ·rw[hf];exact⟨Int.le_refl _,by show(0:Int)<=1000000000;decide,fun _=>rfl⟩
 ·have p:=List.mem_of_find?_eq_some hf;obtain⟨k,n⟩:=List.getElem?_of_mem p;have j:=zak.1 (Xaf.1 h).seen k s n;unfold Kao at j;simp only[Bool.and_eq_true]at j;have:=within_iff.1 j.1.1.2;rw[hf];exact⟨by show 0<=s.seq;omega,by show s.seq<=1000000000;omega,fun h=>by cases h⟩
theorem za1 {d:Jac}(h:zae d=true):d.text.length<=4000000/\szL d.list<=4000000/\d.seen.length<=4000000:=⟨by have:=(Xaf.1 h).tlen;omega,by have:=(Xaf.1 h).sz;omega,by have:=(Xaf.1 h).slen;omega⟩
theorem xaO (s:Zab):∀l:List Zab,jab (vaa l s)<=jab l+GoM.cnt s
 |[]=>by simp[vaa,jab]
 |y::l=>by
  have j:=xaO s l;unfold vaa;split
  ·simp only[jab];omega
  ·split
   ·simp only[jab];omega
   ·simp only[jab];omega
theorem jbc (d:Jac)(client seq:Int)(x:List zaa)(z:Qag x=true):jab (yag d client seq x).text+(jab (yag d client seq x).list+jab (yag d client seq x).seen)<=5*(200+szL d.text+szL d.list+szL d.seen)+603100:=by
 have J:=zag d.text;have M:=zag d.list;have N:=zag d.seen;have n:=Jae.1 z;have Y:=jaF n.1;have R:=zag [zab client seq x];have D:szL [zab client seq x]=1+GoS.sz (zab client seq x):=by simp[szL,szs]
 have I:GoS.sz (zab client seq x)=szL x:=rfl;have Q:=Jai d.list [zab client seq x];have U:=xaO ⟨client,seq,yaa d+1⟩ d.seen;have p:GoM.cnt (⟨client,seq,yaa d+1⟩:Zab)<=5:=by
  have h:=zag [(⟨client,seq,yaa d+1⟩:Zab)];have e:jab [(⟨client,seq,yaa d+1⟩:Zab)]=GoM.cnt (⟨client,seq,yaa d+1⟩:Zab):=by simp[jab]
  have B:szL [(⟨client,seq,yaa d+1⟩:Zab)]=1:=rfl;omega
 have q:=zag (yab ((d.list++[zab client seq x]).headD ⟨0,0,[]⟩).o d.text).1;have u:=uba ((d.list++[zab client seq x]).headD ⟨0,0,[]⟩).o d.text;rw[qaw]at q;have j:=Jai ((d.list++[zab client seq x]).take 1) ((d.list++[zab client seq x]).drop 1);rw[List.take_append_drop]at j;unfold yag;split<;>simp only<;>omega
theorem kbb (d:Jac)(client seq base:Int)(o:List zaa):jab (Xae d client seq base o).1.text+(jab (Xae d client seq base o).1.list+jab (Xae d client seq base o).1.seen)<=5*(200+szL d.text+szL d.list+szL d.seen)+603100:=by
 have n:=zag d.text;have p:=zag d.list;have q:=zag d.seen;have hd:jab ZaY.text+(jab ZaY.list+jab ZaY.seen)=0:=by simp[ZaY,jab]
 unfold Xae;split
 ·split
  ·simp only;omega
  ·split
   ·split
    ·rename_i j
     split
     ·exact jbc d client seq _ (uav j).1
     ·simp only;omega
    ·simp only;omega
   ·simp only;omega
 ·simp only;omega
