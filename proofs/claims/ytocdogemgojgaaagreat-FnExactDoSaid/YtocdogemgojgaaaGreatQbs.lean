/- What is seen of a client, laid anew by a walk through the list: plain Lean. -/
import Derived.Test.YtocdogemgojgaaaGreatQbl
namespace Go.Proofs.YtocdogemgojgaaaGreat
open Go.RowKit
def qap (s:Jab)(a:List Jab×Bool)(y:Jab):List Jab×Bool:=
 if y.client=s.client then a else if a.2=false/\s.client<y.client then(a.1++[s]++[y],true)else(a.1++[y],a.2)
def ka2 (s:Jab)(a:List Jab×Bool):List Jab:=if a.2=false then a.1++[s]else a.1
def Za1 (l:List Jab)(s:Jab)(k:Nat):List Jab×Bool:=(l.take k).foldl (qap s) ([],false)
theorem vaZ {l:List Jab}{s y:Jab}{k:Nat}(h:l[k]? =some y):Za1 l s (k+1)=qap s (Za1 l s k) y:=by
 unfold Za1;rw[zag h,List.foldl_append];rfl
def Qbj:List Jab->Prop
 |[]=>True
 |x::l=>(∀y∈l,x.client<y.client)/\Qbj l
theorem ube (s:Jab):∀(l:List Jab) (j:List Jab),(∀y∈l,s.client<y.client)->l.foldl (qap s) (j,true)=(j++l,true)
 |[],j,_=>by simp
 |y::l,j,h=>by
  have p:=h y (by simp)
  have e:qap s (j,true) y=(j++[y],true):=by unfold qap;rw[if_neg (by omega),if_neg (by simp)]
  rw[List.foldl_cons,e,ube s l _ fun z n=>h z (by simp[n])]
  simp
theorem yaV {s:Jab}:∀{l:List Jab},(∀y∈l,s.client<y.client)->vaa l s=s::l
 |[],_=>rfl
 |y::l,h=>by
  have:=h y (by simp)
  unfold vaa;rw[if_neg (by omega),if_neg (by omega)]
theorem Qa7 (s:Jab):∀(l:List Jab) (j:List Jab),(∀y∈l,s.client<y.client)->ka2 s (l.foldl (qap s) (j,false))=j++s::l
 |[],j,_=>by simp[ka2]
 |y::l,j,h=>by
  have n:=h y (by simp)
  have e:qap s (j,false) y=(j++[s]++[y],true):=by unfold qap;rw[if_neg (by omega),if_pos ⟨rfl,n⟩]
  rw[List.foldl_cons,e,ube s l _ fun z p=>h z (by simp[p])]
  simp[ka2]
theorem ybi (s:Jab):∀(l:List Jab) (j:List Jab),Qbj l->ka2 s (l.foldl (qap s) (j,false))=j++vaa l s
 |[],j,_=>by simp[ka2,vaa]
 |y::l,j,h=>by
  by_cases u:y.client<s.client
  ·have e:qap s (j,false) y=(j++[y],false):=by unfold qap;rw[if_neg (by omega),if_neg (by simp;omega)]
   have q:vaa (y::l) s=y::vaa l s:=by rw[vaa,if_pos u]
   rw[List.foldl_cons,e,ybi s l _ h.2,q];simp
  ·by_cases B:y.client=s.client
   ·have e:qap s (j,false) y=(j,false):=by unfold qap;rw[if_pos B]
    have q:vaa (y::l) s=s::l:=by rw[vaa,if_neg u,if_pos B]
    rw[List.foldl_cons,e,Qa7 s l _ fun z p=>by have:=h.1 z p;omega,q]
   ·have n:∀z∈y::l,s.client<z.client:=fun z p=>by
     rcases List.mem_cons.1 p with rfl|p
     ·omega
     ·have:=h.1 z p;omega
    rw[Qa7 s (y::l) j n,yaV n]
theorem Kbe:∀{l:List Jab},(∀j a b,l[j]? =some a->l[j+1]? =some b->a.client<b.client)->Qbj l
 |[],_=>trivial
 |x::l,h=>by
  have n:Qbj l:=Kbe fun j a b q hb=>h (j+1) a b (by simpa using q) (by simpa using hb)
  refine⟨fun y hy=> ?_,n⟩
  cases l with
  |nil=>cases hy
  |cons z l=>
   have p:=h 0 x z rfl rfl;rcases List.mem_cons.1 hy with rfl|hy
   ·exact p
   ·have:=n.1 y hy;omega
theorem ka4 {hd:Int}{l:List Jab}(h:vaw hd l=true):Qbj l:=Kbe fun j a b p hb=>by
 have n:=qan.1 h (j+1) b hb;simp only[zao,p,Bool.and_eq_true,decide_eq_true_eq]at n;exact n.2
theorem ua9 {hd:Int}{l:List Jab}(h:vaw hd l=true)(s:Jab):ka2 s (Za1 l s l.length)=vaa l s:=by
 unfold Za1;rw[List.take_length,ybi s l [] (ka4 h),List.nil_append]
theorem ZaT (l:List Jab)(s:Jab):∀k,k<=l.length->(Za1 l s k).1.length<=2*k
 |0,_=>by simp[Za1]
 |k+1,j=>by
  obtain⟨y,hy⟩:=kaa (l:=l) (k:=k) (by omega)
  have n:=ZaT l s k (by omega)
  rw[vaZ hy];unfold qap;split
  ·omega
  ·split<;>simp<;>omega
end Go.Proofs.YtocdogemgojgaaaGreat
namespace Go.Proofs.YtocdogemgojgaaaGreat
open Go.RowKit
theorem xaL (w:World)(s:Jab):GoT.rd BIG w [s.client,s.seq,s.rev] s []:=⟨rfl,rfl⟩
theorem xaR {M:Nat}{w:World}{c:List Value}{x:Jab}{f:List Pos}(h:GoT.rd M w c x f):f=[]:=h.2
theorem uak {w0 j:World}{n m:Int}(hb:Below w0 w0 j):Kar w0 vaX n m (.returned (.tuple #[.agg #[.string ⟨#[]⟩,zI,zN,zN,zN],n,m])) j:=
 ⟨_,_,_,[],[],[],rfl,Sl.nil,Sl.nil,Sl.nil,by decide,Xaa.nil _ _,hb⟩
section
variable {d:Jac} {client seq base:Int} {o:List zaa}
theorem Zap (h:¬(uae d=true/\within client 1 8=true/\within seq 1 1000000000=true/\jag o=true)):Qae d client seq base o=(vaX,0,1):=if_neg h
variable (h:uae d=true/\within client 1 8=true/\within seq 1 1000000000=true/\jag o=true)
include h
theorem kaO (j:(Kab d client).1.seq=seq):Qae d client seq base o=(d,(Kab d client).1.rev,0):=by unfold Qae;rw[if_pos h,if_pos j]
theorem zaR (j:¬(Kab d client).1.seq=seq)(n:¬(Kab d client).1.seq+1=seq):Qae d client seq base o=(vaX,0,4):=by unfold Qae;rw[if_pos h,if_neg j,if_neg n]
theorem zaP (j:¬(Kab d client).1.seq=seq)(n:(Kab d client).1.seq+1=seq)(p:¬(Zaa d base o).2=0):Qae d client seq base o=(vaX,0,(Zaa d base o).2):=by unfold Qae;rw[if_pos h,if_neg j,if_pos n,if_neg p]
theorem KaH (j:¬(Kab d client).1.seq=seq)(n:(Kab d client).1.seq+1=seq)(p:(Zaa d base o).2=0)(q:¬yaa d<999999000):Qae d client seq base o=(vaX,0,5):=by unfold Qae;rw[if_pos h,if_neg j,if_pos n,if_pos p,if_neg q]
theorem xaT (j:¬(Kab d client).1.seq=seq)(n:(Kab d client).1.seq+1=seq)(p:(Zaa d base o).2=0)(q:yaa d<999999000):Qae d client seq base o=(zah d client seq (Zaa d base o).1,yaa d+1,0):=by unfold Qae;rw[if_pos h,if_neg j,if_pos n,if_pos p,if_pos q]
end
theorem Qa0 {d:Jac}(h:uae d=true)(client:Int):0<=(Kab d client).1.seq/\(Kab d client).1.seq<=1000000000/\((Kab d client).2=false->(Kab d client).1.seq=0):=by
 unfold Kab;rcases hf:d.seen.find? (fun s=>decide (s.client=client))with _|s
 ·rw[hf];exact⟨Int.le_refl _,by show(0:Int)<=1000000000;decide,fun _=>rfl⟩
 ·have p:=List.mem_of_find?_eq_some hf;obtain⟨k,n⟩:=List.getElem?_of_mem p;have j:=qan.1 (yah.1 h).seen k s n;unfold zao at j;simp only[Bool.and_eq_true]at j;have:=within_iff.1 j.1.1.2;rw[hf];exact⟨by show 0<=s.seq;omega,by show s.seq<=1000000000;omega,fun h=>by cases h⟩
theorem ua0 {d:Jac}(h:uae d=true):d.text.length<=4000000/\szL d.list<=4000000/\d.seen.length<=4000000:=⟨by have:=(yah.1 h).tlen;omega,by have:=(yah.1 h).sz;omega,by have:=(yah.1 h).slen;omega⟩
theorem JaL (s:Jab):∀l:List Jab,uab (vaa l s)<=uab l+GoM.cnt s
 |[]=>by simp[vaa,uab]
 |y::l=>by
  have j:=JaL s l;unfold vaa;split
  ·simp only[uab];omega
  ·split
   ·simp only[uab];omega
   ·simp only[uab];omega
theorem Xa8 (d:Jac)(client seq:Int)(x:List zaa)(z:jag x=true):uab (zah d client seq x).text+(uab (zah d client seq x).list+uab (zah d client seq x).seen)<=5*(200+szL d.text+szL d.list+szL d.seen)+603100:=by
 have J:=Qag d.text;have M:=Qag d.list;have N:=Qag d.seen;have n:=vae.1 z;have Y:=jaC n.1;have R:=Qag [vab client seq x];have D:szL [vab client seq x]=1+GoS.sz (vab client seq x):=by simp[szL,szs]
 have I:GoS.sz (vab client seq x)=szL x:=rfl;have Q:=kai d.list [vab client seq x];have U:=JaL ⟨client,seq,yaa d+1⟩ d.seen;have p:GoM.cnt (⟨client,seq,yaa d+1⟩:Jab)<=5:=by
  have h:=Qag [(⟨client,seq,yaa d+1⟩:Jab)];have e:uab [(⟨client,seq,yaa d+1⟩:Jab)]=GoM.cnt (⟨client,seq,yaa d+1⟩:Jab):=by simp[uab]
  have B:szL [(⟨client,seq,yaa d+1⟩:Jab)]=1:=rfl;omega
 have q:=Qag (qab ((d.list++[vab client seq x]).headD ⟨0,0,[]⟩).o d.text).1;have u:=ja9 ((d.list++[vab client seq x]).headD ⟨0,0,[]⟩).o d.text;rw[Zax]at q;have j:=kai ((d.list++[vab client seq x]).take 1) ((d.list++[vab client seq x]).drop 1);rw[List.take_append_drop]at j;unfold zah;split<;>simp only<;>omega
theorem ka8 (d:Jac)(client seq base:Int)(o:List zaa):uab (Qae d client seq base o).1.text+(uab (Qae d client seq base o).1.list+uab (Qae d client seq base o).1.seen)<=5*(200+szL d.text+szL d.list+szL d.seen)+603100:=by
 have n:=Qag d.text;have p:=Qag d.list;have q:=Qag d.seen;have hd:uab vaX.text+(uab vaX.list+uab vaX.seen)=0:=by simp[vaX,uab]
 unfold Qae;split
 ·split
  ·simp only;omega
  ·split
   ·split
    ·rename_i j
     split
     ·exact Xa8 d client seq _ (Zaw j).1
     ·simp only;omega
    ·simp only;omega
   ·simp only;omega
 ·simp only;omega
