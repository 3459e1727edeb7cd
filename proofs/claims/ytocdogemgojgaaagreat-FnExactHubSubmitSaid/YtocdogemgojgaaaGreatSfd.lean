/- What is seen of a client, laid anew by a walk through the list: plain Lean. -/
import Derived.Test.YtocdogemgojgaaaGreatSbp
namespace Go.Proofs.YtocdogemgojgaaaGreat
open Go.RowKit
def sfStep (s:DSeen)(a:List DSeen×Bool)(y:DSeen):List DSeen×Bool:=
 if y.client=s.client then a else if a.2=false/\s.client<y.client then(a.1++[s]++[y],true)else(a.1++[y],a.2)
def sfEnd (s:DSeen)(a:List DSeen×Bool):List DSeen:=if a.2=false then a.1++[s]else a.1
def sfTo (l:List DSeen)(s:DSeen)(k:Nat):List DSeen×Bool:=(l.take k).foldl (sfStep s) ([],false)
theorem sfTo_succ {l:List DSeen}{s y:DSeen}{k:Nat}(h:l[k]? =some y):sfTo l s (k+1)=sfStep s (sfTo l s k) y:=by
 unfold sfTo;rw[take_snoc h,List.foldl_append];rfl
def Rise:List DSeen->Prop
 |[]=>True
 |x::l=>(∀y∈l,x.client<y.client)/\Rise l
theorem sf_true (s:DSeen):∀(l:List DSeen) (j:List DSeen),(∀y∈l,s.client<y.client)->l.foldl (sfStep s) (j,true)=(j++l,true)
 |[],j,_=>by simp
 |y::l,j,h=>by
  have p:=h y (by simp)
  have e:sfStep s (j,true) y=(j++[y],true):=by unfold sfStep;rw[if_neg (by omega),if_neg (by simp)]
  rw[List.foldl_cons,e,sf_true s l _ fun z n=>h z (by simp[n])]
  simp
theorem seenSet_above {s:DSeen}:∀{l:List DSeen},(∀y∈l,s.client<y.client)->seenSet l s=s::l
 |[],_=>rfl
 |y::l,h=>by
  have:=h y (by simp)
  unfold seenSet;rw[if_neg (by omega),if_neg (by omega)]
theorem sf_above (s:DSeen):∀(l:List DSeen) (j:List DSeen),(∀y∈l,s.client<y.client)->sfEnd s (l.foldl (sfStep s) (j,false))=j++s::l
 |[],j,_=>by simp[sfEnd]
 |y::l,j,h=>by
  have n:=h y (by simp)
  have e:sfStep s (j,false) y=(j++[s]++[y],true):=by unfold sfStep;rw[if_neg (by omega),if_pos ⟨rfl,n⟩]
  rw[List.foldl_cons,e,sf_true s l _ fun z p=>h z (by simp[p])]
  simp[sfEnd]
theorem sf_all (s:DSeen):∀(l:List DSeen) (j:List DSeen),Rise l->sfEnd s (l.foldl (sfStep s) (j,false))=j++seenSet l s
 |[],j,_=>by simp[sfEnd,seenSet]
 |y::l,j,h=>by
  by_cases u:y.client<s.client
  ·have e:sfStep s (j,false) y=(j++[y],false):=by unfold sfStep;rw[if_neg (by omega),if_neg (by simp;omega)]
   have q:seenSet (y::l) s=y::seenSet l s:=by rw[seenSet,if_pos u]
   rw[List.foldl_cons,e,sf_all s l _ h.2,q];simp
  ·by_cases B:y.client=s.client
   ·have e:sfStep s (j,false) y=(j,false):=by unfold sfStep;rw[if_pos B]
    have q:seenSet (y::l) s=s::l:=by rw[seenSet,if_neg u,if_pos B]
    rw[List.foldl_cons,e,sf_above s l _ fun z p=>by have:=h.1 z p;omega,q]
   ·have n:∀z∈y::l,s.client<z.client:=fun z p=>by
     rcases List.mem_cons.1 p with rfl|p
     ·omega
     ·have:=h.1 z p;omega
    rw[sf_above s (y::l) j n,seenSet_above n]
theorem rise_of:∀{l:List DSeen},(∀j a b,l[j]? =some a->l[j+1]? =some b->a.client<b.client)->Rise l
 |[],_=>trivial
 |x::l,h=>by
  have n:Rise l:=rise_of fun j a b q hb=>h (j+1) a b (by simpa using q) (by simpa using hb)
  refine⟨fun y hy=> ?_,n⟩
  cases l with
  |nil=>cases hy
  |cons z l=>
   have p:=h 0 x z rfl rfl;rcases List.mem_cons.1 hy with rfl|hy
   ·exact p
   ·have:=n.1 y hy;omega
theorem seenOk_rise {hd:Int}{l:List DSeen}(h:seenOk hd l=true):Rise l:=rise_of fun j a b p hb=>by
 have n:=seenOk_iff.1 h (j+1) b hb;simp only[seenI,p,Bool.and_eq_true,decide_eq_true_eq]at n;exact n.2
theorem sf_seenSet {hd:Int}{l:List DSeen}(h:seenOk hd l=true)(s:DSeen):sfEnd s (sfTo l s l.length)=seenSet l s:=by
 unfold sfTo;rw[List.take_length,sf_all s l [] (seenOk_rise h),List.nil_append]
theorem sfTo_len (l:List DSeen)(s:DSeen):∀k,k<=l.length->(sfTo l s k).1.length<=2*k
 |0,_=>by simp[sfTo]
 |k+1,j=>by
  obtain⟨y,hy⟩:=get_some (l:=l) (k:=k) (by omega)
  have n:=sfTo_len l s k (by omega)
  rw[sfTo_succ hy];unfold sfStep;split
  ·omega
  ·split<;>simp<;>omega
