/- Comparisons: they decide whether two data are alike. -/
import Derived.Test.YtocdogemgojgaaaGreatCm
import Derived.Test.YtocdogemgojgaaaGreatEz
import Derived.Deep.RegionHeld3
import Derived.StillTailTactics
set_option maxHeartbeats 1000000
namespace Go.Proofs.YtocdogemgojgaaaGreat
open Go.RowKit
def firstIdx {α:Type}(p:α->Bool)(l:List α):Int:=match l.findIdx? p with|some k=>k|none=> -1
theorem firstIdx_at {α:Type}{p:α->Bool}{l:List α}{k:Nat}{x:α}(u:∀j<k,∀y,l[j]? =some y->p y=false)(q:l[k]? =some x)(B:p x=true):firstIdx p l=k:=by
 have z:=(lg.1 q).1;have:l.findIdx? p=some k:=by
  rw[List.findIdx?_eq_some_iff_getElem];obtain⟨_,e⟩:=lg.1 q;refine⟨z,by rw[e];exact B,fun j n=> ?_⟩
  rw[u j n _ (List.getElem?_eq_getElem (by omega))]
  decide
 unfold firstIdx;rw[this]
theorem firstIdx_no {α:Type}{p:α->Bool}{l:List α}(q:∀j<l.length,∀y,l[j]? =some y->p y=false):firstIdx p l= -1:=by
 have:l.findIdx? p=none:=by
  rw[List.findIdx?_eq_none_iff];intro x u;obtain⟨j,n,e⟩:=List.mem_iff_getElem.1 u;exact q j n x (by rw[List.getElem?_eq_getElem n,e])
 unfold firstIdx;rw[this]
theorem no_step {α:Type}{p:α->Bool}{l:List α}{k:Nat}{x:α}(z:l[k]? =some x)(u:p x=false)(n:∀j<k,∀y,l[j]? =some y->p y=false):∀j<k+1,∀y,l[j]? =some y->p y=false:=by
 intro j q y hy;by_cases e:j=k
 ·subst e;rw[z]at hy;cases hy;exact u
 ·exact n j (by omega) y hy
theorem firstIdx_lt {α:Type}(p:α->Bool)(l:List α): -1<=firstIdx p l/\firstIdx p l<l.length:=by
 unfold firstIdx;cases h:l.findIdx? p with
 |none=>simp;omega
 |some k=>
  obtain⟨j,_⟩:=List.findIdx?_eq_some_iff_getElem.1 h;simp;omega
def hubDoc (x:DHub)(name:ByteArray):Int:=firstIdx (fun d=>decide (d.name=name)) x.docs
theorem spec_HubDoc_c (z:DHub)(p:Value)(D:Value)(name:ByteArray)(w:World)(n:RdS w p z.docs):
 Calls Tryz.prog 103 #[.agg #[.bool z.shut,p,D,.int .i64 z.last],.string name] w (Tells w (.int .i64 (hubDoc z name))):=by
 have hl:=fun w1 ty=>n.len Tryz.underlying23 w1 ty
 have ba:=n.le;go_enter Tryz.func103,Tryz.ntmps103
 go_wp2;go_loopw [10] (fun i wr=>∃k:Nat,k<=z.docs.length/\i= .int .i64 k/\(∀j<k,∀y,z.docs[j]? =some y->(decide (y.name=name))=false)/\Below w.heap.size w wr) (fun i _=>z.docs.length-(intOf i).toNat)
 case atStart=>exact⟨0,lz _,rfl,fun _ h=>absurd h (Nat.not_lt_zero _),blw⟩
 case round=>
  obtain⟨k,hk,rfl,hj,Z⟩:=hrel;have hsz:=Z.size;have HJ:=hH hj;clear hj;by_cases hlt:k<z.docs.length
  ·obtain⟨x,hx⟩:=get_some hlt;obtain⟨b1,o1,cs,h1,Y,h3⟩:=(n.below Z).idx Tryz.underlying23 szi_DDoc k hx;obtain⟨a2,a0,a1,rfl,_,B,q,u⟩:=inv_DDoc h3;have q0:=Y.zero;have q1:=Y 1 _ rfl;have q2:=Y 2 _ rfl;have q3:=Y 3 _ rfl;have q4:=Y 4 _ rfl;have l1:b1<wr.heap.size:=lk (w:=wr) (a:=⟨b1,o1,none⟩) q0;obtain⟨M,R,rfl⟩:=B.isSlice;obtain⟨I,N,rfl⟩:=q.isSlice;obtain⟨J,Q,rfl⟩:=u.isSlice;have HX:=hH hx;clear hx;by_cases e:x.name=name
   ·have e1:(x.name.toList==name.toList)=true:=str_t e;have U:decide (x.name=name)=true:=dec_t e;have HN:Hid (hubDoc z name=k):=hH (firstIdx_at HJ.out HX.out U);clear e U;go_wp2;go_ret;exact⟨ret_int HN.out.symm,blw⟩
   ·have e1:(x.name.toList==name.toList)=false:=str_f e;have U:decide (x.name=name)=false:=dec_f e;have E2:=hH U;clear e U;go_wp2;go_roundw
    case rel=>exact⟨k+1,by omega,by go_num,no_step HX.out E2.out HJ.out,blw⟩
    case measure=>simp[intOf];omega
  ·have HN:Hid (hubDoc z name= -1):=hH (firstIdx_no fun j hj=>HJ.out j (by omega))
   go_wp2;go_ret;exact⟨ret_int HN.out.symm,blw⟩
theorem impl_HubDoc_f (x:DDoc)(p:Value)(j:Value)(n:Value)(name:ByteArray)(w:World)(g o:Nat)(u:w.cell? ⟨g,o,none⟩=some (.string name)):
 Calls Tryz.prog 132 #[.agg #[.string x.name,.int .i64 x.from_,p,j,n],.pointer (some ⟨g,o,none⟩)] w (Tells w (.bool (decide (x.name=name)))):=by
 have z:=lk (w:=w) (a:=⟨g,o,none⟩) u;by_cases e:x.name=name
 ·rw[dec_t e];have q:(x.name.toList==name.toList)=true:=str_t e;clear e;go_enter Tryz.func132,Tryz.ntmps132
  go_wp2;go_ret;exact⟨rfl,blw⟩
 ·rw[dec_f e];have q:(x.name.toList==name.toList)=false:=str_f e;clear e;go_enter Tryz.func132,Tryz.ntmps132
  go_wp2;go_ret;exact⟨rfl,blw⟩
theorem IndexFunc_impl_HubDoc (v:Value)(l:List DDoc)(name:ByteArray)(w:World)(g o:Nat)(hg:w.cell? ⟨g,o,none⟩=some (.string name))(h:RdS w v l):
 Calls Tryz.prog 131 #[v,.func (.func 132) #[] #[.pointer (some ⟨g,o,none⟩)]] w (Tells w (.int .i64 (firstIdx (fun d=>decide (d.name=name)) l))):=by
 have hl:=fun w1 ty=>h.len Tryz.underlying23 w1 ty
 have ba:=h.le;have hgl:=lk (w:=w) (a:=⟨g,o,none⟩) hg;go_enter Tryz.func131,Tryz.ntmps131
 go_wp2;go_loopw [8] (fun i wr=>∃k:Nat,k<=l.length/\i= .int .i64 k/\(∀j<k,∀y,l[j]? =some y->(decide (y.name=name))=false)/\Below w.heap.size w wr) (fun i _=>l.length-(intOf i).toNat)
 case atStart=>exact⟨0,lz _,rfl,fun _ h=>absurd h (Nat.not_lt_zero _),blw⟩
 case round=>
  obtain⟨k,hk,rfl,hj,B⟩:=hrel;have hsz:=B.size;have HJ:=hH hj;clear hj;have U:wr.cell? ⟨g,o,none⟩=some (.string name):=(B.cell (p:=⟨g,o,none⟩) hgl).trans hg;by_cases hlt:k<l.length
  ·obtain⟨x,hx⟩:=get_some hlt;obtain⟨b1,o1,cs,h1,R,h3⟩:=(h.below B).idx Tryz.underlying23 szi_DDoc k hx;obtain⟨a0,Y,Z,rfl,_,u,n,q⟩:=inv_DDoc h3;have q0:=R.zero;have q1:=R 1 _ rfl;have q2:=R 2 _ rfl;have q3:=R 3 _ rfl;have q4:=R 4 _ rfl;have l1:b1<wr.heap.size:=lk (w:=wr) (a:=⟨b1,o1,none⟩) q0;obtain⟨J,Q,rfl⟩:=u.isSlice;obtain⟨D,M,rfl⟩:=n.isSlice;obtain⟨I,N,rfl⟩:=q.isSlice;have HX:=hH hx;clear hx;by_cases e:x.name=name
   ·have z:decide (x.name=name)=true:=dec_t e;have HN:Hid (firstIdx (fun d=>decide (d.name=name)) l=k):=hH (firstIdx_at HJ.out HX.out z)
    clear e;go_wp2_with fail
    refine(impl_HubDoc_f x _ _ _ name _ g o U).mono ?_;rintro e w1 ⟨rfl,hb1⟩;rw[z];clear z;go_wp2;go_ret;exact⟨ret_int HN.out.symm,blw⟩
   ·have z:decide (x.name=name)=false:=dec_f e;clear e;go_wp2_with fail
    refine(impl_HubDoc_f x _ _ _ name _ g o U).mono ?_;rintro e w1 ⟨rfl,hb1⟩;rw[z];have E2:=hH z;clear z;go_wp2;go_roundw
    case rel=>exact⟨k+1,by omega,by go_num,no_step HX.out E2.out HJ.out,blw⟩
    case measure=>simp[intOf];omega
  ·have HN:Hid (firstIdx (fun d=>decide (d.name=name)) l= -1):=hH (firstIdx_no fun j hj=>HJ.out j (by omega))
   go_wp2;go_ret;exact⟨ret_int HN.out.symm,blw⟩
theorem impl_HubDoc_c (z:DHub)(j:Value)(p:Value)(name:ByteArray)(w:World)(n:RdS w j z.docs):
 Calls Tryz.prog 58 #[.agg #[.bool z.shut,j,p,.int .i64 z.last],.string name] w (Tells w (.int .i64 (hubDoc z name))):=by
 go_enter Tryz.func58,Tryz.ntmps58
 go_wp2_with fail
 refine(IndexFunc_impl_HubDoc _ z.docs name _ (w.heap.size+1) 0 (by simp) (n.below blw)).mono ?_
 rintro e u ⟨rfl,q⟩;go_wp2;go_ret;exact⟨rfl,blw⟩
