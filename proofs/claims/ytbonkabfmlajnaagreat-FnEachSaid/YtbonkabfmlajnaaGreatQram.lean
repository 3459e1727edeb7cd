/- Comparisons: they decide whether two data are alike. -/
import Derived.Test.YtbonkabfmlajnaaGreatQrac
set_option maxHeartbeats 1000000
namespace Go.Proofs.YtbonkabfmlajnaaGreat
open Go.RowKit
def firstIdx {α:Type}(p:α->Bool)(l:List α):Int:=match l.findIdx? p with|some k=>k|none=> -1
theorem vav {α:Type}{p:α->Bool}{l:List α}{k:Nat}{x:α}(u:∀j<k,∀y,l[j]? =some y->p y=false)(q:l[k]? =some x)(B:p x=true):firstIdx p l=k:=by
 have z:=(lg.1 q).1;have:l.findIdx? p=some k:=by
  rw[List.findIdx?_eq_some_iff_getElem];obtain⟨_,e⟩:=lg.1 q;refine⟨z,by rw[e];exact B,fun j n=> ?_⟩
  rw[u j n _ (List.getElem?_eq_getElem om)];decide
 unfold firstIdx;rw[this]
theorem yav {α:Type}{p:α->Bool}{l:List α}(q:∀j<l.length,∀y,l[j]? =some y->p y=false):firstIdx p l= -1:=by
 have:l.findIdx? p=none:=by
  rw[List.findIdx?_eq_none_iff];intro x u;obtain⟨j,n,e⟩:=List.mem_iff_getElem.1 u;exact q j n x (by rw[List.getElem?_eq_getElem n,e])
 unfold firstIdx;rw[this]
theorem xaO {α:Type}{p:α->Bool}{l:List α}{k:Nat}{x:α}(z:l[k]? =some x)(u:p x=false)(n:∀j<k,∀y,l[j]? =some y->p y=false):∀j<k+1,∀y,l[j]? =some y->p y=false:=by
 intro j q y hy;by_cases e:j=k
 ·subst e;rw[z]at hy;cases hy;exact u
 ·exact n j om y hy
theorem Jav {α:Type}(p:α->Bool)(l:List α): -1<=firstIdx p l/\firstIdx p l<l.length:=by
 unfold firstIdx;cases h:l.findIdx? p with
 |none=>simp;omega
 |some k=>
  obtain⟨j,_⟩:=List.findIdx?_eq_some_iff_getElem.1 h;simp;omega
def zad (x:qae)(name:ByteArray):Int:=firstIdx (fun d=>decide (d.name=name)) x.docs
def Jal (x:qae)(id:Int):Int:=firstIdx (fun d=>decide (d.id=id)) x.subs
theorem vaj (z:qae)(p:Value)(D:Value)(name:ByteArray)(w:World)(n:RdS w p z.docs):
 Calls Tryz.prog 91 #[.agg #[z.shut,p,D,z.last],name] w (yae w (.int .i64 (zad z name))):=by
 have hl:=fun w1 ty=>n.len Tryz.underlying23 w1 ty
 have ba:=n.le;go_enter Tryz.func91,Tryz.ntmps91
 go_wp2;go_loopw [10] (fun i wr=>∃k:Nat,k<=z.docs.length/\i= .int .i64 k/\(∀j<k,∀y,z.docs[j]? =some y->(decide (y.name=name))=false)/\Below w w wr) (fun i _=>z.docs.length-(intOf i).toNat)
 case atStart=>exact⟨0,lz _,rfl,fun _ h=>absurd h (Nat.not_lt_zero _),blw⟩
 case round=>
  obtain⟨k,hk,rfl,hj,Z⟩:=hrel;have hsz:=Z.size;have HJ:=hH hj;clear hj;by_cases hlt:k<z.docs.length
  ·obtain⟨x,hx⟩:=Jaa hlt;obtain⟨b1,o1,cs,h1,Y,h3⟩:=(n.below Z).idx Tryz.underlying23 uag k hx;obtain⟨a2,a0,a1,rfl,_,B,q,u⟩:=Kai h3;have q0:=Y.zero;have q1:=Y 1 _ rfl;have q2:=Y 2 _ rfl;have q3:=Y 3 _ rfl;have q4:=Y 4 _ rfl;have l1:b1<wr.heap.size:=lk (w:=wr) (a:=⟨b1,o1,none⟩) q0;obtain⟨M,R,rfl⟩:=B.isSlice;obtain⟨I,N,rfl⟩:=q.isSlice;obtain⟨J,Q,rfl⟩:=u.isSlice;have HX:=hH hx;clear hx;by_cases e:x.name=name
   ·have e1:(x.name.toList==name.toList)=true:=Xa8 e;have U:decide (x.name=name)=true:=Jas e;have HN:Hid (zad z name=k):=hH (vav HJ.out HX.out U);clear e U;go_wp2;go_ret;exact⟨Jah HN.out.symm,blw⟩
   ·have e1:(x.name.toList==name.toList)=false:=vaK e;have U:decide (x.name=name)=false:=jan e;have E2:=hH U;clear e U;go_wp2;go_roundw
    case rel=>exact⟨k+1,by omega,by go_num,xaO HX.out E2.out HJ.out,blw⟩
    case measure=>simp[intOf];omega
  ·have HN:Hid (zad z name= -1):=hH (yav fun j hj=>HJ.out j om)
   go_wp2;go_ret;exact⟨Jah HN.out.symm,blw⟩
theorem zaD (z:qae)(u:Value)(p:Value)(id:Int)(w:World)(n:RdS w p z.subs):
 Calls Tryz.prog 129 #[.agg #[z.shut,u,p,z.last],id] w (yae w (.int .i64 (Jal z id))):=by
 have hl:=fun w1 ty=>n.len Tryz.underlying24 w1 ty
 have ba:=n.le;go_enter Tryz.func129,Tryz.ntmps129
 go_wp2;go_loopw [10] (fun i wr=>∃k:Nat,k<=z.subs.length/\i= .int .i64 k/\(∀j<k,∀y,z.subs[j]? =some y->(decide (y.id=id))=false)/\Below w w wr) (fun i _=>z.subs.length-(intOf i).toNat)
 case atStart=>exact⟨0,lz _,rfl,fun _ h=>absurd h (Nat.not_lt_zero _),blw⟩
 case round=>
  obtain⟨k,hk,rfl,U,N⟩:=hrel;have hsz:=N.size;have Q:=hH U;clear U;by_cases Y:k<z.subs.length
  ·obtain⟨x,Z⟩:=Jaa Y;obtain⟨b1,o1,cs,h1,I,h3⟩:=(n.below N).idx Tryz.underlying24 ual k Z;obtain⟨J,rfl,_,q⟩:=xap h3;have q0:=I.zero;have q1:=I 1 _ rfl;have q2:=I 2 _ rfl;have q3:=I 3 _ rfl;have q4:=I 4 _ rfl;have q5:=I 5 _ rfl;have l1:b1<wr.heap.size:=lk (w:=wr) (a:=⟨b1,o1,none⟩) q0;obtain⟨B,D,rfl⟩:=q.isSlice;have HX:=hH Z;clear Z;by_cases e:x.id=id
   ·have e1:(x.id==id)=true:=by simpa using e
    have M:decide (x.id=id)=true:=Jas e;have R:Hid (Jal z id=k):=hH (vav Q.out HX.out M);clear e M;go_wp2;go_ret;exact⟨Jah R.out.symm,blw⟩
   ·have e1:(x.id==id)=false:=by simpa using e
    have M:decide (x.id=id)=false:=jan e;have E2:=hH M;clear e M;go_wp2;go_roundw
    case rel=>exact⟨k+1,by omega,by go_num,xaO HX.out E2.out Q.out,blw⟩
    case measure=>simp[intOf];omega
  ·have R:Hid (Jal z id= -1):=hH (yav fun j U=>Q.out j om)
   go_wp2;go_ret;exact⟨Jah R.out.symm,blw⟩
theorem KaB (x:Xac)(p:Value)(j:Value)(n:Value)(name:ByteArray)(w:World)(g o:Nat)(u:w.cell? ⟨g,o,none⟩=some (.string name)):
 Calls Tryz.prog 70 #[.agg #[x.name,x.from_,p,j,n],.pointer (some ⟨g,o,none⟩)] w (yae w (.bool (decide (x.name=name)))):=by
 have z:=lk (w:=w) (a:=⟨g,o,none⟩) u;by_cases e:x.name=name
 ·rw[Jas e];have q:(x.name.toList==name.toList)=true:=Xa8 e;clear e;go_enter Tryz.func70,Tryz.ntmps70
  go_wp2;go_ret;exact⟨rfl,blw⟩
 ·rw[jan e];have q:(x.name.toList==name.toList)=false:=vaK e;clear e;go_enter Tryz.func70,Tryz.ntmps70
  go_wp2;go_ret;exact⟨rfl,blw⟩
theorem Kax (v:Value)(l:List Xac)(name:ByteArray)(w:World)(g o:Nat)(hg:w.cell? ⟨g,o,none⟩=some (.string name))(h:RdS w v l):
 Calls Tryz.prog 69 #[v,.func (.func 70) #[] #[.pointer (some ⟨g,o,none⟩)]] w (yae w (.int .i64 (firstIdx (fun d=>decide (d.name=name)) l))):=by
 have hl:=fun w1 ty=>h.len Tryz.underlying23 w1 ty
 have ba:=h.le;have hgl:=lk (w:=w) (a:=⟨g,o,none⟩) hg;go_enter Tryz.func69,Tryz.ntmps69
 go_wp2;go_loopw [8] (fun i wr=>∃k:Nat,k<=l.length/\i= .int .i64 k/\(∀j<k,∀y,l[j]? =some y->(decide (y.name=name))=false)/\Below w w wr) (fun i _=>l.length-(intOf i).toNat)
 case atStart=>exact⟨0,lz _,rfl,fun _ h=>absurd h (Nat.not_lt_zero _),blw⟩
 case round=>
  obtain⟨k,hk,rfl,hj,B⟩:=hrel;have hsz:=B.size;have HJ:=hH hj;clear hj;have U:wr.cell? ⟨g,o,none⟩=some (.string name):=(B.cell (p:=⟨g,o,none⟩) hgl).trans hg;by_cases hlt:k<l.length
  ·obtain⟨x,hx⟩:=Jaa hlt;obtain⟨b1,o1,cs,h1,R,h3⟩:=(h.below B).idx Tryz.underlying23 uag k hx;obtain⟨a0,Y,Z,rfl,_,u,n,q⟩:=Kai h3;have q0:=R.zero;have q1:=R 1 _ rfl;have q2:=R 2 _ rfl;have q3:=R 3 _ rfl;have q4:=R 4 _ rfl;have l1:b1<wr.heap.size:=lk (w:=wr) (a:=⟨b1,o1,none⟩) q0;obtain⟨J,Q,rfl⟩:=u.isSlice;obtain⟨D,M,rfl⟩:=n.isSlice;obtain⟨I,N,rfl⟩:=q.isSlice;have HX:=hH hx;clear hx;by_cases e:x.name=name
   ·have z:decide (x.name=name)=true:=Jas e;have HN:Hid (firstIdx (fun d=>decide (d.name=name)) l=k):=hH (vav HJ.out HX.out z)
    clear e;go_wp2_with fail
    refine(KaB x _ _ _ name _ g o U).mono ?_;rintro e w1 ⟨rfl,hb1⟩;rw[z];clear z;go_wp2;go_ret;exact⟨Jah HN.out.symm,blw⟩
   ·have z:decide (x.name=name)=false:=jan e;clear e;go_wp2_with fail
    refine(KaB x _ _ _ name _ g o U).mono ?_;rintro e w1 ⟨rfl,hb1⟩;rw[z];have E2:=hH z;clear z;go_wp2;go_roundw
    case rel=>exact⟨k+1,by omega,by go_num,xaO HX.out E2.out HJ.out,blw⟩
    case measure=>simp[intOf];omega
  ·have HN:Hid (firstIdx (fun d=>decide (d.name=name)) l= -1):=hH (yav fun j hj=>HJ.out j om)
   go_wp2;go_ret;exact⟨Jah HN.out.symm,blw⟩
theorem Xal (z:qae)(j:Value)(p:Value)(name:ByteArray)(w:World)(n:RdS w j z.docs):
 Calls Tryz.prog 28 #[.agg #[z.shut,j,p,z.last],name] w (yae w (.int .i64 (zad z name))):=by
 go_enter Tryz.func28,Tryz.ntmps28
 go_wp2_with fail
 refine(Kax _ z.docs name _ (w+1) 0 sm (n.below blw)).mono ?_;rintro e u ⟨rfl,q⟩;go_wp2;go_ret;exact⟨rfl,blw⟩
theorem vaB (x:yai)(j:Value)(id:Int)(w:World)(g o:Nat)(p:w.cell? ⟨g,o,none⟩=some (.int .i64 id)):
 Calls Tryz.prog 87 #[.agg #[x.id,x.doc,x.r.cap,x.r.next,x.r.out,j],.pointer (some ⟨g,o,none⟩)] w (yae w (.bool (decide (x.id=id)))):=by
 have q:=lk (w:=w) (a:=⟨g,o,none⟩) p;by_cases e:x.id=id
 ·rw[Jas e];have n:(x.id==id)=true:=by simpa using e
  clear e;go_enter Tryz.func87,Tryz.ntmps87
  go_wp2;go_ret;exact⟨rfl,blw⟩
 ·rw[jan e];have n:(x.id==id)=false:=by simpa using e
  clear e;go_enter Tryz.func87,Tryz.ntmps87
  go_wp2;go_ret;exact⟨rfl,blw⟩
theorem kax (v:Value)(l:List yai)(id:Int)(w:World)(g o:Nat)(hg:w.cell? ⟨g,o,none⟩=some (.int .i64 id))(h:RdS w v l):
 Calls Tryz.prog 86 #[v,.func (.func 87) #[] #[.pointer (some ⟨g,o,none⟩)]] w (yae w (.int .i64 (firstIdx (fun d=>decide (d.id=id)) l))):=by
 have hl:=fun w1 ty=>h.len Tryz.underlying24 w1 ty
 have ba:=h.le;have R:=lk (w:=w) (a:=⟨g,o,none⟩) hg;go_enter Tryz.func86,Tryz.ntmps86
 go_wp2;go_loopw [8] (fun i wr=>∃k:Nat,k<=l.length/\i= .int .i64 k/\(∀j<k,∀y,l[j]? =some y->(decide (y.id=id))=false)/\Below w w wr) (fun i _=>l.length-(intOf i).toNat)
 case atStart=>exact⟨0,lz _,rfl,fun _ h=>absurd h (Nat.not_lt_zero _),blw⟩
 case round=>
  obtain⟨k,hk,rfl,U,B⟩:=hrel;have hsz:=B.size;have M:=hH U;clear U;have J:wr.cell? ⟨g,o,none⟩=some (.int .i64 id):=(B.cell (p:=⟨g,o,none⟩) R).trans hg;by_cases Y:k<l.length
  ·obtain⟨x,Z⟩:=Jaa Y;obtain⟨b1,o1,cs,h1,D,h3⟩:=(h.below B).idx Tryz.underlying24 ual k Z;obtain⟨I,rfl,_,n⟩:=xap h3;have q0:=D.zero;have q1:=D 1 _ rfl;have q2:=D 2 _ rfl;have q3:=D 3 _ rfl;have q4:=D 4 _ rfl;have q5:=D 5 _ rfl;have l1:b1<wr.heap.size:=lk (w:=wr) (a:=⟨b1,o1,none⟩) q0;obtain⟨q,u,rfl⟩:=n.isSlice;have HX:=hH Z;clear Z;by_cases e:x.id=id
   ·have z:decide (x.id=id)=true:=Jas e;have N:Hid (firstIdx (fun d=>decide (d.id=id)) l=k):=hH (vav M.out HX.out z)
    clear e;go_wp2_with fail
    refine(vaB x _ id _ g o J).mono ?_;rintro e w1 ⟨rfl,Q⟩;rw[z];clear z;go_wp2;go_ret;exact⟨Jah N.out.symm,blw⟩
   ·have z:decide (x.id=id)=false:=jan e;clear e;go_wp2_with fail
    refine(vaB x _ id _ g o J).mono ?_;rintro e w1 ⟨rfl,Q⟩;rw[z];have E2:=hH z;clear z;go_wp2;go_roundw
    case rel=>exact⟨k+1,by omega,by go_num,xaO HX.out E2.out M.out,blw⟩
    case measure=>simp[intOf];omega
  ·have N:Hid (firstIdx (fun d=>decide (d.id=id)) l= -1):=hH (yav fun j U=>M.out j om)
   go_wp2;go_ret;exact⟨Jah N.out.symm,blw⟩
theorem KaD (z:qae)(p:Value)(j:Value)(id:Int)(w:World)(n:RdS w j z.subs):
 Calls Tryz.prog 48 #[.agg #[z.shut,p,j,z.last],id] w (yae w (.int .i64 (Jal z id))):=by
 go_enter Tryz.func48,Tryz.ntmps48
 go_wp2_with fail
 refine(kax _ z.subs id _ (w+1) 0 sm (n.below blw)).mono ?_;rintro e u ⟨rfl,q⟩;go_wp2;go_ret;exact⟨rfl,blw⟩
