/- Comparisons. -/
import Derived.Test.YtocdogemgojgaaaGreatEz
import Derived.Deep.RegionHeld3
import Derived.StillTailTactics
set_option maxHeartbeats 1000000
set_option maxRecDepth 100000
namespace Go.Proofs.YtocdogemgojgaaaGreat
open Go.RowKit
def QTells (w:World)(v:Value)(e:Ending)(w':World):Prop:=e= .returned v/\∃n,w'=w.drewN n
theorem QTells.tells {w:World}{v:Value}{e:Ending}{j:World}(h:QTells w v e j):Tells w v e j:=by
 obtain⟨p,n,rfl⟩:=h;exact⟨p,belowN (lf _ _) n⟩
theorem str_t {a b:ByteArray}(h:a=b):(a.toList==b.toList)=true:=by rw[h];simp
theorem str_f {a b:ByteArray}(h:¬a=b):(a.toList==b.toList)=false:=by
 rw[ByteArray.toList_eq,ByteArray.toList_eq];refine beq_eq_false_iff_ne.2 fun e=>h ?_
 cases a;cases b;simpa using e
theorem dec_t {α:Type}[DecidableEq α]{a b:α}(h:a=b):decide (a=b)=true:=decide_eq_true h
theorem dec_f {α:Type}[DecidableEq α]{a b:α}(h:¬a=b):decide (a=b)=false:=decide_eq_false h
theorem ne_at {α:Type}{a b:List α}{k:Nat}{x y:α}(n:a[k]? =some x)(hy:b[k]? =some y)(j:¬x=y):¬a=b:=by
 rintro rfl;exact j (Option.some.inj (n.symm.trans hy))
theorem at_step {α:Type}{a b:List α}{k:Nat}{x:α}(q:a[k]? =some x)(hy:b[k]? =some x)(n:∀j<k,a[j]? =b[j]?):∀j<k+1,a[j]? =b[j]? :=by
 intro j p;by_cases e:j=k
 ·subst e;rw[q,hy]
 ·exact n j (by omega)
theorem spec_SignsSame_q (Z vb:Value)(a b:List Int)(w:World)(z:RdS w Z a)(hb:RdS w vb b):
 Calls Tryz.prog 239 #[Z,vb] w (QTells w (.bool (decide (a=b)))):=by
 have hla:=fun J ty=>z.len Tryz.underlying31 J ty
 have D:=fun J ty=>hb.len Tryz.underlying31 J ty
 have ba:=z.le;have bb:=hb.le;by_cases u:a.length=b.length
 ·have N:=hH u;rw[<-u]at D bb;clear u;go_enter Tryz.func239,Tryz.ntmps239
  go_wp2;go_loopw [13] (fun i wr=>∃k:Nat,k<=a.length/\i= .int .i64 k/\(∀j<k,a[j]? =b[j]?)/\∃n,wr=w.drewN n) (fun i _=>a.length-(intOf i).toNat)
  case atStart=>exact⟨0,lz _,rfl,fun _ h=>absurd h (Nat.not_lt_zero _),0,rfl⟩
  case round=>
   obtain⟨k,hk,rfl,B,n,rfl⟩:=hrel;have M:=hH B;clear B;by_cases q:k<a.length
   ·obtain⟨x,I⟩:=get_some q;obtain⟨y,hy⟩:=get_some (l:=b) (k:=k) (by rw[<-N.out];exact q)
    obtain⟨b1,o1,_,h1,U,_,rfl,rfl⟩:=z.idx Tryz.underlying31 sz_int k I;obtain⟨b2,o2,_,h3,Y,_,rfl,rfl⟩:=hb.idx Tryz.underlying31 sz_int k hy;have U:=U.one;have Y:=Y.one;have Q:=hH I;clear I;have R:=hH hy;clear hy;by_cases p:x=y
    ·subst p;go_wp2;go_quiet (fail)
     go_wp2;go_roundw
     case rel=>exact⟨k+1,by omega,by go_num,at_step Q.out R.out M.out,_,rfl⟩
     case measure=>simp[intOf];omega
    ·have HN:Hid (decide (a=b)=false):=dec_f (ne_at Q.out R.out p);have hne:(x !=y)=true:=by simpa using p
     clear p;go_wp2;go_quiet (fail)
     go_wp2;go_ret;exact⟨ret_bool HN.out.symm,n+_,by rw[World.drewN_drewN]⟩
   ·go_wp2;go_ret;exact⟨ret_bool (dec_t (list_eq_of_take N.out fun j B=>M.out j (by omega))).symm,n,rfl⟩
 ·rw[dec_f (fun e=>u (by rw[e]))]
  go_enter Tryz.func239,Tryz.ntmps239
  go_wp2;go_ret;exact⟨rfl,0,rfl⟩
theorem Equal_int_q (Z vb:Value)(a b:List Int)(w:World)(z:RdS w Z a)(hb:RdS w vb b):
 Calls Tryz.prog 69 #[Z,vb] w (QTells w (.bool (decide (a=b)))):=by
 have hla:=fun J ty=>z.len Tryz.underlying31 J ty
 have D:=fun J ty=>hb.len Tryz.underlying31 J ty
 have ba:=z.le;have bb:=hb.le;by_cases u:a.length=b.length
 ·have N:=hH u;rw[<-u]at D bb;clear u;go_enter Tryz.func69,Tryz.ntmps69
  go_wp2;go_loopw [13] (fun i wr=>∃k:Nat,k<=a.length/\i= .int .i64 k/\(∀j<k,a[j]? =b[j]?)/\∃n,wr=w.drewN n) (fun i _=>a.length-(intOf i).toNat)
  case atStart=>exact⟨0,lz _,rfl,fun _ h=>absurd h (Nat.not_lt_zero _),0,rfl⟩
  case round=>
   obtain⟨k,hk,rfl,B,n,rfl⟩:=hrel;have M:=hH B;clear B;by_cases q:k<a.length
   ·obtain⟨x,I⟩:=get_some q;obtain⟨y,hy⟩:=get_some (l:=b) (k:=k) (by rw[<-N.out];exact q)
    obtain⟨b1,o1,_,h1,U,_,rfl,rfl⟩:=z.idx Tryz.underlying31 sz_int k I;obtain⟨b2,o2,_,h3,Y,_,rfl,rfl⟩:=hb.idx Tryz.underlying31 sz_int k hy;have U:=U.one;have Y:=Y.one;have Q:=hH I;clear I;have R:=hH hy;clear hy;by_cases p:x=y
    ·subst p;go_wp2;go_quiet (fail)
     go_wp2;go_roundw
     case rel=>exact⟨k+1,by omega,by go_num,at_step Q.out R.out M.out,_,rfl⟩
     case measure=>simp[intOf];omega
    ·have HN:Hid (decide (a=b)=false):=dec_f (ne_at Q.out R.out p);have hne:(x !=y)=true:=by simpa using p
     clear p;go_wp2;go_quiet (fail)
     go_wp2;go_ret;exact⟨ret_bool HN.out.symm,n+_,by rw[World.drewN_drewN]⟩
   ·go_wp2;go_ret;exact⟨ret_bool (dec_t (list_eq_of_take N.out fun j B=>M.out j (by omega))).symm,n,rfl⟩
 ·rw[dec_f (fun e=>u (by rw[e]))]
  go_enter Tryz.func69,Tryz.ntmps69
  go_wp2;go_ret;exact⟨rfl,0,rfl⟩
theorem Equal_int_c (j vb:Value)(a b:List Int)(w:World)(n:RdS w j a)(hb:RdS w vb b):
 Calls Tryz.prog 69 #[j,vb] w (Tells w (.bool (decide (a=b)))):=(Equal_int_q j vb a b w n hb).mono fun _ _ h=>h.tells
theorem samePart_c (x y:DPart)(D B:Value)(w:World)(u:RdS w D x.signs)(z:RdS w B y.signs):
 Calls Tryz.prog 192 #[.agg #[.int .i64 x.kind,.int .i64 x.n,D],.agg #[.int .i64 y.kind,.int .i64 y.n,B]] w (Tells w (.bool (decide (x=y)))):=by
 by_cases j:x.kind=y.kind
 ·have N:=hH j;have J:(x.kind==y.kind)=true:=by rw[j];simp
  clear j;by_cases I:x.n=y.n
  ·have Z:=hH I;have R:(x.n==y.n)=true:=by rw[I];simp
   clear I;by_cases p:x.signs=y.signs
   ·have q:=hH p;clear p;have HE:Hid (x=y):=by
     have j:=N.out;have I:=Z.out;have p:=q.out;show x=y;cases x;cases y;simp_all
    rw[dec_t HE.out];go_enter Tryz.func192,Tryz.ntmps192
    go_wp2_with fail
    refine(Equal_int_c _ _ _ _ _ (u.below blw) (z.below blw)).mono ?_;rintro e Q ⟨rfl,M⟩;have s1:w.heap.size+2<=Q.heap.size:=(by have:=M.size;(try simp at this);omega)
    obtain⟨a0,a1⟩:=bcell M;have U:w.heap.size<Q.heap.size:=(by omega)
    have Y:w.heap.size+1<Q.heap.size:=(by omega)
    rw[dec_t q.out];go_wp2;go_ret;exact⟨rfl,blw⟩
   ·rw[dec_f (fun h=>p (by rw[h]))]
    go_enter Tryz.func192,Tryz.ntmps192
    go_wp2_with fail
    refine(Equal_int_c _ _ _ _ _ (u.below blw) (z.below blw)).mono ?_;rintro e Q ⟨rfl,M⟩;have s1:w.heap.size+2<=Q.heap.size:=(by have:=M.size;(try simp at this);omega)
    obtain⟨a0,a1⟩:=bcell M;have U:w.heap.size<Q.heap.size:=(by omega)
    have Y:w.heap.size+1<Q.heap.size:=(by omega)
    rw[dec_f p];go_wp2;go_ret;exact⟨rfl,blw⟩
  ·rw[dec_f (fun h=>I (by rw[h]))]
   have R:(x.n==y.n)=false:=by simpa using I
   clear I;go_enter Tryz.func192,Tryz.ntmps192
   go_wp2;go_ret;exact⟨rfl,blw⟩
 ·rw[dec_f (fun h=>j (by rw[h]))]
  have J:(x.kind==y.kind)=false:=by simpa using j
  clear j;go_enter Tryz.func192,Tryz.ntmps192
  go_wp2;go_ret;exact⟨rfl,blw⟩
theorem EqualFunc_Part_c (va vb:Value)(a b:List DPart)(w:World)(Y:RdS w va a)(hb:RdS w vb b):
 Calls Tryz.prog 191 #[va,vb,.func (.func 192) #[] #[]] w (Tells w (.bool (decide (a=b)))):=by
 have hla:=fun w1 ty=>Y.len Tryz.underlying30 w1 ty
 have hlb:=fun w1 ty=>hb.len Tryz.underlying30 w1 ty
 have ba:=Y.le;have bb:=hb.le;by_cases Q:a.length=b.length
 ·have HL:=hH Q;rw[<-Q]at hlb bb;clear Q;go_enter Tryz.func191,Tryz.ntmps191
  go_wp2;go_loopw [17] (fun i wr=>∃k:Nat,k<=a.length/\i= .int .i64 k/\(∀j<k,a[j]? =b[j]?)/\Below w.heap.size w wr) (fun i _=>a.length-(intOf i).toNat)
  case atStart=>exact⟨0,lz _,rfl,fun _ h=>absurd h (Nat.not_lt_zero _),lf _ _⟩
  case round=>
   obtain⟨k,hk,rfl,hj,q⟩:=hrel;have hsz:=q.size;have HJ:=hH hj;clear hj;by_cases J:k<a.length
   ·obtain⟨x,hx⟩:=get_some J;obtain⟨y,hy⟩:=get_some (l:=b) (k:=k) (by rw[<-HL.out];exact J)
    obtain⟨b1,o1,cs,h1,U,h3⟩:=(Y.below q).idx Tryz.underlying30 szi_DPart k hx;obtain⟨N,rfl,n⟩:=inv_DPart h3;obtain⟨b2,o2,cs,g1,R,g3⟩:=(hb.below q).idx Tryz.underlying30 szi_DPart k hy;obtain⟨M,rfl,p⟩:=inv_DPart g3;have q0:=U.zero;have q1:=U 1 _ rfl;have q2:=U 2 _ rfl;have p0:=R.zero;have p1:=R 1 _ rfl;have p2:=R 2 _ rfl;have l1:b1<wr.heap.size:=lk (w:=wr) (a:=⟨b1,o1,none⟩) q0;have l2:b2<wr.heap.size:=lk (w:=wr) (a:=⟨b2,o2,none⟩) p0;obtain⟨z,D,rfl⟩:=n.isSlice;obtain⟨B,I,rfl⟩:=p.isSlice;have HX:=hH hx;clear hx;have HY:=hH hy;clear hy;by_cases u:x=y
    ·subst u;go_wp2_with fail
     refine(samePart_c x x _ _ _ (n.below blw) (p.below blw)).mono ?_;rintro e w2 ⟨rfl,Z⟩;rw[dec_t rfl];go_wp2;go_roundw
     case rel=>exact⟨k+1,by omega,by go_num,at_step HX.out HY.out HJ.out,blw⟩
     case measure=>simp[intOf];omega
    ·have HN:Hid (decide (a=b)=false):=dec_f (ne_at HX.out HY.out u);go_wp2_with fail
     refine(samePart_c x y _ _ _ (n.below blw) (p.below blw)).mono ?_;rintro e w2 ⟨rfl,Z⟩;rw[dec_f u];go_wp2;go_ret;exact⟨ret_bool HN.out.symm,blw⟩
   ·go_wp2;go_ret;exact⟨ret_bool (dec_t (list_eq_of_take HL.out fun j hj=>HJ.out j (by omega))).symm,q⟩
 ·rw[dec_f (fun e=>Q (by rw[e]))]
  go_enter Tryz.func191,Tryz.ntmps191
  go_wp2;go_ret;exact⟨rfl,lf _ _⟩
theorem spec_SignsSame_qt (j vb:Value)(a:List Int)(w:World)(n:RdS w j a)(hb:RdS w vb a):
 Calls Tryz.prog 239 #[j,vb] w (QTells w (.bool true)):=by
 have:=spec_SignsSame_q j vb a a w n hb;rwa[dec_t rfl]at this
theorem spec_SignsSame_qf (n vb:Value)(a b:List Int)(j:¬a=b)(w:World)(p:RdS w n a)(hb:RdS w vb b):
 Calls Tryz.prog 239 #[n,vb] w (QTells w (.bool false)):=by
 have:=spec_SignsSame_q n vb a b w p hb;rwa[dec_f j]at this
theorem part_ne {x y:DPart}(h:¬x=y)(j:x.kind=y.kind)(p:x.n=y.n):¬x.signs=y.signs:=by
 intro q;cases x;cases y;simp_all
theorem spec_OpSame_c (va vb:Value)(a b:List DPart)(w:World)(ha:RdS w va a)(hb:RdS w vb b):
 Calls Tryz.prog 232 #[va,vb] w (Tells w (.bool (decide (a=b)))):=by
 have hla:=fun w1 ty=>ha.len Tryz.underlying30 w1 ty
 have hlb:=fun w1 ty=>hb.len Tryz.underlying30 w1 ty
 have ba:=ha.le;have bb:=hb.le;by_cases Y:a.length=b.length
 ·have HL:=hH Y;rw[<-Y]at hlb bb;clear Y;go_enter Tryz.func232,Tryz.ntmps232
  go_wp2;go_loopw [14] (fun i wr=>∃k:Nat,k<=a.length/\i= .int .i64 k/\(∀j<k,a[j]? =b[j]?)/\Below w.heap.size w wr) (fun i _=>a.length-(intOf i).toNat)
  case atStart=>exact⟨0,lz _,rfl,fun _ h=>absurd h (Nat.not_lt_zero _),lf _ _⟩
  case round=>
   obtain⟨k,hk,rfl,hj,z⟩:=hrel;have hsz:=z.size;have HJ:=hH hj;clear hj;by_cases Q:k<a.length
   ·obtain⟨x,hx⟩:=get_some Q;obtain⟨y,hy⟩:=get_some (l:=b) (k:=k) (by rw[<-HL.out];exact Q)
    obtain⟨b1,o1,cs,h1,h2,h3⟩:=(ha.below z).idx Tryz.underlying30 szi_DPart k hx;obtain⟨U,rfl,p⟩:=inv_DPart h3;obtain⟨b2,o2,cs,g1,g2,g3⟩:=(hb.below z).idx Tryz.underlying30 szi_DPart k hy;obtain⟨R,rfl,q⟩:=inv_DPart g3;have q0:=h2.zero;have q1:=h2 1 _ rfl;have q2:=h2 2 _ rfl;have p0:=g2.zero;have p1:=g2 1 _ rfl;have p2:=g2 2 _ rfl;have l1:b1<wr.heap.size:=lk (w:=wr) (a:=⟨b1,o1,none⟩) q0;have l2:b2<wr.heap.size:=lk (w:=wr) (a:=⟨b2,o2,none⟩) p0;obtain⟨B,I,rfl⟩:=p.isSlice;obtain⟨D,J,rfl⟩:=q.isSlice;have HX:=hH hx;clear hx;have HY:=hH hy;clear hy;by_cases u:x=y
    ·subst u;have k1:(x.kind !=x.kind)=false:=by simp
     have k2:(x.n !=x.n)=false:=by simp
     go_wp2;go_quiet ((go_at_call 239;exact Calls.quiet_of (spec_SignsSame_qt _ _ x.signs _ (p.below blw) (q.below blw))))
     go_wp2;go_roundw
     case rel=>exact⟨k+1,by omega,by go_num,at_step HX.out HY.out HJ.out,blw⟩
     case measure=>simp[intOf];omega
    ·have Z:Hid (decide (a=b)=false):=dec_f (ne_at HX.out HY.out u);by_cases M:x.kind=y.kind
     ·have k1:(x.kind !=y.kind)=false:=by simp[M]
      by_cases N:x.n=y.n
      ·have k2:(x.n !=y.n)=false:=by simp[N]
       have k3:=part_ne u M N;have K3:=hH k3;clear M N u k3;go_wp2;go_quiet ((go_at_call 239;exact Calls.quiet_of (spec_SignsSame_qf _ _ x.signs y.signs K3.out _ (p.below blw) (q.below blw))))
       go_wp2;go_ret;exact⟨ret_bool Z.out.symm,blw⟩
      ·have k2:(x.n !=y.n)=true:=by simpa using N
       clear M N u;go_wp2;go_quiet (fail)
       go_wp2;go_ret;exact⟨ret_bool Z.out.symm,blw⟩
     ·have k1:(x.kind !=y.kind)=true:=by simpa using M
      clear M u;go_wp2;go_quiet (fail)
      go_wp2;go_ret;exact⟨ret_bool Z.out.symm,blw⟩
   ·go_wp2;go_ret;exact⟨ret_bool (dec_t (list_eq_of_take HL.out fun j hj=>HJ.out j (by omega))).symm,z⟩
 ·rw[dec_f (fun e=>Y (by rw[e]))]
  go_enter Tryz.func232,Tryz.ntmps232
  go_wp2;go_ret;exact⟨rfl,lf _ _⟩
theorem impl_OpSame_c (n vb:Value)(a b:List DPart)(w:World)(p:RdS w n a)(hb:RdS w vb b):
 Calls Tryz.prog 135 #[n,vb] w (Tells w (.bool (decide (a=b)))):=by
 go_enter Tryz.func135,Tryz.ntmps135
 go_wp2_with fail
 refine(EqualFunc_Part_c _ _ a b _ p hb).mono ?_;rintro e q ⟨rfl,j⟩;go_wp2;go_ret;exact⟨rfl,j⟩
