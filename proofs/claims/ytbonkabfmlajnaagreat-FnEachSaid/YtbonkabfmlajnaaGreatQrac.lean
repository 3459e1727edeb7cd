/- Comparisons. -/
import Derived.Test.YtbonkabfmlajnaaGreatQrab
import Derived.Deep.RegionHeld3
set_option maxHeartbeats 1000000
set_option maxRecDepth 100000
namespace Go.Proofs.YtbonkabfmlajnaaGreat
open Go.RowKit
def uaQ (w:World)(v:Value)(e:Ending)(w':World):Prop:=e= .returned v/\∃n,w'=w.drewN n
theorem uaQ.tells {w:World}{v:Value}{e:Ending}{j:World}(h:uaQ w v e j):yae w v e j:=by
 obtain⟨p,n,rfl⟩:=h;exact⟨p,za5 (lf _ _) n⟩
theorem Xa8 {a b:ByteArray}(h:a=b):(a.toList==b.toList)=true:=by rw[h];simp
theorem vaK {a b:ByteArray}(h:¬a=b):(a.toList==b.toList)=false:=by
 rw[ByteArray.toList_eq,ByteArray.toList_eq];refine beq_eq_false_iff_ne.2 fun e=>h ?_
 cases a;cases b;simpa using e
theorem Jas {α:Type}[DecidableEq α]{a b:α}(h:a=b):decide (a=b)=true:=decide_eq_true h
theorem jan {α:Type}[DecidableEq α]{a b:α}(h:¬a=b):decide (a=b)=false:=decide_eq_false h
theorem ube {α:Type}{a b:List α}{k:Nat}{x y:α}(n:a[k]? =some x)(hy:b[k]? =some y)(j:¬x=y):¬a=b:=by
 rintro rfl;exact j (Option.some.inj (n.symm.trans hy))
theorem XaT {α:Type}{a b:List α}{k:Nat}{x:α}(q:a[k]? =some x)(hy:b[k]? =some x)(n:∀j<k,a[j]? =b[j]?):∀j<k+1,a[j]? =b[j]? :=by
 intro j p;by_cases e:j=k
 ·subst e;rw[q,hy]
 ·exact n j om
theorem yaw (Z vb:Value)(a b:List Int)(w:World)(z:RdS w Z a)(hb:RdS w vb b):
 Calls Tryz.prog 173 #[Z,vb] w (uaQ w (.bool (decide (a=b)))):=by
 have hla:=fun J ty=>z.len Tryz.underlying31 J ty
 have D:=fun J ty=>hb.len Tryz.underlying31 J ty
 have ba:=z.le;have bb:=hb.le;by_cases u:a.length=b.length
 ·have N:=hH u;rw[<-u]at D bb;clear u;go_enter Tryz.func173,Tryz.ntmps173
  go_wp2;go_loopw [13] (fun i wr=>∃k:Nat,k<=a.length/\i= .int .i64 k/\(∀j<k,a[j]? =b[j]?)/\∃n,wr=w.drewN n) (fun i _=>a.length-(intOf i).toNat)
  case atStart=>exact⟨0,lz _,rfl,fun _ h=>absurd h (Nat.not_lt_zero _),0,rfl⟩
  case round=>
   obtain⟨k,hk,rfl,B,n,rfl⟩:=hrel;have M:=hH B;clear B;by_cases q:k<a.length
   ·obtain⟨x,I⟩:=Jaa q;obtain⟨y,hy⟩:=Jaa (l:=b) (k:=k) (by rw[<-N.out];exact q)
    obtain⟨b1,o1,_,h1,U,_,rfl,rfl⟩:=z.idx Tryz.underlying31 xaH k I;obtain⟨b2,o2,_,h3,Y,_,rfl,rfl⟩:=hb.idx Tryz.underlying31 xaH k hy;have U:=U.one;have Y:=Y.one;have Q:=hH I;clear I;have R:=hH hy;clear hy;by_cases p:x=y
    ·subst p;go_wp2;go_quiet (fail)
     go_wp2;go_roundw
     case rel=>exact⟨k+1,by omega,by go_num,XaT Q.out R.out M.out,_,rfl⟩
     case measure=>simp[intOf];omega
    ·have HN:Hid (decide (a=b)=false):=jan (ube Q.out R.out p);have hne:(x !=y)=true:=by simpa using p
     clear p;go_wp2;go_quiet (fail)
     go_wp2;go_ret;exact⟨jaa HN.out.symm,n+_,by rw[World.drewN_drewN]⟩
   ·go_wp2;go_ret;exact⟨jaa (Jas (Qan N.out fun j B=>M.out j om)).symm,n,rfl⟩
 ·rw[jan (fun e=>u (by rw[e]))]
  go_enter Tryz.func173,Tryz.ntmps173
  go_wp2;go_ret;exact⟨rfl,0,rfl⟩
theorem ja3 (Z vb:Value)(a b:List Int)(w:World)(z:RdS w Z a)(hb:RdS w vb b):
 Calls Tryz.prog 39 #[Z,vb] w (uaQ w (.bool (decide (a=b)))):=by
 have hla:=fun J ty=>z.len Tryz.underlying31 J ty
 have D:=fun J ty=>hb.len Tryz.underlying31 J ty
 have ba:=z.le;have bb:=hb.le;by_cases u:a.length=b.length
 ·have N:=hH u;rw[<-u]at D bb;clear u;go_enter Tryz.func39,Tryz.ntmps39
  go_wp2;go_loopw [13] (fun i wr=>∃k:Nat,k<=a.length/\i= .int .i64 k/\(∀j<k,a[j]? =b[j]?)/\∃n,wr=w.drewN n) (fun i _=>a.length-(intOf i).toNat)
  case atStart=>exact⟨0,lz _,rfl,fun _ h=>absurd h (Nat.not_lt_zero _),0,rfl⟩
  case round=>
   obtain⟨k,hk,rfl,B,n,rfl⟩:=hrel;have M:=hH B;clear B;by_cases q:k<a.length
   ·obtain⟨x,I⟩:=Jaa q;obtain⟨y,hy⟩:=Jaa (l:=b) (k:=k) (by rw[<-N.out];exact q)
    obtain⟨b1,o1,_,h1,U,_,rfl,rfl⟩:=z.idx Tryz.underlying31 xaH k I;obtain⟨b2,o2,_,h3,Y,_,rfl,rfl⟩:=hb.idx Tryz.underlying31 xaH k hy;have U:=U.one;have Y:=Y.one;have Q:=hH I;clear I;have R:=hH hy;clear hy;by_cases p:x=y
    ·subst p;go_wp2;go_quiet (fail)
     go_wp2;go_roundw
     case rel=>exact⟨k+1,by omega,by go_num,XaT Q.out R.out M.out,_,rfl⟩
     case measure=>simp[intOf];omega
    ·have HN:Hid (decide (a=b)=false):=jan (ube Q.out R.out p);have hne:(x !=y)=true:=by simpa using p
     clear p;go_wp2;go_quiet (fail)
     go_wp2;go_ret;exact⟨jaa HN.out.symm,n+_,by rw[World.drewN_drewN]⟩
   ·go_wp2;go_ret;exact⟨jaa (Jas (Qan N.out fun j B=>M.out j om)).symm,n,rfl⟩
 ·rw[jan (fun e=>u (by rw[e]))]
  go_enter Tryz.func39,Tryz.ntmps39
  go_wp2;go_ret;exact⟨rfl,0,rfl⟩
theorem uao (j vb:Value)(a b:List Int)(w:World)(n:RdS w j a)(hb:RdS w vb b):
 Calls Tryz.prog 39 #[j,vb] w (yae w (.bool (decide (a=b)))):=(ja3 j vb a b w n hb).mono fun _ _ h=>h.tells
theorem QaQ (x y:zaa)(D B:Value)(w:World)(u:RdS w D x.signs)(z:RdS w B y.signs):
 Calls Tryz.prog 114 #[.agg #[x.kind,x.n,D],.agg #[y.kind,y.n,B]] w (yae w (.bool (decide (x=y)))):=by
 by_cases j:x.kind=y.kind
 ·have N:=hH j;have J:(x.kind==y.kind)=true:=by rw[j];simp
  clear j;by_cases I:x.n=y.n
  ·have Z:=hH I;have R:(x.n==y.n)=true:=by rw[I];simp
   clear I;by_cases p:x.signs=y.signs
   ·have q:=hH p;clear p;have HE:Hid (x=y):=by
     have j:=N.out;have I:=Z.out;have p:=q.out;show x=y;cases x;cases y;simp_all
    rw[Jas HE.out];go_enter Tryz.func114,Tryz.ntmps114
    go_wp2_with fail
    refine(uao _ _ _ _ _ (u.below blw) (z.below blw)).mono ?_;rintro e Q ⟨rfl,M⟩;have s1:w+2<=Q.heap.size:=(by have:=M.size;(try simp at this);omega)
    obtain⟨a0,a1⟩:=jac M;have U:w<Q.heap.size:=om;have Y:w+1<Q.heap.size:=om;rw[Jas q.out];go_wp2;go_ret;exact⟨rfl,blw⟩
   ·rw[jan (fun h=>p (by rw[h]))]
    go_enter Tryz.func114,Tryz.ntmps114
    go_wp2_with fail
    refine(uao _ _ _ _ _ (u.below blw) (z.below blw)).mono ?_;rintro e Q ⟨rfl,M⟩;have s1:w+2<=Q.heap.size:=(by have:=M.size;(try simp at this);omega)
    obtain⟨a0,a1⟩:=jac M;have U:w<Q.heap.size:=om;have Y:w+1<Q.heap.size:=om;rw[jan p];go_wp2;go_ret;exact⟨rfl,blw⟩
  ·rw[jan (fun h=>I (by rw[h]))]
   have R:(x.n==y.n)=false:=by simpa using I
   clear I;go_enter Tryz.func114,Tryz.ntmps114
   go_wp2;go_ret;exact⟨rfl,blw⟩
 ·rw[jan (fun h=>j (by rw[h]))]
  have J:(x.kind==y.kind)=false:=by simpa using j
  clear j;go_enter Tryz.func114,Tryz.ntmps114
  go_wp2;go_ret;exact⟨rfl,blw⟩
theorem QaI (va vb:Value)(a b:List zaa)(w:World)(Y:RdS w va a)(hb:RdS w vb b):
 Calls Tryz.prog 113 #[va,vb,.func (.func 114) #[] #[]] w (yae w (.bool (decide (a=b)))):=by
 have hla:=fun w1 ty=>Y.len Tryz.underlying30 w1 ty
 have hlb:=fun w1 ty=>hb.len Tryz.underlying30 w1 ty
 have ba:=Y.le;have bb:=hb.le;by_cases Q:a.length=b.length
 ·have HL:=hH Q;rw[<-Q]at hlb bb;clear Q;go_enter Tryz.func113,Tryz.ntmps113
  go_wp2;go_loopw [17] (fun i wr=>∃k:Nat,k<=a.length/\i= .int .i64 k/\(∀j<k,a[j]? =b[j]?)/\Below w w wr) (fun i _=>a.length-(intOf i).toNat)
  case atStart=>exact⟨0,lz _,rfl,fun _ h=>absurd h (Nat.not_lt_zero _),lf _ _⟩
  case round=>
   obtain⟨k,hk,rfl,hj,q⟩:=hrel;have hsz:=q.size;have HJ:=hH hj;clear hj;by_cases J:k<a.length
   ·obtain⟨x,hx⟩:=Jaa J;obtain⟨y,hy⟩:=Jaa (l:=b) (k:=k) (by rw[<-HL.out];exact J)
    obtain⟨b1,o1,cs,h1,U,h3⟩:=(Y.below q).idx Tryz.underlying30 uae k hx;obtain⟨N,rfl,n⟩:=xah h3;obtain⟨b2,o2,cs,g1,R,g3⟩:=(hb.below q).idx Tryz.underlying30 uae k hy;obtain⟨M,rfl,p⟩:=xah g3;have q0:=U.zero;have q1:=U 1 _ rfl;have q2:=U 2 _ rfl;have p0:=R.zero;have p1:=R 1 _ rfl;have p2:=R 2 _ rfl;have l1:b1<wr.heap.size:=lk (w:=wr) (a:=⟨b1,o1,none⟩) q0;have l2:b2<wr.heap.size:=lk (w:=wr) (a:=⟨b2,o2,none⟩) p0;obtain⟨z,D,rfl⟩:=n.isSlice;obtain⟨B,I,rfl⟩:=p.isSlice;have HX:=hH hx;clear hx;have HY:=hH hy;clear hy;by_cases u:x=y
    ·subst u;go_wp2_with fail
     refine(QaQ x x _ _ _ (n.below blw) (p.below blw)).mono ?_;rintro e w2 ⟨rfl,Z⟩;rw[Jas rfl];go_wp2;go_roundw
     case rel=>exact⟨k+1,by omega,by go_num,XaT HX.out HY.out HJ.out,blw⟩
     case measure=>simp[intOf];omega
    ·have HN:Hid (decide (a=b)=false):=jan (ube HX.out HY.out u);go_wp2_with fail
     refine(QaQ x y _ _ _ (n.below blw) (p.below blw)).mono ?_;rintro e w2 ⟨rfl,Z⟩;rw[jan u];go_wp2;go_ret;exact⟨jaa HN.out.symm,blw⟩
   ·go_wp2;go_ret;exact⟨jaa (Jas (Qan HL.out fun j hj=>HJ.out j om)).symm,q⟩
 ·rw[jan (fun e=>Q (by rw[e]))]
  go_enter Tryz.func113,Tryz.ntmps113
  go_wp2;go_ret;exact⟨rfl,lf _ _⟩
theorem kaF (j vb:Value)(a:List Int)(w:World)(n:RdS w j a)(hb:RdS w vb a):
 Calls Tryz.prog 173 #[j,vb] w (uaQ w (.bool true)):=by
 have:=yaw j vb a a w n hb;rwa[Jas rfl]at this
theorem qaF (n vb:Value)(a b:List Int)(j:¬a=b)(w:World)(p:RdS w n a)(hb:RdS w vb b):
 Calls Tryz.prog 173 #[n,vb] w (uaQ w (.bool false)):=by
 have:=yaw n vb a b w p hb;rwa[jan j]at this
theorem zbg {x y:zaa}(h:¬x=y)(j:x.kind=y.kind)(p:x.n=y.n):¬x.signs=y.signs:=by
 intro q;cases x;cases y;simp_all
theorem zaU (va vb:Value)(a b:List zaa)(w:World)(ha:RdS w va a)(hb:RdS w vb b):
 Calls Tryz.prog 169 #[va,vb] w (yae w (.bool (decide (a=b)))):=by
 have hla:=fun w1 ty=>ha.len Tryz.underlying30 w1 ty
 have hlb:=fun w1 ty=>hb.len Tryz.underlying30 w1 ty
 have ba:=ha.le;have bb:=hb.le;by_cases Y:a.length=b.length
 ·have HL:=hH Y;rw[<-Y]at hlb bb;clear Y;go_enter Tryz.func169,Tryz.ntmps169
  go_wp2;go_loopw [14] (fun i wr=>∃k:Nat,k<=a.length/\i= .int .i64 k/\(∀j<k,a[j]? =b[j]?)/\Below w w wr) (fun i _=>a.length-(intOf i).toNat)
  case atStart=>exact⟨0,lz _,rfl,fun _ h=>absurd h (Nat.not_lt_zero _),lf _ _⟩
  case round=>
   obtain⟨k,hk,rfl,hj,z⟩:=hrel;have hsz:=z.size;have HJ:=hH hj;clear hj;by_cases Q:k<a.length
   ·obtain⟨x,hx⟩:=Jaa Q;obtain⟨y,hy⟩:=Jaa (l:=b) (k:=k) (by rw[<-HL.out];exact Q)
    obtain⟨b1,o1,cs,h1,h2,h3⟩:=(ha.below z).idx Tryz.underlying30 uae k hx;obtain⟨U,rfl,p⟩:=xah h3;obtain⟨b2,o2,cs,g1,g2,g3⟩:=(hb.below z).idx Tryz.underlying30 uae k hy;obtain⟨R,rfl,q⟩:=xah g3;have q0:=h2.zero;have q1:=h2 1 _ rfl;have q2:=h2 2 _ rfl;have p0:=g2.zero;have p1:=g2 1 _ rfl;have p2:=g2 2 _ rfl;have l1:b1<wr.heap.size:=lk (w:=wr) (a:=⟨b1,o1,none⟩) q0;have l2:b2<wr.heap.size:=lk (w:=wr) (a:=⟨b2,o2,none⟩) p0;obtain⟨B,I,rfl⟩:=p.isSlice;obtain⟨D,J,rfl⟩:=q.isSlice;have HX:=hH hx;clear hx;have HY:=hH hy;clear hy;by_cases u:x=y
    ·subst u;have k1:(x.kind !=x.kind)=false:=by simp
     have k2:(x.n !=x.n)=false:=by simp
     go_wp2;go_quiet ((go_at_call 173;exact Calls.quiet_of (kaF _ _ x.signs _ (p.below blw) (q.below blw))))
     go_wp2;go_roundw
     case rel=>exact⟨k+1,by omega,by go_num,XaT HX.out HY.out HJ.out,blw⟩
     case measure=>simp[intOf];omega
    ·have Z:Hid (decide (a=b)=false):=jan (ube HX.out HY.out u);by_cases M:x.kind=y.kind
     ·have k1:(x.kind !=y.kind)=false:=by simp[M]
      by_cases N:x.n=y.n
      ·have k2:(x.n !=y.n)=false:=by simp[N]
       have k3:=zbg u M N;have K3:=hH k3;clear M N u k3;go_wp2;go_quiet ((go_at_call 173;exact Calls.quiet_of (qaF _ _ x.signs y.signs K3.out _ (p.below blw) (q.below blw))))
       go_wp2;go_ret;exact⟨jaa Z.out.symm,blw⟩
      ·have k2:(x.n !=y.n)=true:=by simpa using N
       clear M N u;go_wp2;go_quiet (fail)
       go_wp2;go_ret;exact⟨jaa Z.out.symm,blw⟩
     ·have k1:(x.kind !=y.kind)=true:=by simpa using M
      clear M u;go_wp2;go_quiet (fail)
      go_wp2;go_ret;exact⟨jaa Z.out.symm,blw⟩
   ·go_wp2;go_ret;exact⟨jaa (Jas (Qan HL.out fun j hj=>HJ.out j om)).symm,z⟩
 ·rw[jan (fun e=>Y (by rw[e]))]
  go_enter Tryz.func169,Tryz.ntmps169
  go_wp2;go_ret;exact⟨rfl,lf _ _⟩
theorem van (n vb:Value)(a b:List zaa)(w:World)(p:RdS w n a)(hb:RdS w vb b):
 Calls Tryz.prog 73 #[n,vb] w (yae w (.bool (decide (a=b)))):=by
 go_enter Tryz.func73,Tryz.ntmps73
 go_wp2_with fail
 refine(QaI _ _ a b _ p hb).mono ?_;rintro e q ⟨rfl,j⟩;go_wp2;go_ret;exact⟨rfl,j⟩
theorem QaK (x y:Jag)(v_o u_o:Value)(R Q:Value)(w:World)(aa:RdS w v_o x.o)(ac:RdS w u_o y.o)(M:RdS w R x.text)(N:RdS w Q y.text):
 Calls Tryz.prog 33 #[.agg #[x.kind,x.doc,x.client,x.seq,x.n,v_o,R],.agg #[y.kind,y.doc,y.client,y.seq,y.n,u_o,Q]] w (yae w (.bool (decide (x=y)))):=by
 by_cases p:x.kind=y.kind
 ·have a4:=hH p;have Z:(x.kind==y.kind)=true:=by rw[p];simp
  clear p;by_cases q:x.doc=y.doc
  ·have a7:=hH q;have a2:(x.doc.toList==y.doc.toList)=true:=Xa8 q;clear q;by_cases j:x.client=y.client
   ·have U:=hH j;have D:(x.client==y.client)=true:=by rw[j];simp
    clear j;by_cases u:x.seq=y.seq
    ·have a9:=hH u;have a3:(x.seq==y.seq)=true:=by rw[u];simp
     clear u;by_cases I:x.n=y.n
     ·have E_n:=hH I;have E2_n:(x.n==y.n)=true:=by rw[I];simp
      clear I;by_cases a0:x.o=y.o
      ·have a8:=hH a0;clear a0;by_cases z:x.text=y.text
       ·have J:=hH z;clear z;have HE:Hid (x=y):=by
         have p:=a4.out;have q:=a7.out;have j:=U.out;have u:=a9.out;have I:=E_n.out;have a0:=a8.out;have z:=J.out;show x=y;cases x;cases y;simp_all
        rw[Jas HE.out];go_enter Tryz.func33,Tryz.ntmps33
        go_wp2_with fail
        refine(van _ _ _ _ _ (aa.below blw) (ac.below blw)).mono ?_;rintro e Y ⟨rfl,B⟩;have s1:w+2<=Y.heap.size:=(by have:=B.size;(try simp at this);omega)
        obtain⟨hc1,hf1⟩:=jac B;have a5:w<Y.heap.size:=om;have a6:w+1<Y.heap.size:=om;rw[Jas a8.out];go_wp2_with fail
        refine(uao _ _ _ _ _ (M.below blw) (N.below blw)).mono ?_;rintro e w2 ⟨rfl,a1⟩;have s2:Y<=w2.heap.size:=(by have:=a1.size;(try simp at this);omega)
        obtain⟨hc2,hf2⟩:=jac a1;have z2_0:w<w2.heap.size:=om;have z2_1:w+1<w2.heap.size:=om;rw[Jas J.out];go_wp2;go_ret;exact⟨rfl,blw⟩
       ·rw[jan (fun h=>z (by rw[h]))]
        go_enter Tryz.func33,Tryz.ntmps33
        go_wp2_with fail
        refine(van _ _ _ _ _ (aa.below blw) (ac.below blw)).mono ?_;rintro e Y ⟨rfl,B⟩;have s1:w+2<=Y.heap.size:=(by have:=B.size;(try simp at this);omega)
        obtain⟨hc1,hf1⟩:=jac B;have a5:w<Y.heap.size:=om;have a6:w+1<Y.heap.size:=om;rw[Jas a8.out];go_wp2_with fail
        refine(uao _ _ _ _ _ (M.below blw) (N.below blw)).mono ?_;rintro e w2 ⟨rfl,a1⟩;have s2:Y<=w2.heap.size:=(by have:=a1.size;(try simp at this);omega)
        obtain⟨hc2,hf2⟩:=jac a1;have z2_0:w<w2.heap.size:=om;have z2_1:w+1<w2.heap.size:=om;rw[jan z];go_wp2;go_ret;exact⟨rfl,blw⟩
      ·rw[jan (fun h=>a0 (by rw[h]))]
       go_enter Tryz.func33,Tryz.ntmps33
       go_wp2_with fail
       refine(van _ _ _ _ _ (aa.below blw) (ac.below blw)).mono ?_;rintro e Y ⟨rfl,B⟩;have s1:w+2<=Y.heap.size:=(by have:=B.size;(try simp at this);omega)
       obtain⟨hc1,hf1⟩:=jac B;have a5:w<Y.heap.size:=om;have a6:w+1<Y.heap.size:=om;rw[jan a0];go_wp2;go_ret;exact⟨rfl,blw⟩
     ·rw[jan (fun h=>I (by rw[h]))]
      have E2_n:(x.n==y.n)=false:=by simpa using I
      clear I;go_enter Tryz.func33,Tryz.ntmps33
      go_wp2;go_ret;exact⟨rfl,blw⟩
    ·rw[jan (fun h=>u (by rw[h]))]
     have a3:(x.seq==y.seq)=false:=by simpa using u
     clear u;go_enter Tryz.func33,Tryz.ntmps33
     go_wp2;go_ret;exact⟨rfl,blw⟩
   ·rw[jan (fun h=>j (by rw[h]))]
    have D:(x.client==y.client)=false:=by simpa using j
    clear j;go_enter Tryz.func33,Tryz.ntmps33
    go_wp2;go_ret;exact⟨rfl,blw⟩
  ·rw[jan (fun h=>q (by rw[h]))]
   have a2:(x.doc.toList==y.doc.toList)=false:=vaK q;clear q;go_enter Tryz.func33,Tryz.ntmps33
   go_wp2;go_ret;exact⟨rfl,blw⟩
 ·rw[jan (fun h=>p (by rw[h]))]
  have Z:(x.kind==y.kind)=false:=by simpa using p
  clear p;go_enter Tryz.func33,Tryz.ntmps33
  go_wp2;go_ret;exact⟨rfl,blw⟩
