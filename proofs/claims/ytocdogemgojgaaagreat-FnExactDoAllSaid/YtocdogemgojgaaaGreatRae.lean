/- A slice that is kept through draws, new blocks, stores elsewhere. -/
import Derived.Test.YtocdogemgojgaaaGreatRad
import Derived.Deep.RegionHeld3
set_option maxHeartbeats 1000000
set_option maxRecDepth 100000
namespace Go.Proofs.YtocdogemgojgaaaGreat
open Go.RowKit
section
variable {α:Type} [GoT α] {M:Nat} {w:World} {v:Value} {l:List α} {f:List Pos}
theorem Sl.drewS (h:Sl M w v l f):Sl M w.drew v l f:=h.keep fun _ _=>rfl
theorem Sl.putS (h:Sl M w v l f){b o:Nat}(j:(b,o)∉f)(u:Value):Sl M (w.setCell ⟨b,o,none⟩ u) v l f:=h.put j u
end
end Go.Proofs.YtocdogemgojgaaaGreat
namespace Go.Proofs.YtocdogemgojgaaaGreat
open Go.RowKit
def KaT (w:World)(v:Value)(e:Ending)(w':World):Prop:=e= .returned v/\∃n,w'=w.drewN n
theorem KaT.tells {w:World}{v:Value}{e:Ending}{j:World}(h:KaT w v e j):uac w v e j:=by
 obtain⟨p,n,rfl⟩:=h;exact⟨p,va2 (lf _ _) n⟩
theorem xbk {a b:ByteArray}(h:a=b):(a.toList==b.toList)=true:=by rw[h];simp
theorem xaR {a b:ByteArray}(h:¬a=b):(a.toList==b.toList)=false:=by
 rw[ByteArray.toList_eq,ByteArray.toList_eq];refine beq_eq_false_iff_ne.2 fun e=>h ?_
 cases a;cases b;simpa using e
theorem uaw {α:Type}[DecidableEq α]{a b:α}(h:a=b):decide (a=b)=true:=decide_eq_true h
theorem zao {α:Type}[DecidableEq α]{a b:α}(h:¬a=b):decide (a=b)=false:=decide_eq_false h
theorem qbk {α:Type}{a b:List α}{k:Nat}{x y:α}(n:a[k]? =some x)(hy:b[k]? =some y)(j:¬x=y):¬a=b:=by
 rintro rfl;exact j (Option.some.inj (n.symm.trans hy))
theorem QaX {α:Type}{a b:List α}{k:Nat}{x:α}(q:a[k]? =some x)(hy:b[k]? =some x)(n:∀j<k,a[j]? =b[j]?):∀j<k+1,a[j]? =b[j]? :=by
 intro j p;by_cases e:j=k
 ·subst e;rw[q,hy]
 ·exact n j om
theorem jax (Z vb:Value)(a b:List Int)(w:World)(z:RdS w Z a)(hb:RdS w vb b):
 Calls Tryz.prog 239 #[Z,vb] w (KaT w (.bool (decide (a=b)))):=by
 have hla:=fun J ty=>z.len Tryz.underlying31 J ty
 have D:=fun J ty=>hb.len Tryz.underlying31 J ty
 have ba:=z.le;have bb:=hb.le;by_cases u:a.length=b.length
 ·have N:=hH u;rw[<-u]at D bb;clear u;go_enter Tryz.func239,Tryz.ntmps239
  go_wp2;go_loopw [13] (fun i wr=>∃k:Nat,k<=a.length/\i= .int .i64 k/\(∀j<k,a[j]? =b[j]?)/\∃n,wr=w.drewN n) (fun i _=>a.length-(intOf i).toNat)
  case atStart=>exact⟨0,lz _,rfl,fun _ h=>absurd h (Nat.not_lt_zero _),0,rfl⟩
  case round=>
   obtain⟨k,hk,rfl,B,n,rfl⟩:=hrel;have M:=hH B;clear B;by_cases q:k<a.length
   ·obtain⟨x,I⟩:=jaa q;obtain⟨y,hy⟩:=jaa (l:=b) (k:=k) (by rw[<-N.out];exact q)
    obtain⟨b1,o1,_,h1,U,_,rfl,rfl⟩:=z.idx Tryz.underlying31 kax k I;obtain⟨b2,o2,_,h3,Y,_,rfl,rfl⟩:=hb.idx Tryz.underlying31 kax k hy;have U:=U.one;have Y:=Y.one;have Q:=hH I;clear I;have R:=hH hy;clear hy;by_cases p:x=y
    ·subst p;go_wp2;go_quiet (fail)
     go_wp2;go_roundw
     case rel=>exact⟨k+1,by omega,by go_num,QaX Q.out R.out M.out,_,rfl⟩
     case measure=>simp[intOf];omega
    ·have HN:Hid (decide (a=b)=false):=zao (qbk Q.out R.out p);have hne:(x !=y)=true:=by simpa using p
     clear p;go_wp2;go_quiet (fail)
     go_wp2;go_ret;exact⟨qaa HN.out.symm,n+_,by rw[World.drewN_drewN]⟩
   ·go_wp2;go_ret;exact⟨qaa (uaw (jao N.out fun j B=>M.out j om)).symm,n,rfl⟩
 ·rw[zao (fun e=>u (by rw[e]))]
  go_enter Tryz.func239,Tryz.ntmps239
  go_wp2;go_ret;exact⟨rfl,0,rfl⟩
theorem xa5 (Z vb:Value)(a b:List Int)(w:World)(z:RdS w Z a)(hb:RdS w vb b):
 Calls Tryz.prog 69 #[Z,vb] w (KaT w (.bool (decide (a=b)))):=by
 have hla:=fun J ty=>z.len Tryz.underlying31 J ty
 have D:=fun J ty=>hb.len Tryz.underlying31 J ty
 have ba:=z.le;have bb:=hb.le;by_cases u:a.length=b.length
 ·have N:=hH u;rw[<-u]at D bb;clear u;go_enter Tryz.func69,Tryz.ntmps69
  go_wp2;go_loopw [13] (fun i wr=>∃k:Nat,k<=a.length/\i= .int .i64 k/\(∀j<k,a[j]? =b[j]?)/\∃n,wr=w.drewN n) (fun i _=>a.length-(intOf i).toNat)
  case atStart=>exact⟨0,lz _,rfl,fun _ h=>absurd h (Nat.not_lt_zero _),0,rfl⟩
  case round=>
   obtain⟨k,hk,rfl,B,n,rfl⟩:=hrel;have M:=hH B;clear B;by_cases q:k<a.length
   ·obtain⟨x,I⟩:=jaa q;obtain⟨y,hy⟩:=jaa (l:=b) (k:=k) (by rw[<-N.out];exact q)
    obtain⟨b1,o1,_,h1,U,_,rfl,rfl⟩:=z.idx Tryz.underlying31 kax k I;obtain⟨b2,o2,_,h3,Y,_,rfl,rfl⟩:=hb.idx Tryz.underlying31 kax k hy;have U:=U.one;have Y:=Y.one;have Q:=hH I;clear I;have R:=hH hy;clear hy;by_cases p:x=y
    ·subst p;go_wp2;go_quiet (fail)
     go_wp2;go_roundw
     case rel=>exact⟨k+1,by omega,by go_num,QaX Q.out R.out M.out,_,rfl⟩
     case measure=>simp[intOf];omega
    ·have HN:Hid (decide (a=b)=false):=zao (qbk Q.out R.out p);have hne:(x !=y)=true:=by simpa using p
     clear p;go_wp2;go_quiet (fail)
     go_wp2;go_ret;exact⟨qaa HN.out.symm,n+_,by rw[World.drewN_drewN]⟩
   ·go_wp2;go_ret;exact⟨qaa (uaw (jao N.out fun j B=>M.out j om)).symm,n,rfl⟩
 ·rw[zao (fun e=>u (by rw[e]))]
  go_enter Tryz.func69,Tryz.ntmps69
  go_wp2;go_ret;exact⟨rfl,0,rfl⟩
theorem Kaw (j vb:Value)(a b:List Int)(w:World)(n:RdS w j a)(hb:RdS w vb b):
 Calls Tryz.prog 69 #[j,vb] w (uac w (.bool (decide (a=b)))):=(xa5 j vb a b w n hb).mono fun _ _ h=>h.tells
theorem JaS (x y:zaa)(D B:Value)(w:World)(u:RdS w D x.signs)(z:RdS w B y.signs):
 Calls Tryz.prog 192 #[.agg #[x.kind,x.n,D],.agg #[y.kind,y.n,B]] w (uac w (.bool (decide (x=y)))):=by
 by_cases j:x.kind=y.kind
 ·have N:=hH j;have J:(x.kind==y.kind)=true:=by rw[j];simp
  clear j;by_cases I:x.n=y.n
  ·have Z:=hH I;have R:(x.n==y.n)=true:=by rw[I];simp
   clear I;by_cases p:x.signs=y.signs
   ·have q:=hH p;clear p;have HE:Hid (x=y):=by
     have j:=N.out;have I:=Z.out;have p:=q.out;show x=y;cases x;cases y;simp_all
    rw[uaw HE.out];go_enter Tryz.func192,Tryz.ntmps192
    go_wp2_with fail
    refine(Kaw _ _ _ _ _ (u.below blw) (z.below blw)).mono ?_;rintro e Q ⟨rfl,M⟩;have s1:w+2<=Q.heap.size:=(by have:=M.size;(try simp at this);omega)
    obtain⟨a0,a1⟩:=kab M;have U:w<Q.heap.size:=om;have Y:w+1<Q.heap.size:=om;rw[uaw q.out];go_wp2;go_ret;exact⟨rfl,blw⟩
   ·rw[zao (fun h=>p (by rw[h]))]
    go_enter Tryz.func192,Tryz.ntmps192
    go_wp2_with fail
    refine(Kaw _ _ _ _ _ (u.below blw) (z.below blw)).mono ?_;rintro e Q ⟨rfl,M⟩;have s1:w+2<=Q.heap.size:=(by have:=M.size;(try simp at this);omega)
    obtain⟨a0,a1⟩:=kab M;have U:w<Q.heap.size:=om;have Y:w+1<Q.heap.size:=om;rw[zao p];go_wp2;go_ret;exact⟨rfl,blw⟩
  ·rw[zao (fun h=>I (by rw[h]))]
   have R:(x.n==y.n)=false:=by simpa using I
   clear I;go_enter Tryz.func192,Tryz.ntmps192
   go_wp2;go_ret;exact⟨rfl,blw⟩
 ·rw[zao (fun h=>j (by rw[h]))]
  have J:(x.kind==y.kind)=false:=by simpa using j
  clear j;go_enter Tryz.func192,Tryz.ntmps192
  go_wp2;go_ret;exact⟨rfl,blw⟩
theorem kaK (va vb:Value)(a b:List zaa)(w:World)(Y:RdS w va a)(hb:RdS w vb b):
 Calls Tryz.prog 191 #[va,vb,.func (.func 192) #[] #[]] w (uac w (.bool (decide (a=b)))):=by
 have hla:=fun w1 ty=>Y.len Tryz.underlying30 w1 ty
 have hlb:=fun w1 ty=>hb.len Tryz.underlying30 w1 ty
 have ba:=Y.le;have bb:=hb.le;by_cases Q:a.length=b.length
 ·have HL:=hH Q;rw[<-Q]at hlb bb;clear Q;go_enter Tryz.func191,Tryz.ntmps191
  go_wp2;go_loopw [17] (fun i wr=>∃k:Nat,k<=a.length/\i= .int .i64 k/\(∀j<k,a[j]? =b[j]?)/\Below w w wr) (fun i _=>a.length-(intOf i).toNat)
  case atStart=>exact⟨0,lz _,rfl,fun _ h=>absurd h (Nat.not_lt_zero _),lf _ _⟩
  case round=>
   obtain⟨k,hk,rfl,hj,q⟩:=hrel;have hsz:=q.size;have HJ:=hH hj;clear hj;by_cases J:k<a.length
   ·obtain⟨x,hx⟩:=jaa J;obtain⟨y,hy⟩:=jaa (l:=b) (k:=k) (by rw[<-HL.out];exact J)
    obtain⟨b1,o1,cs,h1,U,h3⟩:=(Y.below q).idx Tryz.underlying30 xaf k hx;obtain⟨N,rfl,n⟩:=jag h3;obtain⟨b2,o2,cs,g1,R,g3⟩:=(hb.below q).idx Tryz.underlying30 xaf k hy;obtain⟨M,rfl,p⟩:=jag g3;have q0:=U.zero;have q1:=U 1 _ rfl;have q2:=U 2 _ rfl;have p0:=R.zero;have p1:=R 1 _ rfl;have p2:=R 2 _ rfl;have l1:b1<wr.heap.size:=lk (w:=wr) (a:=⟨b1,o1,none⟩) q0;have l2:b2<wr.heap.size:=lk (w:=wr) (a:=⟨b2,o2,none⟩) p0;obtain⟨z,D,rfl⟩:=n.isSlice;obtain⟨B,I,rfl⟩:=p.isSlice;have HX:=hH hx;clear hx;have HY:=hH hy;clear hy;by_cases u:x=y
    ·subst u;go_wp2_with fail
     refine(JaS x x _ _ _ (n.below blw) (p.below blw)).mono ?_;rintro e w2 ⟨rfl,Z⟩;rw[uaw rfl];go_wp2;go_roundw
     case rel=>exact⟨k+1,by omega,by go_num,QaX HX.out HY.out HJ.out,blw⟩
     case measure=>simp[intOf];omega
    ·have HN:Hid (decide (a=b)=false):=zao (qbk HX.out HY.out u);go_wp2_with fail
     refine(JaS x y _ _ _ (n.below blw) (p.below blw)).mono ?_;rintro e w2 ⟨rfl,Z⟩;rw[zao u];go_wp2;go_ret;exact⟨qaa HN.out.symm,blw⟩
   ·go_wp2;go_ret;exact⟨qaa (uaw (jao HL.out fun j hj=>HJ.out j om)).symm,q⟩
 ·rw[zao (fun e=>Q (by rw[e]))]
  go_enter Tryz.func191,Tryz.ntmps191
  go_wp2;go_ret;exact⟨rfl,lf _ _⟩
theorem JaH (j vb:Value)(a:List Int)(w:World)(n:RdS w j a)(hb:RdS w vb a):
 Calls Tryz.prog 239 #[j,vb] w (KaT w (.bool true)):=by
 have:=jax j vb a a w n hb;rwa[uaw rfl]at this
theorem JaG (n vb:Value)(a b:List Int)(j:¬a=b)(w:World)(p:RdS w n a)(hb:RdS w vb b):
 Calls Tryz.prog 239 #[n,vb] w (KaT w (.bool false)):=by
 have:=jax n vb a b w p hb;rwa[zao j]at this
theorem Zbl {x y:zaa}(h:¬x=y)(j:x.kind=y.kind)(p:x.n=y.n):¬x.signs=y.signs:=by
 intro q;cases x;cases y;simp_all
theorem JaW (va vb:Value)(a b:List zaa)(w:World)(ha:RdS w va a)(hb:RdS w vb b):
 Calls Tryz.prog 232 #[va,vb] w (uac w (.bool (decide (a=b)))):=by
 have hla:=fun w1 ty=>ha.len Tryz.underlying30 w1 ty
 have hlb:=fun w1 ty=>hb.len Tryz.underlying30 w1 ty
 have ba:=ha.le;have bb:=hb.le;by_cases Y:a.length=b.length
 ·have HL:=hH Y;rw[<-Y]at hlb bb;clear Y;go_enter Tryz.func232,Tryz.ntmps232
  go_wp2;go_loopw [14] (fun i wr=>∃k:Nat,k<=a.length/\i= .int .i64 k/\(∀j<k,a[j]? =b[j]?)/\Below w w wr) (fun i _=>a.length-(intOf i).toNat)
  case atStart=>exact⟨0,lz _,rfl,fun _ h=>absurd h (Nat.not_lt_zero _),lf _ _⟩
  case round=>
   obtain⟨k,hk,rfl,hj,z⟩:=hrel;have hsz:=z.size;have HJ:=hH hj;clear hj;by_cases Q:k<a.length
   ·obtain⟨x,hx⟩:=jaa Q;obtain⟨y,hy⟩:=jaa (l:=b) (k:=k) (by rw[<-HL.out];exact Q)
    obtain⟨b1,o1,cs,h1,h2,h3⟩:=(ha.below z).idx Tryz.underlying30 xaf k hx;obtain⟨U,rfl,p⟩:=jag h3;obtain⟨b2,o2,cs,g1,g2,g3⟩:=(hb.below z).idx Tryz.underlying30 xaf k hy;obtain⟨R,rfl,q⟩:=jag g3;have q0:=h2.zero;have q1:=h2 1 _ rfl;have q2:=h2 2 _ rfl;have p0:=g2.zero;have p1:=g2 1 _ rfl;have p2:=g2 2 _ rfl;have l1:b1<wr.heap.size:=lk (w:=wr) (a:=⟨b1,o1,none⟩) q0;have l2:b2<wr.heap.size:=lk (w:=wr) (a:=⟨b2,o2,none⟩) p0;obtain⟨B,I,rfl⟩:=p.isSlice;obtain⟨D,J,rfl⟩:=q.isSlice;have HX:=hH hx;clear hx;have HY:=hH hy;clear hy;by_cases u:x=y
    ·subst u;have k1:(x.kind !=x.kind)=false:=by simp
     have k2:(x.n !=x.n)=false:=by simp
     go_wp2;go_quiet ((go_at_call 239;exact Calls.quiet_of (JaH _ _ x.signs _ (p.below blw) (q.below blw))))
     go_wp2;go_roundw
     case rel=>exact⟨k+1,by omega,by go_num,QaX HX.out HY.out HJ.out,blw⟩
     case measure=>simp[intOf];omega
    ·have Z:Hid (decide (a=b)=false):=zao (qbk HX.out HY.out u);by_cases M:x.kind=y.kind
     ·have k1:(x.kind !=y.kind)=false:=by simp[M]
      by_cases N:x.n=y.n
      ·have k2:(x.n !=y.n)=false:=by simp[N]
       have k3:=Zbl u M N;have K3:=hH k3;clear M N u k3;go_wp2;go_quiet ((go_at_call 239;exact Calls.quiet_of (JaG _ _ x.signs y.signs K3.out _ (p.below blw) (q.below blw))))
       go_wp2;go_ret;exact⟨qaa Z.out.symm,blw⟩
      ·have k2:(x.n !=y.n)=true:=by simpa using N
       clear M N u;go_wp2;go_quiet (fail)
       go_wp2;go_ret;exact⟨qaa Z.out.symm,blw⟩
     ·have k1:(x.kind !=y.kind)=true:=by simpa using M
      clear M u;go_wp2;go_quiet (fail)
      go_wp2;go_ret;exact⟨qaa Z.out.symm,blw⟩
   ·go_wp2;go_ret;exact⟨qaa (uaw (jao HL.out fun j hj=>HJ.out j om)).symm,z⟩
 ·rw[zao (fun e=>Y (by rw[e]))]
  go_enter Tryz.func232,Tryz.ntmps232
  go_wp2;go_ret;exact⟨rfl,lf _ _⟩
theorem Zar (n vb:Value)(a b:List zaa)(w:World)(p:RdS w n a)(hb:RdS w vb b):
 Calls Tryz.prog 135 #[n,vb] w (uac w (.bool (decide (a=b)))):=by
 go_enter Tryz.func135,Tryz.ntmps135
 go_wp2_with fail
 refine(kaK _ _ a b _ p hb).mono ?_;rintro e q ⟨rfl,j⟩;go_wp2;go_ret;exact⟨rfl,j⟩
theorem KaO (x y:xah)(v_o u_o:Value)(R Q:Value)(w:World)(aa:RdS w v_o x.o)(ac:RdS w u_o y.o)(M:RdS w R x.text)(N:RdS w Q y.text):
 Calls Tryz.prog 63 #[.agg #[x.kind,x.doc,x.client,x.seq,x.n,v_o,R],.agg #[y.kind,y.doc,y.client,y.seq,y.n,u_o,Q]] w (uac w (.bool (decide (x=y)))):=by
 by_cases p:x.kind=y.kind
 ·have a4:=hH p;have Z:(x.kind==y.kind)=true:=by rw[p];simp
  clear p;by_cases q:x.doc=y.doc
  ·have a7:=hH q;have a2:(x.doc.toList==y.doc.toList)=true:=xbk q;clear q;by_cases j:x.client=y.client
   ·have U:=hH j;have D:(x.client==y.client)=true:=by rw[j];simp
    clear j;by_cases u:x.seq=y.seq
    ·have a9:=hH u;have a3:(x.seq==y.seq)=true:=by rw[u];simp
     clear u;by_cases I:x.n=y.n
     ·have E_n:=hH I;have E2_n:(x.n==y.n)=true:=by rw[I];simp
      clear I;by_cases a0:x.o=y.o
      ·have a8:=hH a0;clear a0;by_cases z:x.text=y.text
       ·have J:=hH z;clear z;have HE:Hid (x=y):=by
         have p:=a4.out;have q:=a7.out;have j:=U.out;have u:=a9.out;have I:=E_n.out;have a0:=a8.out;have z:=J.out;show x=y;cases x;cases y;simp_all
        rw[uaw HE.out];go_enter Tryz.func63,Tryz.ntmps63
        go_wp2_with fail
        refine(Zar _ _ _ _ _ (aa.below blw) (ac.below blw)).mono ?_;rintro e Y ⟨rfl,B⟩;have s1:w+2<=Y.heap.size:=(by have:=B.size;(try simp at this);omega)
        obtain⟨hc1,hf1⟩:=kab B;have a5:w<Y.heap.size:=om;have a6:w+1<Y.heap.size:=om;rw[uaw a8.out];go_wp2_with fail
        refine(Kaw _ _ _ _ _ (M.below blw) (N.below blw)).mono ?_;rintro e w2 ⟨rfl,a1⟩;have s2:Y<=w2.heap.size:=(by have:=a1.size;(try simp at this);omega)
        obtain⟨hc2,hf2⟩:=kab a1;have z2_0:w<w2.heap.size:=om;have z2_1:w+1<w2.heap.size:=om;rw[uaw J.out];go_wp2;go_ret;exact⟨rfl,blw⟩
       ·rw[zao (fun h=>z (by rw[h]))]
        go_enter Tryz.func63,Tryz.ntmps63
        go_wp2_with fail
        refine(Zar _ _ _ _ _ (aa.below blw) (ac.below blw)).mono ?_;rintro e Y ⟨rfl,B⟩;have s1:w+2<=Y.heap.size:=(by have:=B.size;(try simp at this);omega)
        obtain⟨hc1,hf1⟩:=kab B;have a5:w<Y.heap.size:=om;have a6:w+1<Y.heap.size:=om;rw[uaw a8.out];go_wp2_with fail
        refine(Kaw _ _ _ _ _ (M.below blw) (N.below blw)).mono ?_;rintro e w2 ⟨rfl,a1⟩;have s2:Y<=w2.heap.size:=(by have:=a1.size;(try simp at this);omega)
        obtain⟨hc2,hf2⟩:=kab a1;have z2_0:w<w2.heap.size:=om;have z2_1:w+1<w2.heap.size:=om;rw[zao z];go_wp2;go_ret;exact⟨rfl,blw⟩
      ·rw[zao (fun h=>a0 (by rw[h]))]
       go_enter Tryz.func63,Tryz.ntmps63
       go_wp2_with fail
       refine(Zar _ _ _ _ _ (aa.below blw) (ac.below blw)).mono ?_;rintro e Y ⟨rfl,B⟩;have s1:w+2<=Y.heap.size:=(by have:=B.size;(try simp at this);omega)
       obtain⟨hc1,hf1⟩:=kab B;have a5:w<Y.heap.size:=om;have a6:w+1<Y.heap.size:=om;rw[zao a0];go_wp2;go_ret;exact⟨rfl,blw⟩
     ·rw[zao (fun h=>I (by rw[h]))]
      have E2_n:(x.n==y.n)=false:=by simpa using I
      clear I;go_enter Tryz.func63,Tryz.ntmps63
      go_wp2;go_ret;exact⟨rfl,blw⟩
    ·rw[zao (fun h=>u (by rw[h]))]
     have a3:(x.seq==y.seq)=false:=by simpa using u
     clear u;go_enter Tryz.func63,Tryz.ntmps63
     go_wp2;go_ret;exact⟨rfl,blw⟩
   ·rw[zao (fun h=>j (by rw[h]))]
    have D:(x.client==y.client)=false:=by simpa using j
    clear j;go_enter Tryz.func63,Tryz.ntmps63
    go_wp2;go_ret;exact⟨rfl,blw⟩
  ·rw[zao (fun h=>q (by rw[h]))]
   have a2:(x.doc.toList==y.doc.toList)=false:=xaR q;clear q;go_enter Tryz.func63,Tryz.ntmps63
   go_wp2;go_ret;exact⟨rfl,blw⟩
 ·rw[zao (fun h=>p (by rw[h]))]
  have Z:(x.kind==y.kind)=false:=by simpa using p
  clear p;go_enter Tryz.func63,Tryz.ntmps63
  go_wp2;go_ret;exact⟨rfl,blw⟩
