/- A hub in its block beside a cursor; a drawn hub. -/
import Derived.Test.YtbonkabfmlajnaaGreatQrbu
set_option maxHeartbeats 8000000
set_option maxRecDepth 100000
namespace Go.Proofs.YtbonkabfmlajnaaGreat
open Go.RowKit
theorem Sl.toDH {w:World}{z:qae}{j vs:Value}{fd fs:List Pos}{C:Nat}(a:Sl BIG w j z.docs fd)(b:Sl BIG w vs z.subs fs)(h:∀p∈fd++fs,C<=p.1):DH (C≤ ·) w z j vs:=⟨fd,fs,a,b,h⟩
structure xa9 (P:Nat->Prop)(w0:World)(bc:Nat)(vb:Value)(bs:List zah)(w:World)(b5:Nat)(wr:World)(z:qae)(vd vs:Value):Prop where
 cu:kac w0 bc vb bs w wr
 lc:bc<w.heap.size
 lb:w.heap.size<=b5
 x5:Bx wr b5 [z.shut,vd,vs,z.last]
 ok:Qac z=true
 hdh:DH P wr z vd vs
 p1:∀k,P k->k≠bc/\k≠b5
 p2:∀k,b5<k->P k
section
variable {P:Nat->Prop} {w0 w wr w':World} {bc b5:Nat} {vb vd vs:Value} {bs:List zah} {z:qae}
theorem Jau {b:Nat}(h:b≠bc):∀p∈[(bc,1),(bc,2)],p.1≠b:=fun p j=>by simp only[List.mem_cons,List.not_mem_nil,or_false]at j;rcases j with rfl|rfl<;>exact fun e=>h e.symm
theorem xa9.draw (h:xa9 P w0 bc vb bs w b5 wr z vd vs)(j:kac w0 bc vb bs wr w'):xa9 P w0 bc vb bs w b5 w' z vd vs:=
 have n:=h.lc;have p:=h.lb
 ⟨h.cu.trans j,n,p,h.x5.wr j.2 (Jau om),h.ok,h.hdh.draw j fun k=>(h.p1 _ k).1 rfl,h.p1,h.p2⟩
theorem xa9.below (h:xa9 P w0 bc vb bs w b5 wr z vd vs)(hb:Below wr wr w'):xa9 P w0 bc vb bs w b5 w' z vd vs:=
 ⟨h.cu.below_ hb,h.lc,h.lb,h.x5.at hb,h.ok,h.hdh.below hb,h.p1,h.p2⟩
theorem Bx.off4 {b c:Nat}{l:List Value}(h:Bx w b l)(j:b≠c)(n p q u:Value):Bx ((((w.setCell ⟨c,0,none⟩ n).setCell ⟨c,1,none⟩ p).setCell ⟨c,2,none⟩ q).setCell ⟨c,3,none⟩ u) b l:=(((h.setO j).setO j).setO j).setO j
theorem Kbg {B b:Nat}{a:World}(h:Below B a w)(hb:B<=b){j n q u:Value}:Below B a ((((w.setCell ⟨b,0,none⟩ j).setCell ⟨b,1,none⟩ n).setCell ⟨b,2,none⟩ q).setCell ⟨b,3,none⟩ u):=(((h.setCell (p:=⟨b,0,none⟩) hb _).setCell (p:=⟨b,1,none⟩) hb _).setCell (p:=⟨b,2,none⟩) hb _).setCell (p:=⟨b,3,none⟩) hb _
theorem xa9.put (h:xa9 P w0 bc vb bs w b5 wr z vd vs){y:qae}{p q:Value}{Q:Nat->Prop}(u:kac w0 bc vb bs wr w')(hy:Qac y=true)(hd:DH Q w' y p q)(B:∀k,Q k->P k):xa9 P w0 bc vb bs w b5 ((((w'.setCell ⟨b5,0,none⟩ y.shut).setCell ⟨b5,1,none⟩ p).setCell ⟨b5,2,none⟩ q).setCell ⟨b5,3,none⟩ y.last) y p q:=
 have j:=h.lc;have n:=h.lb;have D:=h.x5.lt
 ⟨((((h.cu.trans u).set n j _).set n j _).set n j _).set n j _,j,n,((((h.x5.wr u.2 (Jau om)).set 0 _).set 1 _).set 2 _).set 3 _,hy,(hd.imp B).set4 fun k=>(h.p1 _ k).2 rfl,h.p1,h.p2⟩
end
theorem jaP (w0:World)(bc:Nat)(vb:Value)(bs:List zah)(w:World)(hc:Cu w0 bc vb bs w):Calls Tryz.prog 21 #[.pointer (some ⟨bc,0,none⟩),.int .i64 14] w (xbh (fun _=>False) w0 bc vb bs w):=by
 have hbl:=hc.lt;have hwb:Below w w (w.alloc (.cells #[false,zN,zN,zI] 26)):=(lf _ _).alloc (lr _) _;have j:Hid (Bx (w.alloc (.cells #[false,zN,zN,zI] 26)) w [false,zN,zN,zI]):=hH (Bx.new sm);have HC0:=hH (hc.below hwb);have HW0:=hH hwb;clear hc hwb;go_enter Tryz.func21,Tryz.ntmps21
 go_wp2_with fail
 refine(xal w0 bc vb bs 6 _ HC0.out om).mono ?_;rintro e' w1 ⟨vt,t,rfl,ht,htl,hts,U⟩;have HT:=hH ht.rd;have HC1:Hid (kac w0 bc vb bs w w1):=hH ⟨U.1,(Wr.of_below HW0.out).trans U.2⟩;replace j:=hH (j.out.wr U.2 (Jau om));clear HC0 HW0 U ht;go_wp2_with fail
 refine(zap ⟨false,[],[],0⟩ zN (.slice none 0 0) ⟨#[97]⟩ t vt w1 RdS.nil RdS.nil (Xab (by decide)) HT.out om).mono ?_
 rintro e' w2 ⟨vd,vs,fd,fs,rfl,sd,ss,fr,hb⟩;have a0:=Xay ⟨false,[],[],0⟩ ⟨#[97]⟩ t;obtain⟨⟨z,code⟩,hz⟩:∃r,kag ⟨false,[],[],0⟩ ⟨#[97]⟩ t=r:=⟨_,rfl⟩;rw[hz]at sd ss a0;rw[hz];simp only at sd ss a0;obtain⟨ad,cd,rfl⟩:=sd.isS;obtain⟨B,cs,rfl⟩:=ss.isS;have s1:=HC1.out.2.size;have s2:=hb.size;have s3:=j.out.lt;have Q:Hid (Below w2 w2 (w2.alloc (.cells #[z.shut,.slice ad z.docs.length cd,.slice B z.subs.length cs,z.last] 26))):=hH ((lf _ _).alloc (lr _) _);have q:Hid (xa9 (fun k=>w.heap.size+1<=k/\k≠w2.heap.size) w0 bc vb bs w w2 (w2.alloc (.cells #[z.shut,.slice ad z.docs.length cd,.slice B z.subs.length cs,z.last] 26)) z _ _):=hH ⟨(HC1.out.below_ hb).below_ Q.out,hbl,by omega,Bx.new sm,a0,DH.below ⟨fd,fs,sd,ss,fun p hp=>⟨by have:=fr.ge p hp;omega,Nat.ne_of_lt ((lm.1 hp).elim (Live.lt sd.live p) (Live.lt ss.live p))⟩⟩ Q.out,fun k I=>⟨by omega,I.2⟩,fun k I=>⟨by omega,by omega⟩⟩
 replace j:=hH ((j.out.at hb).at Q.out);obtain⟨D,hb5⟩:∃D,w2.heap.size=D:=⟨_,rfl⟩;have l5:w.heap.size<D:=om;clear hz sd ss fr hb a0 Q HT HC1 s1 s2 s3;go_upto_region 2 with(fail)
 obtain⟨W,hW⟩:∃W,w2.alloc (.cells #[z.shut,.slice ad z.docs.length cd,.slice B z.subs.length cs,z.last] 26)=W:=⟨_,rfl⟩;rw[hW,hb5]at q;rw[hW]at j;(try rw[hW])
 (try rw[hb5])
 clear hW hb5;go_wp2_with fail
 refine(jah w0 bc vb bs 2 _ q.out.cu.1).mono ?_;rintro e' w3 ⟨b,rfl,hc3⟩;replace q:=hH (q.out.draw hc3);replace j:=hH (j.out.wr hc3.2 (Jau om));clear hc3;go_upto_if 16 with(fail)
 go_cut [5]from 18 to 23 (fun v wx=>∃(z:qae) (vd vs:Value),v= .pointer (some ⟨D,0,none⟩)/\xa9 (fun k=>w.heap.size+1<=k/\k≠D) w0 bc vb bs w D wx z vd vs/\Bx wx w [false,zN,zN,zI])
 case first=>
  cases b
  ·go_wp2_with fail
   go_meet
   exact⟨_,_,_,rfl,q.out,j.out⟩
  ·go_upto_region 3 with(fail)
   obtain⟨z5,k0,k1,k2,k3⟩:=q.out.x5.o4;go_region_law (first|(go_simp;go_at_call 53;refine(xal w0 bc vb bs 4 _ (q.out.below blw).cu.1 om).mono ?_;rintro e' ys ⟨vt,t,rfl,ht,htl,hts,hcs⟩;have HT:=hH ht.rd;have HH':=hH ((q.out.below blw).draw hcs);have u:=hH ((j.out.at blw).wr hcs.2 (Jau om));clear q j;have q:=HH';have j:=u;clear HH' u hcs ht;obtain⟨z5,k0,k1,k2,k3⟩:=q.out.x5.o4)|(go_simp;go_at_call 52;refine(zap z _ _ ⟨#[110,111,116,101,115]⟩ t vt _ (q.out.below blw).hdh.d (q.out.below blw).hdh.s (Xab (by decide)) (HT.out.below blw) om).mono ?_;rintro e' yh ⟨vd1,vs1,fd1,fs1,rfl,M,N,fr1,R⟩;have J:=Xay z ⟨#[110,111,116,101,115]⟩ t;obtain⟨⟨y,code1⟩,hy⟩:∃r,kag z ⟨#[110,111,116,101,115]⟩ t=r:=⟨_,rfl⟩;rw[hy]at M N J;rw[hy];simp only at M N J;obtain⟨ad1,cd1,rfl⟩:=M.isS;obtain⟨as1,cs1,rfl⟩:=N.isS;have HP:=hH ((q.out.below blw).put (kac.below_ ⟨(q.out.below blw).cu.1,Wr.refl _ _⟩ R) J (Sl.toDH M N fr1.ge) (fun k I=>by have:=q.out.x5.lt;have:=q.out.cu.2.size;(try simp only[World.size_drew]at I);exact⟨by omega,by omega⟩));have u:=hH ((j.out.at blw).at R);clear j;have j:=u;obtain⟨z5,k0,k1,k2,k3,g0,g1,g2,g3⟩:=((q.out.below blw).below R).x5.q4;clear u M N fr1 hy R))
   all_goals
    go_wp2_with fail
    go_meet
    exact⟨_,_,_,rfl,HP.out,j.out.off4 (show w.heap.size≠D by omega) _ _ _ _⟩
 case rest=>
  obtain⟨z,vd,vs,rfl,hh,hx⟩:=hcut;obtain⟨V,hV⟩:∃V,V=wc:=⟨_,rfl⟩;subst hV;clear q j;have q:=hH hh;have j:=hH hx;clear hh hx;go_wp2_with fail
  refine(xab w0 bc vb bs 15 _ q.out.cu.1).mono ?_;rintro e' w4 ⟨x,rfl,hx,hc4⟩;obtain⟨x0,x1⟩:=hx.1 (by decide)
  obtain⟨k0,rfl⟩:∃k:Nat,x=k:=⟨x.toNat,by omega⟩
  replace q:=hH (q.out.draw hc4);replace j:=hH (j.out.wr hc4.2 (Jau om));clear hx hc4;go_wp2_with fail
  go_loopw [7] (fun n wr=>∃(k:Nat) (z:qae) (vd vs:Value),n= .int .i64 k/\k<=14/\xa9 (fun k=>w.heap.size+1<=k/\k≠D) w0 bc vb bs w D wr z vd vs/\Bx wr w [false,zN,zN,zI]) (fun n _=>(intOf n).toNat)
  case atStart=>exact⟨k0,_,_,_,rfl,by omega,q.out,j.out⟩
  case round=>
   clear q j;obtain⟨k,z,vd,vs,rfl,hk14,hh,hx⟩:=hrel;obtain⟨ad,cd,rfl⟩:=hh.hdh.d.isSlice;obtain⟨B,cs,rfl⟩:=hh.hdh.s.isSlice;have q:=hH hh;have j:=hH hx;clear hh hx;obtain⟨z5,q0,q1,q2,q3,_⟩:=q.out.x5.q4;by_cases I:0<k
   ·have hk2:(0:Int)<(k:Int):=om;go_wp2_with fail
    refine(jaX _ w0 bc vb bs z _ _ _ q.out.cu.1 (fun k I=>(q.out.p1 k I).1) q.out.ok q.out.hdh).mono ?_
    rintro e' w5 ⟨y,ud,us,rfl,Y,a1,Z⟩;obtain⟨ad1,cd1,rfl⟩:=Z.d.isSlice;obtain⟨as1,cs1,rfl⟩:=Z.s.isSlice;have HP:=hH (q.out.put Y a1 Z (fun k I=>I.elim id fun h=>⟨by have:=q.out.cu.2.size;omega,by omega⟩))
    have HX5:=hH ((j.out.wr Y.2 (Jau om)).off4 (show w.heap.size≠D by omega) (.bool y.shut) (.slice ad1 y.docs.length cd1) (.slice as1 y.subs.length cs1) (.int .i64 y.last))
    obtain⟨_,j0,j1,j2,j3,i0,i1,i2,i3⟩:=(q.out.draw Y).x5.q4;clear Y a1 Z j q q0 q1 q2 q3;go_wp2;go_roundw
    case rel=>exact⟨k-1,y,_,_,by first|go_num|(congr 1;omega),by omega,HP.out,HX5.out⟩
    case measure=>simp[intOf];omega
   ·obtain rfl:k=0:=om;have n54:¬(D=w.heap.size):=om;obtain⟨z4,m0,m1,m2,m3,g0,g1,g2,g3⟩:=j.out.q4;obtain⟨z5,q0,q1,q2,q3⟩:=q.out.x5.o4;go_wp2;exact bodyPost_ret (v:= .agg #[z.shut,.slice ad z.docs.length cd,.slice B z.subs.length cs,z.last]) (by simp[results,Tryz.results21,go_sem,xaa, *]) rfl ⟨z,_,_,rfl,q.out.cu.set4 (lr _) hbl,q.out.ok,(q.out.hdh.set4 fun h=>by have:=h.1;omega).imp fun k I=> .inr (by have:=I.1;omega)⟩
theorem kaP (vb:Value)(bs:List zah)(w:World)(hb:RdS w vb bs):
 Calls Tryz.prog 5 #[vb] w (fun e Z=>∃(z:qae) (U vs:Value),e= .returned (.agg #[z.shut,U,vs,z.last])/\Qac z=true/\DH (w.heap.size≤ ·) Z z U vs/\Below w w Z):=by
 obtain⟨W,M⟩:∃W:World,w.alloc (.cells #[false,zN,zN,zI] 26)=W:=⟨_,rfl⟩;have B:Below w w W:=by rw[<-M];exact(lf _ _).alloc (lr _) _
 have D:Bx W w [false,zN,zN,zI]:=by rw[<-M];exact Bx.new sm
 have HB:=hH (hb.below B);have n:=hH B;have j:=hH D;have l1:=D.lt;clear hb B D;go_enter Tryz.func5,Tryz.ntmps5
 go_upto_region 1 with(fail)
 (try rw[M])
 clear M;go_wp2_with fail
 refine(qaD vb bs W HB.out).mono ?_;rintro e' w1 ⟨bc,rfl,q,p⟩;have I:=hH q;have lo:=q.o;replace j:=hH (j.out.at p);have l2:=p.size;clear q p;go_wp2_with fail
 refine(jaP W bc vb bs w1 I.out).mono ?_;rintro e' w3 ⟨z,U,vs,rfl,u,J,hd⟩;obtain⟨ad,cd,rfl⟩:=hd.d.isSlice;obtain⟨R,cs,rfl⟩:=hd.s.isSlice;replace j:=hH (j.out.wr u.2 (Jau om));obtain⟨z2,m0,m1,m2,m3,g0,g1,g2,g3⟩:=j.out.q4;have N:=hH (n.out.trans (u.1.bel.mono n.out.size));have HD:=hH (show DH (fun k=>w.heap.size+1<=k) _ _ _ _ from hd.imp fun k Y=>Y.elim False.elim fun h=>by omega)
 have Q:=hH J;clear u J hd I n j;go_wp2;exact bodyPost_ret (v:= .agg #[z.shut,.slice ad z.docs.length cd,.slice R z.subs.length cs,z.last]) (by simp[results,Tryz.results5,go_sem,xaa, *]) rfl ⟨z,_,_,rfl,Q.out,(HD.out.set4 om).imp fun k Y=>by omega,Kbg N.out (lr _)⟩
