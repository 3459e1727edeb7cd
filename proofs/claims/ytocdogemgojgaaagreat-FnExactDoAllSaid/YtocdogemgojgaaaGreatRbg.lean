/- The program's cursor: taking a part, or the head of one. -/
import Derived.Test.YtocdogemgojgaaaGreatRbf
set_option maxHeartbeats 4000000
set_option maxRecDepth 100000
namespace Go.Proofs.YtocdogemgojgaaaGreat
open Go.RowKit
theorem Sl.cutL {P:Program}{T E:TypeId}(I:P.underlying T=some (.slice E))(J:∀j,(sizeOf E).run P j= .ok 1 j){w:World}{v:Value}{l:List Int}{f:List Pos}(h:Sl BIG w v l f){n:Nat}(z:n<=l.length):
 ∃a c p,(∀j,(Instr.sliceAt T v none (some (.int .i64 n)) none).run P j= .ok (.slice a n c) j)/\Sl BIG w (.slice a n c) (l.take n) p/\∀q∈p,q∈f:=by
 obtain⟨p,u,D,_⟩:=h.cut (lo:=0) (hi:=n) (m:=ZaC v) (lz _) z (Nat.le_trans z h.cap) (lr _);have B:=fun j=>h.run_h I J (hi:=n) z j
 rw[List.drop_zero]at u;obtain⟨a,c,e⟩:=u.isS;rw[List.length_take,Nat.min_eq_left z]at e;rw[e]at u B;exact⟨a,c,p,B,u,D⟩
theorem Sl.cutR {P:Program}{T E:TypeId}(I:P.underlying T=some (.slice E))(J:∀j,(sizeOf E).run P j= .ok 1 j){w:World}{v:Value}{l:List Int}{f:List Pos}(h:Sl BIG w v l f){n:Nat}(B:n<=l.length):
 ∃a c p,(∀j,(Instr.sliceAt T v (some (.int .i64 n)) none none).run P j= .ok (.slice a (l.length-n) c) j)/\Sl BIG w (.slice a (l.length-n) c) (l.drop n) p/\∀q∈p,q∈f:=by
 obtain⟨p,u,D,_⟩:=h.cut (lo:=n) (hi:=l.length) (m:=ZaC v) B (lr _) h.cap (lr _);have z:=fun j=>h.run_l I J (lo:=n) B j
 rw[List.take_length]at u;obtain⟨a,c,e⟩:=u.isS;rw[List.length_drop]at e;rw[e]at u z;exact⟨a,c,p,z,u,D⟩
theorem Zbd {α:Type}[GoT α]{w:World}{c:List Value}{x:α}{f:List Pos}(E:TypeId)(h:GoT.rd BIG w c x f):Row w (w.alloc (.cells c.toArray E)) (.slice (some ⟨w,0,none⟩) 1 1) [x] f:=by
 have hb:Below w w (w.alloc (.cells c.toArray E)):=(lf _ _).alloc (lr _) _;have n:Els BIG (w.alloc (.cells c.toArray E)) c [x] f:=Els.single (GoT.keep h (Live.same_below hb (Live.lt (GoT.live h))));refine⟨JaQ (heap_alloc_new w (.cells c.toArray E)) n (zac sm),⟨xav _ _ _,fun p j=> ?_,fun p j=> ?_⟩,fun p j q=> ?_⟩
 ·rw[(Zaa.1 j).1];exact lr _
 ·rw[(Zaa.1 j).1];exact kam (heap_alloc_new w (.cells c.toArray E))
 ·have u:=Live.lt (GoT.live h) p j;have z:p.1=w:=(Zaa.1 q).1;omega
theorem Kap {w:World}{c0 c1 c2 c3:Array Value}{E:TypeId}:Bx ((((w.alloc (.cells c0 E)).alloc (.cells c1 E)).alloc (.cells c2 E)).alloc (.cells c3 E)).drew w c0.toList/\Bx ((((w.alloc (.cells c0 E)).alloc (.cells c1 E)).alloc (.cells c2 E)).alloc (.cells c3 E)).drew (w+1) c1.toList/\
 Bx ((((w.alloc (.cells c0 E)).alloc (.cells c1 E)).alloc (.cells c2 E)).alloc (.cells c3 E)).drew (w+2) c2.toList/\Bx ((((w.alloc (.cells c0 E)).alloc (.cells c1 E)).alloc (.cells c2 E)).alloc (.cells c3 E)).drew (w+3) c3.toList/\Below w w ((((w.alloc (.cells c0 E)).alloc (.cells c1 E)).alloc (.cells c2 E)).alloc (.cells c3 E)).drew:=by
 refine⟨((((Bx.new rfl).alloc _).alloc _).alloc _).drew,(((Bx.new sm).alloc _).alloc _).drew,((Bx.new sm).alloc _).drew,(Bx.new sm).drew,?_⟩;exact(((((lf _ _).alloc (lr _) _).alloc sm _).alloc (by simp;omega) _).alloc (by simp;omega) _).drew
theorem xak (b n:Nat)(v:Value)(p:zaa)(l:List zaa)(f:List Pos)(w:World)(hX:Bx w b [v])(hr:Sl BIG w v (p::l) f)(hf:∀q∈f,q.1≠b)(hp:vab p=true)(hn:n<=nsz p)(a1:l.length<=5000):
 Calls Tryz.prog 255 #[.pointer (some ⟨b,0,none⟩),n] w (fun e w'=>∃v' f' vs fs,e= .returned (.agg #[p.kind,(cutL p n).n,vs])/\Sl BIG w' vs (cutL p n).signs fs/\Bx w' b [v']/\Sl BIG w' v' (cutR p n::l) f'/\(∀q∈f'++fs,q∈f\/w<=q.1)/\Wr [(b,0)] w w'):=by
 have HX:=hH hX;have HR:=hH hr;have HF:=hH hf;have HP:=hH hp;have HN:=hH hn;have HL:=hH a1;have N:=hH (Live.lt hr.live);obtain⟨zl,c0,g0⟩:=hX.q1;obtain⟨b1,o1,vg,fg,i1,i2,ig,if_⟩:=Sl.head Tryz.underlying30 xaf hr;have e0:=i2.zero;have e1:w.cell? ⟨b1,o1+1,none⟩=some _:=i2 1 _ rfl;have e2:w.cell? ⟨b1,o1+2,none⟩=some _:=i2 2 _ rfl;have l1:b1<w.heap.size:=lk (w:=w) (a:=⟨b1,o1,none⟩) e0;have R:=hH ig;have Q:=hH if_;obtain⟨ag,qg,rfl⟩:=ig.isS;clear i2 ig if_ hX hr hf hp hn a1;go_enter Tryz.func255,Tryz.ntmps255
 go_upto_region 2 with(fail)
 go_cut [6,7]from 8 (fun zL zO M=>∃I z:Nat,zL= .pointer (some ⟨I,0,none⟩)/\zO= .pointer (some ⟨z,0,none⟩)/\I≠z/\w.heap.size+2<=I/\w.heap.size+2<=z/\Bx M I [p.kind,p.n,.slice ag p.signs.length qg]/\Bx M z [p.kind,p.n,.slice ag p.signs.length qg]/\Bx M w [zI,zI,zN]/\Bx M (w+1) [p.kind,p.n,.slice ag p.signs.length qg]/\Below w w M)
 case first=>
  go_region
  all_goals(go_wp2_with fail;go_meet;first|exact⟨w+2,w+3,rfl,rfl,by omega,by omega,by omega,Kap.2.2.1,Kap.2.2.2.1,Kap.1,Kap.2.1,Kap.2.2.2.2⟩|exact⟨w+3,w+2,rfl,rfl,by omega,by omega,by omega,Kap.2.2.2.1,Kap.2.2.1,Kap.1,Kap.2.1,Kap.2.2.2.2⟩)
 case rest=>
  obtain⟨w1,rfl⟩:∃wq:World,wq=wc:=⟨_,rfl⟩;obtain⟨I,z,rfl,rfl,nLO,zL,zO,xL,xO,xR,xP,J⟩:=hcut;have hsz1:=J.size;have c1:w1.cell? ⟨b,0,none⟩=some v:=(J.cell (p:=⟨b,0,none⟩) zl).trans c0;have g1:w1.frozen? ⟨b,0,none⟩=false:=(J.frozen (p:=⟨b,0,none⟩) zl).trans g0;have HXR:=hH xR;have HXL:=hH xL;have HXO:=hH xO;have Z:=hH J;obtain⟨yL,l0,l1',l2,m0,m1,m2⟩:=xL.q3;obtain⟨yO,o0,o1',o2,k0,k1,k2⟩:=xO.q3;obtain⟨yP,p0,p1,p2,j0,j1,j2⟩:=xP.q3;clear J xR xL xO xP c0 g0 e0 e1 e2;have n1:¬(I=z):=nLO;have n2:¬(z=I):=fun e=>nLO e.symm
  go_upto_if 18 with(fail)
  go_cut []from 16 (fun M=>∃(vL vO:Value) (Y fO:List Pos),Bx M I [p.kind,(cutR p n).n,vL]/\Bx M z [p.kind,(cutL p n).n,vO]/\Sl BIG w vL (cutR p n).signs Y/\(∀q∈Y,q∈f)/\Sl BIG w vO (cutL p n).signs fO/\(∀q∈fO,q∈f)/\Bx M w [zI,zI,zN]/\Below w w M)
  case first=>
   have hnp:¬(w.heap.size=I):=om;have hnq:¬(w.heap.size=z):=om;by_cases k:p.kind=2
   ·have hln:n<=p.signs.length:=by have:=(vaJ HP.out k).1;have:=HN.out;omega
    obtain⟨aO,qO,fO,hO,sO,mO⟩:=Sl.cutL Tryz.underlying31 (E:=3) (fun _=>by kernel_rfl) R.out hln
    obtain⟨aL,qL,Y,hL,sL,mL⟩:=Sl.cutR Tryz.underlying31 (E:=3) (fun _=>by kernel_rfl) R.out hln
    have a6:=hH sO;have HSL:=hH sL;have D:=hH mO;have U:=hH mL;have eL:Hid (cutR p n=⟨p.kind,p.n,p.signs.drop n⟩):=hH (if_pos k);have eO:Hid (cutL p n=⟨p.kind,p.n,p.signs.take n⟩):=hH (if_pos k);clear sO sL mO mL;have kb:(p.kind==2)=true:=by simpa using k
    go_wp2_with fail
    go_region
    all_goals
     go_wp2_with fail
     go_meet
     rw[eL.out,eO.out];exact⟨.slice aL (p.signs.length-n) qL,.slice aO n qO,Y,fO,(((HXL.out.setO n1).set 2 (.slice aL (p.signs.length-n) qL))).drew,(((HXO.out.set 2 (.slice aO n qO)).setO n2)).drew,HSL.out,fun q j=>Q.out q (U.out q j),a6.out,fun q j=>Q.out q (D.out q j),(((HXR.out.setO hnq).setO hnp)).drew,(((Z.out.setCell (p:=⟨z,2,none⟩) (by simp only;omega) _).setCell (p:=⟨I,2,none⟩) (by simp only;omega) _)).drew⟩
   ·have hpk:=Ja3 HP.out k;have hzz:=kav HP.out;have aa:=Zbe HP.out;have hnn:=HN.out;have hpn:p.n=nsz p:=om;have eL:Hid (cutR p n=⟨p.kind,p.n-n,p.signs⟩):=hH (if_neg k);have eO:Hid (cutL p n=⟨p.kind,n,p.signs⟩):=hH (if_neg k);have hp0:0<=p.n:=om;have hp2:p.n<=200:=om;have hpn2:(n:Int)<=p.n:=om;have kb:(p.kind==2)=false:=by simpa using k
    have kc:¬p.kind=2:=k;clear hpk hzz aa hnn hpn k;go_wp2_with fail
    go_region
    all_goals
     go_wp2_with fail
     go_meet
     rw[eL.out,eO.out];exact⟨.slice ag p.signs.length qg,.slice ag p.signs.length qg,fg,fg,(((HXL.out.setO n1).set 1 (.int .i64 (p.n-n)))).drew,(((HXO.out.set 1 n).setO n2)).drew,R.out,Q.out,R.out,Q.out,(((HXR.out.setO hnq).setO hnp)).drew,(((Z.out.setCell (p:=⟨z,1,none⟩) (by simp only;omega) _).setCell (p:=⟨I,1,none⟩) (by simp only;omega) _)).drew⟩
  case rest=>
   obtain⟨B,rfl⟩:∃wq:World,wq=wc:=⟨_,rfl⟩;obtain⟨vL,vO,Y,fO,xL,xO,sL,mL,sO,mO,xR,u⟩:=hcut;obtain⟨i0,hi,hz0,hz1,hz2⟩:=info_parts jaq;obtain⟨v',f',hcut2,ad,a7⟩:=Sl.tail Tryz.underlying30 (E:=142) (fun _=>by kernel_rfl) HR.out
   obtain⟨aT,qT,rfl⟩:=ad.isS;obtain⟨aL,qL,rfl⟩:=sL.isS;obtain⟨aO,qO,rfl⟩:=sO.isS;have s2:=u.size;have bw3:Below w w (B.alloc (.cells #[p.kind,(cutR p n).n,.slice aL (cutR p n).signs.length qL] 142)).drew:=(u.alloc s2 _).drew;obtain⟨gs,a5,a9,_⟩:=(ad.belowW bw3).src;have a8:∀q∈gs,q.1<w:=fun q j=>N.out q (a7 q (a9 q j))
   have hfl:∀q∈Y,q.1<w:=fun q j=>N.out q (mL q j)
   have HROW:Hid (Row B (B.alloc (.cells #[p.kind,(cutR p n).n,.slice aL (cutR p n).signs.length qL] 142)) (.slice (some ⟨B,0,none⟩) 1 1) [cutR p n] Y):=hH (Zbd (c:=[p.kind,(cutR p n).n,.slice aL (cutR p n).signs.length qL]) (x:=cutR p n) 142 ⟨_,Y,by rw[(qaB HP.out HN.out).2.2.2.1],sL.belowW u,rfl⟩)
   have HSRC:=hH a5;have HGL:=hH a8;have HFLL:=hH hfl;have HGS:Hid (∀q∈gs,q∈f):=hH fun q j=>a7 q (a9 q j)
   have U:=hH mL;have D:=hH mO;have a6:=hH sO;have a0:=hH u;have HDIS:Hid (∀q∈gs,q∉rowP (GoT.n zaa) (.slice (some ⟨B,0,none⟩) 1 1)):=hH fun q j hm=>by
    have h1:=a8 q j;have h2:q.1=B:=(Zaa.1 hm).1;omega
   have c2:B.cell? ⟨b,0,none⟩=some v:=(u.cell (p:=⟨b,0,none⟩) zl).trans (HX.out.c1);have g2:B.frozen? ⟨b,0,none⟩=false:=(u.frozen (p:=⟨b,0,none⟩) zl).trans (HX.out.f1);have HXL2:=hH xL;have HXO2:=hH xO;have HXR2:=hH xR;have HLL:=HL.out;have HBX:Hid (Bx B b [v]):=hH (HX.out.below u zl);obtain⟨yL2,l0,l1',l2,m0,m1,m2⟩:=xL.q3;obtain⟨yO2,o0,o1',o2,k0,k1,k2⟩:=xO.q3;obtain⟨yR2,r0,r1,r2,x0,x1,x2⟩:=xR.q3;have yb2:b<B.heap.size:=lq zl s2;clear p0 p1 p2 j0 j1 j2 sL mL sO mO xL xO xR u ad a7 a5 a9 a8 hfl c1 g1 yL yO yP;go_wp2_with fail
   have nb1:¬(z=b):=om;have nb2:¬(b=z):=om;have nb3:¬(w.heap.size=b):=om;have ae:¬(b=w.heap.size):=om;have nb5:¬(w.heap.size=z):=om;have nb6:¬(z=w.heap.size):=om;go_region_law ((refine jad (by rfl) (.tmp 38) (.tmp 43) 30 (by rfl) Tryz.underlying30 hi hz0 hz1 hz2 rfl (by rfl) (by rfl) (HROW.out.below (lf _ _).drew) HSRC.out HDIS.out (zac (by simp;omega)) (by simp;omega) sm ?_);intro v3 w3 ac hw3 hn3;obtain⟨a3,q3,rfl⟩:=ac.rd.isSlice;have B3:Below B B w3:=(((lf _ _).alloc (lr _) _).drew).trans (hw3.below sm (fun q j=>by rw[(Zaa.1 j).1];exact lr _));obtain⟨yb3,c3,g3⟩:=(HBX.out.at B3).q1;obtain⟨yO3,oo0,oo1,oo2,kk0,kk1,kk2⟩:=(HXO2.out.at B3).q3;obtain⟨yR3,rr0,rr1,rr2,xx0,xx1,xx2⟩:=(HXR2.out.at B3).q3;have HR3:=hH ac;have HN3:=hH hn3;clear ac hw3 hn3)
   all_goals
    go_wp2;refine bodyPost_ret (v:= .agg #[p.kind,(cutL p n).n,.slice aO (cutL p n).signs.length qO]) (by simp[results,Tryz.results255,go_sem,xaa, *]) rfl ?_
    have hne:∀q∈rowP 3 (.slice a3 (l.length+1) q3)++(Y++gs),q.1≠b/\q.1≠w:=fun q j=>by
     rcases lm.1 j with h|h
     ·have:B<=q.1:=by
       rcases HN3.out q h with h|h
       ·rw[(Zaa.1 h).1];exact lr _
       ·simp at h;omega
      omega
     ·have h1:q∈f:=by
       rcases lm.1 h with h|h
       ·exact U.out q h
       ·exact HGS.out q h
      have h2:=N.out q h1;exact⟨HF.out q h1,by omega⟩
    have a4:Wr [(b,0),(w.heap.size,0),(w.heap.size,1),(w.heap.size,2)] w3 ((((w3.setCell ⟨b,0,none⟩ (.slice a3 (l.length+1) q3)).setCell ⟨w,0,none⟩ p.kind).setCell ⟨w,1,none⟩ ((cutL p n).n)).setCell ⟨w,2,none⟩ (.slice aO (cutL p n).signs.length qO)):=((((Wr.refl _ _).put (b:=b) (o:=0) sm _).put (b:=w) (o:=0) sm _).put (b:=w) (o:=1) sm _).put (b:=w) (o:=2) sm _;have a2:∀q:Pos,q.1≠b/\q.1≠w->q∉[(b,0),(w.heap.size,0),(w.heap.size,1),(w.heap.size,2)]:=by
     rintro q ⟨h1,h2⟩ hm;simp only[List.mem_cons,List.not_mem_nil,or_false]at hm;rcases hm with rfl|rfl|rfl|rfl
     ·exact h1 rfl
     ·exact h2 rfl
     ·exact h2 rfl
     ·exact h2 rfl
    have hbw:Below w (w3.setCell ⟨b,0,none⟩ (.slice a3 (l.length+1) q3)) ((((w3.setCell ⟨b,0,none⟩ (.slice a3 (l.length+1) q3)).setCell ⟨w,0,none⟩ p.kind).setCell ⟨w,1,none⟩ ((cutL p n).n)).setCell ⟨w,2,none⟩ (.slice aO (cutL p n).signs.length qO)):=(((lf _ _).setCell (p:=⟨w,0,none⟩) (lr _) _).setCell (p:=⟨w,1,none⟩) (lr _) _).setCell (p:=⟨w,2,none⟩) (lr _) _;have hwa:Wr [(b,0)] w (w3.setCell ⟨b,0,none⟩ (.slice a3 (l.length+1) q3)):=(Wr.of_below (a0.out.trans (B3.mono s2))).put (b:=b) (o:=0) sm _;refine⟨_,_,_,fO,rfl,((a6.out.belowW a0.out).belowW B3).wr a4 fun q j=>a2 q ⟨HF.out q (D.out q j),?_⟩,((((HBX.out.at B3).set 0 (.slice a3 (l.length+1) q3)).setO ae).setO ae).setO ae,HR3.out.1.wr a4 fun q j=>a2 q (hne q j),fun q j=> ?_,hwa.tr_below hbw⟩
    ·have:=N.out q (D.out q j);omega
    ·rcases lm.1 j with h|h
     ·rcases lm.1 h with h|h
      ·refine .inr ?_;have:B<=q.1:=by
        rcases HN3.out q h with h|h
        ·rw[(Zaa.1 h).1];exact lr _
        ·simp at h;omega
       omega
      ·rcases lm.1 h with h|h
       ·exact .inl (U.out q h)
       ·exact .inl (HGS.out q h)
     ·exact .inl (D.out q h)
