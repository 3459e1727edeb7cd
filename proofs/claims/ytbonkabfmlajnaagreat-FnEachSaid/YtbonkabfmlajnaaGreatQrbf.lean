/- The program's cursor: taking a part, or the head of one. -/
import Derived.Test.YtbonkabfmlajnaaGreatQrbe
set_option maxHeartbeats 4000000
set_option maxRecDepth 100000
namespace Go.Proofs.YtbonkabfmlajnaaGreat
open Go.RowKit
theorem Sl.cutL {P:Program}{T E:TypeId}(I:P.underlying T=some (.slice E))(J:∀j,(sizeOf E).run P j= .ok 1 j){w:World}{v:Value}{l:List Int}{f:List Pos}(h:Sl BIG w v l f){n:Nat}(z:n<=l.length):
 ∃a c p,(∀j,(Instr.sliceAt T v none (some (.int .i64 n)) none).run P j= .ok (.slice a n c) j)/\Sl BIG w (.slice a n c) (l.take n) p/\∀q∈p,q∈f:=by
 obtain⟨p,u,D,_⟩:=h.cut (lo:=0) (hi:=n) (m:=vaA v) (lz _) z (Nat.le_trans z h.cap) (lr _);have B:=fun j=>h.run_h I J (hi:=n) z j
 rw[List.drop_zero]at u;obtain⟨a,c,e⟩:=u.isS;rw[List.length_take,Nat.min_eq_left z]at e;rw[e]at u B;exact⟨a,c,p,B,u,D⟩
theorem Sl.cutR {P:Program}{T E:TypeId}(I:P.underlying T=some (.slice E))(J:∀j,(sizeOf E).run P j= .ok 1 j){w:World}{v:Value}{l:List Int}{f:List Pos}(h:Sl BIG w v l f){n:Nat}(B:n<=l.length):
 ∃a c p,(∀j,(Instr.sliceAt T v (some (.int .i64 n)) none none).run P j= .ok (.slice a (l.length-n) c) j)/\Sl BIG w (.slice a (l.length-n) c) (l.drop n) p/\∀q∈p,q∈f:=by
 obtain⟨p,u,D,_⟩:=h.cut (lo:=n) (hi:=l.length) (m:=vaA v) B (lr _) h.cap (lr _);have z:=fun j=>h.run_l I J (lo:=n) B j
 rw[List.take_length]at u;obtain⟨a,c,e⟩:=u.isS;rw[List.length_drop]at e;rw[e]at u z;exact⟨a,c,p,z,u,D⟩
theorem qbb {α:Type}[GoT α]{w:World}{c:List Value}{x:α}{f:List Pos}(E:TypeId)(h:GoT.rd BIG w c x f):Row w (w.alloc (.cells c.toArray E)) (.slice (some ⟨w,0,none⟩) 1 1) [x] f:=by
 have hb:Below w w (w.alloc (.cells c.toArray E)):=(lf _ _).alloc (lr _) _;have n:Els BIG (w.alloc (.cells c.toArray E)) c [x] f:=Els.single (GoT.keep h (Live.same_below hb (Live.lt (GoT.live h))));refine⟨jaM (heap_alloc_new w (.cells c.toArray E)) n (Xab sm),⟨jau _ _ _,fun p j=> ?_,fun p j=> ?_⟩,fun p j q=> ?_⟩
 ·rw[(Kaa.1 j).1];exact lr _
 ·rw[(Kaa.1 j).1];exact Zal (heap_alloc_new w (.cells c.toArray E))
 ·have u:=Live.lt (GoT.live h) p j;have z:p.1=w:=(Kaa.1 q).1;omega
theorem yap {w:World}{c0 c1 c2 c3:Array Value}{E:TypeId}:Bx ((((w.alloc (.cells c0 E)).alloc (.cells c1 E)).alloc (.cells c2 E)).alloc (.cells c3 E)).drew w c0.toList/\Bx ((((w.alloc (.cells c0 E)).alloc (.cells c1 E)).alloc (.cells c2 E)).alloc (.cells c3 E)).drew (w+1) c1.toList/\
 Bx ((((w.alloc (.cells c0 E)).alloc (.cells c1 E)).alloc (.cells c2 E)).alloc (.cells c3 E)).drew (w+2) c2.toList/\Bx ((((w.alloc (.cells c0 E)).alloc (.cells c1 E)).alloc (.cells c2 E)).alloc (.cells c3 E)).drew (w+3) c3.toList/\Below w w ((((w.alloc (.cells c0 E)).alloc (.cells c1 E)).alloc (.cells c2 E)).alloc (.cells c3 E)).drew:=by
 refine⟨((((Bx.new rfl).alloc _).alloc _).alloc _).drew,(((Bx.new sm).alloc _).alloc _).drew,((Bx.new sm).alloc _).drew,(Bx.new sm).drew,?_⟩;exact(((((lf _ _).alloc (lr _) _).alloc sm _).alloc (by simp;omega) _).alloc (by simp;omega) _).drew
theorem Zaj (b n:Nat)(v:Value)(p:zaa)(l:List zaa)(f:List Pos)(w:World)(hX:Bx w b [v])(hr:Sl BIG w v (p::l) f)(hf:∀q∈f,q.1≠b)(hp:kab p=true)(hn:n<=nsz p)(a1:l.length<=5000):
 Calls Tryz.prog 168 #[.pointer (some ⟨b,0,none⟩),n] w (fun e w'=>∃v' f' vs fs,e= .returned (.agg #[p.kind,(cutL p n).n,vs])/\Sl BIG w' vs (cutL p n).signs fs/\Bx w' b [v']/\Sl BIG w' v' (cutR p n::l) f'/\(∀q∈f'++fs,q∈f\/w<=q.1)/\Wr [(b,0)] w w'):=by
 have HX:=hH hX;have HR:=hH hr;have HF:=hH hf;have HP:=hH hp;have HN:=hH hn;have HL:=hH a1;have N:=hH (Live.lt hr.live);obtain⟨zl,c0,g0⟩:=hX.q1;obtain⟨b1,o1,vg,fg,i1,i2,ig,if_⟩:=Sl.head Tryz.underlying30 uae hr;have e0:=i2.zero;have e1:w.cell? ⟨b1,o1+1,none⟩=some _:=i2 1 _ rfl;have e2:w.cell? ⟨b1,o1+2,none⟩=some _:=i2 2 _ rfl;have l1:b1<w.heap.size:=lk (w:=w) (a:=⟨b1,o1,none⟩) e0;have R:=hH ig;have Q:=hH if_;obtain⟨ag,qg,rfl⟩:=ig.isS;clear i2 ig if_ hX hr hf hp hn a1;go_enter Tryz.func168,Tryz.ntmps168
 go_upto_region 2 with(fail)
 go_cut [6,7]from 8 (fun zL zO M=>∃I z:Nat,zL= .pointer (some ⟨I,0,none⟩)/\zO= .pointer (some ⟨z,0,none⟩)/\I≠z/\w.heap.size+2<=I/\w.heap.size+2<=z/\Bx M I [p.kind,p.n,.slice ag p.signs.length qg]/\Bx M z [p.kind,p.n,.slice ag p.signs.length qg]/\Bx M w [zI,zI,zN]/\Bx M (w+1) [p.kind,p.n,.slice ag p.signs.length qg]/\Below w w M)
 case first=>
  go_region
  all_goals(go_wp2_with fail;go_meet;first|exact⟨w+2,w+3,rfl,rfl,by omega,by omega,by omega,yap.2.2.1,yap.2.2.2.1,yap.1,yap.2.1,yap.2.2.2.2⟩|exact⟨w+3,w+2,rfl,rfl,by omega,by omega,by omega,yap.2.2.2.1,yap.2.2.1,yap.1,yap.2.1,yap.2.2.2.2⟩)
 case rest=>
  obtain⟨w1,rfl⟩:∃wq:World,wq=wc:=⟨_,rfl⟩;obtain⟨I,z,rfl,rfl,nLO,zL,zO,xL,xO,xR,xP,J⟩:=hcut;have hsz1:=J.size;have c1:w1.cell? ⟨b,0,none⟩=some v:=(J.cell (p:=⟨b,0,none⟩) zl).trans c0;have g1:w1.frozen? ⟨b,0,none⟩=false:=(J.frozen (p:=⟨b,0,none⟩) zl).trans g0;have HXR:=hH xR;have HXL:=hH xL;have HXO:=hH xO;have Z:=hH J;obtain⟨yL,l0,l1',l2,m0,m1,m2⟩:=xL.q3;obtain⟨yO,o0,o1',o2,k0,k1,k2⟩:=xO.q3;obtain⟨yP,p0,p1,p2,j0,j1,j2⟩:=xP.q3;clear J xR xL xO xP c0 g0 e0 e1 e2;have n1:¬(I=z):=nLO;have n2:¬(z=I):=fun e=>nLO e.symm
  go_upto_if 18 with(fail)
  go_cut []from 16 (fun M=>∃(vL vO:Value) (Y fO:List Pos),Bx M I [p.kind,(cutR p n).n,vL]/\Bx M z [p.kind,(cutL p n).n,vO]/\Sl BIG w vL (cutR p n).signs Y/\(∀q∈Y,q∈f)/\Sl BIG w vO (cutL p n).signs fO/\(∀q∈fO,q∈f)/\Bx M w [zI,zI,zN]/\Below w w M)
  case first=>
   have hnp:¬(w.heap.size=I):=om;have hnq:¬(w.heap.size=z):=om;by_cases k:p.kind=2
   ·have hln:n<=p.signs.length:=by have:=(KaF HP.out k).1;have:=HN.out;omega
    obtain⟨aO,qO,fO,hO,sO,mO⟩:=Sl.cutL Tryz.underlying31 (E:=3) (fun _=>by kernel_rfl) R.out hln
    obtain⟨aL,qL,Y,hL,sL,mL⟩:=Sl.cutR Tryz.underlying31 (E:=3) (fun _=>by kernel_rfl) R.out hln
    have a6:=hH sO;have HSL:=hH sL;have D:=hH mO;have U:=hH mL;have eL:Hid (cutR p n=⟨p.kind,p.n,p.signs.drop n⟩):=hH (if_pos k);have eO:Hid (cutL p n=⟨p.kind,p.n,p.signs.take n⟩):=hH (if_pos k);clear sO sL mO mL;have kb:(p.kind==2)=true:=by simpa using k
    go_wp2_with fail
    go_region
    all_goals
     go_wp2_with fail
     go_meet
     rw[eL.out,eO.out];exact⟨.slice aL (p.signs.length-n) qL,.slice aO n qO,Y,fO,(((HXL.out.setO n1).set 2 (.slice aL (p.signs.length-n) qL))).drew,(((HXO.out.set 2 (.slice aO n qO)).setO n2)).drew,HSL.out,fun q j=>Q.out q (U.out q j),a6.out,fun q j=>Q.out q (D.out q j),(((HXR.out.setO hnq).setO hnp)).drew,(((Z.out.setCell (p:=⟨z,2,none⟩) (by simp only;omega) _).setCell (p:=⟨I,2,none⟩) (by simp only;omega) _)).drew⟩
   ·have hpk:=Ja0 HP.out k;have hzz:=qau HP.out;have aa:=vba HP.out;have hnn:=HN.out;have hpn:p.n=nsz p:=om;have eL:Hid (cutR p n=⟨p.kind,p.n-n,p.signs⟩):=hH (if_neg k);have eO:Hid (cutL p n=⟨p.kind,n,p.signs⟩):=hH (if_neg k);have hp0:0<=p.n:=om;have hp2:p.n<=200:=om;have hpn2:(n:Int)<=p.n:=om;have kb:(p.kind==2)=false:=by simpa using k
    have kc:¬p.kind=2:=k;clear hpk hzz aa hnn hpn k;go_wp2_with fail
    go_region
    all_goals
     go_wp2_with fail
     go_meet
     rw[eL.out,eO.out];exact⟨.slice ag p.signs.length qg,.slice ag p.signs.length qg,fg,fg,(((HXL.out.setO n1).set 1 (.int .i64 (p.n-n)))).drew,(((HXO.out.set 1 n).setO n2)).drew,R.out,Q.out,R.out,Q.out,(((HXR.out.setO hnq).setO hnp)).drew,(((Z.out.setCell (p:=⟨z,1,none⟩) (by simp only;omega) _).setCell (p:=⟨I,1,none⟩) (by simp only;omega) _)).drew⟩
  case rest=>
   obtain⟨B,rfl⟩:∃wq:World,wq=wc:=⟨_,rfl⟩;obtain⟨vL,vO,Y,fO,xL,xO,sL,mL,sO,mO,xR,u⟩:=hcut;obtain⟨i0,hi,hz0,hz1,hz2⟩:=info_parts uam;obtain⟨v',f',hcut2,ad,a7⟩:=Sl.tail Tryz.underlying30 (E:=122) (fun _=>by kernel_rfl) HR.out
   obtain⟨aT,qT,rfl⟩:=ad.isS;obtain⟨aL,qL,rfl⟩:=sL.isS;obtain⟨aO,qO,rfl⟩:=sO.isS;have s2:=u.size;have bw3:Below w w (B.alloc (.cells #[p.kind,(cutR p n).n,.slice aL (cutR p n).signs.length qL] 122)).drew:=(u.alloc s2 _).drew;obtain⟨gs,a5,a9,_⟩:=(ad.belowW bw3).src;have a8:∀q∈gs,q.1<w:=fun q j=>N.out q (a7 q (a9 q j))
   have hfl:∀q∈Y,q.1<w:=fun q j=>N.out q (mL q j)
   have HROW:Hid (Row B (B.alloc (.cells #[p.kind,(cutR p n).n,.slice aL (cutR p n).signs.length qL] 122)) (.slice (some ⟨B,0,none⟩) 1 1) [cutR p n] Y):=hH (qbb (c:=[p.kind,(cutR p n).n,.slice aL (cutR p n).signs.length qL]) (x:=cutR p n) 122 ⟨_,Y,by rw[(Kay HP.out HN.out).2.2.2.1],sL.belowW u,rfl⟩)
   have HSRC:=hH a5;have HGL:=hH a8;have HFLL:=hH hfl;have HGS:Hid (∀q∈gs,q∈f):=hH fun q j=>a7 q (a9 q j)
   have U:=hH mL;have D:=hH mO;have a6:=hH sO;have a0:=hH u;have HDIS:Hid (∀q∈gs,q∉rowP (GoT.n zaa) (.slice (some ⟨B,0,none⟩) 1 1)):=hH fun q j hm=>by
    have h1:=a8 q j;have h2:q.1=B:=(Kaa.1 hm).1;omega
   have c2:B.cell? ⟨b,0,none⟩=some v:=(u.cell (p:=⟨b,0,none⟩) zl).trans (HX.out.c1);have g2:B.frozen? ⟨b,0,none⟩=false:=(u.frozen (p:=⟨b,0,none⟩) zl).trans (HX.out.f1);have HXL2:=hH xL;have HXO2:=hH xO;have HXR2:=hH xR;have HLL:=HL.out;have HBX:Hid (Bx B b [v]):=hH (HX.out.below u zl);obtain⟨yL2,l0,l1',l2,m0,m1,m2⟩:=xL.q3;obtain⟨yO2,o0,o1',o2,k0,k1,k2⟩:=xO.q3;obtain⟨yR2,r0,r1,r2,x0,x1,x2⟩:=xR.q3;have yb2:b<B.heap.size:=lq zl s2;clear p0 p1 p2 j0 j1 j2 sL mL sO mO xL xO xR u ad a7 a5 a9 a8 hfl c1 g1 yL yO yP;go_wp2_with fail
   have nb1:¬(z=b):=om;have nb2:¬(b=z):=om;have nb3:¬(w.heap.size=b):=om;have ae:¬(b=w.heap.size):=om;have nb5:¬(w.heap.size=z):=om;have nb6:¬(z=w.heap.size):=om;go_region_law ((refine yad (by rfl) (.tmp 38) (.tmp 43) 30 (by rfl) Tryz.underlying30 hi hz0 hz1 hz2 rfl (by rfl) (by rfl) (HROW.out.below (lf _ _).drew) HSRC.out HDIS.out (Xab (by simp;omega)) (by simp;omega) sm ?_);intro v3 w3 ac hw3 hn3;obtain⟨a3,q3,rfl⟩:=ac.rd.isSlice;have B3:Below B B w3:=(((lf _ _).alloc (lr _) _).drew).trans (hw3.below sm (fun q j=>by rw[(Kaa.1 j).1];exact lr _));obtain⟨yb3,c3,g3⟩:=(HBX.out.at B3).q1;obtain⟨yO3,oo0,oo1,oo2,kk0,kk1,kk2⟩:=(HXO2.out.at B3).q3;obtain⟨yR3,rr0,rr1,rr2,xx0,xx1,xx2⟩:=(HXR2.out.at B3).q3;have HR3:=hH ac;have HN3:=hH hn3;clear ac hw3 hn3)
   all_goals
    go_wp2;refine bodyPost_ret (v:= .agg #[p.kind,(cutL p n).n,.slice aO (cutL p n).signs.length qO]) (by simp[results,Tryz.results168,go_sem,xaa, *]) rfl ?_
    have hne:∀q∈rowP 3 (.slice a3 (l.length+1) q3)++(Y++gs),q.1≠b/\q.1≠w:=fun q j=>by
     rcases lm.1 j with h|h
     ·have:B<=q.1:=by
       rcases HN3.out q h with h|h
       ·rw[(Kaa.1 h).1];exact lr _
       ·simp at h;omega
      omega
     ·have h1:q∈f:=by
       rcases lm.1 h with h|h
       ·exact U.out q h
       ·exact HGS.out q h
      have h2:=N.out q h1;exact⟨HF.out q h1,by omega⟩
    have a4:Wr [(b,0),(w.heap.size,0),(w.heap.size,1),(w.heap.size,2)] w3 ((((w3.setCell ⟨b,0,none⟩ (.slice a3 (l.length+1) q3)).setCell ⟨w,0,none⟩ p.kind).setCell ⟨w,1,none⟩ ((cutL p n).n)).setCell ⟨w,2,none⟩ (.slice aO (cutL p n).signs.length qO)):=((((Wr.refl _ _).put (b:=b) (o:=0) sm _).put (b:=w) (o:=0) sm _).put (b:=w) (o:=1) sm _).put (b:=w) (o:=2) sm _;have a2:∀q:Pos,q.1≠b/\q.1≠w->q∉[(b,0),(w.heap.size,0),(w.heap.size,1),(w.heap.size,2)]:=by
     rintro q ⟨h1,h2⟩ hm;simp only[List.mem_cons,List.not_mem_nil,or_false]at hm;rcases hm with rfl|rfl|rfl|rfl
     ·exact h1 rfl
     ·exact h2 rfl
     ·exact h2 rfl
     ·exact h2 rfl
    have hbw:Below w (w3.setCell ⟨b,0,none⟩ (.slice a3 (l.length+1) q3)) ((((w3.setCell ⟨b,0,none⟩ (.slice a3 (l.length+1) q3)).setCell ⟨w,0,none⟩ p.kind).setCell ⟨w,1,none⟩ ((cutL p n).n)).setCell ⟨w,2,none⟩ (.slice aO (cutL p n).signs.length qO)):=(((lf _ _).setCell (p:=⟨w,0,none⟩) (lr _) _).setCell (p:=⟨w,1,none⟩) (lr _) _).setCell (p:=⟨w,2,none⟩) (lr _) _;have hwa:Wr [(b,0)] w (w3.setCell ⟨b,0,none⟩ (.slice a3 (l.length+1) q3)):=(Wr.of_below (a0.out.trans (B3.mono s2))).put (b:=b) (o:=0) sm _;refine⟨_,_,_,fO,rfl,((a6.out.belowW a0.out).belowW B3).wr a4 fun q j=>a2 q ⟨HF.out q (D.out q j),?_⟩,((((HBX.out.at B3).set 0 (.slice a3 (l.length+1) q3)).setO ae).setO ae).setO ae,HR3.out.1.wr a4 fun q j=>a2 q (hne q j),fun q j=> ?_,hwa.tr_below hbw⟩
    ·have:=N.out q (D.out q j);omega
    ·rcases lm.1 j with h|h
     ·rcases lm.1 h with h|h
      ·refine .inr ?_;have:B<=q.1:=by
        rcases HN3.out q h with h|h
        ·rw[(Kaa.1 h).1];exact lr _
        ·simp at h;omega
       omega
      ·rcases lm.1 h with h|h
       ·exact .inl (U.out q h)
       ·exact .inl (HGS.out q h)
     ·exact .inl (D.out q h)
end Go.Proofs.YtbonkabfmlajnaaGreat
namespace Go.Proofs.YtbonkabfmlajnaaGreat
open Go.RowKit
theorem Qax (b:Nat)(v:Value)(p:zaa)(l:List zaa)(f:List Pos)(w:World)(hX:Bx w b [v])(hr:Sl BIG w v (p::l) f)(hf:∀q∈f,q.1≠b)(hp:kab p=true)(D:l.length<=5000):
 Calls Tryz.prog 167 #[.pointer (some ⟨b,0,none⟩)] w (fun e w'=>∃v' U vs fs,e= .returned (.agg #[p.kind,(cutL p (nsz p)).n,vs])/\Sl BIG w' vs (cutL p (nsz p)).signs fs/\Bx w' b [v']/\Sl BIG w' v' (cutR p (nsz p)::l) U/\(∀q∈U++fs,q∈f\/w<=q.1/\q.1≠w)/\Wr [(b,0)] w w'):=by
 have HX:=hH hX;have HR:=hH hr;have HF:=hH hf;have HP:=hH hp;have HL:=hH D;have HFL:=hH (Live.lt hr.live);have hz:=hH (qau hp);obtain⟨pb0,pb1,pb2⟩:=ka5 hp;obtain⟨zl,c0,g0⟩:=hX.q1;obtain⟨u,o1,vg,fg,i1,i2,ig,if_⟩:=Sl.head Tryz.underlying30 uae hr;have e0:=i2.zero;have e1:w.cell? ⟨u,o1+1,none⟩=some _:=i2 1 _ rfl;have e2:w.cell? ⟨u,o1+2,none⟩=some _:=i2 2 _ rfl;have l1:u<w.heap.size:=lk (w:=w) (a:=⟨u,o1,none⟩) e0;have HIG:=hH ig;clear i2 ig if_ hX hr hf hp D;obtain⟨W,hW⟩:∃W:World,W=w.alloc (.cells #[zI,zI,zN] 122):=⟨_,rfl⟩;have M:Below w w W:=by rw[hW];exact(lf _ _).alloc (lr _) _
 have Y:Hid (Bx W w [zI,zI,zN]):=hH (by rw[hW];exact Bx.new rfl)
 have N:=hH M;have sW:=M.size;replace c0:W.cell? ⟨b,0,none⟩=some _:=(M.cell (p:=⟨b,0,none⟩) zl).trans c0;replace e0:W.cell? ⟨u,o1,none⟩=some _:=(M.cell (p:=⟨u,o1,none⟩) l1).trans e0;replace e1:W.cell? ⟨u,o1+1,none⟩=some _:=(M.cell (p:=⟨u,o1+1,none⟩) l1).trans e1;replace e2:W.cell? ⟨u,o1+2,none⟩=some _:=(M.cell (p:=⟨u,o1+2,none⟩) l1).trans e2;clear M;go_enter Tryz.func167,Tryz.ntmps167
 go_upto_region 1 with(fail)
 rw[<-hW];clear hW;go_wp2_with fail
 refine(Zao p vg _ pb0 pb1 pb2 ⟨_,HIG.out.belowW N.out⟩).mono ?_;rintro e' w1 ⟨rfl,j⟩;rw[<-hz.out];have B1:=hH (N.out.trans (j.mono sW));have HX1:=hH ((HX.out.at N.out).at j);have HR1:=hH (Y.out.at j);have s1:=j.size;obtain⟨zr,_⟩:=Y.out.o3;clear j c0 g0 e0 e1 e2;go_wp2_with fail
 refine(Zaj b (nsz p) v p l f _ HX1.out (HR.out.belowW B1.out) HF.out HP.out (lr _) HL.out).mono ?_;rintro e' w2 ⟨v',U,vs,fs,rfl,R,x1,a1,m,wr⟩;obtain⟨Q,qs,rfl⟩:=R.isS;have nb:¬(w.heap.size=b):=om;have B:¬(b=w.heap.size):=om;obtain⟨zr2,r0,r1,r2,x0,x1',x2⟩:=(HR1.out.wr wr (fun q z=>by simp only[List.mem_singleton]at z;subst z;exact fun e=>B e)).q3
 have HS1:=hH R;have HS2:=hH a1;have HX2:=hH x1;have HM:=hH m;have HW2:=hH wr;clear R a1 x1 m wr;go_wp2;refine bodyPost_ret (v:= .agg #[p.kind,(cutL p (nsz p)).n,.slice Q (cutL p (nsz p)).signs.length qs]) (by simp[results,Tryz.results167,go_sem,xaa, *]) rfl ?_
 have J:Wr [(w.heap.size,0),(w.heap.size,1),(w.heap.size,2)] w2 (((w2.setCell ⟨w,0,none⟩ p.kind).setCell ⟨w,1,none⟩ ((cutL p (nsz p)).n)).setCell ⟨w,2,none⟩ (.slice Q (cutL p (nsz p)).signs.length qs)):=(((Wr.refl _ _).put (b:=w) (o:=0) sm _).put (b:=w) (o:=1) sm _).put (b:=w) (o:=2) sm _;have I:∀q:Pos,q.1≠w->q∉[(w.heap.size,0),(w.heap.size,1),(w.heap.size,2)]:=by
  rintro q h2 hm;simp only[List.mem_cons,List.not_mem_nil,or_false]at hm;rcases hm with rfl|rfl|rfl<;>exact h2 rfl
 have Z:∀q∈U++fs,q∈f\/w<=q.1/\q.1≠w:=fun q z=>(HM.out q z).imp id fun h=>by omega
 have a0:∀q∈U++fs,q.1≠w:=fun q z=>by
  rcases Z q z with h|h
  ·have:=HFL.out q h;omega
  ·exact h.2
 have hbw:Below w w2 (((w2.setCell ⟨w,0,none⟩ p.kind).setCell ⟨w,1,none⟩ ((cutL p (nsz p)).n)).setCell ⟨w,2,none⟩ (.slice Q (cutL p (nsz p)).signs.length qs)):=(((lf _ _).setCell (p:=⟨w,0,none⟩) (lr _) _).setCell (p:=⟨w,1,none⟩) (lr _) _).setCell (p:=⟨w,2,none⟩) (lr _) _;exact⟨v',U,_,fs,rfl,HS1.out.wr J fun q z=>I q (a0 q (by simp[z])),((HX2.out.setO B).setO B).setO B,HS2.out.wr J fun q z=>I q (a0 q (by simp[z])),Z,((Wr.of_below B1.out).trans HW2.out).tr_below hbw⟩
end Go.Proofs.YtbonkabfmlajnaaGreat
namespace Go.Proofs.YtbonkabfmlajnaaGreat
open Go.RowKit
structure TX (w0:World)(B br bs:Nat)(vr vs vx vy:Value)(r s X Y:List zaa)(w:World):Prop where
 t:TS B w br bs vr vs vx vy r s X Y
 p:Bx w br [vr]
 q:Bx w bs [vs]
 n:br≠bs
 o1:w0.heap.size<=br
 o2:w0.heap.size<=bs
 bel:Below w0 w0 w
section
variable {w0 w w':World} {B br bs:Nat} {vr vs vx vy v':Value} {r s X Y r':List zaa}
theorem TX.swap (h:TX w0 B br bs vr vs vx vy r s X Y w):TX w0 B bs br vs vr vy vx s r Y X w:=⟨h.t.swap,h.q,h.p,h.n.symm,h.o2,h.o1,h.bel⟩
theorem TX.below (h:TX w0 B br bs vr vs vx vy r s X Y w)(hb:Below w w w'):TX w0 B br bs vr vs vx vy r s X Y w':=
 ⟨h.t.below hb,h.p.at hb,h.q.at hb,h.n,h.o1,h.o2,h.bel.trans (hb.mono h.bel.size)⟩
theorem TX.rd (h:TX w0 B br bs vr vs vx vy r s X Y w):∃f,Sl BIG w vr r f/\(∀p∈f,p.1≠br)/\(∀p∈f,¬ZP br bs vx vy p)/\∀p∈f,p.1<w:=by
 obtain⟨f,j,n⟩:=h.t.r;exact⟨f,j,fun p q e=>n p q (.inr (.inr (.inl e))),n,Live.lt j.live⟩
theorem TX.stepR (h:TX w0 B br bs vr vs vx vy r s X Y w){f z:List Pos}(M:∀p∈f,¬ZP br bs vx vy p)(D:Wr [(br,0)] w w')(U:Bx w' br [v'])(Q:Sl BIG w' v' r' z)(N:∀q∈z,q∈f\/w<=q.1):TX w0 B br bs v' vs vx vy r' s X Y w':=by
 have R:=h.t.wr D fun p j=>by simp only[List.mem_singleton]at j;rw[j];exact .inl rfl
 have I:=h.n;refine⟨R.setR ⟨z,Q,fun q u J=> ?_⟩,U,h.q.wr D fun p j=>by simp only[List.mem_singleton]at j;rw[j];exact I,I,h.o1,h.o2,h.bel.trans (D.below h.bel.size fun p j=>by simp only[List.mem_singleton]at j;rw[j];exact h.o1)⟩
 rcases N q u with u|u
 ·exact M q u J
 ·have:=h.t.zlt J;omega
theorem TX.zout (h:TX w0 B br bs vr vs vx vy r s X Y w){q:Pos}(n:w<=q.1):¬ZP br bs vx vy q:=fun j=>by have:=h.t.zlt j;omega
theorem TX.appX (h:TX w0 B br bs vr vs vx vy r s X Y w){W:World}{c:List Value}{x:zaa}{g:List Pos}(E:TypeId)(hb:Below w w W)(D:GoT.rd BIG W c x g)(U:∀q∈g,¬ZP br bs vx vy q):
 ∃I,Row B (W.alloc (.cells c.toArray E)) vx X I/\Src (W.alloc (.cells c.toArray E)) (.slice (some ⟨W,0,none⟩) 1 1) [x] g/\(∀q∈g,q∉rowP (GoT.n zaa) vx)/\B<=(W.alloc (.cells c.toArray E)).heap.size/\
  ∀(N:Value) (Q:World),Row B Q N (X++[x]) (I++g)->Wr (rowP (GoT.n zaa) vx) (W.alloc (.cells c.toArray E)) Q->(∀p∈rowP (GoT.n zaa) N,p∈rowP (GoT.n zaa) vx\/(W.alloc (.cells c.toArray E)).heap.size<=p.1)->TX w0 B br bs vr vs N vy r s (X++[x]) Y Q:=by
 have R:Below w w (W.alloc (.cells c.toArray E)):=hb.alloc hb.size _;have j:=h.below R;obtain⟨I,Z,k2⟩:=j.t.x;have hl:=Live.lt (GoT.live D);have e1:(W.alloc (.cells c.toArray E)).heap.size=W.heap.size+1:=by simp
 refine⟨I,Z,Zac E D,fun q J hm=>U q J (.inl hm),j.t.hB,fun N Q j1 M j3=> ?_⟩
 have u:=j.t.x.ge;have hr:=j.t.hr;have hs:=j.t.hs;refine⟨j.t.appX k2 (fun q J=>⟨U q J,by have:=hl q J;omega⟩) (Live.lt Z.live) j1 M j3,j.p.wr M fun p z=> ?_,j.q.wr M fun p z=> ?_,j.n,j.o1,j.o2,j.bel.trans (M.below j.bel.size fun p z=> ?_)⟩
 ·have:=(u p z).1;omega
 ·have:=(u p z).1;omega
 ·have:=(u p z).1;have:=j.o1;omega
theorem TX.appY (h:TX w0 B br bs vr vs vx vy r s X Y w){W:World}{c:List Value}{x:zaa}{g:List Pos}(E:TypeId)(hb:Below w w W)(D:GoT.rd BIG W c x g)(I:∀q∈g,¬ZP br bs vx vy q):
 ∃z,Row B (W.alloc (.cells c.toArray E)) vy Y z/\Src (W.alloc (.cells c.toArray E)) (.slice (some ⟨W,0,none⟩) 1 1) [x] g/\(∀q∈g,q∉rowP (GoT.n zaa) vy)/\B<=(W.alloc (.cells c.toArray E)).heap.size/\
  ∀(j:Value) (u:World),Row B u j (Y++[x]) (z++g)->Wr (rowP (GoT.n zaa) vy) (W.alloc (.cells c.toArray E)) u->(∀p∈rowP (GoT.n zaa) j,p∈rowP (GoT.n zaa) vy\/(W.alloc (.cells c.toArray E)).heap.size<=p.1)->TX w0 B br bs vr vs vx j r s X (Y++[x]) u:=by
 obtain⟨z,U,Z,k3,k4,k5⟩:=h.swap.appX E hb D fun q J M=>I q J M.swap
 exact⟨z,U,Z,k3,k4,fun j u N Q R=>(k5 j u N Q R).swap⟩
end
theorem TX.new {w0 w:World}{j vb:Value}{a b:List zaa}{E:TypeId}(hb:Below w0 w0 w)(J:RdS w0 j a)(q:RdS w0 vb b):
 TX w0 (w+2) w (w+1) j vb (.slice none 0 0) (.slice none 0 0) a b [] [] ((w.alloc (.cells #[j] E)).alloc (.cells #[vb] E)):=by
 obtain⟨f,z⟩:=J;obtain⟨g,B⟩:=q;have D:=hb.size;have n:Below w0 w0 ((w.alloc (.cells #[j] E)).alloc (.cells #[vb] E)):=(hb.alloc D _).alloc (by simp;omega) _
 have e:((w.alloc (.cells #[j] E)).alloc (.cells #[vb] E)).heap.size=w.heap.size+2:=by simp
 have I:=TS.new (w:=(w.alloc (.cells #[j] E)).alloc (.cells #[vb] E)) (br:=w) (bs:=w+1) (vr:=j) (vs:=vb) (r:=a) (s:=b) (by simp;omega) sm ⟨f,z.belowW n,fun p u=>by have:=Live.lt z.live p u;omega⟩ ⟨g,B.belowW n,fun p u=>by have:=Live.lt B.live p u;omega⟩
 rw[e]at I;exact⟨I,(Bx.new rfl).alloc _,Bx.new sm,by omega,D,by omega,n⟩
