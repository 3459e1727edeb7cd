/- Doing a call on a hub: the walks. -/
import Derived.Test.YtbonkabfmlajnaaGreatQrbx
set_option maxHeartbeats 32000000
set_option maxRecDepth 100000
namespace Go.Proofs.YtbonkabfmlajnaaGreat
open Go.RowKit
attribute [local go_sem ↓] Go.wp_at_zero Go.wp_at_succ
theorem kat {c:Jag}(h:xac c=true):within c.kind 1 8=true/\c.doc.size<=8/\Xag c.o=true/\jae c.text=true:=by
 simp only[xac,Bool.and_eq_true,decide_eq_true_eq]at h;exact⟨h.1.1.1.1,h.1.1.1.2,h.1.1.2,h.1.2⟩
theorem bx4 {w:World}{b:Nat}{p q u z:Value}(h:b<w.heap.size)(M:w.cell? ⟨b,0,none⟩=some p)(N:w.cell? ⟨b,1,none⟩=some q)(Q:w.cell? ⟨b,2,none⟩=some u)(R:w.cell? ⟨b,3,none⟩=some z)
 (B:w.frozen? ⟨b,0,none⟩=false) (D:w.frozen? ⟨b,1,none⟩=false) (I:w.frozen? ⟨b,2,none⟩=false) (J:w.frozen? ⟨b,3,none⟩=false):Bx w b [p,q,u,z]:=
 ⟨h,fun j v n=>match j,n with
  |0,n=>by simp at n;rw[<-n];exact⟨M,B⟩
  |1,n=>by simp at n;rw[<-n];exact⟨N,D⟩
  |2,n=>by simp at n;rw[<-n];exact⟨Q,I⟩
  |3,n=>by simp at n;rw[<-n];exact⟨R,J⟩
  |_+4,n=>by simp at n⟩
theorem Qab.ans {C D:Nat}{w j:World}{p vs:Value}{y:qae}{n:Int}(h:Qab C D j p vs y.docs y.subs)(q:w.heap.size<=C)(hb:Below w w j):
 qap w y (jaA n) (.returned (.tuple #[.agg #[y.shut,p,vs,y.last],.agg #[n,zI,zN,zN]])) j:=
 let⟨fd,fs,u,z,k,_⟩:=h;⟨_,_,_,_,fd,fs,[],[],rfl,u,z,Sl.nil,Sl.nil,by simpa using k.mono q,hb⟩
def Tw (C D:Nat)(w:World)(vt vl:Value)(t:List Int)(l:List yab):Prop:=∃ft fl,Sl BIG w vt t ft/\Sl BIG w vl l fl/\Qaa C w (ft++fl)/\∀p∈ft++fl,p.1<D
section
variable {C D:Nat} {w w':World} {vt vl:Value} {t:List Int} {l:List yab}
theorem Tw.two (h:Tw C D w vt vl t l):∃n j,Two C D w vt vl t l n j:=let⟨n,j,a,b,c,d⟩:=h;⟨n,j,a,b,c,d⟩
theorem Tw.of {n j:List Pos}(h:Two C D w vt vl t l n j):Tw C D w vt vl t l:=⟨n,j,h⟩
theorem Tw.below (h:Tw C D w vt vl t l)(hb:Below w w w'):Tw C D w' vt vl t l:=let⟨n,j,a,b,k,d⟩:=h;⟨n,j,a.belowW hb,b.belowW hb,k.belowL hb (Live.lt (Live.append.2 ⟨a.live,b.live⟩)),d⟩
theorem Tw.setCell {b o:Nat}(h:Tw C D w vt vl t l)(j:b<C\/D<=b)(u:Value):Tw C D (w.setCell ⟨b,o,none⟩ u) vt vl t l:=let⟨_,_,k⟩:=h.two; .of (k.setCell j u)
theorem Tw.drew (h:Tw C D w vt vl t l):Tw C D w.drew vt vl t l:=h.below (lf _ _).drew
end
theorem Qab.both {C D C' D':Nat}{w j:World}{J vs N M:Value}{y:qae}{a:Kal}(h:Qab C D j J vs y.docs y.subs)(k:Tw C' D' j N M a.text a.list)(U:w.heap.size<=C)(n:w.heap.size<=C')(hd:D<=C'\/D'<=C)(hb:Below w w j):
 qap w y a (.returned (.tuple #[.agg #[y.shut,J,vs,y.last],.agg #[a.code,a.rev,N,M]])) j:=by
 obtain⟨fd,fs,sd,ss,u,Y⟩:=h;obtain⟨R,Q,st,sl,I,Z⟩:=k;refine⟨_,_,_,_,fd,fs,R,Q,rfl,sd,ss,st,sl,?_,hb⟩;rw[<-List.append_assoc];refine(u.mono U).join (I.mono n) fun p z q B e=> ?_
 subst e;have h1:=u.ge p z;have h2:=Y p z;have h3:=I.ge p B;have h4:=Z p B;omega
theorem zbc (z:qae)(c:Jag)(U Y v_o v_text:Value)(w:World)(q:RdS w U z.docs)(B:RdS w Y z.subs)(h_o:RdS w v_o c.o)(h_text:RdS w v_text c.text)(hz:uaM z):
 Calls Tryz.prog 7 #[.agg #[z.shut,U,Y,z.last],.agg #[c.kind,c.doc,c.client,c.seq,c.n,v_o,v_text]] w (qap w (Xai z c).1 (Xai z c).2):=by
 go_enter Tryz.func7,Tryz.ntmps7
 go_wp2_with fail
 refine(uah z _ _ _ (q.below blw) (B.below blw)).mono ?_;rintro e' w1 ⟨rfl,hb1⟩;have HX:=hH (((((Bx.new (b:=w) rfl).alloc _).alloc _).alloc _).at hb1);have HY:Hid (Bx w1 (w+1) _):=hH ((((Bx.new sm).alloc _).alloc _).at hb1);have HR:Hid (Bx w1 (w+2) _):=hH (((Bx.new sm).alloc _).at hb1);have HA:Hid (Bx w1 (w+3) _):=hH ((Bx.new sm).at hb1);have s1:w+4<=w1.heap.size:=szl hb1;have hB:Below w w w1:=(((((lf w w).alloc om _).alloc om _).alloc om _).alloc om _).trans (hb1.mono om);clear hb1;obtain⟨xz,x0,x1,x2,x3⟩:=HX.out.o4;obtain⟨jz,j0,j1,j2,j3,j4,j5,j6⟩:=HY.out.o7;obtain⟨rz,r0,r1,r2,r3,rg0,rg1,rg2,rg3⟩:=HR.out.q4;obtain⟨az,a0,a1,a2,a3,ag0,ag1,ag2,ag3⟩:=HA.out.q4;by_cases h1:Qac z=true
 rotate_left
 ·have h1:Qac z=false:=by simpa using h1
  have HV:=hH (xar (z:=z) (c:=c) (by simp[h1]))
  go_wp2_with fail
  refine(kaf z _ _ _ (q.below hB) (B.below hB) hz).mono ?_;rintro e' j ⟨_,rfl,ho,R⟩;obtain⟨vd,vs,rfl,u⟩:=Qab.of_own ho;obtain⟨ad,cd,rfl⟩:=u.rd1.isSlice;obtain⟨J,M,rfl⟩:=u.rd2.isSlice;have HO:=hH u;clear ho u;clear xz x0 x1 x2 x3 jz j0 j1 j2 j3 j4 j5 j6 rz r0 r1 r2 r3 rg0 rg1 rg2 rg3 az a0 a1 a2 a3 ag0 ag1 ag2 ag3;replace HX:=hH (HX.out.at R);replace HY:=hH (HY.out.at R);replace HR:=hH (HR.out.at R);replace HA:=hH (HA.out.at R);have s2:=R.size;replace hB:=hB.trans (R.mono hB.size);clear R;obtain⟨xz,x0,x1,x2,x3⟩:=HX.out.o4;obtain⟨jz,j0,j1,j2,j3,j4,j5,j6⟩:=HY.out.o7;obtain⟨rz,r0,r1,r2,r3,rg0,rg1,rg2,rg3⟩:=HR.out.q4;obtain⟨az,a0,a1,a2,a3,ag0,ag1,ag2,ag3⟩:=HA.out.q4;go_wp2;exact bodyPost_ret (v:= .tuple #[.agg #[z.shut,.slice ad z.docs.length cd,.slice J z.subs.length M,z.last],.agg #[.int .i64 1,zI,zN,zN]]) (by simp[results,Tryz.results7,go_sem,xaa, *]) rfl (by rw[HV.out];exact Qab.ans (C:=w1) (D:=j) (by repeat'(first|(with_reducible exact HO.out)|(with_reducible refine Qab.setCell ?_ ?_ _)|(with_reducible refine Qab.drew ?_)|omega)) om blw)
 go_wp2_with fail
 refine(KaU c _ _ _ (h_o.below hB) (h_text.below hB)).mono ?_;rintro e' j ⟨rfl,R⟩;clear xz x0 x1 x2 x3 jz j0 j1 j2 j3 j4 j5 j6 rz r0 r1 r2 r3 rg0 rg1 rg2 rg3 az a0 a1 a2 a3 ag0 ag1 ag2 ag3;replace HX:=hH (HX.out.at R);replace HY:=hH (HY.out.at R);replace HR:=hH (HR.out.at R);replace HA:=hH (HA.out.at R);have s2:=R.size;replace hB:=hB.trans (R.mono hB.size);clear R;obtain⟨xz,x0,x1,x2,x3⟩:=HX.out.o4;obtain⟨jz,j0,j1,j2,j3,j4,j5,j6⟩:=HY.out.o7;obtain⟨rz,r0,r1,r2,r3,rg0,rg1,rg2,rg3⟩:=HR.out.q4;obtain⟨az,a0,a1,a2,a3,ag0,ag1,ag2,ag3⟩:=HA.out.q4;by_cases h2:xac c=true
 rotate_left
 ·have h2:xac c=false:=by simpa using h2
  have HV:=hH (xar (z:=z) (c:=c) (by simp[h2]))
  go_wp2_with fail
  refine(kaf z _ _ _ (q.below hB) (B.below hB) hz).mono ?_;rintro e' w3 ⟨_,rfl,ho,I⟩;obtain⟨vd,vs,rfl,u⟩:=Qab.of_own ho;obtain⟨ad,cd,rfl⟩:=u.rd1.isSlice;obtain⟨J,M,rfl⟩:=u.rd2.isSlice;have HO:=hH u;clear ho u;clear xz x0 x1 x2 x3 jz j0 j1 j2 j3 j4 j5 j6 rz r0 r1 r2 r3 rg0 rg1 rg2 rg3 az a0 a1 a2 a3 ag0 ag1 ag2 ag3;replace HX:=hH (HX.out.at I);replace HY:=hH (HY.out.at I);replace HR:=hH (HR.out.at I);replace HA:=hH (HA.out.at I);have s3:=I.size;replace hB:=hB.trans (I.mono hB.size);clear I;obtain⟨xz,x0,x1,x2,x3⟩:=HX.out.o4;obtain⟨jz,j0,j1,j2,j3,j4,j5,j6⟩:=HY.out.o7;obtain⟨rz,r0,r1,r2,r3,rg0,rg1,rg2,rg3⟩:=HR.out.q4;obtain⟨az,a0,a1,a2,a3,ag0,ag1,ag2,ag3⟩:=HA.out.q4;go_wp2;exact bodyPost_ret (v:= .tuple #[.agg #[z.shut,.slice ad z.docs.length cd,.slice J z.subs.length M,z.last],.agg #[.int .i64 1,zI,zN,zN]]) (by simp[results,Tryz.results7,go_sem,xaa, *]) rfl (by rw[HV.out];exact Qab.ans (C:=j) (D:=w3) (by repeat'(first|(with_reducible exact HO.out)|(with_reducible refine Qab.setCell ?_ ?_ _)|(with_reducible refine Qab.drew ?_)|omega)) om blw)
 obtain⟨hk,hd8,hpo,htx⟩:=kat h2;obtain⟨kind,doc,client,seq,n,po,text⟩:=c;simp only at *;obtain⟨⟨y0,y1⟩,hy⟩:∃r,Xah z ⟨kind,doc,client,seq,n,po,text⟩=r:=⟨_,rfl⟩;have HRW:=hH hy;clear hy;have hbt:text.length<=4000000:=by have:=(zan.1 htx).1;omega
 have hnd:doc.size<=BIG:=Xab om;go_upto_block 0 with fail
 go_cut [20]from 8 to 108 (fun z20 wx=>∃(ad J at_ al:Option Addr) (cd M ct cl:Nat) (fd fs ft fl:List Pos),z20= .int .i64 kind/\¬(kind=3\/kind=4)/\Bx wx j [y0.shut,.slice ad y0.docs.length cd,.slice J y0.subs.length M,y0.last]/\Bx wx (j+1) [y1.code,y1.rev,.slice at_ y1.text.length ct,.slice al y1.list.length cl]/\Sl BIG wx (.slice ad y0.docs.length cd) y0.docs fd/\Sl BIG wx (.slice J y0.subs.length M) y0.subs fs/\Sl BIG wx (.slice at_ y1.text.length ct) y1.text ft/\Sl BIG wx (.slice al y1.list.length cl) y1.list fl/\Qaa (j+2) wx (fd++(fs++(ft++fl)))/\Below j j wx)
 case first=>
  rcases kinds hk with rfl|rfl|rfl|rfl|rfl|rfl|rfl|rfl
  ·have hy:=HRW.out;simp[Xah,jaA]at hy;obtain⟨rfl,rfl⟩:=hy;go_wp2_with fail
   refine(jaz z _ _ doc text _ _ (q.below blw) (B.below blw) hnd (h_text.below blw) hbt).mono ?_;rintro e' w3 ⟨vd,vs,fd,fs,rfl,sd,ss,fr,I⟩;obtain⟨ad,cd,rfl⟩:=sd.isS;obtain⟨J,M,rfl⟩:=ss.isS;have B3:Below j j w3:=(((lf j j).alloc om _).alloc om _).trans (I.mono om);obtain⟨nz,n0,n1,n2,n3,ng0,ng1,ng2,ng3⟩:=(Bx.at (show Bx _ j [false,zN,zN,zI]from(Bx.new rfl).alloc _) I).q4;obtain⟨mz,m0,m1,m2,m3,mg0,mg1,mg2,mg3⟩:=(Bx.at (show Bx _ (j+1) [zI,zI,zN,zN]from Bx.new sm) I).q4;have N:Qaa (j+2) w3 (fd++(fs++([]++[]))):=Qaa.mono (by simpa using fr) (by first|exact lr _|omega|(simp;done)|(simp;omega))
   go_wp2_with fail
   go_meet
   refine⟨ad,J,none,none,cd,M,0,0,fd,fs,[],[],rfl,by omega,?_,?_,?_,?_,?_,?_,⟨N.nodup,N.ge,fun p hp=>by(try simp only[World.frozen?_setCell]);exact N.free p hp⟩,blw⟩
   all_goals clear HX HY HR HA
   ·refine bx4 ?_ ?_ ?_ ?_ ?_ ?_ ?_ ?_ ?_;all_goals simp[go_sem,xaa, *]
   ·refine bx4 ?_ ?_ ?_ ?_ ?_ ?_ ?_ ?_ ?_;all_goals simp[go_sem,xaa, *]
   ·repeat'(first|(with_reducible exact sd)|(with_reducible refine Sl.putS ?_ ?_ _))
    all_goals
     intro Q;have q1:=N.ge _ (lu _ Q);simp only at q1;omega
   ·repeat'(first|(with_reducible exact ss)|(with_reducible refine Sl.putS ?_ ?_ _))
    all_goals
     intro Q;have q1:=N.ge _ (lw _ (lu _ Q));simp only at q1;omega
   ·exact Sl.nil
   ·exact Sl.nil
  ·have hy:=HRW.out;simp[Xah]at hy;obtain⟨rfl,rfl⟩:=hy;go_wp2_with fail
   refine(xaw z _ _ doc client seq n _ po _ (q.below blw) (B.below blw) (h_o.below blw)).mono ?_;rintro e' w3 ⟨vd,vs,fd,fs,rfl,sd,ss,fr,I⟩;obtain⟨ad,cd,rfl⟩:=sd.isS;obtain⟨J,M,rfl⟩:=ss.isS;have B3:Below j j w3:=(((lf j j).alloc om _).alloc om _).trans (I.mono om);obtain⟨nz,n0,n1,n2,n3,ng0,ng1,ng2,ng3⟩:=(Bx.at (show Bx _ j [false,zN,zN,zI]from(Bx.new rfl).alloc _) I).q4;obtain⟨mz,m0,m1,m2,m3,mg0,mg1,mg2,mg3⟩:=(Bx.at (show Bx _ (j+1) [zI,zI,zN,zN]from Bx.new sm) I).q4;have N:Qaa (j+2) w3 (fd++(fs++([]++[]))):=Qaa.mono (by simpa using fr) (by first|exact lr _|omega|(simp;done)|(simp;omega))
   go_wp2_with fail
   go_meet
   refine⟨ad,J,none,none,cd,M,0,0,fd,fs,[],[],rfl,by omega,?_,?_,?_,?_,?_,?_,⟨N.nodup,N.ge,fun p hp=>by(try simp only[World.frozen?_setCell]);exact N.free p hp⟩,blw⟩
   all_goals clear HX HY HR HA
   ·refine bx4 ?_ ?_ ?_ ?_ ?_ ?_ ?_ ?_ ?_;all_goals simp[go_sem,xaa, *]
   ·refine bx4 ?_ ?_ ?_ ?_ ?_ ?_ ?_ ?_ ?_;all_goals simp[go_sem,xaa, *]
   ·repeat'(first|(with_reducible exact sd)|(with_reducible refine Sl.putS ?_ ?_ _))
    all_goals
     intro Q;have q1:=N.ge _ (lu _ Q);simp only at q1;omega
   ·repeat'(first|(with_reducible exact ss)|(with_reducible refine Sl.putS ?_ ?_ _))
    all_goals
     intro Q;have q1:=N.ge _ (lw _ (lu _ Q));simp only at q1;omega
   ·exact Sl.nil
   ·exact Sl.nil
  ·have HV:=hH (Qao (z:=z) (c:=⟨3,doc,client,seq,n,po,text⟩) ⟨h1,h2⟩ sm);have e1:¬(w=w.heap.size+1+1):=om;have e2:¬(w=w.heap.size+1+1+1):=om;go_wp2_with fail
   go_region_held3 (fun Z=>Z.cell? ⟨w.heap.size,0,none⟩=some (.bool z.shut)/\Z.cell? ⟨w.heap.size,1,none⟩=some (U)/\Z.cell? ⟨w.heap.size,2,none⟩=some (Y)/\Z.cell? ⟨w.heap.size,3,none⟩=some (.int .i64 z.last)/\Z.cell? ⟨w.heap.size+1,0,none⟩=some (.int .i64 3)/\Z.cell? ⟨w.heap.size+1,1,none⟩=some (.string doc)/\Z.cell? ⟨w.heap.size+1,2,none⟩=some (.int .i64 client)/\Z.cell? ⟨w.heap.size+1,3,none⟩=some (.int .i64 seq)/\Z.cell? ⟨w.heap.size+1,4,none⟩=some (.int .i64 n)/\Z.cell? ⟨w.heap.size+1,5,none⟩=some (v_o)/\Z.cell? ⟨w.heap.size+1,6,none⟩=some v_text) (first|(go_keep;done)|(simp[go_sem,xaa, *];done))
    (first|(go_at_call 24;refine(kaf z _ _ _ (q.below blw) (B.below blw) hz).mono ?_;rintro e' wA ⟨_,rfl,ho,hbA⟩;obtain⟨vd,vs,rfl,u⟩:=Qab.of_own ho;obtain⟨ad,cd,rfl⟩:=u.rd1.isSlice;obtain⟨J,M,rfl⟩:=u.rd2.isSlice;have HO:=hH (u.mono (C':=j) om);clear ho u;have BA:Below j j wA:=(show Below j j _ from blw).trans (hbA.mono om);(try(have XBA:Below wB wB wA:=(show Below wB wB _ from blw).trans (hbA.mono om)));(try(have tBA:=XBA.size));have sA:=BA.size;obtain⟨xzA,x0A,x1A,x2A,x3A⟩:=(HX.out.at BA).o4;obtain⟨jzA,j0A,j1A,j2A,j3A,j4A,j5A,j6A⟩:=(HY.out.at BA).o7;obtain⟨rzA,r0A,r1A,r2A,r3A,rg0A,rg1A,rg2A,rg3A⟩:=(HR.out.at BA).q4;obtain⟨azA,a0A,a1A,a2A,a3A,ag0A,ag1A,ag2A,ag3A⟩:=(HA.out.at BA).q4;clear hbA)|(go_at_call 25;refine(kaN z ⟨3,doc,client,seq,n,po,text⟩ _ _ _ _ _ (q.below blw) h1).mono ?_;rintro e' wB ⟨vt,vl,ft,fl,rfl,st,sl,kf,hbB⟩;obtain⟨at_,ct,rfl⟩:=st.isS;obtain⟨al,cl,rfl⟩:=sl.isS;have HT:=hH (Tw.of (C:=wA) ⟨st,sl,kf.mono om,Live.lt (Live.append.2 ⟨st.live,sl.live⟩)⟩);clear st sl kf;have BB:Below j j wB:=(show Below j j _ from blw).trans (hbB.mono om);(try(have XAB:Below wA wA wB:=(show Below wA wA _ from blw).trans (hbB.mono om)));(try(have tAB:=XAB.size));have sB:=BB.size;obtain⟨xzB,x0B,x1B,x2B,x3B⟩:=(HX.out.at BB).o4;obtain⟨jzB,j0B,j1B,j2B,j3B,j4B,j5B,j6B⟩:=(HY.out.at BB).o7;obtain⟨rzB,r0B,r1B,r2B,r3B,rg0B,rg1B,rg2B,rg3B⟩:=(HR.out.at BB).q4;obtain⟨azB,a0B,a1B,a2B,a3B,ag0B,ag1B,ag2B,ag3B⟩:=(HA.out.at BB).q4;clear hbB))
   all_goals
    go_wp2;exact bodyPost_ret (v:= .tuple #[.agg #[z.shut,.slice ad z.docs.length cd,.slice J z.subs.length M,z.last],.agg #[(Kah z ⟨3,doc,client,seq,n,po,text⟩).code,(Kah z ⟨3,doc,client,seq,n,po,text⟩).rev,.slice at_ (Kah z ⟨3,doc,client,seq,n,po,text⟩).text.length ct,.slice al (Kah z ⟨3,doc,client,seq,n,po,text⟩).list.length cl]]) (by simp[results,Tryz.results7,go_sem,xaa, *]) rfl (by rw[HV.out];exact Qab.both (C:=j) (D:=wA) (C':=wA) (D':=wB) (by repeat'(first|(with_reducible exact HO.out)|(with_reducible refine Qab.setCell ?_ ?_ _)|(with_reducible refine Qab.drew ?_)|(with_reducible exact HO.out.below XAB)|omega)) (by repeat'(first|(with_reducible exact HT.out)|(with_reducible refine Tw.setCell ?_ ?_ _)|(with_reducible refine Tw.drew ?_)|omega)) om om (.inl (lr _)) blw)
  ·have HV:=hH (Qao (z:=z) (c:=⟨4,doc,client,seq,n,po,text⟩) ⟨h1,h2⟩ sm);have e1:¬(w=w.heap.size+1+1):=om;have e2:¬(w=w.heap.size+1+1+1):=om;go_wp2_with fail
   go_region_held3 (fun Z=>Z.cell? ⟨w.heap.size,0,none⟩=some (.bool z.shut)/\Z.cell? ⟨w.heap.size,1,none⟩=some (U)/\Z.cell? ⟨w.heap.size,2,none⟩=some (Y)/\Z.cell? ⟨w.heap.size,3,none⟩=some (.int .i64 z.last)/\Z.cell? ⟨w.heap.size+1,0,none⟩=some (.int .i64 4)/\Z.cell? ⟨w.heap.size+1,1,none⟩=some (.string doc)/\Z.cell? ⟨w.heap.size+1,2,none⟩=some (.int .i64 client)/\Z.cell? ⟨w.heap.size+1,3,none⟩=some (.int .i64 seq)/\Z.cell? ⟨w.heap.size+1,4,none⟩=some (.int .i64 n)/\Z.cell? ⟨w.heap.size+1,5,none⟩=some (v_o)/\Z.cell? ⟨w.heap.size+1,6,none⟩=some v_text) (first|(go_keep;done)|(simp[go_sem,xaa, *];done))
    (first|(go_at_call 24;refine(kaf z _ _ _ (q.below blw) (B.below blw) hz).mono ?_;rintro e' wA ⟨_,rfl,ho,hbA⟩;obtain⟨vd,vs,rfl,u⟩:=Qab.of_own ho;obtain⟨ad,cd,rfl⟩:=u.rd1.isSlice;obtain⟨J,M,rfl⟩:=u.rd2.isSlice;have HO:=hH (u.mono (C':=j) om);clear ho u;have BA:Below j j wA:=(show Below j j _ from blw).trans (hbA.mono om);(try(have XBA:Below wB wB wA:=(show Below wB wB _ from blw).trans (hbA.mono om)));(try(have tBA:=XBA.size));have sA:=BA.size;obtain⟨xzA,x0A,x1A,x2A,x3A⟩:=(HX.out.at BA).o4;obtain⟨jzA,j0A,j1A,j2A,j3A,j4A,j5A,j6A⟩:=(HY.out.at BA).o7;obtain⟨rzA,r0A,r1A,r2A,r3A,rg0A,rg1A,rg2A,rg3A⟩:=(HR.out.at BA).q4;obtain⟨azA,a0A,a1A,a2A,a3A,ag0A,ag1A,ag2A,ag3A⟩:=(HA.out.at BA).q4;clear hbA)|(go_at_call 25;refine(kaN z ⟨4,doc,client,seq,n,po,text⟩ _ _ _ _ _ (q.below blw) h1).mono ?_;rintro e' wB ⟨vt,vl,ft,fl,rfl,st,sl,kf,hbB⟩;obtain⟨at_,ct,rfl⟩:=st.isS;obtain⟨al,cl,rfl⟩:=sl.isS;have HT:=hH (Tw.of (C:=wA) ⟨st,sl,kf.mono om,Live.lt (Live.append.2 ⟨st.live,sl.live⟩)⟩);clear st sl kf;have BB:Below j j wB:=(show Below j j _ from blw).trans (hbB.mono om);(try(have XAB:Below wA wA wB:=(show Below wA wA _ from blw).trans (hbB.mono om)));(try(have tAB:=XAB.size));have sB:=BB.size;obtain⟨xzB,x0B,x1B,x2B,x3B⟩:=(HX.out.at BB).o4;obtain⟨jzB,j0B,j1B,j2B,j3B,j4B,j5B,j6B⟩:=(HY.out.at BB).o7;obtain⟨rzB,r0B,r1B,r2B,r3B,rg0B,rg1B,rg2B,rg3B⟩:=(HR.out.at BB).q4;obtain⟨azB,a0B,a1B,a2B,a3B,ag0B,ag1B,ag2B,ag3B⟩:=(HA.out.at BB).q4;clear hbB))
   all_goals
    go_wp2;exact bodyPost_ret (v:= .tuple #[.agg #[z.shut,.slice ad z.docs.length cd,.slice J z.subs.length M,z.last],.agg #[(Kah z ⟨4,doc,client,seq,n,po,text⟩).code,(Kah z ⟨4,doc,client,seq,n,po,text⟩).rev,.slice at_ (Kah z ⟨4,doc,client,seq,n,po,text⟩).text.length ct,.slice al (Kah z ⟨4,doc,client,seq,n,po,text⟩).list.length cl]]) (by simp[results,Tryz.results7,go_sem,xaa, *]) rfl (by rw[HV.out];exact Qab.both (C:=j) (D:=wA) (C':=wA) (D':=wB) (by repeat'(first|(with_reducible exact HO.out)|(with_reducible refine Qab.setCell ?_ ?_ _)|(with_reducible refine Qab.drew ?_)|(with_reducible exact HO.out.below XAB)|omega)) (by repeat'(first|(with_reducible exact HT.out)|(with_reducible refine Tw.setCell ?_ ?_ _)|(with_reducible refine Tw.drew ?_)|omega)) om om (.inl (lr _)) blw)
  ·have hy:=HRW.out;simp[Xah]at hy;obtain⟨rfl,rfl⟩:=hy;go_wp2_with fail
   refine(jas z _ _ doc n _ (q.below blw) (B.below blw) hnd).mono ?_;rintro e' w3 ⟨vd,vs,fd,fs,rfl,sd,ss,fr,I⟩;obtain⟨ad,cd,rfl⟩:=sd.isS;obtain⟨J,M,rfl⟩:=ss.isS;have B3:Below j j w3:=(((lf j j).alloc om _).alloc om _).trans (I.mono om);obtain⟨nz,n0,n1,n2,n3,ng0,ng1,ng2,ng3⟩:=(Bx.at (show Bx _ j [false,zN,zN,zI]from(Bx.new rfl).alloc _) I).q4;obtain⟨mz,m0,m1,m2,m3,mg0,mg1,mg2,mg3⟩:=(Bx.at (show Bx _ (j+1) [zI,zI,zN,zN]from Bx.new sm) I).q4;have N:Qaa (j+2) w3 (fd++(fs++([]++[]))):=Qaa.mono (by simpa using fr) (by first|exact lr _|omega|(simp;done)|(simp;omega))
   go_wp2_with fail
   go_meet
   refine⟨ad,J,none,none,cd,M,0,0,fd,fs,[],[],rfl,by omega,?_,?_,?_,?_,?_,?_,⟨N.nodup,N.ge,fun p hp=>by(try simp only[World.frozen?_setCell]);exact N.free p hp⟩,blw⟩
   all_goals clear HX HY HR HA
   ·refine bx4 ?_ ?_ ?_ ?_ ?_ ?_ ?_ ?_ ?_;all_goals simp[go_sem,xaa, *]
   ·refine bx4 ?_ ?_ ?_ ?_ ?_ ?_ ?_ ?_ ?_;all_goals simp[go_sem,xaa, *]
   ·repeat'(first|(with_reducible exact sd)|(with_reducible refine Sl.putS ?_ ?_ _))
    all_goals
     intro Q;have q1:=N.ge _ (lu _ Q);simp only at q1;omega
   ·repeat'(first|(with_reducible exact ss)|(with_reducible refine Sl.putS ?_ ?_ _))
    all_goals
     intro Q;have q1:=N.ge _ (lw _ (lu _ Q));simp only at q1;omega
   ·exact Sl.nil
   ·exact Sl.nil
  ·have hy:=HRW.out;simp[Xah]at hy;obtain⟨rfl,rfl⟩:=hy;go_wp2_with fail
   refine(Jaz z _ _ client n _ (q.below blw) (B.below blw)).mono ?_;rintro e' w3 ⟨vd,vs,vl,fd,fs,fl,rfl,sd,ss,sl,fr,I⟩;obtain⟨ad,cd,rfl⟩:=sd.isS;obtain⟨J,M,rfl⟩:=ss.isS;obtain⟨al,cl,rfl⟩:=sl.isS;have B3:Below j j w3:=(((lf j j).alloc om _).alloc om _).trans (I.mono om);obtain⟨nz,n0,n1,n2,n3,ng0,ng1,ng2,ng3⟩:=(Bx.at (show Bx _ j [false,zN,zN,zI]from(Bx.new rfl).alloc _) I).q4;obtain⟨mz,m0,m1,m2,m3,mg0,mg1,mg2,mg3⟩:=(Bx.at (show Bx _ (j+1) [zI,zI,zN,zN]from Bx.new sm) I).q4;have N:Qaa (j+2) w3 (fd++(fs++([]++fl))):=Qaa.mono (by simpa using fr) (by first|exact lr _|omega|(simp;done)|(simp;omega))
   go_wp2_with fail
   go_meet
   refine⟨ad,J,none,al,cd,M,0,cl,fd,fs,[],fl,rfl,by omega,?_,?_,?_,?_,?_,?_,⟨N.nodup,N.ge,fun p hp=>by(try simp only[World.frozen?_setCell]);exact N.free p hp⟩,blw⟩
   all_goals clear HX HY HR HA
   ·refine bx4 ?_ ?_ ?_ ?_ ?_ ?_ ?_ ?_ ?_;all_goals simp[go_sem,xaa, *]
   ·refine bx4 ?_ ?_ ?_ ?_ ?_ ?_ ?_ ?_ ?_;all_goals simp[go_sem,xaa, *]
   ·repeat'(first|(with_reducible exact sd)|(with_reducible refine Sl.putS ?_ ?_ _))
    all_goals
     intro Q;have q1:=N.ge _ (lu _ Q);simp only at q1;omega
   ·repeat'(first|(with_reducible exact ss)|(with_reducible refine Sl.putS ?_ ?_ _))
    all_goals
     intro Q;have q1:=N.ge _ (lw _ (lu _ Q));simp only at q1;omega
   ·exact Sl.nil
   ·repeat'(first|(with_reducible exact sl)|(with_reducible refine Sl.putS ?_ ?_ _))
    all_goals
     intro Q;have q1:=N.ge _ (lw _ (lw _ (lw _ Q)));simp only at q1;omega
  ·have hy:=HRW.out;simp[Xah]at hy;obtain⟨rfl,rfl⟩:=hy;go_wp2_with fail
   refine(kaw z _ _ client _ (q.below blw) (B.below blw)).mono ?_;rintro e' w3 ⟨vd,vs,vt,fd,fs,ft,rfl,sd,ss,st,fr,I⟩;obtain⟨ad,cd,rfl⟩:=sd.isS;obtain⟨J,M,rfl⟩:=ss.isS;obtain⟨at_,ct,rfl⟩:=st.isS
   have B3:Below j j w3:=(((lf j j).alloc om _).alloc om _).trans (I.mono om);obtain⟨nz,n0,n1,n2,n3,ng0,ng1,ng2,ng3⟩:=(Bx.at (show Bx _ j [false,zN,zN,zI]from(Bx.new rfl).alloc _) I).q4;obtain⟨mz,m0,m1,m2,m3,mg0,mg1,mg2,mg3⟩:=(Bx.at (show Bx _ (j+1) [zI,zI,zN,zN]from Bx.new sm) I).q4;have N:Qaa (j+2) w3 (fd++(fs++(ft++[]))):=Qaa.mono (by simpa using fr) (by first|exact lr _|omega|(simp;done)|(simp;omega))
   go_wp2_with fail
   go_meet
   refine⟨ad,J,at_,none,cd,M,ct,0,fd,fs,ft,[],rfl,by omega,?_,?_,?_,?_,?_,?_,⟨N.nodup,N.ge,fun p hp=>by(try simp only[World.frozen?_setCell]);exact N.free p hp⟩,blw⟩
   all_goals clear HX HY HR HA
   ·refine bx4 ?_ ?_ ?_ ?_ ?_ ?_ ?_ ?_ ?_;all_goals simp[go_sem,xaa, *]
   ·refine bx4 ?_ ?_ ?_ ?_ ?_ ?_ ?_ ?_ ?_;all_goals simp[go_sem,xaa, *]
   ·repeat'(first|(with_reducible exact sd)|(with_reducible refine Sl.putS ?_ ?_ _))
    all_goals
     intro Q;have q1:=N.ge _ (lu _ Q);simp only at q1;omega
   ·repeat'(first|(with_reducible exact ss)|(with_reducible refine Sl.putS ?_ ?_ _))
    all_goals
     intro Q;have q1:=N.ge _ (lw _ (lu _ Q));simp only at q1;omega
   ·repeat'(first|(with_reducible exact st)|(with_reducible refine Sl.putS ?_ ?_ _))
    all_goals
     intro Q;have q1:=N.ge _ (lw _ (lw _ (lu _ Q)));simp only at q1;omega
   ·exact Sl.nil
  ·have hy:=HRW.out;simp[Xah,jaA]at hy;obtain⟨rfl,rfl⟩:=hy;go_wp2_with fail
   refine(Kaz z _ _ _ (q.below blw) (B.below blw)).mono ?_;rintro e' w3 ⟨vd,vs,fd,fs,rfl,sd,ss,fr,I⟩;obtain⟨ad,cd,rfl⟩:=sd.isS;obtain⟨J,M,rfl⟩:=ss.isS;have B3:Below j j w3:=(((lf j j).alloc om _).alloc om _).trans (I.mono om);obtain⟨nz,n0,n1,n2,n3,ng0,ng1,ng2,ng3⟩:=(Bx.at (show Bx _ j [false,zN,zN,zI]from(Bx.new rfl).alloc _) I).q4;obtain⟨mz,m0,m1,m2,m3,mg0,mg1,mg2,mg3⟩:=(Bx.at (show Bx _ (j+1) [zI,zI,zN,zN]from Bx.new sm) I).q4;have N:Qaa (j+2) w3 (fd++(fs++([]++[]))):=Qaa.mono (by simpa using fr) (by first|exact lr _|omega|(simp;done)|(simp;omega))
   go_wp2_with fail
   go_meet
   refine⟨ad,J,none,none,cd,M,0,0,fd,fs,[],[],rfl,by omega,?_,?_,?_,?_,?_,?_,⟨N.nodup,N.ge,fun p hp=>by(try simp only[World.frozen?_setCell]);exact N.free p hp⟩,blw⟩
   all_goals clear HX HY HR HA
   ·refine bx4 ?_ ?_ ?_ ?_ ?_ ?_ ?_ ?_ ?_;all_goals simp[go_sem,xaa, *]
   ·refine bx4 ?_ ?_ ?_ ?_ ?_ ?_ ?_ ?_ ?_;all_goals simp[go_sem,xaa, *]
   ·repeat'(first|(with_reducible exact sd)|(with_reducible refine Sl.putS ?_ ?_ _))
    all_goals
     intro Q;have q1:=N.ge _ (lu _ Q);simp only at q1;omega
   ·repeat'(first|(with_reducible exact ss)|(with_reducible refine Sl.putS ?_ ?_ _))
    all_goals
     intro Q;have q1:=N.ge _ (lw _ (lu _ Q));simp only at q1;omega
   ·exact Sl.nil
   ·exact Sl.nil
 case rest=>
  obtain⟨w4,rfl⟩:∃wq:World,wq=wc:=⟨_,rfl⟩;obtain⟨ad,J,at_,al,cd,M,ct,cl,fd,fs,ft,fl,rfl,hk34,xo,xa,sd,ss,st,sl,fr,hb⟩:=hcut
  clear xz x0 x1 x2 x3 jz j0 j1 j2 j3 j4 j5 j6 rz r0 r1 r2 r3 rg0 rg1 rg2 rg3 az a0 a1 a2 a3 ag0 ag1 ag2 ag3;replace HX:=hH (HX.out.at hb);replace HY:=hH (HY.out.at hb);replace HR:=hH (HR.out.at hb);replace HA:=hH (HA.out.at hb);have s4:=hb.size;replace hB:=hB.trans (hb.mono hB.size);obtain⟨xz,x0,x1,x2,x3⟩:=HX.out.o4;obtain⟨jz,j0,j1,j2,j3,j4,j5,j6⟩:=HY.out.o7;obtain⟨rz,r0,r1,r2,r3,rg0,rg1,rg2,rg3⟩:=HR.out.q4;obtain⟨az,a0,a1,a2,a3,ag0,ag1,ag2,ag3⟩:=HA.out.q4;obtain⟨oz,o0,o1,o2,o3⟩:=xo.o4;obtain⟨pz,p0,p1,p2,p3⟩:=xa.o4;have SD:=hH sd;have SS:=hH ss;have ST:=hH st;have SL:=hH sl;have N:=hH fr;clear xo xa sd ss st sl fr hb;by_cases hc:y1.code=0
  rotate_left
  ·have HV:Hid (Xai z ⟨kind,doc,client,seq,n,po,text⟩=(z,jaA y1.code)):=hH (by have:=ZaD ⟨h1,h2⟩ hk34 (by rw[HRW.out];exact hc);rwa[HRW.out]at this)
   have e1:(y1.code !=0)=true:=by simpa using hc
   have d1:¬(j=w.heap.size+1):=om;have d2:¬(j=w.heap.size+1+1):=om;have d3:¬(w=w.heap.size+1+1):=om;have d4:¬(w=w.heap.size+1+1+1):=om;clear hc;go_wp2_with fail
   go_region_held3 (fun Z=>Z.cell? ⟨w.heap.size,0,none⟩=some (.bool z.shut)/\Z.cell? ⟨w.heap.size,1,none⟩=some (U)/\Z.cell? ⟨w.heap.size,2,none⟩=some (Y)/\Z.cell? ⟨w.heap.size,3,none⟩=some (.int .i64 z.last)/\Z.cell? ⟨j.heap.size+1,0,none⟩=some (.int .i64 y1.code)) (first|(go_keep;done)|(simp[go_sem,xaa, *];done))
    (first|(go_at_call 24;refine(kaf z _ _ _ (q.below blw) (B.below blw) hz).mono ?_;rintro e' wA ⟨_,rfl,ho,hbA⟩;obtain⟨vd,vs,rfl,u⟩:=Qab.of_own ho;obtain⟨ae,ce,rfl⟩:=u.rd1.isSlice;obtain⟨af,cf,rfl⟩:=u.rd2.isSlice;have HO:=hH (u.mono (C':=w4) om);clear ho u;have BA:Below w4 w4 wA:=(show Below w4 w4 _ from blw).trans (hbA.mono om);have sA:=BA.size;obtain⟨xzA,x0A,x1A,x2A,x3A⟩:=(HX.out.at BA).o4;obtain⟨jzA,j0A,j1A,j2A,j3A,j4A,j5A,j6A⟩:=(HY.out.at BA).o7;obtain⟨rzA,r0A,r1A,r2A,r3A,rg0A,rg1A,rg2A,rg3A⟩:=(HR.out.at BA).q4;obtain⟨azA,a0A,a1A,a2A,a3A,ag0A,ag1A,ag2A,ag3A⟩:=(HA.out.at BA).q4;have p0A:wA.cell? ⟨j.heap.size+1,0,none⟩=some (.int .i64 y1.code):=(BA.cell (p:=⟨j+1,0,none⟩) pz).trans p0;clear hbA))
   all_goals
    go_wp2;exact bodyPost_ret (v:= .tuple #[.agg #[z.shut,.slice ae z.docs.length ce,.slice af z.subs.length cf,z.last],.agg #[y1.code,zI,zN,zN]]) (by simp[results,Tryz.results7,go_sem,xaa, *]) rfl (by rw[HV.out];exact Qab.ans (C:=w4) (D:=wA) (by repeat'(first|(with_reducible exact HO.out)|(with_reducible refine Qab.setCell ?_ ?_ _)|(with_reducible refine Qab.drew ?_)|omega)) om blw)
  have HV:Hid (Xai z ⟨kind,doc,client,seq,n,po,text⟩=(y0,y1)):=hH (by have:=kay ⟨h1,h2⟩ hk34 (by rw[HRW.out];exact hc);rwa[HRW.out]at this)
  have e1:(y1.code !=0)=false:=by simpa using hc
  have HC:=hH hc;clear hc;go_wp2_with fail
  go_region
  all_goals
   repeat go_step
   exact bodyPost_ret (v:= .tuple #[.agg #[y0.shut,.slice ad y0.docs.length cd,.slice J y0.subs.length M,y0.last],.agg #[y1.code,y1.rev,.slice at_ y1.text.length ct,.slice al y1.list.length cl]]) (by simp[results,Tryz.results7,go_sem,xaa, *]) rfl (by rw[HV.out];exact⟨_,_,_,_,fd,fs,ft,fl,rfl,(by(repeat'(first|(with_reducible exact SD.out)|(with_reducible refine Sl.drewS ?_)|(with_reducible refine Sl.putS ?_ ?_ _)))<;>(intro Q;have q1:=N.out.ge _ (lu _ Q);simp only at q1;omega)),(by(repeat'(first|(with_reducible exact SS.out)|(with_reducible refine Sl.drewS ?_)|(with_reducible refine Sl.putS ?_ ?_ _)))<;>(intro Q;have q1:=N.out.ge _ (lw _ (lu _ Q));simp only at q1;omega)),(by(repeat'(first|(with_reducible exact ST.out)|(with_reducible refine Sl.drewS ?_)|(with_reducible refine Sl.putS ?_ ?_ _)))<;>(intro Q;have q1:=N.out.ge _ (lw _ (lw _ (lu _ Q)));simp only at q1;omega)),(by(repeat'(first|(with_reducible exact SL.out)|(with_reducible refine Sl.drewS ?_)|(with_reducible refine Sl.putS ?_ ?_ _)))<;>(intro Q;have q1:=N.out.ge _ (lw _ (lw _ (lw _ Q)));simp only at q1;omega)),⟨N.out.nodup,fun p hp=>Nat.le_trans om (N.out.ge p hp),fun p hp=>by(try simp only[World.frozen?_setCell,World.frozen?_drew]);exact N.out.free p hp⟩,blw⟩)
theorem zba (z:qae)(c:Jag)(v_docs v_subs v_o v_text:Value)(w:World)(j:RdS w v_docs z.docs)(u:RdS w v_subs z.subs)(h_o:RdS w v_o c.o)(h_text:RdS w v_text c.text)(hz:uaM z):
 Calls Tryz.prog 58 #[.agg #[z.shut,v_docs,v_subs,z.last],.agg #[c.kind,c.doc,c.client,c.seq,c.n,v_o,v_text]] w (qap w (Xai z c).1 (Xai z c).2):=by
 obtain⟨xa,xc,rfl⟩:=j.isSlice;obtain⟨ya,yc,rfl⟩:=u.isSlice;go_enter Tryz.func58,Tryz.ntmps58
 go_wp2_with fail
 refine(yal z _ _ _ (j.below blw) (u.below blw)).mono ?_;rintro e' w1 ⟨rfl,hb1⟩;have HX:=hH (((((Bx.new (b:=w) rfl).alloc _).alloc _).alloc _).at hb1);have HY:Hid (Bx w1 (w+1) _):=hH ((((Bx.new sm).alloc _).alloc _).at hb1);have HR:Hid (Bx w1 (w+2) _):=hH (((Bx.new sm).alloc _).at hb1);have Z:Hid (Bx w1 (w+3) _):=hH ((Bx.new sm).at hb1);have s1:w+4<=w1.heap.size:=szl hb1;have hB:Below w w w1:=(((((lf w w).alloc om _).alloc om _).alloc om _).alloc om _).trans (hb1.mono om);clear hb1;obtain⟨xz,x0,x1,x2,x3⟩:=HX.out.o4;obtain⟨jz,j0,j1,j2,j3,j4,j5,j6⟩:=HY.out.o7;obtain⟨rz,r0,r1,r2,r3,rg0,rg1,rg2,rg3⟩:=HR.out.q4;obtain⟨az,a0,a1,a2,a3,ag0,ag1,ag2,ag3⟩:=Z.out.q4;by_cases h1:Qac z=true
 rotate_left
 ·have h1:Qac z=false:=by simpa using h1
  have HV:=hH (xar (z:=z) (c:=c) (by simp[h1]))
  go_wp2_with fail
  refine(qaf z _ _ _ (j.below hB) (u.below hB) hz).mono ?_;rintro e' N ⟨_,rfl,ho,U⟩;obtain⟨vd,vs,rfl,q⟩:=Qab.of_own ho;obtain⟨ad,cd,rfl⟩:=q.rd1.isSlice;obtain⟨I,J,rfl⟩:=q.rd2.isSlice;have HO:=hH q;clear ho q;clear xz x0 x1 x2 x3 jz j0 j1 j2 j3 j4 j5 j6 rz r0 r1 r2 r3 rg0 rg1 rg2 rg3 az a0 a1 a2 a3 ag0 ag1 ag2 ag3;replace HX:=hH (HX.out.at U);replace HY:=hH (HY.out.at U);replace HR:=hH (HR.out.at U);replace Z:=hH (Z.out.at U);have s2:=U.size;replace hB:=hB.trans (U.mono hB.size);clear U;obtain⟨xz,x0,x1,x2,x3⟩:=HX.out.o4;obtain⟨jz,j0,j1,j2,j3,j4,j5,j6⟩:=HY.out.o7;obtain⟨rz,r0,r1,r2,r3,rg0,rg1,rg2,rg3⟩:=HR.out.q4;obtain⟨az,a0,a1,a2,a3,ag0,ag1,ag2,ag3⟩:=Z.out.q4;go_wp2;exact bodyPost_ret (v:= .tuple #[.agg #[z.shut,.slice ad z.docs.length cd,.slice I z.subs.length J,z.last],.agg #[.int .i64 1,zI,zN,zN]]) (by simp[results,Tryz.results58,go_sem,xaa, *]) rfl (by rw[HV.out];exact Qab.ans (C:=w1) (D:=N) (by repeat'(first|(with_reducible exact HO.out)|(with_reducible refine Qab.setCell ?_ ?_ _)|(with_reducible refine Qab.drew ?_)|omega)) om blw)
 go_wp2_with fail
 refine(xaC c _ _ _ (h_o.below hB) (h_text.below hB)).mono ?_;rintro e' N ⟨rfl,U⟩;clear xz x0 x1 x2 x3 jz j0 j1 j2 j3 j4 j5 j6 rz r0 r1 r2 r3 rg0 rg1 rg2 rg3 az a0 a1 a2 a3 ag0 ag1 ag2 ag3;replace HX:=hH (HX.out.at U);replace HY:=hH (HY.out.at U);replace HR:=hH (HR.out.at U);replace Z:=hH (Z.out.at U);have s2:=U.size;replace hB:=hB.trans (U.mono hB.size);clear U;obtain⟨xz,x0,x1,x2,x3⟩:=HX.out.o4;obtain⟨jz,j0,j1,j2,j3,j4,j5,j6⟩:=HY.out.o7;obtain⟨rz,r0,r1,r2,r3,rg0,rg1,rg2,rg3⟩:=HR.out.q4;obtain⟨az,a0,a1,a2,a3,ag0,ag1,ag2,ag3⟩:=Z.out.q4;by_cases h2:xac c=true
 rotate_left
 ·have h2:xac c=false:=by simpa using h2
  have HV:=hH (xar (z:=z) (c:=c) (by simp[h2]))
  go_wp2_with fail
  refine(qaf z _ _ _ (j.below hB) (u.below hB) hz).mono ?_;rintro e' w3 ⟨_,rfl,ho,B⟩;obtain⟨vd,vs,rfl,q⟩:=Qab.of_own ho;obtain⟨ad,cd,rfl⟩:=q.rd1.isSlice;obtain⟨I,J,rfl⟩:=q.rd2.isSlice;have HO:=hH q;clear ho q;clear xz x0 x1 x2 x3 jz j0 j1 j2 j3 j4 j5 j6 rz r0 r1 r2 r3 rg0 rg1 rg2 rg3 az a0 a1 a2 a3 ag0 ag1 ag2 ag3;replace HX:=hH (HX.out.at B);replace HY:=hH (HY.out.at B);replace HR:=hH (HR.out.at B);replace Z:=hH (Z.out.at B);have s3:=B.size;replace hB:=hB.trans (B.mono hB.size);clear B;obtain⟨xz,x0,x1,x2,x3⟩:=HX.out.o4;obtain⟨jz,j0,j1,j2,j3,j4,j5,j6⟩:=HY.out.o7;obtain⟨rz,r0,r1,r2,r3,rg0,rg1,rg2,rg3⟩:=HR.out.q4;obtain⟨az,a0,a1,a2,a3,ag0,ag1,ag2,ag3⟩:=Z.out.q4;go_wp2;exact bodyPost_ret (v:= .tuple #[.agg #[z.shut,.slice ad z.docs.length cd,.slice I z.subs.length J,z.last],.agg #[.int .i64 1,zI,zN,zN]]) (by simp[results,Tryz.results58,go_sem,xaa, *]) rfl (by rw[HV.out];exact Qab.ans (C:=N) (D:=w3) (by repeat'(first|(with_reducible exact HO.out)|(with_reducible refine Qab.setCell ?_ ?_ _)|(with_reducible refine Qab.drew ?_)|omega)) om blw)
 obtain⟨hk,hd8,hpo,htx⟩:=kat h2;obtain⟨kind,doc,client,seq,n,po,text⟩:=c;simp only at *;obtain⟨⟨y0,y1⟩,hy⟩:∃r,Xah z ⟨kind,doc,client,seq,n,po,text⟩=r:=⟨_,rfl⟩;have HRW:=hH hy;clear hy;have hbt:text.length<=4000000:=by have:=(zan.1 htx).1;omega
 have hnd:doc.size<=BIG:=Xab om;go_upto_block 0 with fail
 go_cut [7,8,9,10,26]from 11 to 103 (fun z7 z8 z9 z10 z26 wx=>∃(ad I at_ al:Option Addr) (cd J ct cl:Nat) (fd fs ft fl:List Pos),z7= .int .i64 y1.code/\z8= .int .i64 y1.rev/\z9= .slice al y1.list.length cl/\z10= .slice at_ y1.text.length ct/\z26= .int .i64 kind/\¬(kind=3\/kind=4)/\Bx wx N [y0.shut,.slice ad y0.docs.length cd,.slice I y0.subs.length J,y0.last]/\Sl BIG wx (.slice ad y0.docs.length cd) y0.docs fd/\Sl BIG wx (.slice I y0.subs.length J) y0.subs fs/\Sl BIG wx (.slice at_ y1.text.length ct) y1.text ft/\Sl BIG wx (.slice al y1.list.length cl) y1.list fl/\Qaa (N+1) wx (fd++(fs++(ft++fl)))/\Below N N wx)
 case first=>
  obtain⟨V,hV⟩:∃V:World,V=((N.alloc (.cells #[z.shut,.slice xa z.docs.length xc,.slice ya z.subs.length yc,z.last] 26)).alloc (.cells #[] 87)).alloc (.cells #[] 3):=⟨_,rfl⟩;have Q:Below N N V:=by rw[hV];exact((((lf N N).alloc om _).alloc om _).alloc om _)
  have HO:=hH (show Bx V N [z.shut,.slice xa z.docs.length xc,.slice ya z.subs.length yc,z.last]from by rw[hV];exact((Bx.new rfl).alloc _).alloc _)
  have sV:N+3<=V.heap.size:=by rw[hV];simp
  clear xz x0 x1 x2 x3 jz j0 j1 j2 j3 j4 j5 j6 rz r0 r1 r2 r3 rg0 rg1 rg2 rg3 az a0 a1 a2 a3 ag0 ag1 ag2 ag3;replace HX:=hH (HX.out.at Q);replace HY:=hH (HY.out.at Q);replace HR:=hH (HR.out.at Q);replace Z:=hH (Z.out.at Q);replace hB:=hB.trans (Q.mono hB.size);rw[<-hV];clear hV;obtain⟨xz,x0,x1,x2,x3⟩:=HX.out.o4;obtain⟨jz,j0,j1,j2,j3,j4,j5,j6⟩:=HY.out.o7;obtain⟨rz,r0,r1,r2,r3,rg0,rg1,rg2,rg3⟩:=HR.out.q4;obtain⟨az,a0,a1,a2,a3,ag0,ag1,ag2,ag3⟩:=Z.out.q4;rcases kinds hk with rfl|rfl|rfl|rfl|rfl|rfl|rfl|rfl
  ·have hy:=HRW.out;simp[Xah,jaA]at hy;obtain⟨rfl,rfl⟩:=hy;go_wp2_with fail
   refine(zap z _ _ doc text _ _ (j.below blw) (u.below blw) hnd (h_text.below blw) hbt).mono ?_;rintro e' w3 ⟨vd,vs,fd,fs,rfl,sd,ss,fr,B⟩;obtain⟨ad,cd,rfl⟩:=sd.isS;obtain⟨I,J,rfl⟩:=ss.isS;have B3:Below N N w3:=Q.trans (B.mono om);obtain⟨nz,n0,n1,n2,n3,ng0,ng1,ng2,ng3⟩:=(Bx.at (show Bx _ N [z.shut,.slice xa z.docs.length xc,.slice ya z.subs.length yc,z.last]from HO.out) B).q4;have M:Qaa (N+1) w3 (fd++(fs++([]++[]))):=Qaa.mono (by simpa using fr) (by first|exact lr _|omega|(simp;done)|(simp;omega))
   go_wp2_with fail
   go_meet
   refine⟨ad,I,_,_,cd,J,_,_,fd,fs,[],[],rfl,rfl,rfl,rfl,rfl,by omega,?_,?_,?_,?_,?_,⟨M.nodup,M.ge,fun p hp=>by(try simp only[World.frozen?_setCell]);exact M.free p hp⟩,blw⟩
   all_goals clear HX HY HR Z HO Q
   ·refine bx4 ?_ ?_ ?_ ?_ ?_ ?_ ?_ ?_ ?_;all_goals simp[go_sem,xaa, *]
   ·repeat'(first|(with_reducible exact sd)|(with_reducible refine Sl.putS ?_ ?_ _))
    all_goals
     intro R;have q1:=M.ge _ (lu _ R);simp only at q1;omega
   ·repeat'(first|(with_reducible exact ss)|(with_reducible refine Sl.putS ?_ ?_ _))
    all_goals
     intro R;have q1:=M.ge _ (lw _ (lu _ R));simp only at q1;omega
   ·exact .inl ⟨_,rfl,rfl,rfl⟩
   ·exact .inl ⟨_,rfl,rfl,rfl⟩
  ·have hy:=HRW.out;simp[Xah]at hy;obtain⟨rfl,rfl⟩:=hy;go_wp2_with fail
   refine(zaw z _ _ doc client seq n _ po _ (j.below blw) (u.below blw) (h_o.below blw)).mono ?_;rintro e' w3 ⟨vd,vs,fd,fs,rfl,sd,ss,fr,B⟩;obtain⟨ad,cd,rfl⟩:=sd.isS;obtain⟨I,J,rfl⟩:=ss.isS;have B3:Below N N w3:=Q.trans (B.mono om);obtain⟨nz,n0,n1,n2,n3,ng0,ng1,ng2,ng3⟩:=(Bx.at (show Bx _ N [z.shut,.slice xa z.docs.length xc,.slice ya z.subs.length yc,z.last]from HO.out) B).q4;have M:Qaa (N+1) w3 (fd++(fs++([]++[]))):=Qaa.mono (by simpa using fr) (by first|exact lr _|omega|(simp;done)|(simp;omega))
   go_wp2_with fail
   go_meet
   refine⟨ad,I,_,_,cd,J,_,_,fd,fs,[],[],rfl,rfl,rfl,rfl,rfl,by omega,?_,?_,?_,?_,?_,⟨M.nodup,M.ge,fun p hp=>by(try simp only[World.frozen?_setCell]);exact M.free p hp⟩,blw⟩
   all_goals clear HX HY HR Z HO Q
   ·refine bx4 ?_ ?_ ?_ ?_ ?_ ?_ ?_ ?_ ?_;all_goals simp[go_sem,xaa, *]
   ·repeat'(first|(with_reducible exact sd)|(with_reducible refine Sl.putS ?_ ?_ _))
    all_goals
     intro R;have q1:=M.ge _ (lu _ R);simp only at q1;omega
   ·repeat'(first|(with_reducible exact ss)|(with_reducible refine Sl.putS ?_ ?_ _))
    all_goals
     intro R;have q1:=M.ge _ (lw _ (lu _ R));simp only at q1;omega
   ·exact .inl ⟨_,rfl,rfl,rfl⟩
   ·exact .inl ⟨_,rfl,rfl,rfl⟩
  ·have HV:=hH (Qao (z:=z) (c:=⟨3,doc,client,seq,n,po,text⟩) ⟨h1,h2⟩ sm);have e1:¬(w=w.heap.size+1+1):=om;have e2:¬(w=w.heap.size+1+1+1):=om;go_wp2_with fail
   go_region_held3 (fun w'=>w'.cell? ⟨w.heap.size,0,none⟩=some (.bool z.shut)/\w'.cell? ⟨w.heap.size,1,none⟩=some (.slice xa z.docs.length xc)/\w'.cell? ⟨w.heap.size,2,none⟩=some (.slice ya z.subs.length yc)/\w'.cell? ⟨w.heap.size,3,none⟩=some (.int .i64 z.last)/\w'.cell? ⟨w.heap.size+1,0,none⟩=some (.int .i64 3)/\w'.cell? ⟨w.heap.size+1,1,none⟩=some (.string doc)/\w'.cell? ⟨w.heap.size+1,2,none⟩=some (.int .i64 client)/\w'.cell? ⟨w.heap.size+1,3,none⟩=some (.int .i64 seq)/\w'.cell? ⟨w.heap.size+1,4,none⟩=some (.int .i64 n)/\w'.cell? ⟨w.heap.size+1,5,none⟩=some (v_o)/\w'.cell? ⟨w.heap.size+1,6,none⟩=some v_text) (first|(go_keep;done)|(simp[go_sem,xaa, *];done))
    (first|(go_at_call 92;refine(qaf z _ _ _ (j.below blw) (u.below blw) hz).mono ?_;rintro e' wA ⟨_,rfl,ho,Y⟩;obtain⟨vd,vs,rfl,q⟩:=Qab.of_own ho;obtain⟨ad,cd,rfl⟩:=q.rd1.isSlice;obtain⟨I,J,rfl⟩:=q.rd2.isSlice;have HO:=hH (q.mono (C':=V) om);clear ho q;have BA:Below V V wA:=(show Below V V _ from blw).trans (Y.mono om);(try(have XBA:Below wB wB wA:=(show Below wB wB _ from blw).trans (Y.mono om)));(try(have tBA:=XBA.size));have sA:=BA.size;obtain⟨xzA,x0A,x1A,x2A,x3A⟩:=(HX.out.at BA).o4;obtain⟨jzA,j0A,j1A,j2A,j3A,j4A,j5A,j6A⟩:=(HY.out.at BA).o7;obtain⟨rzA,r0A,r1A,r2A,r3A,rg0A,rg1A,rg2A,rg3A⟩:=(HR.out.at BA).q4;obtain⟨azA,a0A,a1A,a2A,a3A,ag0A,ag1A,ag2A,ag3A⟩:=(Z.out.at BA).q4;clear Y)|(go_at_call 104;refine(Xaz z ⟨3,doc,client,seq,n,po,text⟩ _ _ _ _ _ (j.below blw) h1).mono ?_;rintro e' wB ⟨vt,vl,ft,fl,rfl,st,sl,kf,hbB⟩;obtain⟨at_,ct,rfl⟩:=st.isS;obtain⟨al,cl,rfl⟩:=sl.isS;have HT:=hH (Tw.of (C:=wA) ⟨st,sl,kf.mono om,Live.lt (Live.append.2 ⟨st.live,sl.live⟩)⟩);clear st sl kf;have BB:Below V V wB:=(show Below V V _ from blw).trans (hbB.mono om);(try(have XAB:Below wA wA wB:=(show Below wA wA _ from blw).trans (hbB.mono om)));(try(have tAB:=XAB.size));have sB:=BB.size;obtain⟨xzB,x0B,x1B,x2B,x3B⟩:=(HX.out.at BB).o4;obtain⟨jzB,j0B,j1B,j2B,j3B,j4B,j5B,j6B⟩:=(HY.out.at BB).o7;obtain⟨rzB,r0B,r1B,r2B,r3B,rg0B,rg1B,rg2B,rg3B⟩:=(HR.out.at BB).q4;obtain⟨azB,a0B,a1B,a2B,a3B,ag0B,ag1B,ag2B,ag3B⟩:=(Z.out.at BB).q4;clear hbB))
   all_goals
    go_wp2;exact bodyPost_ret (v:= .tuple #[.agg #[z.shut,.slice ad z.docs.length cd,.slice I z.subs.length J,z.last],.agg #[(Kah z ⟨3,doc,client,seq,n,po,text⟩).code,(Kah z ⟨3,doc,client,seq,n,po,text⟩).rev,.slice at_ (Kah z ⟨3,doc,client,seq,n,po,text⟩).text.length ct,.slice al (Kah z ⟨3,doc,client,seq,n,po,text⟩).list.length cl]]) (by simp[results,Tryz.results58,go_sem,xaa, *]) rfl (by rw[HV.out];exact Qab.both (C:=V) (D:=wA) (C':=wA) (D':=wB) (by repeat'(first|(with_reducible exact HO.out)|(with_reducible refine Qab.setCell ?_ ?_ _)|(with_reducible refine Qab.drew ?_)|(with_reducible exact HO.out.below XAB)|omega)) (by repeat'(first|(with_reducible exact HT.out)|(with_reducible refine Tw.setCell ?_ ?_ _)|(with_reducible refine Tw.drew ?_)|omega)) om om (.inl (lr _)) blw)
  ·have HV:=hH (Qao (z:=z) (c:=⟨4,doc,client,seq,n,po,text⟩) ⟨h1,h2⟩ sm);have e1:¬(w=w.heap.size+1+1):=om;have e2:¬(w=w.heap.size+1+1+1):=om;go_wp2_with fail
   go_region_held3 (fun w'=>w'.cell? ⟨w.heap.size,0,none⟩=some (.bool z.shut)/\w'.cell? ⟨w.heap.size,1,none⟩=some (.slice xa z.docs.length xc)/\w'.cell? ⟨w.heap.size,2,none⟩=some (.slice ya z.subs.length yc)/\w'.cell? ⟨w.heap.size,3,none⟩=some (.int .i64 z.last)/\w'.cell? ⟨w.heap.size+1,0,none⟩=some (.int .i64 4)/\w'.cell? ⟨w.heap.size+1,1,none⟩=some (.string doc)/\w'.cell? ⟨w.heap.size+1,2,none⟩=some (.int .i64 client)/\w'.cell? ⟨w.heap.size+1,3,none⟩=some (.int .i64 seq)/\w'.cell? ⟨w.heap.size+1,4,none⟩=some (.int .i64 n)/\w'.cell? ⟨w.heap.size+1,5,none⟩=some (v_o)/\w'.cell? ⟨w.heap.size+1,6,none⟩=some v_text) (first|(go_keep;done)|(simp[go_sem,xaa, *];done))
    (first|(go_at_call 92;refine(qaf z _ _ _ (j.below blw) (u.below blw) hz).mono ?_;rintro e' wA ⟨_,rfl,ho,Y⟩;obtain⟨vd,vs,rfl,q⟩:=Qab.of_own ho;obtain⟨ad,cd,rfl⟩:=q.rd1.isSlice;obtain⟨I,J,rfl⟩:=q.rd2.isSlice;have HO:=hH (q.mono (C':=V) om);clear ho q;have BA:Below V V wA:=(show Below V V _ from blw).trans (Y.mono om);(try(have XBA:Below wB wB wA:=(show Below wB wB _ from blw).trans (Y.mono om)));(try(have tBA:=XBA.size));have sA:=BA.size;obtain⟨xzA,x0A,x1A,x2A,x3A⟩:=(HX.out.at BA).o4;obtain⟨jzA,j0A,j1A,j2A,j3A,j4A,j5A,j6A⟩:=(HY.out.at BA).o7;obtain⟨rzA,r0A,r1A,r2A,r3A,rg0A,rg1A,rg2A,rg3A⟩:=(HR.out.at BA).q4;obtain⟨azA,a0A,a1A,a2A,a3A,ag0A,ag1A,ag2A,ag3A⟩:=(Z.out.at BA).q4;clear Y)|(go_at_call 104;refine(Xaz z ⟨4,doc,client,seq,n,po,text⟩ _ _ _ _ _ (j.below blw) h1).mono ?_;rintro e' wB ⟨vt,vl,ft,fl,rfl,st,sl,kf,hbB⟩;obtain⟨at_,ct,rfl⟩:=st.isS;obtain⟨al,cl,rfl⟩:=sl.isS;have HT:=hH (Tw.of (C:=wA) ⟨st,sl,kf.mono om,Live.lt (Live.append.2 ⟨st.live,sl.live⟩)⟩);clear st sl kf;have BB:Below V V wB:=(show Below V V _ from blw).trans (hbB.mono om);(try(have XAB:Below wA wA wB:=(show Below wA wA _ from blw).trans (hbB.mono om)));(try(have tAB:=XAB.size));have sB:=BB.size;obtain⟨xzB,x0B,x1B,x2B,x3B⟩:=(HX.out.at BB).o4;obtain⟨jzB,j0B,j1B,j2B,j3B,j4B,j5B,j6B⟩:=(HY.out.at BB).o7;obtain⟨rzB,r0B,r1B,r2B,r3B,rg0B,rg1B,rg2B,rg3B⟩:=(HR.out.at BB).q4;obtain⟨azB,a0B,a1B,a2B,a3B,ag0B,ag1B,ag2B,ag3B⟩:=(Z.out.at BB).q4;clear hbB))
   all_goals
    go_wp2;exact bodyPost_ret (v:= .tuple #[.agg #[z.shut,.slice ad z.docs.length cd,.slice I z.subs.length J,z.last],.agg #[(Kah z ⟨4,doc,client,seq,n,po,text⟩).code,(Kah z ⟨4,doc,client,seq,n,po,text⟩).rev,.slice at_ (Kah z ⟨4,doc,client,seq,n,po,text⟩).text.length ct,.slice al (Kah z ⟨4,doc,client,seq,n,po,text⟩).list.length cl]]) (by simp[results,Tryz.results58,go_sem,xaa, *]) rfl (by rw[HV.out];exact Qab.both (C:=V) (D:=wA) (C':=wA) (D':=wB) (by repeat'(first|(with_reducible exact HO.out)|(with_reducible refine Qab.setCell ?_ ?_ _)|(with_reducible refine Qab.drew ?_)|(with_reducible exact HO.out.below XAB)|omega)) (by repeat'(first|(with_reducible exact HT.out)|(with_reducible refine Tw.setCell ?_ ?_ _)|(with_reducible refine Tw.drew ?_)|omega)) om om (.inl (lr _)) blw)
  ·have hy:=HRW.out;simp[Xah]at hy;obtain⟨rfl,rfl⟩:=hy;go_wp2_with fail
   refine(zas z _ _ doc n _ (j.below blw) (u.below blw) hnd).mono ?_;rintro e' w3 ⟨vd,vs,fd,fs,rfl,sd,ss,fr,B⟩;obtain⟨ad,cd,rfl⟩:=sd.isS;obtain⟨I,J,rfl⟩:=ss.isS;have B3:Below N N w3:=Q.trans (B.mono om);obtain⟨nz,n0,n1,n2,n3,ng0,ng1,ng2,ng3⟩:=(Bx.at (show Bx _ N [z.shut,.slice xa z.docs.length xc,.slice ya z.subs.length yc,z.last]from HO.out) B).q4;have M:Qaa (N+1) w3 (fd++(fs++([]++[]))):=Qaa.mono (by simpa using fr) (by first|exact lr _|omega|(simp;done)|(simp;omega))
   go_wp2_with fail
   go_meet
   refine⟨ad,I,_,_,cd,J,_,_,fd,fs,[],[],rfl,rfl,rfl,rfl,rfl,by omega,?_,?_,?_,?_,?_,⟨M.nodup,M.ge,fun p hp=>by(try simp only[World.frozen?_setCell]);exact M.free p hp⟩,blw⟩
   all_goals clear HX HY HR Z HO Q
   ·refine bx4 ?_ ?_ ?_ ?_ ?_ ?_ ?_ ?_ ?_;all_goals simp[go_sem,xaa, *]
   ·repeat'(first|(with_reducible exact sd)|(with_reducible refine Sl.putS ?_ ?_ _))
    all_goals
     intro R;have q1:=M.ge _ (lu _ R);simp only at q1;omega
   ·repeat'(first|(with_reducible exact ss)|(with_reducible refine Sl.putS ?_ ?_ _))
    all_goals
     intro R;have q1:=M.ge _ (lw _ (lu _ R));simp only at q1;omega
   ·exact .inl ⟨_,rfl,rfl,rfl⟩
   ·exact .inl ⟨_,rfl,rfl,rfl⟩
  ·have hy:=HRW.out;simp[Xah]at hy;obtain⟨rfl,rfl⟩:=hy;go_wp2_with fail
   refine(yaA z _ _ client n _ (j.below blw) (u.below blw)).mono ?_;rintro e' w3 ⟨vd,vs,vl,fd,fs,fl,rfl,sd,ss,sl,fr,B⟩;obtain⟨ad,cd,rfl⟩:=sd.isS;obtain⟨I,J,rfl⟩:=ss.isS;obtain⟨al,cl,rfl⟩:=sl.isS;have B3:Below N N w3:=Q.trans (B.mono om);obtain⟨nz,n0,n1,n2,n3,ng0,ng1,ng2,ng3⟩:=(Bx.at (show Bx _ N [z.shut,.slice xa z.docs.length xc,.slice ya z.subs.length yc,z.last]from HO.out) B).q4;have M:Qaa (N+1) w3 (fd++(fs++([]++fl))):=Qaa.mono (by simpa using fr) (by first|exact lr _|omega|(simp;done)|(simp;omega))
   go_wp2_with fail
   go_meet
   refine⟨ad,I,_,al,cd,J,_,cl,fd,fs,[],fl,rfl,rfl,rfl,rfl,rfl,by omega,?_,?_,?_,?_,?_,⟨M.nodup,M.ge,fun p hp=>by(try simp only[World.frozen?_setCell]);exact M.free p hp⟩,blw⟩
   all_goals clear HX HY HR Z HO Q
   ·refine bx4 ?_ ?_ ?_ ?_ ?_ ?_ ?_ ?_ ?_;all_goals simp[go_sem,xaa, *]
   ·repeat'(first|(with_reducible exact sd)|(with_reducible refine Sl.putS ?_ ?_ _))
    all_goals
     intro R;have q1:=M.ge _ (lu _ R);simp only at q1;omega
   ·repeat'(first|(with_reducible exact ss)|(with_reducible refine Sl.putS ?_ ?_ _))
    all_goals
     intro R;have q1:=M.ge _ (lw _ (lu _ R));simp only at q1;omega
   ·exact .inl ⟨_,rfl,rfl,rfl⟩
   ·repeat'(first|(with_reducible exact sl)|(with_reducible refine Sl.putS ?_ ?_ _))
    all_goals
     intro R;have q1:=M.ge _ (lw _ (lw _ (lw _ R)));simp only at q1;omega
  ·have hy:=HRW.out;simp[Xah]at hy;obtain⟨rfl,rfl⟩:=hy;go_wp2_with fail
   refine(qaw z _ _ client _ (j.below blw) (u.below blw)).mono ?_;rintro e' w3 ⟨vd,vs,vt,fd,fs,ft,rfl,sd,ss,st,fr,B⟩;obtain⟨ad,cd,rfl⟩:=sd.isS;obtain⟨I,J,rfl⟩:=ss.isS;obtain⟨at_,ct,rfl⟩:=st.isS
   have B3:Below N N w3:=Q.trans (B.mono om);obtain⟨nz,n0,n1,n2,n3,ng0,ng1,ng2,ng3⟩:=(Bx.at (show Bx _ N [z.shut,.slice xa z.docs.length xc,.slice ya z.subs.length yc,z.last]from HO.out) B).q4;have M:Qaa (N+1) w3 (fd++(fs++(ft++[]))):=Qaa.mono (by simpa using fr) (by first|exact lr _|omega|(simp;done)|(simp;omega))
   go_wp2_with fail
   go_meet
   refine⟨ad,I,at_,_,cd,J,ct,_,fd,fs,ft,[],rfl,rfl,rfl,rfl,rfl,by omega,?_,?_,?_,?_,?_,⟨M.nodup,M.ge,fun p hp=>by(try simp only[World.frozen?_setCell]);exact M.free p hp⟩,blw⟩
   all_goals clear HX HY HR Z HO Q
   ·refine bx4 ?_ ?_ ?_ ?_ ?_ ?_ ?_ ?_ ?_;all_goals simp[go_sem,xaa, *]
   ·repeat'(first|(with_reducible exact sd)|(with_reducible refine Sl.putS ?_ ?_ _))
    all_goals
     intro R;have q1:=M.ge _ (lu _ R);simp only at q1;omega
   ·repeat'(first|(with_reducible exact ss)|(with_reducible refine Sl.putS ?_ ?_ _))
    all_goals
     intro R;have q1:=M.ge _ (lw _ (lu _ R));simp only at q1;omega
   ·repeat'(first|(with_reducible exact st)|(with_reducible refine Sl.putS ?_ ?_ _))
    all_goals
     intro R;have q1:=M.ge _ (lw _ (lw _ (lu _ R)));simp only at q1;omega
   ·exact .inl ⟨_,rfl,rfl,rfl⟩
  ·have hy:=HRW.out;simp[Xah,jaA]at hy;obtain⟨rfl,rfl⟩:=hy;go_wp2_with fail
   refine(xaP z _ _ _ (j.below blw) (u.below blw)).mono ?_;rintro e' w3 ⟨vd,vs,fd,fs,rfl,sd,ss,fr,B⟩;obtain⟨ad,cd,rfl⟩:=sd.isS;obtain⟨I,J,rfl⟩:=ss.isS;have B3:Below N N w3:=Q.trans (B.mono om);obtain⟨nz,n0,n1,n2,n3,ng0,ng1,ng2,ng3⟩:=(Bx.at (show Bx _ N [z.shut,.slice xa z.docs.length xc,.slice ya z.subs.length yc,z.last]from HO.out) B).q4;have M:Qaa (N+1) w3 (fd++(fs++([]++[]))):=Qaa.mono (by simpa using fr) (by first|exact lr _|omega|(simp;done)|(simp;omega))
   go_wp2_with fail
   go_meet
   refine⟨ad,I,_,_,cd,J,_,_,fd,fs,[],[],rfl,rfl,rfl,rfl,rfl,by omega,?_,?_,?_,?_,?_,⟨M.nodup,M.ge,fun p hp=>by(try simp only[World.frozen?_setCell]);exact M.free p hp⟩,blw⟩
   all_goals clear HX HY HR Z HO Q
   ·refine bx4 ?_ ?_ ?_ ?_ ?_ ?_ ?_ ?_ ?_;all_goals simp[go_sem,xaa, *]
   ·repeat'(first|(with_reducible exact sd)|(with_reducible refine Sl.putS ?_ ?_ _))
    all_goals
     intro R;have q1:=M.ge _ (lu _ R);simp only at q1;omega
   ·repeat'(first|(with_reducible exact ss)|(with_reducible refine Sl.putS ?_ ?_ _))
    all_goals
     intro R;have q1:=M.ge _ (lw _ (lu _ R));simp only at q1;omega
   ·exact .inl ⟨_,rfl,rfl,rfl⟩
   ·exact .inl ⟨_,rfl,rfl,rfl⟩
 case rest=>
  obtain⟨w4,rfl⟩:∃wq:World,wq=wc:=⟨_,rfl⟩;obtain⟨ad,I,at_,al,cd,J,ct,cl,fd,fs,ft,fl,rfl,rfl,rfl,rfl,rfl,hk34,xo,sd,ss,st,sl,fr,hb⟩:=hcut
  clear xz x0 x1 x2 x3 jz j0 j1 j2 j3 j4 j5 j6 rz r0 r1 r2 r3 rg0 rg1 rg2 rg3 az a0 a1 a2 a3 ag0 ag1 ag2 ag3;replace HX:=hH (HX.out.at hb);replace HY:=hH (HY.out.at hb);replace HR:=hH (HR.out.at hb);replace Z:=hH (Z.out.at hb);have s4:=hb.size;replace hB:=hB.trans (hb.mono hB.size);obtain⟨xz,x0,x1,x2,x3⟩:=HX.out.o4;obtain⟨jz,j0,j1,j2,j3,j4,j5,j6⟩:=HY.out.o7;obtain⟨rz,r0,r1,r2,r3,rg0,rg1,rg2,rg3⟩:=HR.out.q4;obtain⟨az,a0,a1,a2,a3,ag0,ag1,ag2,ag3⟩:=Z.out.q4;obtain⟨oz,o0,o1,o2,o3⟩:=xo.o4;have SD:=hH sd;have SS:=hH ss;have ST:=hH st;have SL:=hH sl;have M:=hH fr;clear xo sd ss st sl fr hb;by_cases hc:y1.code=0
  rotate_left
  ·have HV:Hid (Xai z ⟨kind,doc,client,seq,n,po,text⟩=(z,jaA y1.code)):=hH (by have:=ZaD ⟨h1,h2⟩ hk34 (by rw[HRW.out];exact hc);rwa[HRW.out]at this)
   have e1:(y1.code !=0)=true:=by simpa using hc
   have d1:¬(N=w.heap.size+1):=om;have d2:¬(N=w.heap.size+1+1):=om;have d3:¬(w=w.heap.size+1+1):=om;have d4:¬(w=w.heap.size+1+1+1):=om;clear hc;go_wp2_with fail
   refine(qaf z _ _ _ (j.below hB) (u.below hB) hz).mono ?_;rintro e' wA ⟨_,rfl,ho,Y⟩;obtain⟨vd,vs,rfl,q⟩:=Qab.of_own ho;obtain⟨ae,ce,rfl⟩:=q.rd1.isSlice;obtain⟨af,cf,rfl⟩:=q.rd2.isSlice;have HO:=hH q;clear ho q;clear xz x0 x1 x2 x3 jz j0 j1 j2 j3 j4 j5 j6 rz r0 r1 r2 r3 rg0 rg1 rg2 rg3 az a0 a1 a2 a3 ag0 ag1 ag2 ag3;replace HX:=hH (HX.out.at Y);replace HY:=hH (HY.out.at Y);replace HR:=hH (HR.out.at Y);replace Z:=hH (Z.out.at Y);have sA:=Y.size;replace hB:=hB.trans (Y.mono hB.size);clear Y;obtain⟨xz,x0,x1,x2,x3⟩:=HX.out.o4;obtain⟨jz,j0,j1,j2,j3,j4,j5,j6⟩:=HY.out.o7;obtain⟨rz,r0,r1,r2,r3,rg0,rg1,rg2,rg3⟩:=HR.out.q4;obtain⟨az,a0,a1,a2,a3,ag0,ag1,ag2,ag3⟩:=Z.out.q4;go_wp2;exact bodyPost_ret (v:= .tuple #[.agg #[z.shut,.slice ae z.docs.length ce,.slice af z.subs.length cf,z.last],.agg #[y1.code,zI,zN,zN]]) (by simp[results,Tryz.results58,go_sem,xaa, *]) rfl (by rw[HV.out];exact Qab.ans (C:=w4) (D:=wA) (by repeat'(first|(with_reducible exact HO.out)|(with_reducible refine Qab.setCell ?_ ?_ _)|(with_reducible refine Qab.drew ?_)|omega)) om blw)
  have HV:Hid (Xai z ⟨kind,doc,client,seq,n,po,text⟩=(y0,y1)):=hH (by have:=kay ⟨h1,h2⟩ hk34 (by rw[HRW.out];exact hc);rwa[HRW.out]at this)
  have e1:(y1.code !=0)=false:=by simpa using hc
  have HC:=hH hc;clear hc;go_wp2_with fail
  exact bodyPost_ret (v:= .tuple #[.agg #[y0.shut,.slice ad y0.docs.length cd,.slice I y0.subs.length J,y0.last],.agg #[zI,y1.rev,.slice at_ y1.text.length ct,.slice al y1.list.length cl]]) (by simp[results,Tryz.results58,go_sem,xaa, *]) rfl (by rw[HV.out];exact⟨_,_,_,_,fd,fs,ft,fl,by rw[HC.out],(by(repeat'(first|(with_reducible exact SD.out)|(with_reducible refine Sl.drewS ?_)|(with_reducible refine Sl.putS ?_ ?_ _)))<;>(intro R;have q1:=M.out.ge _ (lu _ R);simp only at q1;omega)),(by(repeat'(first|(with_reducible exact SS.out)|(with_reducible refine Sl.drewS ?_)|(with_reducible refine Sl.putS ?_ ?_ _)))<;>(intro R;have q1:=M.out.ge _ (lw _ (lu _ R));simp only at q1;omega)),(by(repeat'(first|(with_reducible exact ST.out)|(with_reducible refine Sl.drewS ?_)|(with_reducible refine Sl.putS ?_ ?_ _)))<;>(intro R;have q1:=M.out.ge _ (lw _ (lw _ (lu _ R)));simp only at q1;omega)),(by(repeat'(first|(with_reducible exact SL.out)|(with_reducible refine Sl.drewS ?_)|(with_reducible refine Sl.putS ?_ ?_ _)))<;>(intro R;have q1:=M.out.ge _ (lw _ (lw _ (lw _ R)));simp only at q1;omega)),⟨M.out.nodup,fun p hp=>Nat.le_trans om (M.out.ge p hp),fun p hp=>by(try simp only[World.frozen?_setCell]);exact M.out.free p hp⟩,blw⟩)
