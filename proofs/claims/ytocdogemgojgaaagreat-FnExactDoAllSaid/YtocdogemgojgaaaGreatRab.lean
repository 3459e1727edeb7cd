/- The copies that the laws make. -/
import Derived.Test.YtocdogemgojgaaaGreatRaa
import Derived.Handy
set_option maxHeartbeats 1000000
namespace Go.Proofs.YtocdogemgojgaaaGreat
open Go.RowKit
theorem At.zero {w:World}{b o:Nat}{c:Value}{j:List Value}(h:At w b o (c::j)):w.cell? ⟨b,o,none⟩=some c:=h 0 c rfl
theorem ubk (x:zaa)(j:Value)(w:World)(p:RdS w j x.signs):
 Calls Tryz.prog 107 #[.agg #[x.kind,x.n,j]] w (QaB w x):=by
 go_enter Tryz.func107,Tryz.ntmps107
 go_wp2_with fail
 refine(kaX _ _ _ (p.below blw)).mono ?_;rintro e M ⟨v1,rfl,z,u⟩;have s1:w+3<=M.heap.size:=szl u;obtain⟨I,J,rfl⟩:=z.rd.isSlice;obtain⟨B,D,q,N,Q,R⟩:=z.ex (m:=w+3) sm u.size;clear z;obtain⟨a0,a1⟩:=kab u;have U:w<M.heap.size:=om;have Y:w+1<M.heap.size:=om;have Z:w+1+1<M.heap.size:=om;go_wp2;refine bodyPost_ret (v:= .agg #[x.kind,x.n,.slice I x.signs.length J]) (by simp[results,Tryz.results107,go_sem,xaa, *]) rfl ?_
 exact⟨_,rfl,ybe (C0:=B) (D0:=D) x (by repeat'(first|(with_reducible exact q)|(with_reducible refine Xad.setCell ?_ ?_ _)|(with_reducible refine Xad.drew ?_)|(with_reducible refine Xad.drewN ?_ _)|(with_reducible refine Xad.below ?_ (by assumption))|(with_reducible refine Xad.alloc ?_ _)|omega)) om,blw⟩
theorem Xa0:∀j,(sizeOf 138).run Tryz.prog j= .ok 3 j:=fun _=>by kernel_rfl
theorem qbb:(Tryz.prog.info? 142).map (fun i=>(i.zero,i.size,i.bytes))=some (some (.agg #[zI,zI,zN]),3,40):=by kernel_rfl
theorem qa0 (v:Value)(l:List zaa)(w:World)(h:RdS w v l):
 Calls Tryz.prog 43 #[v] w (qar w l):=by
 have hl:=fun w1 ty=>h.len Tryz.underlying52 w1 ty
 have hb:=h.le;obtain⟨i0,hi,hz0,hz1,hz2⟩:=info_parts qbb;go_enter Tryz.func43,Tryz.ntmps43
 go_wp2_with (first|(at_make;refine wpList_make_full _ rfl _ _ 30 rfl w 142 i0 (.agg #[zI,zI,zN]) 3 Tryz.underlying30 hi hz0 hz1 .i64 .i64 _ _ l.length rfl rfl rfl rfl ?c1 ?c2 ?c3 ?_))
 case c1=>rw[hz2];omega
 case c2=>unfold maxLen;omega
 case c3=>exact lr _
 intro w1 M z;have HF:Hid (Qar 142 w1 w w l 0):=Qar.start M rfl (zac hb);have HB:Hid (Below w w w1):=(lf _ _).grown z (lr _) (fun _ e=>by cases e)
 clear M z;go_wp2;go_loopw [4] (fun i wr=>∃k:Nat,k<=l.length/\i= .int .i64 k/\Qar 142 wr w w l k/\Below w w wr) (fun i _=>l.length-(intOf i).toNat)
 case atStart=>exact⟨0,lz _,rfl,HF.out,HB.out⟩
 case round=>
  obtain⟨k,hk,rfl,hf,u⟩:=hrel;by_cases J:k<l.length
  ·obtain⟨x,hx⟩:=jaa J;obtain⟨b1,o1,cs,h1,h2,h3⟩:=(h.below u).idx Tryz.underlying52 Xa0 k hx;obtain⟨a2,rfl,B⟩:=jag h3;have q0:=h2.zero;have q1:=h2 1 _ rfl;have q2:=h2 2 _ rfl;have HX:=hH hx;clear hx;have N:=hH hf;clear hf;go_wp2_with fail
   refine(ubk x _ _ B).mono ?_;rintro e D ⟨_,rfl,ho,I⟩;have HW:=hH ho;obtain⟨a1,rfl,_r_signs⟩:=zaV ho;obtain⟨j,p,rfl⟩:=_r_signs.rd.isSlice;have q:=N.out.below I;obtain⟨⟨p0,Q⟩,Y⟩:=q.cells J 0 (by decide)
   obtain⟨⟨p1,R⟩,Z⟩:=q.cells J 1 (by decide)
   obtain⟨⟨p2,U⟩,a0⟩:=q.cells J 2 (by decide)
   replace Q:D.cell? ⟨w.heap.size,k*3,none⟩=some p0:=Q;replace Y:D.frozen? ⟨w.heap.size,k*3,none⟩=false:=Y;replace R:D.cell? ⟨w.heap.size,k*3+1,none⟩=some p1:=R;replace Z:D.frozen? ⟨w.heap.size,k*3+1,none⟩=false:=Z;replace U:D.cell? ⟨w.heap.size,k*3+2,none⟩=some p2:=U;replace a0:D.frozen? ⟨w.heap.size,k*3+2,none⟩=false:=a0;have HS:Hid (Qar 142 (((D.setCell ⟨w,k*3,none⟩ x.kind).setCell ⟨w,k*3+1,none⟩ x.n).setCell ⟨w,k*3+2,none⟩ (.slice j x.signs.length p)) w w l (k+1)):=by
    have:=N.out.step I HX.out HW.out;show Qar 142 (((D.setCell ⟨w,k*3,none⟩ x.kind).setCell ⟨w,k*3+1,none⟩ x.n).setCell ⟨w,k*3+2,none⟩ (.slice j x.signs.length p)) w w l (k+1);simpa[World.setCells,GoT.n]using this
   have HBW:Hid (Below w w (((D.setCell ⟨w,k*3,none⟩ x.kind).setCell ⟨w,k*3+1,none⟩ x.n).setCell ⟨w,k*3+2,none⟩ (.slice j x.signs.length p))):=by
    have h0:=u.size;have h1:Below w w D:=u.trans (I.mono h0);show Below w w (((D.setCell ⟨w,k*3,none⟩ x.kind).setCell ⟨w,k*3+1,none⟩ x.n).setCell ⟨w,k*3+2,none⟩ (.slice j x.signs.length p));exact(by repeat'(first|(with_reducible exact h1)|(with_reducible refine Below.setCell ?_ ?_ _)|(show w<=w.heap.size;exact lr _)))
   clear HX N q HW ho I u;go_wp2;go_roundw
   case rel=>exact⟨k+1,by omega,by go_num,HS.out,HBW.out⟩
   case measure=>simp[intOf];omega
  ·obtain rfl:k=l.length:=om;have hd:=hf.done;go_wp2;go_ret;exact⟨_,rfl,hd,u⟩
theorem xbh (x:xab)(D:Value)(w:World)(J:RdS w D x.o):
 Calls Tryz.prog 227 #[.agg #[x.client,x.seq,D]] w (QaB w x):=by
 go_enter Tryz.func227,Tryz.ntmps227
 go_wp2_with fail
 refine(qa0 _ _ _ (J.below blw)).mono ?_;rintro e I ⟨v1,rfl,p,n⟩;have s1:w+3<=I.heap.size:=szl n;obtain⟨z,B,rfl⟩:=p.rd.isSlice;obtain⟨q,u,j,M,N,Q⟩:=p.ex (m:=w+3) sm n.size;clear p;obtain⟨Z,a0⟩:=kab n;have R:w<I.heap.size:=om;have U:w+1<I.heap.size:=om;have Y:w+1+1<I.heap.size:=om;go_wp2;refine bodyPost_ret (v:= .agg #[x.client,x.seq,.slice z x.o.length B]) (by simp[results,Tryz.results227,go_sem,xaa, *]) rfl ?_
 exact⟨_,rfl,xbb (C0:=q) (D0:=u) x (by repeat'(first|(with_reducible exact j)|(with_reducible refine Xad.setCell ?_ ?_ _)|(with_reducible refine Xad.drew ?_)|(with_reducible refine Xad.drewN ?_ _)|(with_reducible refine Xad.below ?_ (by assumption))|(with_reducible refine Xad.alloc ?_ _)|omega)) om,blw⟩
theorem KaS:∀j,(sizeOf 227).run Tryz.prog j= .ok 3 j:=fun _=>by kernel_rfl
theorem Qan:(Tryz.prog.info? 118).map (fun i=>(i.zero,i.size,i.bytes))=some (some (.agg #[zI,zI,zN]),3,40):=by kernel_rfl
theorem jaS (v:Value)(l:List xab)(w:World)(h:RdS w v l):
 Calls Tryz.prog 200 #[v] w (qar w l):=by
 have hl:=fun w1 ty=>h.len Tryz.underlying174 w1 ty
 have hb:=h.le;obtain⟨i0,hi,hz0,hz1,hz2⟩:=info_parts Qan;go_enter Tryz.func200,Tryz.ntmps200
 go_wp2_with (first|(at_make;refine wpList_make_full _ rfl _ _ 34 rfl w 118 i0 (.agg #[zI,zI,zN]) 3 Tryz.underlying34 hi hz0 hz1 .i64 .i64 _ _ l.length rfl rfl rfl rfl ?c1 ?c2 ?c3 ?_))
 case c1=>rw[hz2];omega
 case c2=>unfold maxLen;omega
 case c3=>exact lr _
 intro w1 J q;have HF:Hid (Qar 118 w1 w w l 0):=Qar.start J rfl (zac hb);have HB:Hid (Below w w w1):=(lf _ _).grown q (lr _) (fun _ e=>by cases e)
 clear J q;go_wp2;go_loopw [4] (fun i wr=>∃k:Nat,k<=l.length/\i= .int .i64 k/\Qar 118 wr w w l k/\Below w w wr) (fun i _=>l.length-(intOf i).toNat)
 case atStart=>exact⟨0,lz _,rfl,HF.out,HB.out⟩
 case round=>
  obtain⟨k,hk,rfl,hf,p⟩:=hrel;by_cases I:k<l.length
  ·obtain⟨x,hx⟩:=jaa I;obtain⟨b1,o1,cs,h1,h2,h3⟩:=(h.below p).idx Tryz.underlying174 KaS k hx;obtain⟨v_o,rfl,r_o⟩:=Zaf h3;have q0:=h2.zero;have q1:=h2 1 _ rfl;have q2:=h2 2 _ rfl;have HX:=hH hx;clear hx;have M:=hH hf;clear hf;go_wp2_with fail
   refine(xbh x _ _ r_o).mono ?_;rintro e u ⟨_,rfl,ho,D⟩;have HW:=hH ho;obtain⟨u_o,rfl,_r_o⟩:=kaA ho;obtain⟨z,B,rfl⟩:=_r_o.rd.isSlice;have j:=M.out.below D;obtain⟨⟨p0,N⟩,U⟩:=j.cells I 0 (by decide)
   obtain⟨⟨p1,Q⟩,Y⟩:=j.cells I 1 (by decide)
   obtain⟨⟨p2,R⟩,Z⟩:=j.cells I 2 (by decide)
   replace N:u.cell? ⟨w.heap.size,k*3,none⟩=some p0:=N;replace U:u.frozen? ⟨w.heap.size,k*3,none⟩=false:=U;replace Q:u.cell? ⟨w.heap.size,k*3+1,none⟩=some p1:=Q;replace Y:u.frozen? ⟨w.heap.size,k*3+1,none⟩=false:=Y;replace R:u.cell? ⟨w.heap.size,k*3+2,none⟩=some p2:=R;replace Z:u.frozen? ⟨w.heap.size,k*3+2,none⟩=false:=Z;have HS:Hid (Qar 118 (((u.setCell ⟨w,k*3,none⟩ x.client).setCell ⟨w,k*3+1,none⟩ x.seq).setCell ⟨w,k*3+2,none⟩ (.slice z x.o.length B)) w w l (k+1)):=by
    have:=M.out.step D HX.out HW.out;show Qar 118 (((u.setCell ⟨w,k*3,none⟩ x.client).setCell ⟨w,k*3+1,none⟩ x.seq).setCell ⟨w,k*3+2,none⟩ (.slice z x.o.length B)) w w l (k+1);simpa[World.setCells,GoT.n]using this
   have HBW:Hid (Below w w (((u.setCell ⟨w,k*3,none⟩ x.client).setCell ⟨w,k*3+1,none⟩ x.seq).setCell ⟨w,k*3+2,none⟩ (.slice z x.o.length B))):=by
    have h0:=p.size;have h1:Below w w u:=p.trans (D.mono h0);show Below w w (((u.setCell ⟨w,k*3,none⟩ x.client).setCell ⟨w,k*3+1,none⟩ x.seq).setCell ⟨w,k*3+2,none⟩ (.slice z x.o.length B));exact(by repeat'(first|(with_reducible exact h1)|(with_reducible refine Below.setCell ?_ ?_ _)|(show w<=w.heap.size;exact lr _)))
   clear HX M j HW ho D p;go_wp2;go_roundw
   case rel=>exact⟨k+1,by omega,by go_num,HS.out,HBW.out⟩
   case measure=>simp[intOf];omega
  ·obtain rfl:k=l.length:=om;have hd:=hf.done;go_wp2;go_ret;exact⟨_,rfl,hd,p⟩
theorem Qbi (x:Zab)(w:World):
 Calls Tryz.prog 228 #[.agg #[x.client,x.seq,x.rev]] w (QaB w x):=by
 go_enter Tryz.func228,Tryz.ntmps228
 go_wp2;go_returns
 exact⟨_,rfl,Xbf x,blw⟩
theorem ybh:∀j,(sizeOf 230).run Tryz.prog j= .ok 3 j:=fun _=>by kernel_rfl
theorem jba:(Tryz.prog.info? 167).map (fun i=>(i.zero,i.size,i.bytes))=some (some (.agg #[zI,zI,zI]),3,24):=by kernel_rfl
theorem ubd (v:Value)(l:List Zab)(w:World)(h:RdS w v l):
 Calls Tryz.prog 201 #[v] w (qar w l):=by
 have hl:=fun Y ty=>h.len Tryz.underlying175 Y ty
 have hb:=h.le;obtain⟨i0,hi,hz0,hz1,hz2⟩:=info_parts jba;go_enter Tryz.func201,Tryz.ntmps201
 go_wp2_with (first|(at_make;refine wpList_make_full _ rfl _ _ 97 rfl w 167 i0 (.agg #[zI,zI,zI]) 3 Tryz.underlying97 hi hz0 hz1 .i64 .i64 _ _ l.length rfl rfl rfl rfl ?c1 ?c2 ?c3 ?_))
 case c1=>rw[hz2];omega
 case c2=>unfold maxLen;omega
 case c3=>exact lr _
 intro Y D q;have HF:Hid (Qar 167 Y w w l 0):=Qar.start D rfl (zac hb);have HB:Hid (Below w w Y):=(lf _ _).grown q (lr _) (fun _ e=>by cases e)
 clear D q;go_wp2;go_loopw [4] (fun i wr=>∃k:Nat,k<=l.length/\i= .int .i64 k/\Qar 167 wr w w l k/\Below w w wr) (fun i _=>l.length-(intOf i).toNat)
 case atStart=>exact⟨0,lz _,rfl,HF.out,HB.out⟩
 case round=>
  obtain⟨k,hk,rfl,hf,p⟩:=hrel;by_cases B:k<l.length
  ·obtain⟨x,hx⟩:=jaa B;obtain⟨b1,o1,cs,h1,h2,h3⟩:=(h.below p).idx Tryz.underlying175 ybh k hx;obtain rfl:=jaj h3;have q0:=h2.zero;have q1:=h2 1 _ rfl;have q2:=h2 2 _ rfl;have HX:=hH hx;clear hx;have I:=hH hf;clear hf;go_wp2_with fail
   refine(Qbi x _).mono ?_;rintro e u ⟨_,rfl,ho,z⟩;have HW:=hH ho;obtain rfl:=jaj ho.rd;have j:=I.out.below z;obtain⟨⟨p0,J⟩,Q⟩:=j.cells B 0 (by decide)
   obtain⟨⟨p1,M⟩,R⟩:=j.cells B 1 (by decide)
   obtain⟨⟨p2,N⟩,U⟩:=j.cells B 2 (by decide)
   replace J:u.cell? ⟨w.heap.size,k*3,none⟩=some p0:=J;replace Q:u.frozen? ⟨w.heap.size,k*3,none⟩=false:=Q;replace M:u.cell? ⟨w.heap.size,k*3+1,none⟩=some p1:=M;replace R:u.frozen? ⟨w.heap.size,k*3+1,none⟩=false:=R;replace N:u.cell? ⟨w.heap.size,k*3+2,none⟩=some p2:=N;replace U:u.frozen? ⟨w.heap.size,k*3+2,none⟩=false:=U;have HS:Hid (Qar 167 (((u.setCell ⟨w,k*3,none⟩ x.client).setCell ⟨w,k*3+1,none⟩ x.seq).setCell ⟨w,k*3+2,none⟩ x.rev) w w l (k+1)):=by
    have:=I.out.step z HX.out HW.out;show Qar 167 (((u.setCell ⟨w,k*3,none⟩ x.client).setCell ⟨w,k*3+1,none⟩ x.seq).setCell ⟨w,k*3+2,none⟩ x.rev) w w l (k+1);simpa[World.setCells,GoT.n]using this
   have Z:Hid (Below w w (((u.setCell ⟨w,k*3,none⟩ x.client).setCell ⟨w,k*3+1,none⟩ x.seq).setCell ⟨w,k*3+2,none⟩ x.rev)):=by
    have h0:=p.size;have h1:Below w w u:=p.trans (z.mono h0);show Below w w (((u.setCell ⟨w,k*3,none⟩ x.client).setCell ⟨w,k*3+1,none⟩ x.seq).setCell ⟨w,k*3+2,none⟩ x.rev);exact(by repeat'(first|(with_reducible exact h1)|(with_reducible refine Below.setCell ?_ ?_ _)|(show w<=w.heap.size;exact lr _)))
   clear HX I j HW ho z p;go_wp2;go_roundw
   case rel=>exact⟨k+1,by omega,by go_num,HS.out,Z.out⟩
   case measure=>simp[intOf];omega
  ·obtain rfl:k=l.length:=om;have hd:=hf.done;go_wp2;go_ret;exact⟨_,rfl,hd,p⟩
theorem qbm (x:Jac)(q:Value)(n:Value)(p:Value)(w:World)(D:x.name.size<=BIG)(B:RdS w q x.text)(u:RdS w n x.list)(z:RdS w p x.seen):
 Calls Tryz.prog 156 #[.agg #[x.name,x.from_,q,n,p]] w (QaB w x):=by
 go_enter Tryz.func156,Tryz.ntmps156
 go_wp2_with fail
 refine(kaX _ _ _ (B.below blw)).mono ?_;rintro e U ⟨v1,rfl,j,N⟩;have s1:w+3<=U.heap.size:=szl N;obtain⟨a5,a8,rfl⟩:=j.rd.isSlice;obtain⟨Z,a2,I,jc1_0,jd1_0,je1_0⟩:=j.ex (m:=w+3) sm N.size;clear j;obtain⟨hc1,hf1⟩:=kab N;have z1_0:w<U.heap.size:=om;have z1_1:w+1<U.heap.size:=om;have z1_2:w+1+1<U.heap.size:=om;go_wp2_with fail
 refine(jaS _ _ _ (u.below blw)).mono ?_;rintro e Y ⟨v2,rfl,j,Q⟩;have s2:U<=Y.heap.size:=szl Q;obtain⟨a6,a9,rfl⟩:=j.rd.isSlice;obtain⟨a0,a3,J,jc2_0,jd2_0,je2_0⟩:=j.ex (m:=U) sm Q.size;clear j;obtain⟨hc2,hf2⟩:=kab Q;have z2_0:w<Y.heap.size:=om;have z2_1:w+1<Y.heap.size:=om;have z2_2:w+1+1<Y.heap.size:=om;go_wp2_with fail
 refine(ubd _ _ _ (z.below blw)).mono ?_;rintro e w3 ⟨v3,rfl,j,R⟩;have s3:Y<=w3.heap.size:=szl R;obtain⟨a7,aa,rfl⟩:=j.rd.isSlice;obtain⟨a1,a4,M,jc3_0,jd3_0,je3_0⟩:=j.ex (m:=Y) sm R.size;clear j;obtain⟨hc3,hf3⟩:=kab R;have z3_0:w<w3.heap.size:=om;have z3_1:w+1<w3.heap.size:=om;have z3_2:w+1+1<w3.heap.size:=om;go_wp2;refine bodyPost_ret (v:= .agg #[x.name,x.from_,.slice a5 x.text.length a8,.slice a6 x.list.length a9,.slice a7 x.seen.length aa]) (by simp[results,Tryz.results156,go_sem,xaa, *]) rfl ?_
 exact⟨_,rfl,KaV (C0:=Z) (D0:=a2) (C1:=a0) (D1:=a3) (C2:=a1) (D2:=a4) x D (by repeat'(first|(with_reducible exact I)|(with_reducible refine Xad.setCell ?_ ?_ _)|(with_reducible refine Xad.drew ?_)|(with_reducible refine Xad.drewN ?_ _)|(with_reducible refine Xad.below ?_ (by assumption))|(with_reducible refine Xad.alloc ?_ _)|omega)) (by repeat'(first|(with_reducible exact J)|(with_reducible refine Xad.setCell ?_ ?_ _)|(with_reducible refine Xad.drew ?_)|(with_reducible refine Xad.drewN ?_ _)|(with_reducible refine Xad.below ?_ (by assumption))|(with_reducible refine Xad.alloc ?_ _)|omega)) (by repeat'(first|(with_reducible exact M)|(with_reducible refine Xad.setCell ?_ ?_ _)|(with_reducible refine Xad.drew ?_)|(with_reducible refine Xad.drewN ?_ _)|(with_reducible refine Xad.below ?_ (by assumption))|(with_reducible refine Xad.alloc ?_ _)|omega)) om om om om om om,blw⟩
theorem Xa7:∀j,(sizeOf 177).run Tryz.prog j= .ok 5 j:=fun _=>by kernel_rfl
theorem kbg:(Tryz.prog.info? 99).map (fun i=>(i.zero,i.size,i.bytes))=some (some (.agg #[ByteArray.empty,zI,zN,zN,zN]),5,96):=by kernel_rfl
theorem Zbj (v:Value)(l:List Jac)(w:World)(h:RdS w v l):
 Calls Tryz.prog 86 #[v] w (qar w l):=by
 have hl:=fun w1 ty=>h.len Tryz.underlying48 w1 ty
 have hb:=h.le;obtain⟨i0,hi,hz0,hz1,hz2⟩:=info_parts kbg;go_enter Tryz.func86,Tryz.ntmps86
 go_wp2_with (first|(at_make;refine wpList_make_full _ rfl _ _ 23 rfl w 99 i0 (.agg #[ByteArray.empty,zI,zN,zN,zN]) 5 Tryz.underlying23 hi hz0 hz1 .i64 .i64 _ _ l.length rfl rfl rfl rfl ?c1 ?c2 ?c3 ?_))
 case c1=>rw[hz2];omega
 case c2=>unfold maxLen;omega
 case c3=>exact lr _
 intro w1 a0 N;have HF:Hid (Qar 99 w1 w w l 0):=Qar.start a0 rfl (zac hb);have HB:Hid (Below w w w1):=(lf _ _).grown N (lr _) (fun _ e=>by cases e)
 clear a0 N;go_wp2;go_loopw [4] (fun i wr=>∃k:Nat,k<=l.length/\i= .int .i64 k/\Qar 99 wr w w l k/\Below w w wr) (fun i _=>l.length-(intOf i).toNat)
 case atStart=>exact⟨0,lz _,rfl,HF.out,HB.out⟩
 case round=>
  obtain⟨k,hk,rfl,hf,M⟩:=hrel;by_cases J:k<l.length
  ·obtain⟨x,hx⟩:=jaa J;obtain⟨b1,o1,cs,h1,h2,h3⟩:=(h.below M).idx Tryz.underlying48 Xa7 k hx;obtain⟨v_text,v_list,v_seen,rfl,R,Z,U,Y⟩:=qai h3;have q0:=h2.zero;have q1:=h2 1 _ rfl;have q2:=h2 2 _ rfl;have q3:=h2 3 _ rfl;have q4:=h2 4 _ rfl;have HX:=hH hx;clear hx;have a1:=hH hf;clear hf;go_wp2_with fail
   refine(qbm x _ _ _ _ R Z U Y).mono ?_;rintro e I ⟨_,rfl,ho,Q⟩;have HW:=hH ho;obtain⟨u_text,u_list,u_seen,rfl,_,_r_text,_r_list,_r_seen⟩:=Qa0 ho;obtain⟨q,B,rfl⟩:=_r_text.rd.isSlice;obtain⟨j,u,rfl⟩:=_r_list.rd.isSlice;obtain⟨p,z,rfl⟩:=_r_seen.rd.isSlice;have D:=a1.out.below Q;obtain⟨⟨p0,hp0⟩,hq0⟩:=D.cells J 0 (by decide)
   obtain⟨⟨p1,hp1⟩,hq1⟩:=D.cells J 1 (by decide)
   obtain⟨⟨p2,hp2⟩,hq2⟩:=D.cells J 2 (by decide)
   obtain⟨⟨p3,hp3⟩,hq3⟩:=D.cells J 3 (by decide)
   obtain⟨⟨p4,hp4⟩,hq4⟩:=D.cells J 4 (by decide)
   replace hp0:I.cell? ⟨w.heap.size,k*5,none⟩=some p0:=hp0;replace hq0:I.frozen? ⟨w.heap.size,k*5,none⟩=false:=hq0;replace hp1:I.cell? ⟨w.heap.size,k*5+1,none⟩=some p1:=hp1;replace hq1:I.frozen? ⟨w.heap.size,k*5+1,none⟩=false:=hq1;replace hp2:I.cell? ⟨w.heap.size,k*5+2,none⟩=some p2:=hp2;replace hq2:I.frozen? ⟨w.heap.size,k*5+2,none⟩=false:=hq2;replace hp3:I.cell? ⟨w.heap.size,k*5+3,none⟩=some p3:=hp3;replace hq3:I.frozen? ⟨w.heap.size,k*5+3,none⟩=false:=hq3;replace hp4:I.cell? ⟨w.heap.size,k*5+4,none⟩=some p4:=hp4;replace hq4:I.frozen? ⟨w.heap.size,k*5+4,none⟩=false:=hq4;have HS:Hid (Qar 99 (((((I.setCell ⟨w,k*5,none⟩ x.name).setCell ⟨w,k*5+1,none⟩ x.from_).setCell ⟨w,k*5+2,none⟩ (.slice q x.text.length B)).setCell ⟨w,k*5+3,none⟩ (.slice j x.list.length u)).setCell ⟨w,k*5+4,none⟩ (.slice p x.seen.length z)) w w l (k+1)):=by
    have:=a1.out.step Q HX.out HW.out;show Qar 99 (((((I.setCell ⟨w,k*5,none⟩ x.name).setCell ⟨w,k*5+1,none⟩ x.from_).setCell ⟨w,k*5+2,none⟩ (.slice q x.text.length B)).setCell ⟨w,k*5+3,none⟩ (.slice j x.list.length u)).setCell ⟨w,k*5+4,none⟩ (.slice p x.seen.length z)) w w l (k+1);simpa[World.setCells,GoT.n]using this
   have HBW:Hid (Below w w (((((I.setCell ⟨w,k*5,none⟩ x.name).setCell ⟨w,k*5+1,none⟩ x.from_).setCell ⟨w,k*5+2,none⟩ (.slice q x.text.length B)).setCell ⟨w,k*5+3,none⟩ (.slice j x.list.length u)).setCell ⟨w,k*5+4,none⟩ (.slice p x.seen.length z))):=by
    have h0:=M.size;have h1:Below w w I:=M.trans (Q.mono h0);show Below w w (((((I.setCell ⟨w,k*5,none⟩ x.name).setCell ⟨w,k*5+1,none⟩ x.from_).setCell ⟨w,k*5+2,none⟩ (.slice q x.text.length B)).setCell ⟨w,k*5+3,none⟩ (.slice j x.list.length u)).setCell ⟨w,k*5+4,none⟩ (.slice p x.seen.length z));exact(by repeat'(first|(with_reducible exact h1)|(with_reducible refine Below.setCell ?_ ?_ _)|(show w<=w.heap.size;exact lr _)))
   clear HX a1 D HW ho Q M;go_wp2;go_roundw
   case rel=>exact⟨k+1,by omega,by go_num,HS.out,HBW.out⟩
   case measure=>simp[intOf];omega
  ·obtain rfl:k=l.length:=om;have hd:=hf.done;go_wp2;go_ret;exact⟨_,rfl,hd,M⟩
theorem ubi (x:kac)(j:Value)(w:World)(n:RdS w j x.list):
 Calls Tryz.prog 202 #[.agg #[x.cap,x.next,x.out,j]] w (QaB w x):=by
 go_enter Tryz.func202,Tryz.ntmps202
 go_wp2_with fail
 refine(jaS _ _ _ (n.below blw)).mono ?_;rintro e J ⟨v1,rfl,u,q⟩;have s1:w+3<=J.heap.size:=szl q;obtain⟨D,I,rfl⟩:=u.rd.isSlice;obtain⟨z,B,p,M,N,Q⟩:=u.ex (m:=w+3) sm q.size;clear u;obtain⟨Z,a0⟩:=kab q;have R:w<J.heap.size:=om;have U:w+1<J.heap.size:=om;have Y:w+1+1<J.heap.size:=om;go_wp2;refine bodyPost_ret (v:= .agg #[x.cap,x.next,x.out,.slice D x.list.length I]) (by simp[results,Tryz.results202,go_sem,xaa, *]) rfl ?_
 exact⟨_,rfl,xbf (C0:=z) (D0:=B) x (by repeat'(first|(with_reducible exact p)|(with_reducible refine Xad.setCell ?_ ?_ _)|(with_reducible refine Xad.drew ?_)|(with_reducible refine Xad.drewN ?_ _)|(with_reducible refine Xad.below ?_ (by assumption))|(with_reducible refine Xad.alloc ?_ _)|omega)) om,blw⟩
theorem kbl (x:kah)(j:Value)(w:World)(z:x.doc.size<=BIG)(n:RdS w j x.r.list):
 Calls Tryz.prog 157 #[.agg #[x.id,x.doc,x.r.cap,x.r.next,x.r.out,j]] w (QaB w x):=by
 go_enter Tryz.func157,Tryz.ntmps157
 go_wp2_with fail
 refine(ubi x.r _ _ (n.below blw)).mono ?_;rintro e M ⟨_,rfl,U,q⟩;obtain⟨Y,rfl,u⟩:=Qae U;clear U;have s1:w+3<=M.heap.size:=szl q;obtain⟨I,J,rfl⟩:=u.rd.isSlice;obtain⟨B,D,p,N,Q,R⟩:=u.ex (m:=w+3) sm q.size;clear u;obtain⟨a2,a3⟩:=kab q;have Z:w<M.heap.size:=om;have a0:w+1<M.heap.size:=om;have a1:w+1+1<M.heap.size:=om;go_wp2;refine bodyPost_ret (v:= .agg #[x.id,x.doc,x.r.cap,x.r.next,x.r.out,.slice I x.r.list.length J]) (by simp[results,Tryz.results157,go_sem,xaa, *]) rfl ?_
 exact⟨_,rfl,ka9 (C0:=B) (D0:=D) x z (by repeat'(first|(with_reducible exact p)|(with_reducible refine Xad.setCell ?_ ?_ _)|(with_reducible refine Xad.drew ?_)|(with_reducible refine Xad.drewN ?_ _)|(with_reducible refine Xad.below ?_ (by assumption))|(with_reducible refine Xad.alloc ?_ _)|omega)) om,blw⟩
theorem Xa8:∀j,(sizeOf 182).run Tryz.prog j= .ok 6 j:=fun _=>by kernel_rfl
theorem Kbd:(Tryz.prog.info? 104).map (fun i=>(i.zero,i.size,i.bytes))=some (some (.agg #[zI,ByteArray.empty,zI,zI,false,zN]),6,72):=by kernel_rfl
theorem Xbj (v:Value)(l:List kah)(w:World)(h:RdS w v l):
 Calls Tryz.prog 87 #[v] w (qar w l):=by
 have hl:=fun w1 ty=>h.len Tryz.underlying49 w1 ty
 have hb:=h.le;obtain⟨i0,hi,hz0,hz1,hz2⟩:=info_parts Kbd;go_enter Tryz.func87,Tryz.ntmps87
 go_wp2_with (first|(at_make;refine wpList_make_full _ rfl _ _ 24 rfl w 104 i0 (.agg #[zI,ByteArray.empty,zI,zI,false,zN]) 6 Tryz.underlying24 hi hz0 hz1 .i64 .i64 _ _ l.length rfl rfl rfl rfl ?c1 ?c2 ?c3 ?_))
 case c1=>rw[hz2];omega
 case c2=>unfold maxLen;omega
 case c3=>exact lr _
 intro w1 M I;have HF:Hid (Qar 104 w1 w w l 0):=Qar.start M rfl (zac hb);have HB:Hid (Below w w w1):=(lf _ _).grown I (lr _) (fun _ e=>by cases e)
 clear M I;go_wp2;go_loopw [4] (fun i wr=>∃k:Nat,k<=l.length/\i= .int .i64 k/\Qar 104 wr w w l k/\Below w w wr) (fun i _=>l.length-(intOf i).toNat)
 case atStart=>exact⟨0,lz _,rfl,HF.out,HB.out⟩
 case round=>
  obtain⟨k,hk,rfl,hf,D⟩:=hrel;by_cases z:k<l.length
  ·obtain⟨x,hx⟩:=jaa z;obtain⟨b1,o1,cs,h1,R,h3⟩:=(h.below D).idx Tryz.underlying49 Xa8 k hx;obtain⟨Y,rfl,Q,B⟩:=qan h3;have q0:=R.zero;have q1:=R 1 _ rfl;have q2:=R 2 _ rfl;have q3:=R 3 _ rfl;have q4:=R 4 _ rfl;have q5:=R 5 _ rfl;have HX:=hH hx;clear hx;have N:=hH hf;clear hf;go_wp2_with fail
   refine(kbl x _ _ Q B).mono ?_;rintro e u ⟨_,rfl,ho,J⟩;have HW:=hH ho;obtain⟨U,rfl,_,_r_r_list⟩:=Xa2 ho;obtain⟨j,p,rfl⟩:=_r_r_list.rd.isSlice;have q:=N.out.below J;obtain⟨⟨p0,Z⟩,a5⟩:=q.cells z 0 (by decide)
   obtain⟨⟨p1,a0⟩,a6⟩:=q.cells z 1 (by decide)
   obtain⟨⟨p2,a1⟩,a7⟩:=q.cells z 2 (by decide)
   obtain⟨⟨p3,a2⟩,a8⟩:=q.cells z 3 (by decide)
   obtain⟨⟨p4,a3⟩,a9⟩:=q.cells z 4 (by decide)
   obtain⟨⟨p5,a4⟩,aa⟩:=q.cells z 5 (by decide)
   replace Z:u.cell? ⟨w.heap.size,k*6,none⟩=some p0:=Z;replace a5:u.frozen? ⟨w.heap.size,k*6,none⟩=false:=a5;replace a0:u.cell? ⟨w.heap.size,k*6+1,none⟩=some p1:=a0;replace a6:u.frozen? ⟨w.heap.size,k*6+1,none⟩=false:=a6;replace a1:u.cell? ⟨w.heap.size,k*6+2,none⟩=some p2:=a1;replace a7:u.frozen? ⟨w.heap.size,k*6+2,none⟩=false:=a7;replace a2:u.cell? ⟨w.heap.size,k*6+3,none⟩=some p3:=a2;replace a8:u.frozen? ⟨w.heap.size,k*6+3,none⟩=false:=a8;replace a3:u.cell? ⟨w.heap.size,k*6+4,none⟩=some p4:=a3;replace a9:u.frozen? ⟨w.heap.size,k*6+4,none⟩=false:=a9;replace a4:u.cell? ⟨w.heap.size,k*6+5,none⟩=some p5:=a4;replace aa:u.frozen? ⟨w.heap.size,k*6+5,none⟩=false:=aa;have HS:Hid (Qar 104 ((((((u.setCell ⟨w,k*6,none⟩ x.id).setCell ⟨w,k*6+1,none⟩ x.doc).setCell ⟨w,k*6+2,none⟩ x.r.cap).setCell ⟨w,k*6+3,none⟩ x.r.next).setCell ⟨w,k*6+4,none⟩ x.r.out).setCell ⟨w,k*6+5,none⟩ (.slice j x.r.list.length p)) w w l (k+1)):=by
    have:=N.out.step J HX.out HW.out;show Qar 104 ((((((u.setCell ⟨w,k*6,none⟩ x.id).setCell ⟨w,k*6+1,none⟩ x.doc).setCell ⟨w,k*6+2,none⟩ x.r.cap).setCell ⟨w,k*6+3,none⟩ x.r.next).setCell ⟨w,k*6+4,none⟩ x.r.out).setCell ⟨w,k*6+5,none⟩ (.slice j x.r.list.length p)) w w l (k+1);simpa[World.setCells,GoT.n]using this
   have HBW:Hid (Below w w ((((((u.setCell ⟨w,k*6,none⟩ x.id).setCell ⟨w,k*6+1,none⟩ x.doc).setCell ⟨w,k*6+2,none⟩ x.r.cap).setCell ⟨w,k*6+3,none⟩ x.r.next).setCell ⟨w,k*6+4,none⟩ x.r.out).setCell ⟨w,k*6+5,none⟩ (.slice j x.r.list.length p))):=by
    have h0:=D.size;have h1:Below w w u:=D.trans (J.mono h0);show Below w w ((((((u.setCell ⟨w,k*6,none⟩ x.id).setCell ⟨w,k*6+1,none⟩ x.doc).setCell ⟨w,k*6+2,none⟩ x.r.cap).setCell ⟨w,k*6+3,none⟩ x.r.next).setCell ⟨w,k*6+4,none⟩ x.r.out).setCell ⟨w,k*6+5,none⟩ (.slice j x.r.list.length p));exact(by repeat'(first|(with_reducible exact h1)|(with_reducible refine Below.setCell ?_ ?_ _)|(show w<=w.heap.size;exact lr _)))
   clear HX N q HW ho J D;go_wp2;go_roundw
   case rel=>exact⟨k+1,by omega,by go_num,HS.out,HBW.out⟩
   case measure=>simp[intOf];omega
  ·obtain rfl:k=l.length:=om;have hd:=hf.done;go_wp2;go_ret;exact⟨_,rfl,hd,D⟩
theorem yaY (x:vaf)(n:Value)(p:Value)(w:World)(q:RdS w n x.docs)(u:RdS w p x.subs):
 Calls Tryz.prog 22 #[.agg #[x.shut,n,p,x.last]] w (QaB w x):=by
 go_enter Tryz.func22,Tryz.ntmps22
 go_wp2_with fail
 refine(Zbj _ _ _ (q.below blw)).mono ?_;rintro e J ⟨v1,rfl,j,D⟩;have s1:w+3<=J.heap.size:=szl D;obtain⟨U,Z,rfl⟩:=j.rd.isSlice;obtain⟨M,Q,z,jc1_0,jd1_0,je1_0⟩:=j.ex (m:=w+3) sm D.size;clear j;obtain⟨hc1,hf1⟩:=kab D;have z1_0:w<J.heap.size:=om;have z1_1:w+1<J.heap.size:=om;have z1_2:w+1+1<J.heap.size:=om;go_wp2_with fail
 refine(Xbj _ _ _ (u.below blw)).mono ?_;rintro e w2 ⟨v2,rfl,j,I⟩;have s2:J<=w2.heap.size:=szl I;obtain⟨Y,a0,rfl⟩:=j.rd.isSlice;obtain⟨N,R,B,jc2_0,jd2_0,je2_0⟩:=j.ex (m:=J) sm I.size;clear j;obtain⟨hc2,hf2⟩:=kab I;have z2_0:w<w2.heap.size:=om;have z2_1:w+1<w2.heap.size:=om;have z2_2:w+1+1<w2.heap.size:=om;go_wp2;refine bodyPost_ret (v:= .agg #[x.shut,.slice U x.docs.length Z,.slice Y x.subs.length a0,x.last]) (by simp[results,Tryz.results22,go_sem,xaa, *]) rfl ?_
 exact⟨_,rfl,ua8 (C0:=M) (D0:=Q) (C1:=N) (D1:=R) x (by repeat'(first|(with_reducible exact z)|(with_reducible refine Xad.setCell ?_ ?_ _)|(with_reducible refine Xad.drew ?_)|(with_reducible refine Xad.drewN ?_ _)|(with_reducible refine Xad.below ?_ (by assumption))|(with_reducible refine Xad.alloc ?_ _)|omega)) (by repeat'(first|(with_reducible exact B)|(with_reducible refine Xad.setCell ?_ ?_ _)|(with_reducible refine Xad.drew ?_)|(with_reducible refine Xad.drewN ?_ _)|(with_reducible refine Xad.below ?_ (by assumption))|(with_reducible refine Xad.alloc ?_ _)|omega)) om om om,blw⟩
theorem xbl (x:xah)(a1:Value)(p:Value)(w:World)(I:x.doc.size<=BIG)(h_o:RdS w a1 x.o)(q:RdS w p x.text):
 Calls Tryz.prog 23 #[.agg #[x.kind,x.doc,x.client,x.seq,x.n,a1,p]] w (QaB w x):=by
 go_enter Tryz.func23,Tryz.ntmps23
 go_wp2_with fail
 refine(qa0 _ _ _ (h_o.below blw)).mono ?_;rintro e J ⟨v1,rfl,j,B⟩;have s1:w+3<=J.heap.size:=szl B;obtain⟨U,Z,rfl⟩:=j.rd.isSlice;obtain⟨M,Q,u,jc1_0,jd1_0,je1_0⟩:=j.ex (m:=w+3) sm B.size;clear j;obtain⟨hc1,hf1⟩:=kab B;have z1_0:w<J.heap.size:=om;have z1_1:w+1<J.heap.size:=om;have z1_2:w+1+1<J.heap.size:=om;go_wp2_with fail
 refine(kaX _ _ _ (q.below blw)).mono ?_;rintro e w2 ⟨v2,rfl,j,D⟩;have s2:J<=w2.heap.size:=szl D;obtain⟨Y,a0,rfl⟩:=j.rd.isSlice;obtain⟨N,R,z,jc2_0,jd2_0,je2_0⟩:=j.ex (m:=J) sm D.size;clear j;obtain⟨hc2,hf2⟩:=kab D;have z2_0:w<w2.heap.size:=om;have z2_1:w+1<w2.heap.size:=om;have z2_2:w+1+1<w2.heap.size:=om;go_wp2;refine bodyPost_ret (v:= .agg #[x.kind,x.doc,x.client,x.seq,x.n,.slice U x.o.length Z,.slice Y x.text.length a0]) (by simp[results,Tryz.results23,go_sem,xaa, *]) rfl ?_
 exact⟨_,rfl,vbd (C0:=M) (D0:=Q) (C1:=N) (D1:=R) x I (by repeat'(first|(with_reducible exact u)|(with_reducible refine Xad.setCell ?_ ?_ _)|(with_reducible refine Xad.drew ?_)|(with_reducible refine Xad.drewN ?_ _)|(with_reducible refine Xad.below ?_ (by assumption))|(with_reducible refine Xad.alloc ?_ _)|omega)) (by repeat'(first|(with_reducible exact z)|(with_reducible refine Xad.setCell ?_ ?_ _)|(with_reducible refine Xad.drew ?_)|(with_reducible refine Xad.drewN ?_ _)|(with_reducible refine Xad.below ?_ (by assumption))|(with_reducible refine Xad.alloc ?_ _)|omega)) om om om,blw⟩
theorem Ka2:∀j,(sizeOf 54).run Tryz.prog j= .ok 7 j:=fun _=>by kernel_rfl
theorem Jba:(Tryz.prog.info? 33).map (fun i=>(i.zero,i.size,i.bytes))=some (some (.agg #[zI,ByteArray.empty,zI,zI,zI,zN,zN]),7,96):=by kernel_rfl
theorem zaF (v:Value)(l:List xah)(w:World)(h:RdS w v l):
 Calls Tryz.prog 34 #[v] w (qar w l):=by
 have hl:=fun w1 ty=>h.len Tryz.underlying64 w1 ty
 have hb:=h.le;obtain⟨i0,hi,hz0,hz1,hz2⟩:=info_parts Jba;go_enter Tryz.func34,Tryz.ntmps34
 go_wp2_with (first|(at_make;refine wpList_make_full _ rfl _ _ 28 rfl w 33 i0 (.agg #[zI,ByteArray.empty,zI,zI,zI,zN,zN]) 7 Tryz.underlying28 hi hz0 hz1 .i64 .i64 _ _ l.length rfl rfl rfl rfl ?c1 ?c2 ?c3 ?_))
 case c1=>rw[hz2];omega
 case c2=>unfold maxLen;omega
 case c3=>exact lr _
 intro w1 Q D;have HF:Hid (Qar 33 w1 w w l 0):=Qar.start Q rfl (zac hb);have HB:Hid (Below w w w1):=(lf _ _).grown D (lr _) (fun _ e=>by cases e)
 clear Q D;go_wp2;go_loopw [4] (fun i wr=>∃k:Nat,k<=l.length/\i= .int .i64 k/\Qar 33 wr w w l k/\Below w w wr) (fun i _=>l.length-(intOf i).toNat)
 case atStart=>exact⟨0,lz _,rfl,HF.out,HB.out⟩
 case round=>
  obtain⟨k,hk,rfl,hf,B⟩:=hrel;by_cases z:k<l.length
  ·obtain⟨x,hx⟩:=jaa z;obtain⟨b1,o1,cs,h1,U,h3⟩:=(h.below B).idx Tryz.underlying64 Ka2 k hx;obtain⟨v_o,af,rfl,Y,r_o,N⟩:=xaG h3;have q0:=U.zero;have q1:=U 1 _ rfl;have q2:=U 2 _ rfl;have q3:=U 3 _ rfl;have q4:=U 4 _ rfl;have q5:=U 5 _ rfl;have q6:=U 6 _ rfl;have HX:=hH hx;clear hx;have R:=hH hf;clear hf;go_wp2_with fail
   refine(xbl x _ _ _ Y r_o N).mono ?_;rintro e u ⟨_,rfl,ho,M⟩;have HW:=hH ho;obtain⟨u_o,ae,rfl,_,_r_o,_r_text⟩:=zaX ho;obtain⟨I,J,rfl⟩:=_r_o.rd.isSlice;obtain⟨p,q,rfl⟩:=_r_text.rd.isSlice;have j:=R.out.below M;obtain⟨⟨p0,Z⟩,a6⟩:=j.cells z 0 (by decide)
   obtain⟨⟨p1,a0⟩,a7⟩:=j.cells z 1 (by decide)
   obtain⟨⟨p2,a1⟩,a8⟩:=j.cells z 2 (by decide)
   obtain⟨⟨p3,a2⟩,a9⟩:=j.cells z 3 (by decide)
   obtain⟨⟨p4,a3⟩,aa⟩:=j.cells z 4 (by decide)
   obtain⟨⟨p5,a4⟩,ac⟩:=j.cells z 5 (by decide)
   obtain⟨⟨p6,a5⟩,ad⟩:=j.cells z 6 (by decide)
   replace Z:u.cell? ⟨w.heap.size,k*7,none⟩=some p0:=Z;replace a6:u.frozen? ⟨w.heap.size,k*7,none⟩=false:=a6;replace a0:u.cell? ⟨w.heap.size,k*7+1,none⟩=some p1:=a0;replace a7:u.frozen? ⟨w.heap.size,k*7+1,none⟩=false:=a7;replace a1:u.cell? ⟨w.heap.size,k*7+2,none⟩=some p2:=a1;replace a8:u.frozen? ⟨w.heap.size,k*7+2,none⟩=false:=a8;replace a2:u.cell? ⟨w.heap.size,k*7+3,none⟩=some p3:=a2;replace a9:u.frozen? ⟨w.heap.size,k*7+3,none⟩=false:=a9;replace a3:u.cell? ⟨w.heap.size,k*7+4,none⟩=some p4:=a3;replace aa:u.frozen? ⟨w.heap.size,k*7+4,none⟩=false:=aa;replace a4:u.cell? ⟨w.heap.size,k*7+5,none⟩=some p5:=a4;replace ac:u.frozen? ⟨w.heap.size,k*7+5,none⟩=false:=ac;replace a5:u.cell? ⟨w.heap.size,k*7+6,none⟩=some p6:=a5;replace ad:u.frozen? ⟨w.heap.size,k*7+6,none⟩=false:=ad;have HS:Hid (Qar 33 (((((((u.setCell ⟨w,k*7,none⟩ x.kind).setCell ⟨w,k*7+1,none⟩ x.doc).setCell ⟨w,k*7+2,none⟩ x.client).setCell ⟨w,k*7+3,none⟩ x.seq).setCell ⟨w,k*7+4,none⟩ x.n).setCell ⟨w,k*7+5,none⟩ (.slice I x.o.length J)).setCell ⟨w,k*7+6,none⟩ (.slice p x.text.length q)) w w l (k+1)):=by
    have:=R.out.step M HX.out HW.out;show Qar 33 (((((((u.setCell ⟨w,k*7,none⟩ x.kind).setCell ⟨w,k*7+1,none⟩ x.doc).setCell ⟨w,k*7+2,none⟩ x.client).setCell ⟨w,k*7+3,none⟩ x.seq).setCell ⟨w,k*7+4,none⟩ x.n).setCell ⟨w,k*7+5,none⟩ (.slice I x.o.length J)).setCell ⟨w,k*7+6,none⟩ (.slice p x.text.length q)) w w l (k+1);simpa[World.setCells,GoT.n]using this
   have HBW:Hid (Below w w (((((((u.setCell ⟨w,k*7,none⟩ x.kind).setCell ⟨w,k*7+1,none⟩ x.doc).setCell ⟨w,k*7+2,none⟩ x.client).setCell ⟨w,k*7+3,none⟩ x.seq).setCell ⟨w,k*7+4,none⟩ x.n).setCell ⟨w,k*7+5,none⟩ (.slice I x.o.length J)).setCell ⟨w,k*7+6,none⟩ (.slice p x.text.length q))):=by
    have h0:=B.size;have h1:Below w w u:=B.trans (M.mono h0);show Below w w (((((((u.setCell ⟨w,k*7,none⟩ x.kind).setCell ⟨w,k*7+1,none⟩ x.doc).setCell ⟨w,k*7+2,none⟩ x.client).setCell ⟨w,k*7+3,none⟩ x.seq).setCell ⟨w,k*7+4,none⟩ x.n).setCell ⟨w,k*7+5,none⟩ (.slice I x.o.length J)).setCell ⟨w,k*7+6,none⟩ (.slice p x.text.length q));exact(by repeat'(first|(with_reducible exact h1)|(with_reducible refine Below.setCell ?_ ?_ _)|(show w<=w.heap.size;exact lr _)))
   clear HX R j HW ho M B;go_wp2;go_roundw
   case rel=>exact⟨k+1,by omega,by go_num,HS.out,HBW.out⟩
   case measure=>simp[intOf];omega
  ·obtain rfl:k=l.length:=om;have hd:=hf.done;go_wp2;go_ret;exact⟨_,rfl,hd,B⟩
