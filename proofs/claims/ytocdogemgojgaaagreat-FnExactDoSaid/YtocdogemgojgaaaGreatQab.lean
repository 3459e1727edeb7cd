/- The copies that the laws make. -/
import Derived.Test.YtocdogemgojgaaaGreatQaa
import Derived.Handy
set_option maxHeartbeats 1000000
namespace Go.Proofs.YtocdogemgojgaaaGreat
open Go.RowKit
theorem At.zero {w:World}{b o:Nat}{c:Value}{j:List Value}(h:At w b o (c::j)):w.cell? ⟨b,o,none⟩=some c:=h 0 c rfl
theorem ybg (x:zaa)(j:Value)(w:World)(p:RdS w j x.signs):
 Calls Tryz.prog 107 #[.agg #[x.kind,x.n,j]] w (ZaA w x):=by
 go_enter Tryz.func107,Tryz.ntmps107
 go_wp2_with fail
 refine(XaV _ _ _ (p.below blw)).mono ?_;rintro e M ⟨v1,rfl,z,u⟩;have s1:w+3<=M.heap.size:=szl u;obtain⟨I,J,rfl⟩:=z.rd.isSlice;obtain⟨B,D,q,N,Q,R⟩:=z.ex (m:=w+3) (by simp) u.size
 clear z;obtain⟨a0,a1⟩:=zab u;have U:w<M.heap.size:=om;have Y:w+1<M.heap.size:=om;have Z:w+1+1<M.heap.size:=om;go_wp2;refine bodyPost_ret (v:= .agg #[x.kind,x.n,.slice I x.signs.length J]) (by simp[results,Tryz.results107,go_sem,xaa, *]) rfl ?_
 exact⟨_,rfl,Kbb (C0:=B) (D0:=D) x (by repeat'(first|(with_reducible exact q)|(with_reducible refine uad.setCell ?_ ?_ _)|(with_reducible refine uad.drew ?_)|(with_reducible refine uad.drewN ?_ _)|(with_reducible refine uad.below ?_ (by assumption))|(with_reducible refine uad.alloc ?_ _)|omega)) (by omega),blw⟩
theorem JaY:∀j,(sizeOf 138).run Tryz.prog j= .ok 3 j:=fun _=>by kernel_rfl
theorem qa8:(Tryz.prog.info? 142).map (fun i=>(i.zero,i.size,i.bytes))=some (some (.agg #[zI,zI,zN]),3,40):=by kernel_rfl
theorem ka1 (v:Value)(l:List zaa)(w:World)(h:RdS w v l):
 Calls Tryz.prog 43 #[v] w (zas w l):=by
 have hl:=fun w1 ty=>h.len Tryz.underlying52 w1 ty
 have hb:=h.le;obtain⟨i0,hi,hz0,hz1,hz2⟩:=info_parts qa8;go_enter Tryz.func43,Tryz.ntmps43
 go_wp2_with (first|(at_make;refine wpList_make_full _ rfl _ _ 30 rfl w 142 i0 (.agg #[zI,zI,zN]) 3 Tryz.underlying30 hi hz0 hz1 .i64 .i64 _ _ l.length rfl rfl rfl rfl ?c1 ?c2 ?c3 ?_))
 case c1=>rw[hz2];omega
 case c2=>unfold maxLen;omega
 case c3=>exact lr _
 intro w1 M z;have HF:Hid (Jas 142 w1 w w l 0):=Jas.start M rfl (yac hb);have HB:Hid (Below w w w1):=(lf _ _).grown z (lr _) (fun _ e=>by cases e)
 clear M z;go_wp2;go_loopw [4] (fun i wr=>∃k:Nat,k<=l.length/\i= .int .i64 k/\Jas 142 wr w w l k/\Below w w wr) (fun i _=>l.length-(intOf i).toNat)
 case atStart=>exact⟨0,lz _,rfl,HF.out,HB.out⟩
 case round=>
  obtain⟨k,hk,rfl,hf,u⟩:=hrel;by_cases J:k<l.length
  ·obtain⟨x,hx⟩:=kaa J;obtain⟨b1,o1,cs,h1,h2,h3⟩:=(h.below u).idx Tryz.underlying52 JaY k hx;obtain⟨a2,rfl,B⟩:=qag h3;have q0:=h2.zero;have q1:=h2 1 _ rfl;have q2:=h2 2 _ rfl;have HX:=hH hx;clear hx;have N:=hH hf;clear hf;go_wp2_with fail
   refine(ybg x _ _ B).mono ?_;rintro e D ⟨_,rfl,ho,I⟩;have HW:=hH ho;obtain⟨a1,rfl,_r_signs⟩:=XaW ho;obtain⟨j,p,rfl⟩:=_r_signs.rd.isSlice;have q:=N.out.below I;obtain⟨⟨p0,Q⟩,Y⟩:=q.cells J 0 (by decide)
   obtain⟨⟨p1,R⟩,Z⟩:=q.cells J 1 (by decide)
   obtain⟨⟨p2,U⟩,a0⟩:=q.cells J 2 (by decide)
   replace Q:D.cell? ⟨w.heap.size,k*3,none⟩=some p0:=Q;replace Y:D.frozen? ⟨w.heap.size,k*3,none⟩=false:=Y;replace R:D.cell? ⟨w.heap.size,k*3+1,none⟩=some p1:=R;replace Z:D.frozen? ⟨w.heap.size,k*3+1,none⟩=false:=Z;replace U:D.cell? ⟨w.heap.size,k*3+2,none⟩=some p2:=U;replace a0:D.frozen? ⟨w.heap.size,k*3+2,none⟩=false:=a0;have HS:Hid (Jas 142 (((D.setCell ⟨w,k*3,none⟩ x.kind).setCell ⟨w,k*3+1,none⟩ x.n).setCell ⟨w,k*3+2,none⟩ (.slice j x.signs.length p)) w w l (k+1)):=by
    have:=N.out.step I HX.out HW.out;show Jas 142 (((D.setCell ⟨w,k*3,none⟩ x.kind).setCell ⟨w,k*3+1,none⟩ x.n).setCell ⟨w,k*3+2,none⟩ (.slice j x.signs.length p)) w w l (k+1);simpa[World.setCells,GoT.n]using this
   have HBW:Hid (Below w w (((D.setCell ⟨w,k*3,none⟩ x.kind).setCell ⟨w,k*3+1,none⟩ x.n).setCell ⟨w,k*3+2,none⟩ (.slice j x.signs.length p))):=by
    have h0:=u.size;have h1:Below w w D:=u.trans (I.mono h0);show Below w w (((D.setCell ⟨w,k*3,none⟩ x.kind).setCell ⟨w,k*3+1,none⟩ x.n).setCell ⟨w,k*3+2,none⟩ (.slice j x.signs.length p));exact(by repeat'(first|(with_reducible exact h1)|(with_reducible refine Below.setCell ?_ ?_ _)|(show w<=w.heap.size;exact lr _)))
   clear HX N q HW ho I u;go_wp2;go_roundw
   case rel=>exact⟨k+1,by omega,by go_num,HS.out,HBW.out⟩
   case measure=>simp[intOf];omega
  ·obtain rfl:k=l.length:=om;have hd:=hf.done;go_wp2;go_ret;exact⟨_,rfl,hd,u⟩
theorem ubb (x:Kaa)(D:Value)(w:World)(J:RdS w D x.o):
 Calls Tryz.prog 227 #[.agg #[x.client,x.seq,D]] w (ZaA w x):=by
 go_enter Tryz.func227,Tryz.ntmps227
 go_wp2_with fail
 refine(ka1 _ _ _ (J.below blw)).mono ?_;rintro e I ⟨v1,rfl,p,n⟩;have s1:w+3<=I.heap.size:=szl n;obtain⟨z,B,rfl⟩:=p.rd.isSlice;obtain⟨q,u,j,M,N,Q⟩:=p.ex (m:=w+3) (by simp) n.size
 clear p;obtain⟨Z,a0⟩:=zab n;have R:w<I.heap.size:=om;have U:w+1<I.heap.size:=om;have Y:w+1+1<I.heap.size:=om;go_wp2;refine bodyPost_ret (v:= .agg #[x.client,x.seq,.slice z x.o.length B]) (by simp[results,Tryz.results227,go_sem,xaa, *]) rfl ?_
 exact⟨_,rfl,uba (C0:=q) (D0:=u) x (by repeat'(first|(with_reducible exact j)|(with_reducible refine uad.setCell ?_ ?_ _)|(with_reducible refine uad.drew ?_)|(with_reducible refine uad.drewN ?_ _)|(with_reducible refine uad.below ?_ (by assumption))|(with_reducible refine uad.alloc ?_ _)|omega)) (by omega),blw⟩
theorem vaT:∀j,(sizeOf 227).run Tryz.prog j= .ok 3 j:=fun _=>by kernel_rfl
theorem xan:(Tryz.prog.info? 118).map (fun i=>(i.zero,i.size,i.bytes))=some (some (.agg #[zI,zI,zN]),3,40):=by kernel_rfl
theorem vaS (v:Value)(l:List Kaa)(w:World)(h:RdS w v l):
 Calls Tryz.prog 200 #[v] w (zas w l):=by
 have hl:=fun w1 ty=>h.len Tryz.underlying174 w1 ty
 have hb:=h.le;obtain⟨i0,hi,hz0,hz1,hz2⟩:=info_parts xan;go_enter Tryz.func200,Tryz.ntmps200
 go_wp2_with (first|(at_make;refine wpList_make_full _ rfl _ _ 34 rfl w 118 i0 (.agg #[zI,zI,zN]) 3 Tryz.underlying34 hi hz0 hz1 .i64 .i64 _ _ l.length rfl rfl rfl rfl ?c1 ?c2 ?c3 ?_))
 case c1=>rw[hz2];omega
 case c2=>unfold maxLen;omega
 case c3=>exact lr _
 intro w1 J q;have HF:Hid (Jas 118 w1 w w l 0):=Jas.start J rfl (yac hb);have HB:Hid (Below w w w1):=(lf _ _).grown q (lr _) (fun _ e=>by cases e)
 clear J q;go_wp2;go_loopw [4] (fun i wr=>∃k:Nat,k<=l.length/\i= .int .i64 k/\Jas 118 wr w w l k/\Below w w wr) (fun i _=>l.length-(intOf i).toNat)
 case atStart=>exact⟨0,lz _,rfl,HF.out,HB.out⟩
 case round=>
  obtain⟨k,hk,rfl,hf,p⟩:=hrel;by_cases I:k<l.length
  ·obtain⟨x,hx⟩:=kaa I;obtain⟨b1,o1,cs,h1,h2,h3⟩:=(h.below p).idx Tryz.underlying174 vaT k hx;obtain⟨v_o,rfl,r_o⟩:=vaf h3;have q0:=h2.zero;have q1:=h2 1 _ rfl;have q2:=h2 2 _ rfl;have HX:=hH hx;clear hx;have M:=hH hf;clear hf;go_wp2_with fail
   refine(ubb x _ _ r_o).mono ?_;rintro e u ⟨_,rfl,ho,D⟩;have HW:=hH ho;obtain⟨u_o,rfl,_r_o⟩:=Jaz ho;obtain⟨z,B,rfl⟩:=_r_o.rd.isSlice;have j:=M.out.below D;obtain⟨⟨p0,N⟩,U⟩:=j.cells I 0 (by decide)
   obtain⟨⟨p1,Q⟩,Y⟩:=j.cells I 1 (by decide)
   obtain⟨⟨p2,R⟩,Z⟩:=j.cells I 2 (by decide)
   replace N:u.cell? ⟨w.heap.size,k*3,none⟩=some p0:=N;replace U:u.frozen? ⟨w.heap.size,k*3,none⟩=false:=U;replace Q:u.cell? ⟨w.heap.size,k*3+1,none⟩=some p1:=Q;replace Y:u.frozen? ⟨w.heap.size,k*3+1,none⟩=false:=Y;replace R:u.cell? ⟨w.heap.size,k*3+2,none⟩=some p2:=R;replace Z:u.frozen? ⟨w.heap.size,k*3+2,none⟩=false:=Z;have HS:Hid (Jas 118 (((u.setCell ⟨w,k*3,none⟩ x.client).setCell ⟨w,k*3+1,none⟩ x.seq).setCell ⟨w,k*3+2,none⟩ (.slice z x.o.length B)) w w l (k+1)):=by
    have:=M.out.step D HX.out HW.out;show Jas 118 (((u.setCell ⟨w,k*3,none⟩ x.client).setCell ⟨w,k*3+1,none⟩ x.seq).setCell ⟨w,k*3+2,none⟩ (.slice z x.o.length B)) w w l (k+1);simpa[World.setCells,GoT.n]using this
   have HBW:Hid (Below w w (((u.setCell ⟨w,k*3,none⟩ x.client).setCell ⟨w,k*3+1,none⟩ x.seq).setCell ⟨w,k*3+2,none⟩ (.slice z x.o.length B))):=by
    have h0:=p.size;have h1:Below w w u:=p.trans (D.mono h0);show Below w w (((u.setCell ⟨w,k*3,none⟩ x.client).setCell ⟨w,k*3+1,none⟩ x.seq).setCell ⟨w,k*3+2,none⟩ (.slice z x.o.length B));exact(by repeat'(first|(with_reducible exact h1)|(with_reducible refine Below.setCell ?_ ?_ _)|(show w<=w.heap.size;exact lr _)))
   clear HX M j HW ho D p;go_wp2;go_roundw
   case rel=>exact⟨k+1,by omega,by go_num,HS.out,HBW.out⟩
   case measure=>simp[intOf];omega
  ·obtain rfl:k=l.length:=om;have hd:=hf.done;go_wp2;go_ret;exact⟨_,rfl,hd,p⟩
theorem kbg (x:Jab)(w:World):
 Calls Tryz.prog 228 #[.agg #[x.client,x.seq,x.rev]] w (ZaA w x):=by
 go_enter Tryz.func228,Tryz.ntmps228
 go_wp2;go_returns
 exact⟨_,rfl,Jbc x,blw⟩
theorem Jbd:∀j,(sizeOf 230).run Tryz.prog j= .ok 3 j:=fun _=>by kernel_rfl
theorem vba:(Tryz.prog.info? 167).map (fun i=>(i.zero,i.size,i.bytes))=some (some (.agg #[zI,zI,zI]),3,24):=by kernel_rfl
theorem Xbd (v:Value)(l:List Jab)(w:World)(h:RdS w v l):
 Calls Tryz.prog 201 #[v] w (zas w l):=by
 have hl:=fun Y ty=>h.len Tryz.underlying175 Y ty
 have hb:=h.le;obtain⟨i0,hi,hz0,hz1,hz2⟩:=info_parts vba;go_enter Tryz.func201,Tryz.ntmps201
 go_wp2_with (first|(at_make;refine wpList_make_full _ rfl _ _ 97 rfl w 167 i0 (.agg #[zI,zI,zI]) 3 Tryz.underlying97 hi hz0 hz1 .i64 .i64 _ _ l.length rfl rfl rfl rfl ?c1 ?c2 ?c3 ?_))
 case c1=>rw[hz2];omega
 case c2=>unfold maxLen;omega
 case c3=>exact lr _
 intro Y D q;have HF:Hid (Jas 167 Y w w l 0):=Jas.start D rfl (yac hb);have HB:Hid (Below w w Y):=(lf _ _).grown q (lr _) (fun _ e=>by cases e)
 clear D q;go_wp2;go_loopw [4] (fun i wr=>∃k:Nat,k<=l.length/\i= .int .i64 k/\Jas 167 wr w w l k/\Below w w wr) (fun i _=>l.length-(intOf i).toNat)
 case atStart=>exact⟨0,lz _,rfl,HF.out,HB.out⟩
 case round=>
  obtain⟨k,hk,rfl,hf,p⟩:=hrel;by_cases B:k<l.length
  ·obtain⟨x,hx⟩:=kaa B;obtain⟨b1,o1,cs,h1,h2,h3⟩:=(h.below p).idx Tryz.underlying175 Jbd k hx;obtain rfl:=Jai h3;have q0:=h2.zero;have q1:=h2 1 _ rfl;have q2:=h2 2 _ rfl;have HX:=hH hx;clear hx;have I:=hH hf;clear hf;go_wp2_with fail
   refine(kbg x _).mono ?_;rintro e u ⟨_,rfl,ho,z⟩;have HW:=hH ho;obtain rfl:=Jai ho.rd;have j:=I.out.below z;obtain⟨⟨p0,J⟩,Q⟩:=j.cells B 0 (by decide)
   obtain⟨⟨p1,M⟩,R⟩:=j.cells B 1 (by decide)
   obtain⟨⟨p2,N⟩,U⟩:=j.cells B 2 (by decide)
   replace J:u.cell? ⟨w.heap.size,k*3,none⟩=some p0:=J;replace Q:u.frozen? ⟨w.heap.size,k*3,none⟩=false:=Q;replace M:u.cell? ⟨w.heap.size,k*3+1,none⟩=some p1:=M;replace R:u.frozen? ⟨w.heap.size,k*3+1,none⟩=false:=R;replace N:u.cell? ⟨w.heap.size,k*3+2,none⟩=some p2:=N;replace U:u.frozen? ⟨w.heap.size,k*3+2,none⟩=false:=U;have HS:Hid (Jas 167 (((u.setCell ⟨w,k*3,none⟩ x.client).setCell ⟨w,k*3+1,none⟩ x.seq).setCell ⟨w,k*3+2,none⟩ x.rev) w w l (k+1)):=by
    have:=I.out.step z HX.out HW.out;show Jas 167 (((u.setCell ⟨w,k*3,none⟩ x.client).setCell ⟨w,k*3+1,none⟩ x.seq).setCell ⟨w,k*3+2,none⟩ x.rev) w w l (k+1);simpa[World.setCells,GoT.n]using this
   have Z:Hid (Below w w (((u.setCell ⟨w,k*3,none⟩ x.client).setCell ⟨w,k*3+1,none⟩ x.seq).setCell ⟨w,k*3+2,none⟩ x.rev)):=by
    have h0:=p.size;have h1:Below w w u:=p.trans (z.mono h0);show Below w w (((u.setCell ⟨w,k*3,none⟩ x.client).setCell ⟨w,k*3+1,none⟩ x.seq).setCell ⟨w,k*3+2,none⟩ x.rev);exact(by repeat'(first|(with_reducible exact h1)|(with_reducible refine Below.setCell ?_ ?_ _)|(show w<=w.heap.size;exact lr _)))
   clear HX I j HW ho z p;go_wp2;go_roundw
   case rel=>exact⟨k+1,by omega,by go_num,HS.out,Z.out⟩
   case measure=>simp[intOf];omega
  ·obtain rfl:k=l.length:=om;have hd:=hf.done;go_wp2;go_ret;exact⟨_,rfl,hd,p⟩
theorem zbi (x:Jac)(q:Value)(n:Value)(p:Value)(w:World)(D:x.name.size<=BIG)(B:RdS w q x.text)(u:RdS w n x.list)(z:RdS w p x.seen):
 Calls Tryz.prog 156 #[.agg #[x.name,x.from_,q,n,p]] w (ZaA w x):=by
 go_enter Tryz.func156,Tryz.ntmps156
 go_wp2_with fail
 refine(XaV _ _ _ (B.below blw)).mono ?_;rintro e U ⟨v1,rfl,j,N⟩;have s1:w+3<=U.heap.size:=szl N;obtain⟨a5,a8,rfl⟩:=j.rd.isSlice;obtain⟨Z,a2,I,jc1_0,jd1_0,je1_0⟩:=j.ex (m:=w+3) (by simp) N.size
 clear j;obtain⟨hc1,hf1⟩:=zab N;have z1_0:w<U.heap.size:=om;have z1_1:w+1<U.heap.size:=om;have z1_2:w+1+1<U.heap.size:=om;go_wp2_with fail
 refine(vaS _ _ _ (u.below blw)).mono ?_;rintro e Y ⟨v2,rfl,j,Q⟩;have s2:U<=Y.heap.size:=szl Q;obtain⟨a6,a9,rfl⟩:=j.rd.isSlice;obtain⟨a0,a3,J,jc2_0,jd2_0,je2_0⟩:=j.ex (m:=U) (by simp) Q.size
 clear j;obtain⟨hc2,hf2⟩:=zab Q;have z2_0:w<Y.heap.size:=om;have z2_1:w+1<Y.heap.size:=om;have z2_2:w+1+1<Y.heap.size:=om;go_wp2_with fail
 refine(Xbd _ _ _ (z.below blw)).mono ?_;rintro e w3 ⟨v3,rfl,j,R⟩;have s3:Y<=w3.heap.size:=szl R;obtain⟨a7,aa,rfl⟩:=j.rd.isSlice;obtain⟨a1,a4,M,jc3_0,jd3_0,je3_0⟩:=j.ex (m:=Y) (by simp) R.size
 clear j;obtain⟨hc3,hf3⟩:=zab R;have z3_0:w<w3.heap.size:=om;have z3_1:w+1<w3.heap.size:=om;have z3_2:w+1+1<w3.heap.size:=om;go_wp2;refine bodyPost_ret (v:= .agg #[x.name,x.from_,.slice a5 x.text.length a8,.slice a6 x.list.length a9,.slice a7 x.seen.length aa]) (by simp[results,Tryz.results156,go_sem,xaa, *]) rfl ?_
 exact⟨_,rfl,jaX (C0:=Z) (D0:=a2) (C1:=a0) (D1:=a3) (C2:=a1) (D2:=a4) x D (by repeat'(first|(with_reducible exact I)|(with_reducible refine uad.setCell ?_ ?_ _)|(with_reducible refine uad.drew ?_)|(with_reducible refine uad.drewN ?_ _)|(with_reducible refine uad.below ?_ (by assumption))|(with_reducible refine uad.alloc ?_ _)|omega)) (by repeat'(first|(with_reducible exact J)|(with_reducible refine uad.setCell ?_ ?_ _)|(with_reducible refine uad.drew ?_)|(with_reducible refine uad.drewN ?_ _)|(with_reducible refine uad.below ?_ (by assumption))|(with_reducible refine uad.alloc ?_ _)|omega)) (by repeat'(first|(with_reducible exact M)|(with_reducible refine uad.setCell ?_ ?_ _)|(with_reducible refine uad.drew ?_)|(with_reducible refine uad.drewN ?_ _)|(with_reducible refine uad.below ?_ (by assumption))|(with_reducible refine uad.alloc ?_ _)|omega)) (by omega) (by omega) (by omega) (by omega) (by omega) (by omega),blw⟩
theorem Ka4:∀j,(sizeOf 177).run Tryz.prog j= .ok 5 j:=fun _=>by kernel_rfl
theorem jbb:(Tryz.prog.info? 99).map (fun i=>(i.zero,i.size,i.bytes))=some (some (.agg #[ByteArray.empty,zI,zN,zN,zN]),5,96):=by kernel_rfl
theorem ybh (v:Value)(l:List Jac)(w:World)(h:RdS w v l):
 Calls Tryz.prog 86 #[v] w (zas w l):=by
 have hl:=fun w1 ty=>h.len Tryz.underlying48 w1 ty
 have hb:=h.le;obtain⟨i0,hi,hz0,hz1,hz2⟩:=info_parts jbb;go_enter Tryz.func86,Tryz.ntmps86
 go_wp2_with (first|(at_make;refine wpList_make_full _ rfl _ _ 23 rfl w 99 i0 (.agg #[ByteArray.empty,zI,zN,zN,zN]) 5 Tryz.underlying23 hi hz0 hz1 .i64 .i64 _ _ l.length rfl rfl rfl rfl ?c1 ?c2 ?c3 ?_))
 case c1=>rw[hz2];omega
 case c2=>unfold maxLen;omega
 case c3=>exact lr _
 intro w1 a0 N;have HF:Hid (Jas 99 w1 w w l 0):=Jas.start a0 rfl (yac hb);have HB:Hid (Below w w w1):=(lf _ _).grown N (lr _) (fun _ e=>by cases e)
 clear a0 N;go_wp2;go_loopw [4] (fun i wr=>∃k:Nat,k<=l.length/\i= .int .i64 k/\Jas 99 wr w w l k/\Below w w wr) (fun i _=>l.length-(intOf i).toNat)
 case atStart=>exact⟨0,lz _,rfl,HF.out,HB.out⟩
 case round=>
  obtain⟨k,hk,rfl,hf,M⟩:=hrel;by_cases J:k<l.length
  ·obtain⟨x,hx⟩:=kaa J;obtain⟨b1,o1,cs,h1,h2,h3⟩:=(h.below M).idx Tryz.underlying48 Ka4 k hx;obtain⟨v_text,v_list,v_seen,rfl,R,Z,U,Y⟩:=Kah h3;have q0:=h2.zero;have q1:=h2 1 _ rfl;have q2:=h2 2 _ rfl;have q3:=h2 3 _ rfl;have q4:=h2 4 _ rfl;have HX:=hH hx;clear hx;have a1:=hH hf;clear hf;go_wp2_with fail
   refine(zbi x _ _ _ _ R Z U Y).mono ?_;rintro e I ⟨_,rfl,ho,Q⟩;have HW:=hH ho;obtain⟨u_text,u_list,u_seen,rfl,_,_r_text,_r_list,_r_seen⟩:=XaY ho;obtain⟨q,B,rfl⟩:=_r_text.rd.isSlice;obtain⟨j,u,rfl⟩:=_r_list.rd.isSlice;obtain⟨p,z,rfl⟩:=_r_seen.rd.isSlice;have D:=a1.out.below Q;obtain⟨⟨p0,hp0⟩,hq0⟩:=D.cells J 0 (by decide)
   obtain⟨⟨p1,hp1⟩,hq1⟩:=D.cells J 1 (by decide)
   obtain⟨⟨p2,hp2⟩,hq2⟩:=D.cells J 2 (by decide)
   obtain⟨⟨p3,hp3⟩,hq3⟩:=D.cells J 3 (by decide)
   obtain⟨⟨p4,hp4⟩,hq4⟩:=D.cells J 4 (by decide)
   replace hp0:I.cell? ⟨w.heap.size,k*5,none⟩=some p0:=hp0;replace hq0:I.frozen? ⟨w.heap.size,k*5,none⟩=false:=hq0;replace hp1:I.cell? ⟨w.heap.size,k*5+1,none⟩=some p1:=hp1;replace hq1:I.frozen? ⟨w.heap.size,k*5+1,none⟩=false:=hq1;replace hp2:I.cell? ⟨w.heap.size,k*5+2,none⟩=some p2:=hp2;replace hq2:I.frozen? ⟨w.heap.size,k*5+2,none⟩=false:=hq2;replace hp3:I.cell? ⟨w.heap.size,k*5+3,none⟩=some p3:=hp3;replace hq3:I.frozen? ⟨w.heap.size,k*5+3,none⟩=false:=hq3;replace hp4:I.cell? ⟨w.heap.size,k*5+4,none⟩=some p4:=hp4;replace hq4:I.frozen? ⟨w.heap.size,k*5+4,none⟩=false:=hq4;have HS:Hid (Jas 99 (((((I.setCell ⟨w,k*5,none⟩ x.name).setCell ⟨w,k*5+1,none⟩ x.from_).setCell ⟨w,k*5+2,none⟩ (.slice q x.text.length B)).setCell ⟨w,k*5+3,none⟩ (.slice j x.list.length u)).setCell ⟨w,k*5+4,none⟩ (.slice p x.seen.length z)) w w l (k+1)):=by
    have:=a1.out.step Q HX.out HW.out;show Jas 99 (((((I.setCell ⟨w,k*5,none⟩ x.name).setCell ⟨w,k*5+1,none⟩ x.from_).setCell ⟨w,k*5+2,none⟩ (.slice q x.text.length B)).setCell ⟨w,k*5+3,none⟩ (.slice j x.list.length u)).setCell ⟨w,k*5+4,none⟩ (.slice p x.seen.length z)) w w l (k+1);simpa[World.setCells,GoT.n]using this
   have HBW:Hid (Below w w (((((I.setCell ⟨w,k*5,none⟩ x.name).setCell ⟨w,k*5+1,none⟩ x.from_).setCell ⟨w,k*5+2,none⟩ (.slice q x.text.length B)).setCell ⟨w,k*5+3,none⟩ (.slice j x.list.length u)).setCell ⟨w,k*5+4,none⟩ (.slice p x.seen.length z))):=by
    have h0:=M.size;have h1:Below w w I:=M.trans (Q.mono h0);show Below w w (((((I.setCell ⟨w,k*5,none⟩ x.name).setCell ⟨w,k*5+1,none⟩ x.from_).setCell ⟨w,k*5+2,none⟩ (.slice q x.text.length B)).setCell ⟨w,k*5+3,none⟩ (.slice j x.list.length u)).setCell ⟨w,k*5+4,none⟩ (.slice p x.seen.length z));exact(by repeat'(first|(with_reducible exact h1)|(with_reducible refine Below.setCell ?_ ?_ _)|(show w<=w.heap.size;exact lr _)))
   clear HX a1 D HW ho Q M;go_wp2;go_roundw
   case rel=>exact⟨k+1,by omega,by go_num,HS.out,HBW.out⟩
   case measure=>simp[intOf];omega
  ·obtain rfl:k=l.length:=om;have hd:=hf.done;go_wp2;go_ret;exact⟨_,rfl,hd,M⟩
theorem Qbh (x:jac)(j:Value)(w:World)(n:RdS w j x.list):
 Calls Tryz.prog 202 #[.agg #[x.cap,x.next,x.out,j]] w (ZaA w x):=by
 go_enter Tryz.func202,Tryz.ntmps202
 go_wp2_with fail
 refine(vaS _ _ _ (n.below blw)).mono ?_;rintro e J ⟨v1,rfl,u,q⟩;have s1:w+3<=J.heap.size:=szl q;obtain⟨D,I,rfl⟩:=u.rd.isSlice;obtain⟨z,B,p,M,N,Q⟩:=u.ex (m:=w+3) (by simp) q.size
 clear u;obtain⟨Z,a0⟩:=zab q;have R:w<J.heap.size:=om;have U:w+1<J.heap.size:=om;have Y:w+1+1<J.heap.size:=om;go_wp2;refine bodyPost_ret (v:= .agg #[x.cap,x.next,x.out,.slice D x.list.length I]) (by simp[results,Tryz.results202,go_sem,xaa, *]) rfl ?_
 exact⟨_,rfl,vbd (C0:=z) (D0:=B) x (by repeat'(first|(with_reducible exact p)|(with_reducible refine uad.setCell ?_ ?_ _)|(with_reducible refine uad.drew ?_)|(with_reducible refine uad.drewN ?_ _)|(with_reducible refine uad.below ?_ (by assumption))|(with_reducible refine uad.alloc ?_ _)|omega)) (by omega),blw⟩
theorem Zbi (x:xah)(j:Value)(w:World)(z:x.doc.size<=BIG)(n:RdS w j x.r.list):
 Calls Tryz.prog 157 #[.agg #[x.id,x.doc,x.r.cap,x.r.next,x.r.out,j]] w (ZaA w x):=by
 go_enter Tryz.func157,Tryz.ntmps157
 go_wp2_with fail
 refine(Qbh x.r _ _ (n.below blw)).mono ?_;rintro e M ⟨_,rfl,U,q⟩;obtain⟨Y,rfl,u⟩:=qae U;clear U;have s1:w+3<=M.heap.size:=szl q;obtain⟨I,J,rfl⟩:=u.rd.isSlice;obtain⟨B,D,p,N,Q,R⟩:=u.ex (m:=w+3) (by simp) q.size
 clear u;obtain⟨a2,a3⟩:=zab q;have Z:w<M.heap.size:=om;have a0:w+1<M.heap.size:=om;have a1:w+1+1<M.heap.size:=om;go_wp2;refine bodyPost_ret (v:= .agg #[x.id,x.doc,x.r.cap,x.r.next,x.r.out,.slice I x.r.list.length J]) (by simp[results,Tryz.results157,go_sem,xaa, *]) rfl ?_
 exact⟨_,rfl,Xa7 (C0:=B) (D0:=D) x z (by repeat'(first|(with_reducible exact p)|(with_reducible refine uad.setCell ?_ ?_ _)|(with_reducible refine uad.drew ?_)|(with_reducible refine uad.drewN ?_ _)|(with_reducible refine uad.below ?_ (by assumption))|(with_reducible refine uad.alloc ?_ _)|omega)) (by omega),blw⟩
theorem va5:∀j,(sizeOf 182).run Tryz.prog j= .ok 6 j:=fun _=>by kernel_rfl
theorem Jba:(Tryz.prog.info? 104).map (fun i=>(i.zero,i.size,i.bytes))=some (some (.agg #[zI,ByteArray.empty,zI,zI,false,zN]),6,72):=by kernel_rfl
theorem Kbh (v:Value)(l:List xah)(w:World)(h:RdS w v l):
 Calls Tryz.prog 87 #[v] w (zas w l):=by
 have hl:=fun w1 ty=>h.len Tryz.underlying49 w1 ty
 have hb:=h.le;obtain⟨i0,hi,hz0,hz1,hz2⟩:=info_parts Jba;go_enter Tryz.func87,Tryz.ntmps87
 go_wp2_with (first|(at_make;refine wpList_make_full _ rfl _ _ 24 rfl w 104 i0 (.agg #[zI,ByteArray.empty,zI,zI,false,zN]) 6 Tryz.underlying24 hi hz0 hz1 .i64 .i64 _ _ l.length rfl rfl rfl rfl ?c1 ?c2 ?c3 ?_))
 case c1=>rw[hz2];omega
 case c2=>unfold maxLen;omega
 case c3=>exact lr _
 intro w1 M I;have HF:Hid (Jas 104 w1 w w l 0):=Jas.start M rfl (yac hb);have HB:Hid (Below w w w1):=(lf _ _).grown I (lr _) (fun _ e=>by cases e)
 clear M I;go_wp2;go_loopw [4] (fun i wr=>∃k:Nat,k<=l.length/\i= .int .i64 k/\Jas 104 wr w w l k/\Below w w wr) (fun i _=>l.length-(intOf i).toNat)
 case atStart=>exact⟨0,lz _,rfl,HF.out,HB.out⟩
 case round=>
  obtain⟨k,hk,rfl,hf,D⟩:=hrel;by_cases z:k<l.length
  ·obtain⟨x,hx⟩:=kaa z;obtain⟨b1,o1,cs,h1,R,h3⟩:=(h.below D).idx Tryz.underlying49 va5 k hx;obtain⟨Y,rfl,Q,B⟩:=Xam h3;have q0:=R.zero;have q1:=R 1 _ rfl;have q2:=R 2 _ rfl;have q3:=R 3 _ rfl;have q4:=R 4 _ rfl;have q5:=R 5 _ rfl;have HX:=hH hx;clear hx;have N:=hH hf;clear hf;go_wp2_with fail
   refine(Zbi x _ _ Q B).mono ?_;rintro e u ⟨_,rfl,ho,J⟩;have HW:=hH ho;obtain⟨U,rfl,_,_r_r_list⟩:=yaZ ho;obtain⟨j,p,rfl⟩:=_r_r_list.rd.isSlice;have q:=N.out.below J;obtain⟨⟨p0,Z⟩,a5⟩:=q.cells z 0 (by decide)
   obtain⟨⟨p1,a0⟩,a6⟩:=q.cells z 1 (by decide)
   obtain⟨⟨p2,a1⟩,a7⟩:=q.cells z 2 (by decide)
   obtain⟨⟨p3,a2⟩,a8⟩:=q.cells z 3 (by decide)
   obtain⟨⟨p4,a3⟩,a9⟩:=q.cells z 4 (by decide)
   obtain⟨⟨p5,a4⟩,aa⟩:=q.cells z 5 (by decide)
   replace Z:u.cell? ⟨w.heap.size,k*6,none⟩=some p0:=Z;replace a5:u.frozen? ⟨w.heap.size,k*6,none⟩=false:=a5;replace a0:u.cell? ⟨w.heap.size,k*6+1,none⟩=some p1:=a0;replace a6:u.frozen? ⟨w.heap.size,k*6+1,none⟩=false:=a6;replace a1:u.cell? ⟨w.heap.size,k*6+2,none⟩=some p2:=a1;replace a7:u.frozen? ⟨w.heap.size,k*6+2,none⟩=false:=a7;replace a2:u.cell? ⟨w.heap.size,k*6+3,none⟩=some p3:=a2;replace a8:u.frozen? ⟨w.heap.size,k*6+3,none⟩=false:=a8;replace a3:u.cell? ⟨w.heap.size,k*6+4,none⟩=some p4:=a3;replace a9:u.frozen? ⟨w.heap.size,k*6+4,none⟩=false:=a9;replace a4:u.cell? ⟨w.heap.size,k*6+5,none⟩=some p5:=a4;replace aa:u.frozen? ⟨w.heap.size,k*6+5,none⟩=false:=aa;have HS:Hid (Jas 104 ((((((u.setCell ⟨w,k*6,none⟩ x.id).setCell ⟨w,k*6+1,none⟩ x.doc).setCell ⟨w,k*6+2,none⟩ x.r.cap).setCell ⟨w,k*6+3,none⟩ x.r.next).setCell ⟨w,k*6+4,none⟩ x.r.out).setCell ⟨w,k*6+5,none⟩ (.slice j x.r.list.length p)) w w l (k+1)):=by
    have:=N.out.step J HX.out HW.out;show Jas 104 ((((((u.setCell ⟨w,k*6,none⟩ x.id).setCell ⟨w,k*6+1,none⟩ x.doc).setCell ⟨w,k*6+2,none⟩ x.r.cap).setCell ⟨w,k*6+3,none⟩ x.r.next).setCell ⟨w,k*6+4,none⟩ x.r.out).setCell ⟨w,k*6+5,none⟩ (.slice j x.r.list.length p)) w w l (k+1);simpa[World.setCells,GoT.n]using this
   have HBW:Hid (Below w w ((((((u.setCell ⟨w,k*6,none⟩ x.id).setCell ⟨w,k*6+1,none⟩ x.doc).setCell ⟨w,k*6+2,none⟩ x.r.cap).setCell ⟨w,k*6+3,none⟩ x.r.next).setCell ⟨w,k*6+4,none⟩ x.r.out).setCell ⟨w,k*6+5,none⟩ (.slice j x.r.list.length p))):=by
    have h0:=D.size;have h1:Below w w u:=D.trans (J.mono h0);show Below w w ((((((u.setCell ⟨w,k*6,none⟩ x.id).setCell ⟨w,k*6+1,none⟩ x.doc).setCell ⟨w,k*6+2,none⟩ x.r.cap).setCell ⟨w,k*6+3,none⟩ x.r.next).setCell ⟨w,k*6+4,none⟩ x.r.out).setCell ⟨w,k*6+5,none⟩ (.slice j x.r.list.length p));exact(by repeat'(first|(with_reducible exact h1)|(with_reducible refine Below.setCell ?_ ?_ _)|(show w<=w.heap.size;exact lr _)))
   clear HX N q HW ho J D;go_wp2;go_roundw
   case rel=>exact⟨k+1,by omega,by go_num,HS.out,HBW.out⟩
   case measure=>simp[intOf];omega
  ·obtain rfl:k=l.length:=om;have hd:=hf.done;go_wp2;go_ret;exact⟨_,rfl,hd,D⟩
theorem qaV (x:yag)(n:Value)(p:Value)(w:World)(q:RdS w n x.docs)(u:RdS w p x.subs):
 Calls Tryz.prog 22 #[.agg #[x.shut,n,p,x.last]] w (ZaA w x):=by
 go_enter Tryz.func22,Tryz.ntmps22
 go_wp2_with fail
 refine(ybh _ _ _ (q.below blw)).mono ?_;rintro e J ⟨v1,rfl,j,D⟩;have s1:w+3<=J.heap.size:=szl D;obtain⟨U,Z,rfl⟩:=j.rd.isSlice;obtain⟨M,Q,z,jc1_0,jd1_0,je1_0⟩:=j.ex (m:=w+3) (by simp) D.size
 clear j;obtain⟨hc1,hf1⟩:=zab D;have z1_0:w<J.heap.size:=om;have z1_1:w+1<J.heap.size:=om;have z1_2:w+1+1<J.heap.size:=om;go_wp2_with fail
 refine(Kbh _ _ _ (u.below blw)).mono ?_;rintro e w2 ⟨v2,rfl,j,I⟩;have s2:J<=w2.heap.size:=szl I;obtain⟨Y,a0,rfl⟩:=j.rd.isSlice;obtain⟨N,R,B,jc2_0,jd2_0,je2_0⟩:=j.ex (m:=J) (by simp) I.size
 clear j;obtain⟨hc2,hf2⟩:=zab I;have z2_0:w<w2.heap.size:=om;have z2_1:w+1<w2.heap.size:=om;have z2_2:w+1+1<w2.heap.size:=om;go_wp2;refine bodyPost_ret (v:= .agg #[x.shut,.slice U x.docs.length Z,.slice Y x.subs.length a0,x.last]) (by simp[results,Tryz.results22,go_sem,xaa, *]) rfl ?_
 exact⟨_,rfl,qa6 (C0:=M) (D0:=Q) (C1:=N) (D1:=R) x (by repeat'(first|(with_reducible exact z)|(with_reducible refine uad.setCell ?_ ?_ _)|(with_reducible refine uad.drew ?_)|(with_reducible refine uad.drewN ?_ _)|(with_reducible refine uad.below ?_ (by assumption))|(with_reducible refine uad.alloc ?_ _)|omega)) (by repeat'(first|(with_reducible exact B)|(with_reducible refine uad.setCell ?_ ?_ _)|(with_reducible refine uad.drew ?_)|(with_reducible refine uad.drewN ?_ _)|(with_reducible refine uad.below ?_ (by assumption))|(with_reducible refine uad.alloc ?_ _)|omega)) (by omega) (by omega) (by omega),blw⟩
theorem KaJ (x:Xaj)(a1:Value)(p:Value)(w:World)(I:x.doc.size<=BIG)(h_o:RdS w a1 x.o)(q:RdS w p x.text):
 Calls Tryz.prog 23 #[.agg #[x.kind,x.doc,x.client,x.seq,x.n,a1,p]] w (ZaA w x):=by
 go_enter Tryz.func23,Tryz.ntmps23
 go_wp2_with fail
 refine(ka1 _ _ _ (h_o.below blw)).mono ?_;rintro e J ⟨v1,rfl,j,B⟩;have s1:w+3<=J.heap.size:=szl B;obtain⟨U,Z,rfl⟩:=j.rd.isSlice;obtain⟨M,Q,u,jc1_0,jd1_0,je1_0⟩:=j.ex (m:=w+3) (by simp) B.size
 clear j;obtain⟨hc1,hf1⟩:=zab B;have z1_0:w<J.heap.size:=om;have z1_1:w+1<J.heap.size:=om;have z1_2:w+1+1<J.heap.size:=om;go_wp2_with fail
 refine(XaV _ _ _ (q.below blw)).mono ?_;rintro e w2 ⟨v2,rfl,j,D⟩;have s2:J<=w2.heap.size:=szl D;obtain⟨Y,a0,rfl⟩:=j.rd.isSlice;obtain⟨N,R,z,jc2_0,jd2_0,je2_0⟩:=j.ex (m:=J) (by simp) D.size
 clear j;obtain⟨hc2,hf2⟩:=zab D;have z2_0:w<w2.heap.size:=om;have z2_1:w+1<w2.heap.size:=om;have z2_2:w+1+1<w2.heap.size:=om;go_wp2;refine bodyPost_ret (v:= .agg #[x.kind,x.doc,x.client,x.seq,x.n,.slice U x.o.length Z,.slice Y x.text.length a0]) (by simp[results,Tryz.results23,go_sem,xaa, *]) rfl ?_
 exact⟨_,rfl,vbc (C0:=M) (D0:=Q) (C1:=N) (D1:=R) x I (by repeat'(first|(with_reducible exact u)|(with_reducible refine uad.setCell ?_ ?_ _)|(with_reducible refine uad.drew ?_)|(with_reducible refine uad.drewN ?_ _)|(with_reducible refine uad.below ?_ (by assumption))|(with_reducible refine uad.alloc ?_ _)|omega)) (by repeat'(first|(with_reducible exact z)|(with_reducible refine uad.setCell ?_ ?_ _)|(with_reducible refine uad.drew ?_)|(with_reducible refine uad.drewN ?_ _)|(with_reducible refine uad.below ?_ (by assumption))|(with_reducible refine uad.alloc ?_ _)|omega)) (by omega) (by omega) (by omega),blw⟩
