/- The copies that the laws make. -/
import Derived.Test.YtocdogemgojgaaaGreatBa
import Derived.Handy
set_option maxHeartbeats 1000000
namespace Go.Proofs.YtocdogemgojgaaaGreat
open Go.RowKit
theorem At.zero {w:World}{b o:Nat}{c:Value}{j:List Value}(h:At w b o (c::j)):w.cell? ⟨b,o,none⟩=some c:=h 0 c rfl
theorem toPart_c (x:DPart)(j:Value)(w:World)(p:RdS w j x.signs):
 Calls Tryz.prog 107 #[.agg #[.int .i64 x.kind,.int .i64 x.n,j]] w (Gives w x):=by
 go_enter Tryz.func107,Tryz.ntmps107
 go_wp2_with fail
 refine(toIntS_c _ _ _ (p.below blw)).mono ?_;rintro e M ⟨v1,rfl,z,u⟩;have s1:w.heap.size+3<=M.heap.size:=by have:=u.size;(try simp at this);omega
 obtain⟨I,J,rfl⟩:=z.rd.isSlice;obtain⟨B,D,q,N,Q,R⟩:=z.ex (m:=w.heap.size+3) (by simp) u.size
 clear z;obtain⟨a0,a1⟩:=bcell u;have U:w.heap.size<M.heap.size:=by omega
 have Y:w.heap.size+1<M.heap.size:=by omega
 have Z:w.heap.size+1+1<M.heap.size:=by omega
 go_wp2;refine bodyPost_ret (v:= .agg #[.int .i64 x.kind,.int .i64 x.n,.slice I x.signs.length J]) (by simp[results,Tryz.results107,go_sem,cell_setCell, *]) rfl ?_
 exact⟨_,rfl,own_DPart (C0:=B) (D0:=D) x (by repeat'(first|(with_reducible exact q)|(with_reducible refine OwnB.setCell ?_ ?_ _)|(with_reducible refine OwnB.drew ?_)|(with_reducible refine OwnB.drewN ?_ _)|(with_reducible refine OwnB.below ?_ (by assumption))|(with_reducible refine OwnB.alloc ?_ _)|omega)) (by omega),blw⟩
theorem szl_DPart:∀j,(sizeOf 138).run Tryz.prog j= .ok 3 j:=fun _=>by kernel_rfl
theorem info_DPart:(Tryz.prog.info? 142).map (fun i=>(i.zero,i.size,i.bytes))=some (some (.agg #[.int .i64 0,.int .i64 0,.slice none 0 0]),3,40):=by kernel_rfl
theorem toPartS_c (v:Value)(l:List DPart)(w:World)(h:RdS w v l):
 Calls Tryz.prog 43 #[v] w (GivesS w l):=by
 have hl:=fun w1 ty=>h.len Tryz.underlying52 w1 ty
 have hb:=h.le;obtain⟨i0,hi,hz0,hz1,hz2⟩:=info_parts info_DPart;go_enter Tryz.func43,Tryz.ntmps43
 go_wp2_with (first|(at_make;refine wpList_make_full _ rfl _ _ 30 rfl w.heap.size 142 i0 (.agg #[.int .i64 0,.int .i64 0,.slice none 0 0]) 3 Tryz.underlying30 hi hz0 hz1 .i64 .i64 _ _ l.length rfl rfl rfl rfl ?c1 ?c2 ?c3 ?_))
 case c1=>rw[hz2];omega
 case c2=>unfold maxLen;omega
 case c3=>exact lr _
 intro w1 M z;have HF:Hid (Fill 142 w1 w.heap.size w.heap.size l 0):=Fill.start M rfl (le_BIG hb);have HB:Hid (Below w.heap.size w w1):=(lf _ _).grown z (lr _) (fun _ e=>by cases e)
 clear M z;go_wp2;go_loopw [4] (fun i wr=>∃k:Nat,k<=l.length/\i= .int .i64 k/\Fill 142 wr w.heap.size w.heap.size l k/\Below w.heap.size w wr) (fun i _=>l.length-(intOf i).toNat)
 case atStart=>exact⟨0,lz _,rfl,HF.out,HB.out⟩
 case round=>
  obtain⟨k,hk,rfl,hf,u⟩:=hrel;by_cases J:k<l.length
  ·obtain⟨x,hx⟩:=get_some J;obtain⟨b1,o1,cs,h1,h2,h3⟩:=(h.below u).idx Tryz.underlying52 szl_DPart k hx;obtain⟨a2,rfl,B⟩:=inv_DPart h3;have q0:=h2.zero;have q1:=h2 1 _ rfl;have q2:=h2 2 _ rfl;have HX:=hH hx;clear hx;have N:=hH hf;clear hf;go_wp2_with fail
   refine(toPart_c x _ _ B).mono ?_;rintro e D ⟨_,rfl,ho,I⟩;have HW:=hH ho;obtain⟨a1,rfl,_r_signs⟩:=inv_own_DPart ho;obtain⟨j,p,rfl⟩:=_r_signs.rd.isSlice;have q:=N.out.below I;obtain⟨⟨p0,Q⟩,Y⟩:=q.cells J 0 (by decide)
   obtain⟨⟨p1,R⟩,Z⟩:=q.cells J 1 (by decide)
   obtain⟨⟨p2,U⟩,a0⟩:=q.cells J 2 (by decide)
   replace Q:D.cell? ⟨w.heap.size,k*3,none⟩=some p0:=Q;replace Y:D.frozen? ⟨w.heap.size,k*3,none⟩=false:=Y;replace R:D.cell? ⟨w.heap.size,k*3+1,none⟩=some p1:=R;replace Z:D.frozen? ⟨w.heap.size,k*3+1,none⟩=false:=Z;replace U:D.cell? ⟨w.heap.size,k*3+2,none⟩=some p2:=U;replace a0:D.frozen? ⟨w.heap.size,k*3+2,none⟩=false:=a0;have HS:Hid (Fill 142 (((D.setCell ⟨w.heap.size,k*3,none⟩ (.int .i64 x.kind)).setCell ⟨w.heap.size,k*3+1,none⟩ (.int .i64 x.n)).setCell ⟨w.heap.size,k*3+2,none⟩ (.slice j x.signs.length p)) w.heap.size w.heap.size l (k+1)):=by
    have:=N.out.step I HX.out HW.out;show Fill 142 (((D.setCell ⟨w.heap.size,k*3,none⟩ (.int .i64 x.kind)).setCell ⟨w.heap.size,k*3+1,none⟩ (.int .i64 x.n)).setCell ⟨w.heap.size,k*3+2,none⟩ (.slice j x.signs.length p)) w.heap.size w.heap.size l (k+1);simpa[World.setCells,GoT.n]using this
   have HBW:Hid (Below w.heap.size w (((D.setCell ⟨w.heap.size,k*3,none⟩ (.int .i64 x.kind)).setCell ⟨w.heap.size,k*3+1,none⟩ (.int .i64 x.n)).setCell ⟨w.heap.size,k*3+2,none⟩ (.slice j x.signs.length p))):=by
    have h0:=u.size;have h1:Below w.heap.size w D:=u.trans (I.mono h0);show Below w.heap.size w (((D.setCell ⟨w.heap.size,k*3,none⟩ (.int .i64 x.kind)).setCell ⟨w.heap.size,k*3+1,none⟩ (.int .i64 x.n)).setCell ⟨w.heap.size,k*3+2,none⟩ (.slice j x.signs.length p));exact(by repeat'(first|(with_reducible exact h1)|(with_reducible refine Below.setCell ?_ ?_ _)|(show w.heap.size<=w.heap.size;exact lr _)))
   clear HX N q HW ho I u;go_wp2;go_roundw
   case rel=>exact⟨k+1,by omega,by go_num,HS.out,HBW.out⟩
   case measure=>simp[intOf];omega
  ·obtain rfl:k=l.length:=by omega
   have hd:=hf.done;go_wp2;go_ret;exact⟨_,rfl,hd,u⟩
theorem toEntry_c (x:DEntry)(D:Value)(w:World)(J:RdS w D x.o):
 Calls Tryz.prog 227 #[.agg #[.int .i64 x.client,.int .i64 x.seq,D]] w (Gives w x):=by
 go_enter Tryz.func227,Tryz.ntmps227
 go_wp2_with fail
 refine(toPartS_c _ _ _ (J.below blw)).mono ?_;rintro e I ⟨v1,rfl,p,n⟩;have s1:w.heap.size+3<=I.heap.size:=by have:=n.size;(try simp at this);omega
 obtain⟨z,B,rfl⟩:=p.rd.isSlice;obtain⟨q,u,j,M,N,Q⟩:=p.ex (m:=w.heap.size+3) (by simp) n.size
 clear p;obtain⟨Z,a0⟩:=bcell n;have R:w.heap.size<I.heap.size:=by omega
 have U:w.heap.size+1<I.heap.size:=by omega
 have Y:w.heap.size+1+1<I.heap.size:=by omega
 go_wp2;refine bodyPost_ret (v:= .agg #[.int .i64 x.client,.int .i64 x.seq,.slice z x.o.length B]) (by simp[results,Tryz.results227,go_sem,cell_setCell, *]) rfl ?_
 exact⟨_,rfl,own_DEntry (C0:=q) (D0:=u) x (by repeat'(first|(with_reducible exact j)|(with_reducible refine OwnB.setCell ?_ ?_ _)|(with_reducible refine OwnB.drew ?_)|(with_reducible refine OwnB.drewN ?_ _)|(with_reducible refine OwnB.below ?_ (by assumption))|(with_reducible refine OwnB.alloc ?_ _)|omega)) (by omega),blw⟩
theorem szl_DEntry:∀j,(sizeOf 227).run Tryz.prog j= .ok 3 j:=fun _=>by kernel_rfl
theorem info_DEntry:(Tryz.prog.info? 118).map (fun i=>(i.zero,i.size,i.bytes))=some (some (.agg #[.int .i64 0,.int .i64 0,.slice none 0 0]),3,40):=by kernel_rfl
theorem toEntryS_c (v:Value)(l:List DEntry)(w:World)(h:RdS w v l):
 Calls Tryz.prog 200 #[v] w (GivesS w l):=by
 have hl:=fun w1 ty=>h.len Tryz.underlying174 w1 ty
 have hb:=h.le;obtain⟨i0,hi,hz0,hz1,hz2⟩:=info_parts info_DEntry;go_enter Tryz.func200,Tryz.ntmps200
 go_wp2_with (first|(at_make;refine wpList_make_full _ rfl _ _ 34 rfl w.heap.size 118 i0 (.agg #[.int .i64 0,.int .i64 0,.slice none 0 0]) 3 Tryz.underlying34 hi hz0 hz1 .i64 .i64 _ _ l.length rfl rfl rfl rfl ?c1 ?c2 ?c3 ?_))
 case c1=>rw[hz2];omega
 case c2=>unfold maxLen;omega
 case c3=>exact lr _
 intro w1 J q;have HF:Hid (Fill 118 w1 w.heap.size w.heap.size l 0):=Fill.start J rfl (le_BIG hb);have HB:Hid (Below w.heap.size w w1):=(lf _ _).grown q (lr _) (fun _ e=>by cases e)
 clear J q;go_wp2;go_loopw [4] (fun i wr=>∃k:Nat,k<=l.length/\i= .int .i64 k/\Fill 118 wr w.heap.size w.heap.size l k/\Below w.heap.size w wr) (fun i _=>l.length-(intOf i).toNat)
 case atStart=>exact⟨0,lz _,rfl,HF.out,HB.out⟩
 case round=>
  obtain⟨k,hk,rfl,hf,p⟩:=hrel;by_cases I:k<l.length
  ·obtain⟨x,hx⟩:=get_some I;obtain⟨b1,o1,cs,h1,h2,h3⟩:=(h.below p).idx Tryz.underlying174 szl_DEntry k hx;obtain⟨v_o,rfl,r_o⟩:=inv_DEntry h3;have q0:=h2.zero;have q1:=h2 1 _ rfl;have q2:=h2 2 _ rfl;have HX:=hH hx;clear hx;have M:=hH hf;clear hf;go_wp2_with fail
   refine(toEntry_c x _ _ r_o).mono ?_;rintro e u ⟨_,rfl,ho,D⟩;have HW:=hH ho;obtain⟨u_o,rfl,_r_o⟩:=inv_own_DEntry ho;obtain⟨z,B,rfl⟩:=_r_o.rd.isSlice;have j:=M.out.below D;obtain⟨⟨p0,N⟩,U⟩:=j.cells I 0 (by decide)
   obtain⟨⟨p1,Q⟩,Y⟩:=j.cells I 1 (by decide)
   obtain⟨⟨p2,R⟩,Z⟩:=j.cells I 2 (by decide)
   replace N:u.cell? ⟨w.heap.size,k*3,none⟩=some p0:=N;replace U:u.frozen? ⟨w.heap.size,k*3,none⟩=false:=U;replace Q:u.cell? ⟨w.heap.size,k*3+1,none⟩=some p1:=Q;replace Y:u.frozen? ⟨w.heap.size,k*3+1,none⟩=false:=Y;replace R:u.cell? ⟨w.heap.size,k*3+2,none⟩=some p2:=R;replace Z:u.frozen? ⟨w.heap.size,k*3+2,none⟩=false:=Z;have HS:Hid (Fill 118 (((u.setCell ⟨w.heap.size,k*3,none⟩ (.int .i64 x.client)).setCell ⟨w.heap.size,k*3+1,none⟩ (.int .i64 x.seq)).setCell ⟨w.heap.size,k*3+2,none⟩ (.slice z x.o.length B)) w.heap.size w.heap.size l (k+1)):=by
    have:=M.out.step D HX.out HW.out;show Fill 118 (((u.setCell ⟨w.heap.size,k*3,none⟩ (.int .i64 x.client)).setCell ⟨w.heap.size,k*3+1,none⟩ (.int .i64 x.seq)).setCell ⟨w.heap.size,k*3+2,none⟩ (.slice z x.o.length B)) w.heap.size w.heap.size l (k+1);simpa[World.setCells,GoT.n]using this
   have HBW:Hid (Below w.heap.size w (((u.setCell ⟨w.heap.size,k*3,none⟩ (.int .i64 x.client)).setCell ⟨w.heap.size,k*3+1,none⟩ (.int .i64 x.seq)).setCell ⟨w.heap.size,k*3+2,none⟩ (.slice z x.o.length B))):=by
    have h0:=p.size;have h1:Below w.heap.size w u:=p.trans (D.mono h0);show Below w.heap.size w (((u.setCell ⟨w.heap.size,k*3,none⟩ (.int .i64 x.client)).setCell ⟨w.heap.size,k*3+1,none⟩ (.int .i64 x.seq)).setCell ⟨w.heap.size,k*3+2,none⟩ (.slice z x.o.length B));exact(by repeat'(first|(with_reducible exact h1)|(with_reducible refine Below.setCell ?_ ?_ _)|(show w.heap.size<=w.heap.size;exact lr _)))
   clear HX M j HW ho D p;go_wp2;go_roundw
   case rel=>exact⟨k+1,by omega,by go_num,HS.out,HBW.out⟩
   case measure=>simp[intOf];omega
  ·obtain rfl:k=l.length:=by omega
   have hd:=hf.done;go_wp2;go_ret;exact⟨_,rfl,hd,p⟩
theorem toSeen_c (x:DSeen)(w:World):
 Calls Tryz.prog 228 #[.agg #[.int .i64 x.client,.int .i64 x.seq,.int .i64 x.rev]] w (Gives w x):=by
 go_enter Tryz.func228,Tryz.ntmps228
 go_wp2;go_returns
 exact⟨_,rfl,own_DSeen x,blw⟩
theorem szl_DSeen:∀j,(sizeOf 230).run Tryz.prog j= .ok 3 j:=fun _=>by kernel_rfl
theorem info_DSeen:(Tryz.prog.info? 167).map (fun i=>(i.zero,i.size,i.bytes))=some (some (.agg #[.int .i64 0,.int .i64 0,.int .i64 0]),3,24):=by kernel_rfl
theorem toSeenS_c (v:Value)(l:List DSeen)(w:World)(h:RdS w v l):
 Calls Tryz.prog 201 #[v] w (GivesS w l):=by
 have hl:=fun Y ty=>h.len Tryz.underlying175 Y ty
 have hb:=h.le;obtain⟨i0,hi,hz0,hz1,hz2⟩:=info_parts info_DSeen;go_enter Tryz.func201,Tryz.ntmps201
 go_wp2_with (first|(at_make;refine wpList_make_full _ rfl _ _ 97 rfl w.heap.size 167 i0 (.agg #[.int .i64 0,.int .i64 0,.int .i64 0]) 3 Tryz.underlying97 hi hz0 hz1 .i64 .i64 _ _ l.length rfl rfl rfl rfl ?c1 ?c2 ?c3 ?_))
 case c1=>rw[hz2];omega
 case c2=>unfold maxLen;omega
 case c3=>exact lr _
 intro Y D q;have HF:Hid (Fill 167 Y w.heap.size w.heap.size l 0):=Fill.start D rfl (le_BIG hb);have HB:Hid (Below w.heap.size w Y):=(lf _ _).grown q (lr _) (fun _ e=>by cases e)
 clear D q;go_wp2;go_loopw [4] (fun i wr=>∃k:Nat,k<=l.length/\i= .int .i64 k/\Fill 167 wr w.heap.size w.heap.size l k/\Below w.heap.size w wr) (fun i _=>l.length-(intOf i).toNat)
 case atStart=>exact⟨0,lz _,rfl,HF.out,HB.out⟩
 case round=>
  obtain⟨k,hk,rfl,hf,p⟩:=hrel;by_cases B:k<l.length
  ·obtain⟨x,hx⟩:=get_some B;obtain⟨b1,o1,cs,h1,h2,h3⟩:=(h.below p).idx Tryz.underlying175 szl_DSeen k hx;obtain rfl:=inv_DSeen h3;have q0:=h2.zero;have q1:=h2 1 _ rfl;have q2:=h2 2 _ rfl;have HX:=hH hx;clear hx;have I:=hH hf;clear hf;go_wp2_with fail
   refine(toSeen_c x _).mono ?_;rintro e u ⟨_,rfl,ho,z⟩;have HW:=hH ho;obtain rfl:=inv_DSeen ho.rd;have j:=I.out.below z;obtain⟨⟨p0,J⟩,Q⟩:=j.cells B 0 (by decide)
   obtain⟨⟨p1,M⟩,R⟩:=j.cells B 1 (by decide)
   obtain⟨⟨p2,N⟩,U⟩:=j.cells B 2 (by decide)
   replace J:u.cell? ⟨w.heap.size,k*3,none⟩=some p0:=J;replace Q:u.frozen? ⟨w.heap.size,k*3,none⟩=false:=Q;replace M:u.cell? ⟨w.heap.size,k*3+1,none⟩=some p1:=M;replace R:u.frozen? ⟨w.heap.size,k*3+1,none⟩=false:=R;replace N:u.cell? ⟨w.heap.size,k*3+2,none⟩=some p2:=N;replace U:u.frozen? ⟨w.heap.size,k*3+2,none⟩=false:=U;have HS:Hid (Fill 167 (((u.setCell ⟨w.heap.size,k*3,none⟩ (.int .i64 x.client)).setCell ⟨w.heap.size,k*3+1,none⟩ (.int .i64 x.seq)).setCell ⟨w.heap.size,k*3+2,none⟩ (.int .i64 x.rev)) w.heap.size w.heap.size l (k+1)):=by
    have:=I.out.step z HX.out HW.out;show Fill 167 (((u.setCell ⟨w.heap.size,k*3,none⟩ (.int .i64 x.client)).setCell ⟨w.heap.size,k*3+1,none⟩ (.int .i64 x.seq)).setCell ⟨w.heap.size,k*3+2,none⟩ (.int .i64 x.rev)) w.heap.size w.heap.size l (k+1);simpa[World.setCells,GoT.n]using this
   have Z:Hid (Below w.heap.size w (((u.setCell ⟨w.heap.size,k*3,none⟩ (.int .i64 x.client)).setCell ⟨w.heap.size,k*3+1,none⟩ (.int .i64 x.seq)).setCell ⟨w.heap.size,k*3+2,none⟩ (.int .i64 x.rev))):=by
    have h0:=p.size;have h1:Below w.heap.size w u:=p.trans (z.mono h0);show Below w.heap.size w (((u.setCell ⟨w.heap.size,k*3,none⟩ (.int .i64 x.client)).setCell ⟨w.heap.size,k*3+1,none⟩ (.int .i64 x.seq)).setCell ⟨w.heap.size,k*3+2,none⟩ (.int .i64 x.rev));exact(by repeat'(first|(with_reducible exact h1)|(with_reducible refine Below.setCell ?_ ?_ _)|(show w.heap.size<=w.heap.size;exact lr _)))
   clear HX I j HW ho z p;go_wp2;go_roundw
   case rel=>exact⟨k+1,by omega,by go_num,HS.out,Z.out⟩
   case measure=>simp[intOf];omega
  ·obtain rfl:k=l.length:=by omega
   have hd:=hf.done;go_wp2;go_ret;exact⟨_,rfl,hd,p⟩
theorem toDoc_c (x:DDoc)(q:Value)(n:Value)(p:Value)(w:World)(D:x.name.size<=BIG)(B:RdS w q x.text)(u:RdS w n x.list)(z:RdS w p x.seen):
 Calls Tryz.prog 156 #[.agg #[.string x.name,.int .i64 x.from_,q,n,p]] w (Gives w x):=by
 go_enter Tryz.func156,Tryz.ntmps156
 go_wp2_with fail
 refine(toIntS_c _ _ _ (B.below blw)).mono ?_;rintro e U ⟨v1,rfl,j,N⟩;have s1:w.heap.size+3<=U.heap.size:=by have:=N.size;(try simp at this);omega
 obtain⟨a5,a8,rfl⟩:=j.rd.isSlice;obtain⟨Z,a2,I,jc1_0,jd1_0,je1_0⟩:=j.ex (m:=w.heap.size+3) (by simp) N.size
 clear j;obtain⟨hc1,hf1⟩:=bcell N;have z1_0:w.heap.size<U.heap.size:=by omega
 have z1_1:w.heap.size+1<U.heap.size:=by omega
 have z1_2:w.heap.size+1+1<U.heap.size:=by omega
 go_wp2_with fail
 refine(toEntryS_c _ _ _ (u.below blw)).mono ?_;rintro e Y ⟨v2,rfl,j,Q⟩;have s2:U.heap.size<=Y.heap.size:=by have:=Q.size;(try simp at this);omega
 obtain⟨a6,a9,rfl⟩:=j.rd.isSlice;obtain⟨a0,a3,J,jc2_0,jd2_0,je2_0⟩:=j.ex (m:=U.heap.size) (by simp) Q.size
 clear j;obtain⟨hc2,hf2⟩:=bcell Q;have z2_0:w.heap.size<Y.heap.size:=by omega
 have z2_1:w.heap.size+1<Y.heap.size:=by omega
 have z2_2:w.heap.size+1+1<Y.heap.size:=by omega
 go_wp2_with fail
 refine(toSeenS_c _ _ _ (z.below blw)).mono ?_;rintro e w3 ⟨v3,rfl,j,R⟩;have s3:Y.heap.size<=w3.heap.size:=by have:=R.size;(try simp at this);omega
 obtain⟨a7,aa,rfl⟩:=j.rd.isSlice;obtain⟨a1,a4,M,jc3_0,jd3_0,je3_0⟩:=j.ex (m:=Y.heap.size) (by simp) R.size
 clear j;obtain⟨hc3,hf3⟩:=bcell R;have z3_0:w.heap.size<w3.heap.size:=by omega
 have z3_1:w.heap.size+1<w3.heap.size:=by omega
 have z3_2:w.heap.size+1+1<w3.heap.size:=by omega
 go_wp2;refine bodyPost_ret (v:= .agg #[.string x.name,.int .i64 x.from_,.slice a5 x.text.length a8,.slice a6 x.list.length a9,.slice a7 x.seen.length aa]) (by simp[results,Tryz.results156,go_sem,cell_setCell, *]) rfl ?_
 exact⟨_,rfl,own_DDoc (C0:=Z) (D0:=a2) (C1:=a0) (D1:=a3) (C2:=a1) (D2:=a4) x D (by repeat'(first|(with_reducible exact I)|(with_reducible refine OwnB.setCell ?_ ?_ _)|(with_reducible refine OwnB.drew ?_)|(with_reducible refine OwnB.drewN ?_ _)|(with_reducible refine OwnB.below ?_ (by assumption))|(with_reducible refine OwnB.alloc ?_ _)|omega)) (by repeat'(first|(with_reducible exact J)|(with_reducible refine OwnB.setCell ?_ ?_ _)|(with_reducible refine OwnB.drew ?_)|(with_reducible refine OwnB.drewN ?_ _)|(with_reducible refine OwnB.below ?_ (by assumption))|(with_reducible refine OwnB.alloc ?_ _)|omega)) (by repeat'(first|(with_reducible exact M)|(with_reducible refine OwnB.setCell ?_ ?_ _)|(with_reducible refine OwnB.drew ?_)|(with_reducible refine OwnB.drewN ?_ _)|(with_reducible refine OwnB.below ?_ (by assumption))|(with_reducible refine OwnB.alloc ?_ _)|omega)) (by omega) (by omega) (by omega) (by omega) (by omega) (by omega),blw⟩
theorem szl_DDoc:∀j,(sizeOf 177).run Tryz.prog j= .ok 5 j:=fun _=>by kernel_rfl
theorem info_DDoc:(Tryz.prog.info? 99).map (fun i=>(i.zero,i.size,i.bytes))=some (some (.agg #[.string ByteArray.empty,.int .i64 0,.slice none 0 0,.slice none 0 0,.slice none 0 0]),5,96):=by kernel_rfl
theorem toDocS_c (v:Value)(l:List DDoc)(w:World)(h:RdS w v l):
 Calls Tryz.prog 86 #[v] w (GivesS w l):=by
 have hl:=fun w1 ty=>h.len Tryz.underlying48 w1 ty
 have hb:=h.le;obtain⟨i0,hi,hz0,hz1,hz2⟩:=info_parts info_DDoc;go_enter Tryz.func86,Tryz.ntmps86
 go_wp2_with (first|(at_make;refine wpList_make_full _ rfl _ _ 23 rfl w.heap.size 99 i0 (.agg #[.string ByteArray.empty,.int .i64 0,.slice none 0 0,.slice none 0 0,.slice none 0 0]) 5 Tryz.underlying23 hi hz0 hz1 .i64 .i64 _ _ l.length rfl rfl rfl rfl ?c1 ?c2 ?c3 ?_))
 case c1=>rw[hz2];omega
 case c2=>unfold maxLen;omega
 case c3=>exact lr _
 intro w1 a0 N;have HF:Hid (Fill 99 w1 w.heap.size w.heap.size l 0):=Fill.start a0 rfl (le_BIG hb);have HB:Hid (Below w.heap.size w w1):=(lf _ _).grown N (lr _) (fun _ e=>by cases e)
 clear a0 N;go_wp2;go_loopw [4] (fun i wr=>∃k:Nat,k<=l.length/\i= .int .i64 k/\Fill 99 wr w.heap.size w.heap.size l k/\Below w.heap.size w wr) (fun i _=>l.length-(intOf i).toNat)
 case atStart=>exact⟨0,lz _,rfl,HF.out,HB.out⟩
 case round=>
  obtain⟨k,hk,rfl,hf,M⟩:=hrel;by_cases J:k<l.length
  ·obtain⟨x,hx⟩:=get_some J;obtain⟨b1,o1,cs,h1,h2,h3⟩:=(h.below M).idx Tryz.underlying48 szl_DDoc k hx;obtain⟨v_text,v_list,v_seen,rfl,R,Z,U,Y⟩:=inv_DDoc h3;have q0:=h2.zero;have q1:=h2 1 _ rfl;have q2:=h2 2 _ rfl;have q3:=h2 3 _ rfl;have q4:=h2 4 _ rfl;have HX:=hH hx;clear hx;have a1:=hH hf;clear hf;go_wp2_with fail
   refine(toDoc_c x _ _ _ _ R Z U Y).mono ?_;rintro e I ⟨_,rfl,ho,Q⟩;have HW:=hH ho;obtain⟨u_text,u_list,u_seen,rfl,_,_r_text,_r_list,_r_seen⟩:=inv_own_DDoc ho;obtain⟨q,B,rfl⟩:=_r_text.rd.isSlice;obtain⟨j,u,rfl⟩:=_r_list.rd.isSlice;obtain⟨p,z,rfl⟩:=_r_seen.rd.isSlice;have D:=a1.out.below Q;obtain⟨⟨p0,hp0⟩,hq0⟩:=D.cells J 0 (by decide)
   obtain⟨⟨p1,hp1⟩,hq1⟩:=D.cells J 1 (by decide)
   obtain⟨⟨p2,hp2⟩,hq2⟩:=D.cells J 2 (by decide)
   obtain⟨⟨p3,hp3⟩,hq3⟩:=D.cells J 3 (by decide)
   obtain⟨⟨p4,hp4⟩,hq4⟩:=D.cells J 4 (by decide)
   replace hp0:I.cell? ⟨w.heap.size,k*5,none⟩=some p0:=hp0;replace hq0:I.frozen? ⟨w.heap.size,k*5,none⟩=false:=hq0;replace hp1:I.cell? ⟨w.heap.size,k*5+1,none⟩=some p1:=hp1;replace hq1:I.frozen? ⟨w.heap.size,k*5+1,none⟩=false:=hq1;replace hp2:I.cell? ⟨w.heap.size,k*5+2,none⟩=some p2:=hp2;replace hq2:I.frozen? ⟨w.heap.size,k*5+2,none⟩=false:=hq2;replace hp3:I.cell? ⟨w.heap.size,k*5+3,none⟩=some p3:=hp3;replace hq3:I.frozen? ⟨w.heap.size,k*5+3,none⟩=false:=hq3;replace hp4:I.cell? ⟨w.heap.size,k*5+4,none⟩=some p4:=hp4;replace hq4:I.frozen? ⟨w.heap.size,k*5+4,none⟩=false:=hq4;have HS:Hid (Fill 99 (((((I.setCell ⟨w.heap.size,k*5,none⟩ (.string x.name)).setCell ⟨w.heap.size,k*5+1,none⟩ (.int .i64 x.from_)).setCell ⟨w.heap.size,k*5+2,none⟩ (.slice q x.text.length B)).setCell ⟨w.heap.size,k*5+3,none⟩ (.slice j x.list.length u)).setCell ⟨w.heap.size,k*5+4,none⟩ (.slice p x.seen.length z)) w.heap.size w.heap.size l (k+1)):=by
    have:=a1.out.step Q HX.out HW.out;show Fill 99 (((((I.setCell ⟨w.heap.size,k*5,none⟩ (.string x.name)).setCell ⟨w.heap.size,k*5+1,none⟩ (.int .i64 x.from_)).setCell ⟨w.heap.size,k*5+2,none⟩ (.slice q x.text.length B)).setCell ⟨w.heap.size,k*5+3,none⟩ (.slice j x.list.length u)).setCell ⟨w.heap.size,k*5+4,none⟩ (.slice p x.seen.length z)) w.heap.size w.heap.size l (k+1);simpa[World.setCells,GoT.n]using this
   have HBW:Hid (Below w.heap.size w (((((I.setCell ⟨w.heap.size,k*5,none⟩ (.string x.name)).setCell ⟨w.heap.size,k*5+1,none⟩ (.int .i64 x.from_)).setCell ⟨w.heap.size,k*5+2,none⟩ (.slice q x.text.length B)).setCell ⟨w.heap.size,k*5+3,none⟩ (.slice j x.list.length u)).setCell ⟨w.heap.size,k*5+4,none⟩ (.slice p x.seen.length z))):=by
    have h0:=M.size;have h1:Below w.heap.size w I:=M.trans (Q.mono h0);show Below w.heap.size w (((((I.setCell ⟨w.heap.size,k*5,none⟩ (.string x.name)).setCell ⟨w.heap.size,k*5+1,none⟩ (.int .i64 x.from_)).setCell ⟨w.heap.size,k*5+2,none⟩ (.slice q x.text.length B)).setCell ⟨w.heap.size,k*5+3,none⟩ (.slice j x.list.length u)).setCell ⟨w.heap.size,k*5+4,none⟩ (.slice p x.seen.length z));exact(by repeat'(first|(with_reducible exact h1)|(with_reducible refine Below.setCell ?_ ?_ _)|(show w.heap.size<=w.heap.size;exact lr _)))
   clear HX a1 D HW ho Q M;go_wp2;go_roundw
   case rel=>exact⟨k+1,by omega,by go_num,HS.out,HBW.out⟩
   case measure=>simp[intOf];omega
  ·obtain rfl:k=l.length:=by omega
   have hd:=hf.done;go_wp2;go_ret;exact⟨_,rfl,hd,M⟩
theorem toRing_c (x:DRing)(j:Value)(w:World)(n:RdS w j x.list):
 Calls Tryz.prog 202 #[.agg #[.int .i64 x.cap,.int .i64 x.next,.bool x.out,j]] w (Gives w x):=by
 go_enter Tryz.func202,Tryz.ntmps202
 go_wp2_with fail
 refine(toEntryS_c _ _ _ (n.below blw)).mono ?_;rintro e J ⟨v1,rfl,u,q⟩;have s1:w.heap.size+3<=J.heap.size:=by have:=q.size;(try simp at this);omega
 obtain⟨D,I,rfl⟩:=u.rd.isSlice;obtain⟨z,B,p,M,N,Q⟩:=u.ex (m:=w.heap.size+3) (by simp) q.size
 clear u;obtain⟨Z,a0⟩:=bcell q;have R:w.heap.size<J.heap.size:=by omega
 have U:w.heap.size+1<J.heap.size:=by omega
 have Y:w.heap.size+1+1<J.heap.size:=by omega
 go_wp2;refine bodyPost_ret (v:= .agg #[.int .i64 x.cap,.int .i64 x.next,.bool x.out,.slice D x.list.length I]) (by simp[results,Tryz.results202,go_sem,cell_setCell, *]) rfl ?_
 exact⟨_,rfl,own_DRing (C0:=z) (D0:=B) x (by repeat'(first|(with_reducible exact p)|(with_reducible refine OwnB.setCell ?_ ?_ _)|(with_reducible refine OwnB.drew ?_)|(with_reducible refine OwnB.drewN ?_ _)|(with_reducible refine OwnB.below ?_ (by assumption))|(with_reducible refine OwnB.alloc ?_ _)|omega)) (by omega),blw⟩
theorem toSub_c (x:DSub)(j:Value)(w:World)(z:x.doc.size<=BIG)(n:RdS w j x.r.list):
 Calls Tryz.prog 157 #[.agg #[.int .i64 x.id,.string x.doc,.int .i64 x.r.cap,.int .i64 x.r.next,.bool x.r.out,j]] w (Gives w x):=by
 go_enter Tryz.func157,Tryz.ntmps157
 go_wp2_with fail
 refine(toRing_c x.r _ _ (n.below blw)).mono ?_;rintro e M ⟨_,rfl,U,q⟩;obtain⟨Y,rfl,u⟩:=inv_own_DRing U;clear U;have s1:w.heap.size+3<=M.heap.size:=by have:=q.size;(try simp at this);omega
 obtain⟨I,J,rfl⟩:=u.rd.isSlice;obtain⟨B,D,p,N,Q,R⟩:=u.ex (m:=w.heap.size+3) (by simp) q.size
 clear u;obtain⟨a2,a3⟩:=bcell q;have Z:w.heap.size<M.heap.size:=by omega
 have a0:w.heap.size+1<M.heap.size:=by omega
 have a1:w.heap.size+1+1<M.heap.size:=by omega
 go_wp2;refine bodyPost_ret (v:= .agg #[.int .i64 x.id,.string x.doc,.int .i64 x.r.cap,.int .i64 x.r.next,.bool x.r.out,.slice I x.r.list.length J]) (by simp[results,Tryz.results157,go_sem,cell_setCell, *]) rfl ?_
 exact⟨_,rfl,own_DSub (C0:=B) (D0:=D) x z (by repeat'(first|(with_reducible exact p)|(with_reducible refine OwnB.setCell ?_ ?_ _)|(with_reducible refine OwnB.drew ?_)|(with_reducible refine OwnB.drewN ?_ _)|(with_reducible refine OwnB.below ?_ (by assumption))|(with_reducible refine OwnB.alloc ?_ _)|omega)) (by omega),blw⟩
theorem szl_DSub:∀j,(sizeOf 182).run Tryz.prog j= .ok 6 j:=fun _=>by kernel_rfl
theorem info_DSub:(Tryz.prog.info? 104).map (fun i=>(i.zero,i.size,i.bytes))=some (some (.agg #[.int .i64 0,.string ByteArray.empty,.int .i64 0,.int .i64 0,.bool false,.slice none 0 0]),6,72):=by kernel_rfl
theorem toSubS_c (v:Value)(l:List DSub)(w:World)(h:RdS w v l):
 Calls Tryz.prog 87 #[v] w (GivesS w l):=by
 have hl:=fun w1 ty=>h.len Tryz.underlying49 w1 ty
 have hb:=h.le;obtain⟨i0,hi,hz0,hz1,hz2⟩:=info_parts info_DSub;go_enter Tryz.func87,Tryz.ntmps87
 go_wp2_with (first|(at_make;refine wpList_make_full _ rfl _ _ 24 rfl w.heap.size 104 i0 (.agg #[.int .i64 0,.string ByteArray.empty,.int .i64 0,.int .i64 0,.bool false,.slice none 0 0]) 6 Tryz.underlying24 hi hz0 hz1 .i64 .i64 _ _ l.length rfl rfl rfl rfl ?c1 ?c2 ?c3 ?_))
 case c1=>rw[hz2];omega
 case c2=>unfold maxLen;omega
 case c3=>exact lr _
 intro w1 M I;have HF:Hid (Fill 104 w1 w.heap.size w.heap.size l 0):=Fill.start M rfl (le_BIG hb);have HB:Hid (Below w.heap.size w w1):=(lf _ _).grown I (lr _) (fun _ e=>by cases e)
 clear M I;go_wp2;go_loopw [4] (fun i wr=>∃k:Nat,k<=l.length/\i= .int .i64 k/\Fill 104 wr w.heap.size w.heap.size l k/\Below w.heap.size w wr) (fun i _=>l.length-(intOf i).toNat)
 case atStart=>exact⟨0,lz _,rfl,HF.out,HB.out⟩
 case round=>
  obtain⟨k,hk,rfl,hf,D⟩:=hrel;by_cases z:k<l.length
  ·obtain⟨x,hx⟩:=get_some z;obtain⟨b1,o1,cs,h1,R,h3⟩:=(h.below D).idx Tryz.underlying49 szl_DSub k hx;obtain⟨Y,rfl,Q,B⟩:=inv_DSub h3;have q0:=R.zero;have q1:=R 1 _ rfl;have q2:=R 2 _ rfl;have q3:=R 3 _ rfl;have q4:=R 4 _ rfl;have q5:=R 5 _ rfl;have HX:=hH hx;clear hx;have N:=hH hf;clear hf;go_wp2_with fail
   refine(toSub_c x _ _ Q B).mono ?_;rintro e u ⟨_,rfl,ho,J⟩;have HW:=hH ho;obtain⟨U,rfl,_,_r_r_list⟩:=inv_own_DSub ho;obtain⟨j,p,rfl⟩:=_r_r_list.rd.isSlice;have q:=N.out.below J;obtain⟨⟨p0,Z⟩,a5⟩:=q.cells z 0 (by decide)
   obtain⟨⟨p1,a0⟩,a6⟩:=q.cells z 1 (by decide)
   obtain⟨⟨p2,a1⟩,a7⟩:=q.cells z 2 (by decide)
   obtain⟨⟨p3,a2⟩,a8⟩:=q.cells z 3 (by decide)
   obtain⟨⟨p4,a3⟩,a9⟩:=q.cells z 4 (by decide)
   obtain⟨⟨p5,a4⟩,aa⟩:=q.cells z 5 (by decide)
   replace Z:u.cell? ⟨w.heap.size,k*6,none⟩=some p0:=Z;replace a5:u.frozen? ⟨w.heap.size,k*6,none⟩=false:=a5;replace a0:u.cell? ⟨w.heap.size,k*6+1,none⟩=some p1:=a0;replace a6:u.frozen? ⟨w.heap.size,k*6+1,none⟩=false:=a6;replace a1:u.cell? ⟨w.heap.size,k*6+2,none⟩=some p2:=a1;replace a7:u.frozen? ⟨w.heap.size,k*6+2,none⟩=false:=a7;replace a2:u.cell? ⟨w.heap.size,k*6+3,none⟩=some p3:=a2;replace a8:u.frozen? ⟨w.heap.size,k*6+3,none⟩=false:=a8;replace a3:u.cell? ⟨w.heap.size,k*6+4,none⟩=some p4:=a3;replace a9:u.frozen? ⟨w.heap.size,k*6+4,none⟩=false:=a9;replace a4:u.cell? ⟨w.heap.size,k*6+5,none⟩=some p5:=a4;replace aa:u.frozen? ⟨w.heap.size,k*6+5,none⟩=false:=aa;have HS:Hid (Fill 104 ((((((u.setCell ⟨w.heap.size,k*6,none⟩ (.int .i64 x.id)).setCell ⟨w.heap.size,k*6+1,none⟩ (.string x.doc)).setCell ⟨w.heap.size,k*6+2,none⟩ (.int .i64 x.r.cap)).setCell ⟨w.heap.size,k*6+3,none⟩ (.int .i64 x.r.next)).setCell ⟨w.heap.size,k*6+4,none⟩ (.bool x.r.out)).setCell ⟨w.heap.size,k*6+5,none⟩ (.slice j x.r.list.length p)) w.heap.size w.heap.size l (k+1)):=by
    have:=N.out.step J HX.out HW.out;show Fill 104 ((((((u.setCell ⟨w.heap.size,k*6,none⟩ (.int .i64 x.id)).setCell ⟨w.heap.size,k*6+1,none⟩ (.string x.doc)).setCell ⟨w.heap.size,k*6+2,none⟩ (.int .i64 x.r.cap)).setCell ⟨w.heap.size,k*6+3,none⟩ (.int .i64 x.r.next)).setCell ⟨w.heap.size,k*6+4,none⟩ (.bool x.r.out)).setCell ⟨w.heap.size,k*6+5,none⟩ (.slice j x.r.list.length p)) w.heap.size w.heap.size l (k+1);simpa[World.setCells,GoT.n]using this
   have HBW:Hid (Below w.heap.size w ((((((u.setCell ⟨w.heap.size,k*6,none⟩ (.int .i64 x.id)).setCell ⟨w.heap.size,k*6+1,none⟩ (.string x.doc)).setCell ⟨w.heap.size,k*6+2,none⟩ (.int .i64 x.r.cap)).setCell ⟨w.heap.size,k*6+3,none⟩ (.int .i64 x.r.next)).setCell ⟨w.heap.size,k*6+4,none⟩ (.bool x.r.out)).setCell ⟨w.heap.size,k*6+5,none⟩ (.slice j x.r.list.length p))):=by
    have h0:=D.size;have h1:Below w.heap.size w u:=D.trans (J.mono h0);show Below w.heap.size w ((((((u.setCell ⟨w.heap.size,k*6,none⟩ (.int .i64 x.id)).setCell ⟨w.heap.size,k*6+1,none⟩ (.string x.doc)).setCell ⟨w.heap.size,k*6+2,none⟩ (.int .i64 x.r.cap)).setCell ⟨w.heap.size,k*6+3,none⟩ (.int .i64 x.r.next)).setCell ⟨w.heap.size,k*6+4,none⟩ (.bool x.r.out)).setCell ⟨w.heap.size,k*6+5,none⟩ (.slice j x.r.list.length p));exact(by repeat'(first|(with_reducible exact h1)|(with_reducible refine Below.setCell ?_ ?_ _)|(show w.heap.size<=w.heap.size;exact lr _)))
   clear HX N q HW ho J D;go_wp2;go_roundw
   case rel=>exact⟨k+1,by omega,by go_num,HS.out,HBW.out⟩
   case measure=>simp[intOf];omega
  ·obtain rfl:k=l.length:=by omega
   have hd:=hf.done;go_wp2;go_ret;exact⟨_,rfl,hd,D⟩
theorem toHub_c (x:DHub)(n:Value)(p:Value)(w:World)(q:RdS w n x.docs)(u:RdS w p x.subs):
 Calls Tryz.prog 22 #[.agg #[.bool x.shut,n,p,.int .i64 x.last]] w (Gives w x):=by
 go_enter Tryz.func22,Tryz.ntmps22
 go_wp2_with fail
 refine(toDocS_c _ _ _ (q.below blw)).mono ?_;rintro e J ⟨v1,rfl,j,D⟩;have s1:w.heap.size+3<=J.heap.size:=by have:=D.size;(try simp at this);omega
 obtain⟨U,Z,rfl⟩:=j.rd.isSlice;obtain⟨M,Q,z,jc1_0,jd1_0,je1_0⟩:=j.ex (m:=w.heap.size+3) (by simp) D.size
 clear j;obtain⟨hc1,hf1⟩:=bcell D;have z1_0:w.heap.size<J.heap.size:=by omega
 have z1_1:w.heap.size+1<J.heap.size:=by omega
 have z1_2:w.heap.size+1+1<J.heap.size:=by omega
 go_wp2_with fail
 refine(toSubS_c _ _ _ (u.below blw)).mono ?_;rintro e w2 ⟨v2,rfl,j,I⟩;have s2:J.heap.size<=w2.heap.size:=by have:=I.size;(try simp at this);omega
 obtain⟨Y,a0,rfl⟩:=j.rd.isSlice;obtain⟨N,R,B,jc2_0,jd2_0,je2_0⟩:=j.ex (m:=J.heap.size) (by simp) I.size
 clear j;obtain⟨hc2,hf2⟩:=bcell I;have z2_0:w.heap.size<w2.heap.size:=by omega
 have z2_1:w.heap.size+1<w2.heap.size:=by omega
 have z2_2:w.heap.size+1+1<w2.heap.size:=by omega
 go_wp2;refine bodyPost_ret (v:= .agg #[.bool x.shut,.slice U x.docs.length Z,.slice Y x.subs.length a0,.int .i64 x.last]) (by simp[results,Tryz.results22,go_sem,cell_setCell, *]) rfl ?_
 exact⟨_,rfl,own_DHub (C0:=M) (D0:=Q) (C1:=N) (D1:=R) x (by repeat'(first|(with_reducible exact z)|(with_reducible refine OwnB.setCell ?_ ?_ _)|(with_reducible refine OwnB.drew ?_)|(with_reducible refine OwnB.drewN ?_ _)|(with_reducible refine OwnB.below ?_ (by assumption))|(with_reducible refine OwnB.alloc ?_ _)|omega)) (by repeat'(first|(with_reducible exact B)|(with_reducible refine OwnB.setCell ?_ ?_ _)|(with_reducible refine OwnB.drew ?_)|(with_reducible refine OwnB.drewN ?_ _)|(with_reducible refine OwnB.below ?_ (by assumption))|(with_reducible refine OwnB.alloc ?_ _)|omega)) (by omega) (by omega) (by omega),blw⟩
