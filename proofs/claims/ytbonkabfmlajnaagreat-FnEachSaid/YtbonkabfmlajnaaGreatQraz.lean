/- Hubs: subscribe. -/
import Derived.Test.YtbonkabfmlajnaaGreatQray
set_option maxHeartbeats 8000000
set_option maxRecDepth 100000
set_option linter.defProp false
set_option linter.unusedSimpArgs false
namespace Go.Proofs.YtbonkabfmlajnaaGreat
open Go.RowKit
attribute [local go_sem ↓] Go.wp_at_zero Go.wp_at_succ
theorem Sl.nilS {α:Type}[GoT α]{M:Nat}{w:World}{v:Value}{f:List Pos}(h:Sl M w v ([]:List α) f):∃a c,v= .slice a 0 c:=h.isS
def xaz (z:qae)(name:ByteArray)(room n:Int):yai:=⟨z.last+1,name,⟨room,n+1,false,[]⟩⟩
theorem uax {z:qae}{name:ByteArray}{room:Int}(h:¬(Qac z=true/\within room 1 6=true)):yac z name room=(zao,0,1):=if_neg h
theorem uaE {z:qae}{name:ByteArray}{room:Int}(h:Qac z=true/\within room 1 6=true)(j:z.shut=true):yac z name room=(zao,0,12):=by unfold yac;rw[if_pos h,if_pos j]
theorem yaI {z:qae}{name:ByteArray}{room:Int}(h:Qac z=true/\within room 1 6=true)(j:z.shut=false)(n:zad z name<0):yac z name room=(zao,0,6):=by unfold yac;rw[if_pos h,if_neg (by simp[j]),if_pos n]
theorem Xau {z:qae}{name:ByteArray}{room:Int}(h:Qac z=true/\within room 1 6=true)(j:z.shut=false)(n:¬zad z name<0)(p:z.subs.length=6\/z.last=1000000000):yac z name room=(zao,0,10):=by unfold yac;rw[if_pos h,if_neg (by simp[j]),if_neg n,if_pos p]
theorem jay {room n:Int}(h:within room 1 6=true)(j:0<=n)(p:n<=999999008):zaq room n=(⟨room,n+1,false,[]⟩,true):=by
 have:=within_iff.1 h;refine KaA om ?_;simp[uac,Jad,within];omega
theorem qaI {z:qae}{name:ByteArray}{room:Int}{k:Nat}{d:Xac}(h:Qac z=true/\within room 1 6=true)(j:z.shut=false)(q:zad z name=k)(hd:z.docs[k]? =some d)(n:¬(z.subs.length=6\/z.last=1000000000)):
 yac z name room=(⟨false,z.docs,z.subs++[xaz z name room (yaa d)],z.last+1⟩,z.last+1,0):=by
 unfold yac;have p:QaD z name=yaa d:=by simp[QaD,q,hd]
 have hb:=yaf ((vad.1 h.1).doc (List.mem_of_getElem? hd));rw[if_pos h,if_neg (by simp[j]),if_neg om,if_neg n,p,jay h.2 hb.1 hb.2.1,j]
 rfl
theorem jaw {N_:Nat}(h_:N_=96\/N_=17)(z:qae)(I M:Value)(name:ByteArray)(room:Int)(w:World)(J:RdS w I z.docs)(Y:RdS w M z.subs)(nn:name.size<=BIG):Calls Tryz.prog N_ #[.agg #[z.shut,I,M,z.last],name,room] w (Xar w (yac z name room).1 (yac z name room).2.1 (yac z name room).2.2):=by
 rcases h_ with rfl|rfl
 have Z:Unit:=();have k_1:=hH @yal;have k_2:=hH @qaf;have k_3:=hH @vaj;have k_4:=hH @Zaa;have k_5:=hH @uaz;go_enter Tryz.func96,Tryz.ntmps96;rotate_left;have Z:Bool:=true;have k_1:=hH @uah;have k_2:=hH @kaf;have k_3:=hH @Xal;have k_4:=hH @vaa;have k_5:=hH @zaA;go_enter Tryz.func17,Tryz.ntmps17;all_goals
  have hOK:=fun(W':World) (a:RdS W' I z.docs) (b:RdS W' M z.subs)=>k_1.out z I M W' a b
  have hCP:=fun(W':World) (a:RdS W' I z.docs) (b:RdS W' M z.subs) (c:uaM z)=>k_2.out z I M W' a b c
  have hF0:=fun(W':World) (a:RdS W' I z.docs)=>k_3.out z I M name W' a
  obtain⟨sh,hsh⟩:∃sh:Bool,z.shut=sh:=⟨_,rfl⟩;simp only[hsh]at hOK hCP hF0;rw[hsh];have HOK:=hH hOK;have HCP:=hH hCP;have HF0:=hH hF0;clear hOK hCP hF0;by_cases h1:Qac z=true
  rotate_left
  ·have h1:Qac z=false:=by simpa using h1
   have HV:=hH (uax (z:=z) (name:=name) (room:=room) fun h=>by rw[h1]at h;cases h.1)
   go_wp2_with fail
   refine(HF0.out _ (J.below (((lf w w).alloc om _).alloc om _))).mono ?_;rintro e' w1 ⟨rfl,N⟩;have s1:w+2<=w1.heap.size:=szl N;have j:=hH ((((lf w w).alloc om _).alloc om _).trans (N.mono om));have D:Hid (Bx w1 w [sh,I,M,z.last]):=hH (((Bx.new (by first|rfl|simp|omega)).alloc _).at N)
   have Kz:=D.out.o4;have u:Hid (Bx w1 (w+1) [false,zN,zN,zI]):=hH ((Bx.new (by first|rfl|simp|omega)).at N)
   have Kr:=u.out.q4;clear N;go_wp2_with fail
   refine(HOK.out _ (J.below j.out) (Y.below j.out)).mono ?_;rintro e' w2 ⟨rfl,Q⟩;rw[h1];have s2:w1<=w2.heap.size:=szl Q;replace j:=hH (j.out.trans (Q.mono om));replace D:=hH (D.out.at Q);replace Kz:=D.out.o4;replace u:=hH (u.out.at Q);replace Kr:=u.out.q4;clear Q;go_wp2;rw[HV.out];exact bodyPost_ret (v:= .tuple #[.agg #[false,zN,zN,zI],zI,.int .i64 1]) (by simp[results,Tryz.results96,Tryz.results17,go_sem,xaa, *]) rfl (kah (Kam j.out om))
  have HZ:=hH (yaT h1);by_cases h2:within room 1 6=true
  rotate_left
  ·have h2:within room 1 6=false:=by simpa using h2
   have HV:=hH (uax (z:=z) (name:=name) (room:=room) fun h=>by rw[h2]at h;cases h.2)
   go_wp2_with fail
   refine(HF0.out _ (J.below (((lf w w).alloc om _).alloc om _))).mono ?_;rintro e' w1 ⟨rfl,N⟩;have s1:w+2<=w1.heap.size:=szl N;have j:=hH ((((lf w w).alloc om _).alloc om _).trans (N.mono om));have D:Hid (Bx w1 w [sh,I,M,z.last]):=hH (((Bx.new (by first|rfl|simp|omega)).alloc _).at N)
   have Kz:=D.out.o4;have u:Hid (Bx w1 (w+1) [false,zN,zN,zI]):=hH ((Bx.new (by first|rfl|simp|omega)).at N)
   have Kr:=u.out.q4;clear N;go_wp2_with fail
   refine(HOK.out _ (J.below j.out) (Y.below j.out)).mono ?_;rintro e' w2 ⟨rfl,Q⟩;rw[h1];have s2:w1<=w2.heap.size:=szl Q;replace j:=hH (j.out.trans (Q.mono om));replace D:=hH (D.out.at Q);replace Kz:=D.out.o4;replace u:=hH (u.out.at Q);replace Kr:=u.out.q4;clear Q;go_wp2_with fail
   refine(k_4.out room 1 6 _).mono ?_;rintro e' w3 ⟨rfl,R⟩;rw[h2];have s3:w2<=w3.heap.size:=szl R;replace j:=hH (j.out.trans (R.mono om));replace D:=hH (D.out.at R);replace Kz:=D.out.o4;replace u:=hH (u.out.at R);replace Kr:=u.out.q4;clear R;go_wp2;rw[HV.out];exact bodyPost_ret (v:= .tuple #[.agg #[false,zN,zN,zI],zI,.int .i64 1]) (by simp[results,Tryz.results96,Tryz.results17,go_sem,xaa, *]) rfl (kah (Kam j.out om))
  cases sh;rotate_left
  ·have HV:=hH (uaE (name:=name) (room:=room) ⟨h1,h2⟩ hsh);go_wp2_with fail
   refine(HF0.out _ (J.below (((lf w w).alloc om _).alloc om _))).mono ?_;rintro e' w1 ⟨rfl,N⟩;have s1:w+2<=w1.heap.size:=szl N;have j:=hH ((((lf w w).alloc om _).alloc om _).trans (N.mono om));have D:Hid (Bx w1 w [true,I,M,z.last]):=hH (((Bx.new (by first|rfl|simp|omega)).alloc _).at N)
   have Kz:=D.out.o4;have u:Hid (Bx w1 (w+1) [false,zN,zN,zI]):=hH ((Bx.new (by first|rfl|simp|omega)).at N)
   have Kr:=u.out.q4;clear N;go_wp2_with fail
   refine(HOK.out _ (J.below j.out) (Y.below j.out)).mono ?_;rintro e' w2 ⟨rfl,Q⟩;rw[h1];have s2:w1<=w2.heap.size:=szl Q;replace j:=hH (j.out.trans (Q.mono om));replace D:=hH (D.out.at Q);replace Kz:=D.out.o4;replace u:=hH (u.out.at Q);replace Kr:=u.out.q4;clear Q;go_wp2_with fail
   refine(k_4.out room 1 6 _).mono ?_;rintro e' w3 ⟨rfl,R⟩;rw[h2];have s3:w2<=w3.heap.size:=szl R;replace j:=hH (j.out.trans (R.mono om));replace D:=hH (D.out.at R);replace Kz:=D.out.o4;replace u:=hH (u.out.at R);replace Kr:=u.out.q4;clear R;go_wp2;rw[HV.out];exact bodyPost_ret (v:= .tuple #[.agg #[false,zN,zN,zI],zI,.int .i64 12]) (by simp[results,Tryz.results96,Tryz.results17,go_sem,xaa, *]) rfl (kah (Kam j.out om))
  by_cases h3:zad z name<0
  ·have HV:=hH (yaI (name:=name) (room:=room) ⟨h1,h2⟩ hsh h3);go_wp2_with fail
   refine(HF0.out _ (J.below (((lf w w).alloc om _).alloc om _))).mono ?_;rintro e' w1 ⟨rfl,N⟩;have s1:w+2<=w1.heap.size:=szl N;have j:=hH ((((lf w w).alloc om _).alloc om _).trans (N.mono om));have D:Hid (Bx w1 w [false,I,M,z.last]):=hH (((Bx.new (by first|rfl|simp|omega)).alloc _).at N)
   have Kz:=D.out.o4;have u:Hid (Bx w1 (w+1) [false,zN,zN,zI]):=hH ((Bx.new (by first|rfl|simp|omega)).at N)
   have Kr:=u.out.q4;clear N;go_wp2_with fail
   refine(HOK.out _ (J.below j.out) (Y.below j.out)).mono ?_;rintro e' w2 ⟨rfl,Q⟩;rw[h1];have s2:w1<=w2.heap.size:=szl Q;replace j:=hH (j.out.trans (Q.mono om));replace D:=hH (D.out.at Q);replace Kz:=D.out.o4;replace u:=hH (u.out.at Q);replace Kr:=u.out.q4;clear Q;go_wp2_with fail
   refine(k_4.out room 1 6 _).mono ?_;rintro e' w3 ⟨rfl,R⟩;rw[h2];have s3:w2<=w3.heap.size:=szl R;replace j:=hH (j.out.trans (R.mono om));replace D:=hH (D.out.at R);replace Kz:=D.out.o4;replace u:=hH (u.out.at R);replace Kr:=u.out.q4;clear R;go_wp2;rw[HV.out];exact bodyPost_ret (v:= .tuple #[.agg #[false,zN,zN,zI],zI,.int .i64 6]) (by simp[results,Tryz.results96,Tryz.results17,go_sem,xaa, *]) rfl (kah (Kam j.out om))
  obtain⟨k,d,hk,hd⟩:=qan h3;have HK:=hH hk;have HD:=hH hd;have bs:=(vad.1 h1).ns;have bl0:=(vad.1 h1).l0;have bl1:=(vad.1 h1).l1;have hdb:=yaf ((vad.1 h1).doc (List.mem_of_getElem? hd));obtain⟨bh0,bh1,bf0,bf1⟩:=hdb;have kl:=(lg.1 hd).1;have bd:=(vad.1 h1).nd;by_cases h4:z.subs.length=6
  ·have HV:=hH (Xau (name:=name) (room:=room) ⟨h1,h2⟩ hsh h3 (.inl h4));have e4:((z.subs.length:Int)==6)=true:=by simp;omega
   clear hk hd h4 h3;have hls:=fun w1 ty=>Y.len Tryz.underlying24 w1 ty
   go_wp2_with fail
   refine(HF0.out _ (J.below (((lf w w).alloc om _).alloc om _))).mono ?_;rintro e' w1 ⟨rfl,N⟩;rw[HK.out];have s1:w+2<=w1.heap.size:=szl N;have j:=hH ((((lf w w).alloc om _).alloc om _).trans (N.mono om));have D:Hid (Bx w1 w [false,I,M,z.last]):=hH (((Bx.new (by first|rfl|simp|omega)).alloc _).at N)
   have Kz:=D.out.o4;have u:Hid (Bx w1 (w+1) [false,zN,zN,zI]):=hH ((Bx.new (by first|rfl|simp|omega)).at N)
   have Kr:=u.out.q4;clear N;go_wp2_with fail
   refine(HOK.out _ (J.below j.out) (Y.below j.out)).mono ?_;rintro e' w2 ⟨rfl,Q⟩;rw[h1];have s2:w1<=w2.heap.size:=szl Q;replace j:=hH (j.out.trans (Q.mono om));replace D:=hH (D.out.at Q);replace Kz:=D.out.o4;replace u:=hH (u.out.at Q);replace Kr:=u.out.q4;clear Q;go_wp2_with fail
   refine(k_4.out room 1 6 _).mono ?_;rintro e' w3 ⟨rfl,R⟩;rw[h2];have s3:w2<=w3.heap.size:=szl R;replace j:=hH (j.out.trans (R.mono om));replace D:=hH (D.out.at R);replace Kz:=D.out.o4;replace u:=hH (u.out.at R);replace Kr:=u.out.q4;clear R;go_wp2;rw[HV.out];exact bodyPost_ret (v:= .tuple #[.agg #[false,zN,zN,zI],zI,.int .i64 10]) (by simp[results,Tryz.results96,Tryz.results17,go_sem,xaa, *]) rfl (kah (Kam j.out om))
  by_cases h5:z.last=1000000000
  ·have HV:=hH (Xau (name:=name) (room:=room) ⟨h1,h2⟩ hsh h3 (.inr h5));have e4:((z.subs.length:Int)==6)=false:=by simp;omega
   have e5:(z.last==1000000000)=true:=by simp;omega
   clear hk hd h4 h3 h5;have hls:=fun w1 ty=>Y.len Tryz.underlying24 w1 ty
   go_wp2_with fail
   refine(HF0.out _ (J.below (((lf w w).alloc om _).alloc om _))).mono ?_;rintro e' w1 ⟨rfl,N⟩;rw[HK.out];have s1:w+2<=w1.heap.size:=szl N;have j:=hH ((((lf w w).alloc om _).alloc om _).trans (N.mono om));have D:Hid (Bx w1 w [false,I,M,z.last]):=hH (((Bx.new (by first|rfl|simp|omega)).alloc _).at N)
   have Kz:=D.out.o4;have u:Hid (Bx w1 (w+1) [false,zN,zN,zI]):=hH ((Bx.new (by first|rfl|simp|omega)).at N)
   have Kr:=u.out.q4;clear N;go_wp2_with fail
   refine(HOK.out _ (J.below j.out) (Y.below j.out)).mono ?_;rintro e' w2 ⟨rfl,Q⟩;rw[h1];have s2:w1<=w2.heap.size:=szl Q;replace j:=hH (j.out.trans (Q.mono om));replace D:=hH (D.out.at Q);replace Kz:=D.out.o4;replace u:=hH (u.out.at Q);replace Kr:=u.out.q4;clear Q;go_wp2_with fail
   refine(k_4.out room 1 6 _).mono ?_;rintro e' w3 ⟨rfl,R⟩;rw[h2];have s3:w2<=w3.heap.size:=szl R;replace j:=hH (j.out.trans (R.mono om));replace D:=hH (D.out.at R);replace Kz:=D.out.o4;replace u:=hH (u.out.at R);replace Kr:=u.out.q4;clear R;go_wp2;rw[HV.out];exact bodyPost_ret (v:= .tuple #[.agg #[false,zN,zN,zI],zI,.int .i64 10]) (by simp[results,Tryz.results96,Tryz.results17,go_sem,xaa, *]) rfl (kah (Kam j.out om))
  have HV:=hH (qaI (name:=name) (room:=room) ⟨h1,h2⟩ hsh hk hd (fun h=>h.elim h4 h5))
  have e4:((z.subs.length:Int)==6)=false:=by simp;omega
  have e5:(z.last==1000000000)=false:=by simp;omega
  have hRN:=fun(W':World)=>(by have:=k_5.out room (yaa d) W' om om;rw[jay h2 bh0 bh1]at this;exact this:Calls Tryz.prog _ #[room,(yaa d)] W' (zau W' ⟨room,yaa d+1,false,[]⟩ true))
  have HRN:=hH hRN;clear hRN hk hd h4 h3 h5;have hls:=fun w1 ty=>Y.len Tryz.underlying24 w1 ty
  obtain⟨j0,hj,jz0,jz1,jz2⟩:=info_parts ya5;go_wp2_with fail
  refine(HF0.out _ (J.below (((lf w w).alloc om _).alloc om _))).mono ?_;rintro e' w1 ⟨rfl,N⟩;rw[HK.out];have s1:w+2<=w1.heap.size:=szl N;have j:=hH ((((lf w w).alloc om _).alloc om _).trans (N.mono om));have D:Hid (Bx w1 w [false,I,M,z.last]):=hH (((Bx.new (by first|rfl|simp|omega)).alloc _).at N)
  have Kz:=D.out.o4;have u:Hid (Bx w1 (w+1) [false,zN,zN,zI]):=hH ((Bx.new (by first|rfl|simp|omega)).at N)
  have Kr:=u.out.q4;clear N;go_wp2_with fail
  refine(HOK.out _ (J.below j.out) (Y.below j.out)).mono ?_;rintro e' w2 ⟨rfl,Q⟩;rw[h1];have s2:w1<=w2.heap.size:=szl Q;replace j:=hH (j.out.trans (Q.mono om));replace D:=hH (D.out.at Q);replace Kz:=D.out.o4;replace u:=hH (u.out.at Q);replace Kr:=u.out.q4;clear Q;go_wp2_with fail
  refine(k_4.out room 1 6 _).mono ?_;rintro e' w3 ⟨rfl,R⟩;rw[h2];have s3:w2<=w3.heap.size:=szl R;replace j:=hH (j.out.trans (R.mono om));replace D:=hH (D.out.at R);replace Kz:=D.out.o4;replace u:=hH (u.out.at R);replace Kr:=u.out.q4;clear R;first
  |have:Unit:=Z
   clear this
  |go_wp2_with fail
   refine(HCP.out _ (J.below j.out) (Y.below j.out) HZ.out).mono ?_;rintro e' w4 ⟨_,rfl,ho4,hb4⟩;obtain⟨vd,vs,rfl,hown⟩:=Qab.of_own ho4;rw[hsh];obtain⟨ad,cd,rfl⟩:=hown.rd1.isSlice;obtain⟨as_,cs_,rfl⟩:=hown.rd2.isSlice;have HOWN:=hH (hown.mono (C':=w3) om);clear ho4 hown;have s4:w3<=w4.heap.size:=szl hb4;replace j:=hH (j.out.trans (hb4.mono om));replace D:=hH (D.out.at hb4);replace Kz:=D.out.o4;replace u:=hH (u.out.at hb4);replace Kr:=u.out.q4;clear hb4
  obtain⟨b1,o1,cs,g1,g2,g3⟩:=(J.below j.out).idx Tryz.underlying23 uag k HD.out;obtain⟨d_text,d_list,d_seen,rfl,nd,r_text,r_list,r_seen⟩:=Kai g3;have q0:=g2.zero;have q1:=g2 1 _ rfl;have q2:=g2 2 _ rfl;have q3:=g2 3 _ rfl;have q4:=g2 4 _ rfl;first
  |have:Unit:=Z
   clear this;have l1:b1<w3.heap.size:=lk (w:=w3) (a:=⟨b1,o1,none⟩) q0
  |have l1:b1<w4.heap.size:=lk (w:=w4) (a:=⟨b1,o1,none⟩) q0
  obtain⟨at_,ct,rfl⟩:=r_text.isSlice
  obtain⟨al,cl,rfl⟩:=r_list.isSlice;obtain⟨az,cz,rfl⟩:=r_seen.isSlice;clear g2 g3;go_wp2_with fail
  first
  |have:Unit:=Z
   clear this;refine(Jab d _ _ _ _ (r_list.below (lf w3 w3)) om om).mono ?_;rintro e' w4 ⟨rfl,hb4⟩;have s4:w3<=w4.heap.size:=szl hb4;replace j:=hH (j.out.trans (hb4.mono om));replace D:=hH (D.out.at hb4)
  |refine(zac d _ _ _ _ (r_list.below ((lf w4 w4).alloc om _)) om om).mono ?_
   rintro e' w5 ⟨rfl,hb5⟩;have s5:w4+1<=w5.heap.size:=szl hb5;replace j:=hH ((j.out.alloc om _).trans (hb5.mono om));replace HOWN:Hid (Qab w3 w4 w5 (.slice ad z.docs.length cd) (.slice as_ z.subs.length cs_) (z.docs) (z.subs)):=hH (((HOWN.out.alloc om _).below (hb5.mono om)));replace D:=hH ((D.out.alloc _).at hb5)
  replace Kz:=D.out.o4;first
  |have:Unit:=Z
   clear this;replace u:=hH (u.out.at hb4)
  |replace u:=hH ((u.out.alloc _).at hb5)
  replace Kr:=u.out.q4;first
  |have:Unit:=Z
   clear this;clear hb4
  |have HXo:Hid (Bx w5 w4 [false,.slice ad z.docs.length cd,.slice as_ z.subs.length cs_,.int .i64 (z.last+1)]):=hH ((Bx.new (by first|rfl|simp|omega)).at hb5)
   have Ko:=HXo.out.q4;clear hb5
  clear g1 q0 q1 q2 q3 q4 l1 r_text r_list r_seen;go_wp2_with fail
  refine(HRN.out _).mono ?_;first
  |have:Unit:=Z
   clear this;rintro e' w5 ⟨vr,fr,rfl,sr,kr,hb5⟩
  |rintro e' w6 ⟨vr,fr,rfl,sr,kr,hb6⟩
  obtain⟨ar,cr,rfl⟩:=sr.nilS;first
  |have:Unit:=Z
   clear this;have HRG:Hid (zag w4 w5 w5 (.slice ar 0 cr) ([]:List yab)):=hH ⟨fr,sr,kr,Live.lt sr.live⟩
  |have HRG:Hid (zag w5 w6 w6 (.slice ar 0 cr) ([]:List yab)):=hH ⟨fr,sr,kr,Live.lt sr.live⟩
  clear sr kr;(try dsimp only)
  first
  |have:Unit:=Z
   clear this;have s5:w4<=w5.heap.size:=szl hb5;replace j:=hH (j.out.trans (hb5.mono om));replace D:=hH (D.out.at hb5)
  |have s6:w5<=w6.heap.size:=szl hb6
   replace j:=hH (j.out.trans (hb6.mono om));replace HOWN:Hid (Qab w3 w4 w6 (.slice ad z.docs.length cd) (.slice as_ z.subs.length cs_) (z.docs) (z.subs)):=hH ((HOWN.out.below (hb6.mono om)));replace D:=hH (D.out.at hb6)
  replace Kz:=D.out.o4;first
  |have:Unit:=Z
   clear this;replace u:=hH (u.out.at hb5)
  |replace u:=hH (u.out.at hb6)
  replace Kr:=u.out.q4;first
  |have:Unit:=Z
   clear this;clear hb5;go_wp2_with fail
   refine(HCP.out _ (J.below (j.out.alloc om _)) (Y.below (j.out.alloc om _)) HZ.out).mono ?_;rintro e' w6 ⟨_,rfl,ho6,hb6⟩;obtain⟨vd,vs,rfl,hown⟩:=Qab.of_own ho6;rw[hsh];obtain⟨ad,cd,rfl⟩:=hown.rd1.isSlice;obtain⟨as_,cs_,rfl⟩:=hown.rd2.isSlice;have HOWN:=hH (hown.mono (C':=w5+1) om);clear ho6 hown;have s6:w5+1<=w6.heap.size:=szl hb6;replace j:=hH ((j.out.alloc om _).trans (hb6.mono om));replace HRG:Hid (zag w4 w5 w6 (.slice ar 0 cr) ([]:List yab)):=hH (((HRG.out.alloc _).below hb6));replace D:=hH ((D.out.alloc _).at hb6);replace Kz:=D.out.o4;replace u:=hH ((u.out.alloc _).at hb6);replace Kr:=u.out.q4;have HXg:Hid (Bx w6 w5 [room,.int .i64 (yaa d+1),false,.slice ar 0 cr]):=hH ((Bx.new (by first|rfl|simp|omega)).at hb6)
   have Kg:=HXg.out.q4
  |replace HXo:=hH (HXo.out.at hb6)
   replace Ko:=HXo.out.q4
  clear hb6;go_upto_region 13 with(fail)
  first
  |have:Unit:=Z
   clear this;obtain⟨U,hU⟩:∃U:World,U=(w6.alloc (.cells #[false,.slice ad z.docs.length cd,.slice as_ z.subs.length cs_,.int .i64 (z.last+1)] 26)):=⟨_,rfl⟩
  |obtain⟨U,hU⟩:∃U:World,U=(w6.alloc (.cells #[room,.int .i64 (yaa d+1),false,.slice ar 0 cr] 70)):=⟨_,rfl⟩
  have sU:w6+1<=U.heap.size:=by rw[hU];first|(simp;done)|(simp;omega)
  replace j:Hid (Below w w U):=hH (by rw[hU];exact(j.out.alloc om _))
  first
  |have:Unit:=Z
   clear this;replace HRG:Hid (zag w4 w5 U (.slice ar 0 cr) ([]:List yab)):=hH (by rw[hU];exact(HRG.out.alloc _))
   replace HOWN:Hid (Qab (w5+1) w6 U (.slice ad z.docs.length cd) (.slice as_ z.subs.length cs_) (z.docs) (z.subs)):=hH (by rw[hU];exact(HOWN.out.alloc om _))
  |replace HOWN:Hid (Qab w3 w4 U (.slice ad z.docs.length cd) (.slice as_ z.subs.length cs_) (z.docs) (z.subs)):=hH (by rw[hU];exact(HOWN.out.alloc om _))
   replace HRG:Hid (zag w5 w6 U (.slice ar 0 cr) ([]:List yab)):=hH (by rw[hU];exact(HRG.out.alloc _))
  replace D:Hid (Bx U w [false,I,M,z.last]):=hH (by rw[hU];exact(D.out.alloc _))
  replace Kz:=D.out.o4;replace u:Hid (Bx U (w+1) [false,zN,zN,zI]):=hH (by rw[hU];exact(u.out.alloc _))
  replace Kr:=u.out.q4;first
  |have:Unit:=Z
   clear this;replace HXg:Hid (Bx U w5 [room,.int .i64 (yaa d+1),false,.slice ar 0 cr]):=hH (by rw[hU];exact(HXg.out.alloc _))
   replace Kg:=HXg.out.q4;have HXo:Hid (Bx U w6 [false,.slice ad z.docs.length cd,.slice as_ z.subs.length cs_,.int .i64 (z.last+1)]):=hH (by rw[hU];exact(Bx.new (by first|rfl|simp|omega)))
   have Ko:=HXo.out.q4
  |replace HXo:Hid (Bx U w4 [false,.slice ad z.docs.length cd,.slice as_ z.subs.length cs_,.int .i64 (z.last+1)]):=hH (by rw[hU];exact(HXo.out.alloc _))
   replace Ko:=HXo.out.q4;have HXg:Hid (Bx U w6 [room,.int .i64 (yaa d+1),false,.slice ar 0 cr]):=hH (by rw[hU];exact(Bx.new (by first|rfl|simp|omega)))
   have Kg:=HXg.out.q4
  rw[<-hU];clear hU;first
  |have:Unit:=Z
   clear this;obtain⟨gs,hrow,hlt,happ⟩:=HOWN.out.row (B:=w+2) (ob:=w6) om om (lr _);have HG:Hid (∀p∈rowP (GoT.n yai) (.slice as_ z.subs.length cs_),w5+1<=p.1/\p.1<w6):=hH fun p hp=>⟨hrow.2.1.ge p hp,hlt p (lu _ hp)⟩
  |obtain⟨gs,hrow,hlt,happ⟩:=HOWN.out.row (B:=w+2) (ob:=w4) om om (lr _)
   have HG:Hid (∀p∈rowP (GoT.n yai) (.slice as_ z.subs.length cs_),w3<=p.1/\p.1<w4):=hH fun p hp=>⟨hrow.2.1.ge p hp,hlt p (lu _ hp)⟩
  have HROW:=hH hrow;have HAPP:=hH happ;obtain⟨f,sv,kv,lv⟩:=HRG.out;have HSV:=hH sv;have HKV:=hH kv;have HLV:=hH lv;clear hrow hlt happ sv kv lv;have HRD:Hid (GoT.rd BIG U [.int .i64 (z.last+1),name,room,.int .i64 (yaa d+1),false,.slice ar 0 cr] (xaz z name room (yaa d)) f):=hH ⟨_,_,rfl,nn,⟨_,f,rfl,HSV.out.belowW (lf U U),rfl⟩,rfl⟩;have HBC:Hid (Below U U (U.alloc (.cells #[.int .i64 (z.last+1),name,room,.int .i64 (yaa d+1),false,.slice ar 0 cr] 72))):=hH ((lf U U).alloc om _);go_wp2_with (at_builtin;refine qaa rfl _ _ 24 rfl Tryz.underlying24 hj jz0 jz1 jz2 rfl rfl rfl (HROW.out.below HBC.out) (Zac (x:=xaz z name room (yaa d)) 72 HRD.out) (fun q hq hm=>by have e1:=HKV.out.ge q hq;have e2:=HG.out q hm;have e3:=HLV.out q hq;omega) ?c1 ?c2 ?c3 ?_)
  case c1=>simp;exact Xab om
  case c2=>simp;omega
  case c3=>simp;omega
  intro v7 w7 hr7 hw7 hn7;obtain⟨a7,c7,e7⟩:=hr7.rd.isSlice;rw[List.length_append,List.length_singleton]at e7;subst e7;first
  |have:Unit:=Z
   clear this;have HNEW:Hid (vag w6 (w+2) w7 (.slice ad z.docs.length cd) (.slice a7 (z.subs.length+1) c7) z.docs (z.subs++[xaz z name room (yaa d)])):=hH (HAPP.out _ _ _ _ _ HBC.out hw7 hr7 (fun p hp=>(hn7 p.1 p.2 hp).imp_right fun h=>by have:=HBC.out.size;(try simp at h);(try simp at this);omega) ((HKV.out.belowL HBC.out (Live.lt HSV.out.live)).mono om) (HSV.out.live.keep (Live.same_below HBC.out (Live.lt HSV.out.live))) (fun p hp=>by have:=HKV.out.ge p hp;have:=HLV.out p hp;omega))
  |have HNEW:Hid (vag w4 (w+2) w7 (.slice ad z.docs.length cd) (.slice a7 (z.subs.length+1) c7) z.docs (z.subs++[xaz z name room (yaa d)])):=hH (HAPP.out _ _ _ _ _ HBC.out hw7 hr7 (fun p hp=>(hn7 p.1 p.2 hp).imp_right fun h=>by have:=HBC.out.size;(try simp at h);(try simp at this);omega) ((HKV.out.belowL HBC.out (Live.lt HSV.out.live)).mono om) (HSV.out.live.keep (Live.same_below HBC.out (Live.lt HSV.out.live))) (fun p hp=>by have:=HKV.out.ge p hp;have:=HLV.out p hp;omega))
  have s7:U+1<=w7.heap.size:=by have:=hw7.size;(try simp at this);omega
  replace j:Hid (Below w w w7):=hH ((j.out.alloc om _).trans (hw7.below (by simp;omega) (fun p hp=>by have:=HG.out p hp;omega)))
  replace D:Hid (Bx w7 w [false,I,M,z.last]):=hH ((D.out.alloc _).wr hw7 (fun p hp e=>by have:=HG.out p hp;omega))
  replace Kz:=D.out.o4;replace u:Hid (Bx w7 (w+1) [false,zN,zN,zI]):=hH ((u.out.alloc _).wr hw7 (fun p hp e=>by have:=HG.out p hp;omega))
  replace Kr:=u.out.q4;first
  |have:Unit:=Z
   clear this;replace HXo:Hid (Bx w7 w6 [false,.slice ad z.docs.length cd,.slice as_ z.subs.length cs_,.int .i64 (z.last+1)]):=hH ((HXo.out.alloc _).wr hw7 (fun p hp e=>by have:=HG.out p hp;omega))
  |replace HXo:Hid (Bx w7 w4 [false,.slice ad z.docs.length cd,.slice as_ z.subs.length cs_,.int .i64 (z.last+1)]):=hH ((HXo.out.alloc _).wr hw7 (fun p hp e=>by have:=HG.out p hp;omega))
  replace Ko:=HXo.out.q4;clear hr7 hw7 hn7 HBC HROW HAPP HRD HSV HKV;go_upto_region 14 with(fail)
  first
  |have:Unit:=Z
   clear this;obtain⟨V,hV⟩:∃V:World,V=(w7.setCell ⟨w6,2,none⟩ (.slice a7 (z.subs.length+1) c7)):=⟨_,rfl⟩
  |obtain⟨V,hV⟩:∃V:World,V=(w7.setCell ⟨w4,2,none⟩ (.slice a7 (z.subs.length+1) c7)):=⟨_,rfl⟩
  have sV:w7<=V.heap.size:=by rw[hV];first|(simp;done)|(simp;omega)
  first
  |have:Unit:=Z
   clear this;replace j:Hid (Below w w V):=hH (by rw[hV];exact(j.out.setCell (p:=⟨w6,2,none⟩) om _))
   replace HNEW:Hid (vag w6 (w+2) V (.slice ad z.docs.length cd) (.slice a7 (z.subs.length+1) c7) z.docs (z.subs++[xaz z name room (yaa d)])):=hH (by rw[hV];exact(HNEW.out.setCell om _))
  |replace j:Hid (Below w w V):=hH (by rw[hV];exact(j.out.setCell (p:=⟨w4,2,none⟩) om _))
   replace HNEW:Hid (vag w4 (w+2) V (.slice ad z.docs.length cd) (.slice a7 (z.subs.length+1) c7) z.docs (z.subs++[xaz z name room (yaa d)])):=hH (by rw[hV];exact(HNEW.out.setCell om _))
  replace D:Hid (Bx V w [false,I,M,z.last]):=hH (by rw[hV];exact(D.out.setO om))
  replace Kz:=D.out.o4;replace u:Hid (Bx V (w+1) [false,zN,zN,zI]):=hH (by rw[hV];exact(u.out.setO om))
  replace Kr:=u.out.q4;first
  |have:Unit:=Z
   clear this;replace HXo:Hid (Bx V w6 [false,.slice ad z.docs.length cd,.slice a7 (z.subs.length+1) c7,.int .i64 (z.last+1)]):=hH (by rw[hV];exact(HXo.out.set 2 (.slice a7 (z.subs.length+1) c7)))
  |replace HXo:Hid (Bx V w4 [false,.slice ad z.docs.length cd,.slice a7 (z.subs.length+1) c7,.int .i64 (z.last+1)]):=hH (by rw[hV];exact(HXo.out.set 2 (.slice a7 (z.subs.length+1) c7)))
  replace Ko:=HXo.out.q4;rw[<-hV];clear hV;go_region
  first
  |have:Unit:=Z
   clear this;have HH:Hid (vag w6 (w+2) ((((V.setCell ⟨w+1,0,none⟩ false).setCell ⟨w+1,1,none⟩ (.slice ad z.docs.length cd)).setCell ⟨w+1,2,none⟩ (.slice a7 (z.subs.length+1) c7)).setCell ⟨w+1,3,none⟩ (.int .i64 (z.last+1))).drew (.slice ad z.docs.length cd) (.slice a7 (z.subs.length+1) c7) z.docs (z.subs++[xaz z name room (yaa d)])):=hH ((((HNEW.out.setCell om _).setCell om _).setCell om _).setCell om _).drew
  |have HH:Hid (vag w4 (w+2) ((((V.setCell ⟨w+1,0,none⟩ false).setCell ⟨w+1,1,none⟩ (.slice ad z.docs.length cd)).setCell ⟨w+1,2,none⟩ (.slice a7 (z.subs.length+1) c7)).setCell ⟨w+1,3,none⟩ (.int .i64 (z.last+1))).drew (.slice ad z.docs.length cd) (.slice a7 (z.subs.length+1) c7) z.docs (z.subs++[xaz z name room (yaa d)])):=hH ((((HNEW.out.setCell om _).setCell om _).setCell om _).setCell om _).drew
  have HB:Hid (Below w w ((((V.setCell ⟨w+1,0,none⟩ false).setCell ⟨w+1,1,none⟩ (.slice ad z.docs.length cd)).setCell ⟨w+1,2,none⟩ (.slice a7 (z.subs.length+1) c7)).setCell ⟨w+1,3,none⟩ (.int .i64 (z.last+1))).drew):=hH ((((j.out.setCell (p:=⟨w+1,0,none⟩) om _).setCell (p:=⟨w+1,1,none⟩) om _).setCell (p:=⟨w+1,2,none⟩) om _).setCell (p:=⟨w+1,3,none⟩) om _).drew;go_wp2;rw[HV.out];exact bodyPost_ret (v:= .tuple #[.agg #[false,.slice ad z.docs.length cd,.slice a7 (z.subs.length+1) c7,.int .i64 (z.last+1)],.int .i64 (z.last+1),zI]) (by simp[results,Tryz.results96,Tryz.results17,go_sem,xaa, *]) rfl (vag.out_i_i (y:=⟨false,z.docs,z.subs++[xaz z name room (yaa d)],z.last+1⟩) HH.out om HB.out)
def zas:=@jaw 96 (.inl rfl)
def jas:=@jaw 17 (.inr rfl)
