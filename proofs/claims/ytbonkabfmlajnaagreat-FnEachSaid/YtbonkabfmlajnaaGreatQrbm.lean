/- Hubs: poll. -/
import Derived.Test.YtbonkabfmlajnaaGreatQray
import Derived.Test.YtbonkabfmlajnaaGreatQrbh
import Derived.Test.YtbonkabfmlajnaaGreatQrbl
set_option maxHeartbeats 4000000
set_option maxRecDepth 100000
set_option linter.defProp false
set_option linter.unusedSimpArgs false
namespace Go.Proofs.YtbonkabfmlajnaaGreat
open Go.RowKit
attribute [local go_sem ↓] Go.wp_at_zero Go.wp_at_succ
def Xaw (s:yai)(r:vac):yai:=⟨s.id,s.doc,r⟩
def qah (z:qae)(id n:Int):qae×List yab×Int:=
 if Qac z=true/\1<=n then
  (if Jal z id<0 then(zao,[],8)else match z.subs[(Jal z id).toNat]? with
   |some s=>if(xad s.r n).2.2=0 then(⟨z.shut,z.docs,z.subs.set (Jal z id).toNat (Xaw s (xad s.r n).1),z.last⟩,(xad s.r n).2.1,0)else(zao,[],(xad s.r n).2.2)
   |none=>(zao,[],8))
 else(zao,[],1)
theorem ZaR {z:qae}{id n:Int}(h:¬(Qac z=true/\1<=n)):qah z id n=(zao,[],1):=if_neg h
theorem ua1 {z:qae}{id n:Int}(h:Qac z=true/\1<=n)(j:Jal z id<0):qah z id n=(zao,[],8):=by unfold qah;rw[if_pos h,if_pos j]
theorem JaX {z:qae}{id n c:Int}{k:Nat}{s:yai}{r:vac}{l:List yab}(h:Qac z=true/\1<=n)(p:Jal z id=k)(u:z.subs[k]? =some s)(q:xad s.r n=(r,l,c))(j:c≠0):qah z id n=(zao,[],c):=by
 unfold qah;rw[if_pos h,if_neg om,p,Int.toNat_natCast,u];simp only[q];rw[if_neg j]
theorem za2 {z:qae}{id n:Int}{k:Nat}{s:yai}{r:vac}{l:List yab}(h:Qac z=true/\1<=n)(j:Jal z id=k)(q:z.subs[k]? =some s)(p:xad s.r n=(r,l,0)):
 qah z id n=(⟨z.shut,z.docs,z.subs.set k (Xaw s r),z.last⟩,l,0):=by
 unfold qah;rw[if_pos h,if_neg om,j,Int.toNat_natCast,q];simp[p]
theorem kaL {N_:Nat}(h_:N_=97\/N_=18)(z:qae)(J q:Value)(id n:Int)(w:World)(U:RdS w J z.docs)(I:RdS w q z.subs):Calls Tryz.prog N_ #[.agg #[z.shut,J,q,z.last],id,n] w (jaq w (qah z id n).1 (qah z id n).2.1 (qah z id n).2.2):=by
 rcases h_ with rfl|rfl
 have k_1:=hH @yal;have k_2:=hH @qaf;have k_3:=hH @zaD;have k_4:=hH @KaL;go_enter Tryz.func97,Tryz.ntmps97;rotate_left;have k_1:=hH @uah;have k_2:=hH @kaf;have k_3:=hH @KaD;have k_4:=hH @KaK;go_enter Tryz.func18,Tryz.ntmps18;all_goals
  have hOK:=fun(W':World) (a:RdS W' J z.docs) (b:RdS W' q z.subs)=>k_1.out z J q W' a b
  have hCP:=fun(W':World) (a:RdS W' J z.docs) (b:RdS W' q z.subs) (c:uaM z)=>k_2.out z J q W' a b c
  have hF0:=fun(W':World) (b:RdS W' q z.subs)=>k_3.out z J q id W' b
  obtain⟨sh,hsh⟩:∃sh:Bool,z.shut=sh:=⟨_,rfl⟩;simp only[hsh]at hOK hCP hF0;rw[hsh];have HOK:=hH hOK;have HCP:=hH hCP;have HF0:=hH hF0;clear hOK hCP hF0;by_cases h1:Qac z=true
  rotate_left
  ·have h1:Qac z=false:=by simpa using h1
   have HV:=hH (ZaR (z:=z) (id:=id) (n:=n) fun h=>by rw[h1]at h;cases h.1)
   go_wp2_with fail
   refine(HF0.out _ (I.below (((lf w w).alloc om _).alloc om _))).mono ?_;rintro e' Y ⟨rfl,N⟩;have s1:w+2<=Y.heap.size:=szl N;have j:=hH ((((lf w w).alloc om _).alloc om _).trans (N.mono om));have D:Hid (Bx Y w [sh,J,q,z.last]):=hH (((Bx.new (by first|rfl|simp|omega)).alloc _).at N)
   have Kz:=D.out.o4;have u:Hid (Bx Y (w+1) [false,zN,zN,zI]):=hH ((Bx.new (by first|rfl|simp|omega)).at N)
   have Kr:=u.out.q4;clear N;go_wp2_with fail
   refine(HOK.out _ (U.below j.out) (I.below j.out)).mono ?_;rintro e' w2 ⟨rfl,Q⟩;rw[h1];have s2:Y<=w2.heap.size:=szl Q;replace j:=hH (j.out.trans (Q.mono om));replace D:=hH (D.out.at Q);replace Kz:=D.out.o4;replace u:=hH (u.out.at Q);replace Kr:=u.out.q4;clear Q;go_wp2;rw[HV.out];exact bodyPost_ret (v:= .tuple #[.agg #[false,zN,zN,zI],zN,.int .i64 1]) (by simp[results,Tryz.results97,Tryz.results18,go_sem,xaa, *]) rfl (vaq (Kam j.out om))
  have HZ:=hH (yaT h1);by_cases h2:1<=n
  rotate_left
  ·have HV:=hH (ZaR (z:=z) (id:=id) (n:=n) fun h=>h2 h.2)
   have h2:n<1:=om;go_wp2_with fail
   refine(HF0.out _ (I.below (((lf w w).alloc om _).alloc om _))).mono ?_;rintro e' Y ⟨rfl,N⟩;have s1:w+2<=Y.heap.size:=szl N;have j:=hH ((((lf w w).alloc om _).alloc om _).trans (N.mono om));have D:Hid (Bx Y w [sh,J,q,z.last]):=hH (((Bx.new (by first|rfl|simp|omega)).alloc _).at N)
   have Kz:=D.out.o4;have u:Hid (Bx Y (w+1) [false,zN,zN,zI]):=hH ((Bx.new (by first|rfl|simp|omega)).at N)
   have Kr:=u.out.q4;clear N;go_wp2_with fail
   refine(HOK.out _ (U.below j.out) (I.below j.out)).mono ?_;rintro e' w2 ⟨rfl,Q⟩;rw[h1];have s2:Y<=w2.heap.size:=szl Q;replace j:=hH (j.out.trans (Q.mono om));replace D:=hH (D.out.at Q);replace Kz:=D.out.o4;replace u:=hH (u.out.at Q);replace Kr:=u.out.q4;clear Q;go_wp2;rw[HV.out];exact bodyPost_ret (v:= .tuple #[.agg #[false,zN,zN,zI],zN,.int .i64 1]) (by simp[results,Tryz.results97,Tryz.results18,go_sem,xaa, *]) rfl (vaq (Kam j.out om))
  have h2a:¬n<1:=om;by_cases h3:Jal z id<0
  ·have HV:=hH (ua1 (n:=n) ⟨h1,h2⟩ h3);go_wp2_with fail
   refine(HF0.out _ (I.below (((lf w w).alloc om _).alloc om _))).mono ?_;rintro e' Y ⟨rfl,N⟩;have s1:w+2<=Y.heap.size:=szl N;have j:=hH ((((lf w w).alloc om _).alloc om _).trans (N.mono om));have D:Hid (Bx Y w [sh,J,q,z.last]):=hH (((Bx.new (by first|rfl|simp|omega)).alloc _).at N)
   have Kz:=D.out.o4;have u:Hid (Bx Y (w+1) [false,zN,zN,zI]):=hH ((Bx.new (by first|rfl|simp|omega)).at N)
   have Kr:=u.out.q4;clear N;go_wp2_with fail
   refine(HOK.out _ (U.below j.out) (I.below j.out)).mono ?_;rintro e' w2 ⟨rfl,Q⟩;rw[h1];have s2:Y<=w2.heap.size:=szl Q;replace j:=hH (j.out.trans (Q.mono om));replace D:=hH (D.out.at Q);replace Kz:=D.out.o4;replace u:=hH (u.out.at Q);replace Kr:=u.out.q4;clear Q;go_wp2;rw[HV.out];exact bodyPost_ret (v:= .tuple #[.agg #[false,zN,zN,zI],zN,.int .i64 8]) (by simp[results,Tryz.results97,Tryz.results18,go_sem,xaa, *]) rfl (vaq (Kam j.out om))
  obtain⟨k,s,hk,hs⟩:=yaE h3;have HK:=hH hk;have HD:=hH hs;have bs:=(vad.1 h1).ns;have kl:=(lg.1 hs).1;have hrs:=(ZaL ((vad.1 h1).ring (List.mem_of_getElem? hs))).1;obtain⟨⟨M,ll,cc⟩,hp⟩:∃p,xad s.r n=p:=⟨_,rfl⟩;have hRP:=fun(W':World) (v:Value) (a:RdS W' v s.r.list)=>(by have:=k_4.out s.r n v W' a hrs;rw[hp]at this;exact this:Calls Tryz.prog _ #[.agg #[s.r.cap,s.r.next,s.r.out,v],n] W' (xae W' M ll cc))
  have HRP:=hH hRP;clear hRP;by_cases hc:cc=0
  rotate_left
  ·have HV:=hH (JaX ⟨h1,h2⟩ hk hs hp hc);have c1:(cc==0)=false:=by simp;omega
   have c2:(cc !=0)=true:=by simp;omega
   clear hk hs hp hc h3;go_wp2_with fail
   refine(HF0.out _ (I.below (((lf w w).alloc om _).alloc om _))).mono ?_;rintro e' Y ⟨rfl,N⟩;rw[HK.out];have s1:w+2<=Y.heap.size:=szl N;have j:=hH ((((lf w w).alloc om _).alloc om _).trans (N.mono om));have D:Hid (Bx Y w [sh,J,q,z.last]):=hH (((Bx.new (by first|rfl|simp|omega)).alloc _).at N)
   have Kz:=D.out.o4;have u:Hid (Bx Y (w+1) [false,zN,zN,zI]):=hH ((Bx.new (by first|rfl|simp|omega)).at N)
   have Kr:=u.out.q4;clear N;go_wp2_with fail
   refine(HOK.out _ (U.below j.out) (I.below j.out)).mono ?_;rintro e' w2 ⟨rfl,Q⟩;rw[h1];have s2:Y<=w2.heap.size:=szl Q;replace j:=hH (j.out.trans (Q.mono om));replace D:=hH (D.out.at Q);replace Kz:=D.out.o4;replace u:=hH (u.out.at Q);replace Kr:=u.out.q4;clear Q;obtain⟨b1,o1,cs,g1,g2,g3⟩:=(I.below j.out).idx Tryz.underlying24 ual k HD.out;obtain⟨v_rl,rfl,nd,a0⟩:=xap g3;have q0:=g2.zero;have q1:=g2 1 _ rfl;have q2:=g2 2 _ rfl;have q3:=g2 3 _ rfl;have q4:=g2 4 _ rfl;have q5:=g2 5 _ rfl;have l1:b1<w2.heap.size:=lk (w:=w2) (a:=⟨b1,o1,none⟩) q0;obtain⟨arl,crl,rfl⟩:=a0.isSlice;clear g2 g3;go_wp2_with fail
   refine(HRP.out _ _ a0).mono ?_;rintro e' w3 ⟨vr,vl,fr,fl,rfl,sr,sl,kr,Z⟩;obtain⟨ar,cr,rfl⟩:=sr.isS;obtain⟨al,cl,rfl⟩:=sl.isS;have HTW:Hid (Two w2 w3 w3 (.slice ar M.list.length cr) (.slice al ll.length cl) M.list ll fr fl):=hH ⟨sr,sl,kr,Live.lt (Live.append.2 ⟨sr.live,sl.live⟩)⟩;clear sr sl kr;have s3:w2<=w3.heap.size:=szl Z;replace j:=hH (j.out.trans (Z.mono om));replace D:=hH (D.out.at Z);replace Kz:=D.out.o4;replace u:=hH (u.out.at Z);replace Kr:=u.out.q4;clear Z;clear g1 q0 q1 q2 q3 q4 q5 l1 a0;go_wp2;have HB:Hid (Below w w (((((w3.setCell ⟨w+1,0,none⟩ false).setCell ⟨w+1,1,none⟩ zN).setCell ⟨w+1,2,none⟩ zN).setCell ⟨w+1,3,none⟩ zI).alloc (.cells #[M.cap,M.next,M.out,.slice ar M.list.length cr] 70))):=hH (((((j.out.setCell (p:=⟨w+1,0,none⟩) om _).setCell (p:=⟨w+1,1,none⟩) om _).setCell (p:=⟨w+1,2,none⟩) om _).setCell (p:=⟨w+1,3,none⟩) om _).alloc om _);rw[HV.out];exact bodyPost_ret (v:= .tuple #[.agg #[false,zN,zN,zI],zN,cc]) (by simp[results,Tryz.results97,Tryz.results18,go_sem,xaa, *]) rfl (vaq HB.out)
  subst hc;have HV:=hH (za2 ⟨h1,h2⟩ hk hs hp);clear hk hs hp h3;go_wp2_with fail
  refine(HF0.out _ (I.below (((lf w w).alloc om _).alloc om _))).mono ?_;rintro e' Y ⟨rfl,N⟩;rw[HK.out];have s1:w+2<=Y.heap.size:=szl N;have j:=hH ((((lf w w).alloc om _).alloc om _).trans (N.mono om));have D:Hid (Bx Y w [sh,J,q,z.last]):=hH (((Bx.new (by first|rfl|simp|omega)).alloc _).at N)
  have Kz:=D.out.o4;have u:Hid (Bx Y (w+1) [false,zN,zN,zI]):=hH ((Bx.new (by first|rfl|simp|omega)).at N)
  have Kr:=u.out.q4;clear N;go_wp2_with fail
  refine(HOK.out _ (U.below j.out) (I.below j.out)).mono ?_;rintro e' w2 ⟨rfl,Q⟩;rw[h1];have s2:Y<=w2.heap.size:=szl Q;replace j:=hH (j.out.trans (Q.mono om));replace D:=hH (D.out.at Q);replace Kz:=D.out.o4;replace u:=hH (u.out.at Q);replace Kr:=u.out.q4;clear Q;obtain⟨b1,o1,cs,g1,g2,g3⟩:=(I.below j.out).idx Tryz.underlying24 ual k HD.out;obtain⟨v_rl,rfl,nd,a0⟩:=xap g3;have q0:=g2.zero;have q1:=g2 1 _ rfl;have q2:=g2 2 _ rfl;have q3:=g2 3 _ rfl;have q4:=g2 4 _ rfl;have q5:=g2 5 _ rfl;have l1:b1<w2.heap.size:=lk (w:=w2) (a:=⟨b1,o1,none⟩) q0;obtain⟨arl,crl,rfl⟩:=a0.isSlice;clear g2 g3;go_wp2_with fail
  refine(HRP.out _ _ a0).mono ?_;rintro e' w3 ⟨vr,vl,fr,fl,rfl,sr,sl,kr,Z⟩;obtain⟨ar,cr,rfl⟩:=sr.isS;obtain⟨al,cl,rfl⟩:=sl.isS;have HTW:Hid (Two w2 w3 w3 (.slice ar M.list.length cr) (.slice al ll.length cl) M.list ll fr fl):=hH ⟨sr,sl,kr,Live.lt (Live.append.2 ⟨sr.live,sl.live⟩)⟩;clear sr sl kr;have s3:w2<=w3.heap.size:=szl Z;replace j:=hH (j.out.trans (Z.mono om));replace D:=hH (D.out.at Z);replace Kz:=D.out.o4;replace u:=hH (u.out.at Z);replace Kr:=u.out.q4;clear Z;clear g1 q0 q1 q2 q3 q4 q5 l1 a0;go_wp2_with fail
  refine(HCP.out _ (U.below (j.out.alloc om _)) (I.below (j.out.alloc om _)) HZ.out).mono ?_;rintro e' w4 ⟨_,rfl,ho4,hb4⟩;obtain⟨vd,vs,rfl,hown⟩:=Qab.of_own ho4;rw[hsh];obtain⟨ad,cd,rfl⟩:=hown.rd1.isSlice;obtain⟨as_,cs_,rfl⟩:=hown.rd2.isSlice;have HOWN:=hH (hown.mono (C':=w3+1) om);clear ho4 hown;have s4:w3+1<=w4.heap.size:=szl hb4;replace j:=hH ((j.out.alloc om _).trans (hb4.mono om));replace HTW:Hid (Two w2 w3 w4 (.slice ar M.list.length cr) (.slice al ll.length cl) M.list ll fr fl):=hH (((HTW.out.alloc om _).below (hb4.mono om)));replace D:=hH ((D.out.alloc _).at hb4);replace Kz:=D.out.o4;replace u:=hH ((u.out.alloc _).at hb4);replace Kr:=u.out.q4;have HXg:Hid (Bx w4 w3 [M.cap,M.next,M.out,.slice ar M.list.length cr]):=hH ((Bx.new (by first|rfl|simp|omega)).at hb4)
  have Kg:=HXg.out.q4;clear hb4;go_upto_region 10 with(fail)
  obtain⟨V,hV⟩:∃V:World,V=(w4.alloc (.cells #[sh,.slice ad z.docs.length cd,.slice as_ z.subs.length cs_,z.last] 26)):=⟨_,rfl⟩;have sV:w4+1<=V.heap.size:=by rw[hV];first|(simp;done)|(simp;omega)
  replace j:Hid (Below w w V):=hH (by rw[hV];exact(j.out.alloc om _))
  replace HTW:Hid (Two w2 w3 V (.slice ar M.list.length cr) (.slice al ll.length cl) M.list ll fr fl):=hH (by rw[hV];exact(HTW.out.alloc om _))
  replace HOWN:Hid (Qab (w3+1) w4 V (.slice ad z.docs.length cd) (.slice as_ z.subs.length cs_) (z.docs) (z.subs)):=hH (by rw[hV];exact(HOWN.out.alloc om _))
  replace D:Hid (Bx V w [sh,J,q,z.last]):=hH (by rw[hV];exact(D.out.alloc _))
  replace Kz:=D.out.o4;replace u:Hid (Bx V (w+1) [false,zN,zN,zI]):=hH (by rw[hV];exact(u.out.alloc _))
  replace Kr:=u.out.q4;replace HXg:Hid (Bx V w3 [M.cap,M.next,M.out,.slice ar M.list.length cr]):=hH (by rw[hV];exact(HXg.out.alloc _))
  replace Kg:=HXg.out.q4;have HXo:Hid (Bx V w4 [sh,.slice ad z.docs.length cd,.slice as_ z.subs.length cs_,z.last]):=hH (by rw[hV];exact(Bx.new (by first|rfl|simp|omega)))
  have Ko:=HXo.out.q4;rw[<-hV];clear hV;obtain⟨R,o2,vq,i1,i2,i3,i4,i5,i6,i7,i8⟩:=HOWN.out.el (B:=w2) om Tryz.underlying24 ual HD.out;have HI8:=hH i8;have HI5:=hH i5;have y2:V.cell? ⟨R,o2+2,none⟩=some _:=i5 2 _ rfl;have x2:V.frozen? ⟨R,o2+2,none⟩=false:=i7 2 om;have y3:V.cell? ⟨R,o2+2+1,none⟩=some _:=i5 3 _ rfl;have x3:V.frozen? ⟨R,o2+2+1,none⟩=false:=i7 3 om;have y4:V.cell? ⟨R,o2+2+2,none⟩=some _:=i5 4 _ rfl;have x4:V.frozen? ⟨R,o2+2+2,none⟩=false:=i7 4 om;have y5:V.cell? ⟨R,o2+2+3,none⟩=some _:=i5 5 _ rfl;have x5:V.frozen? ⟨R,o2+2+3,none⟩=false:=i7 5 om;clear i5 i6 i7 i8;have HTE:Hid (Two w2 w3 (((((V.setCell ⟨R,o2+2,none⟩ M.cap).setCell ⟨R,o2+2+1,none⟩ M.next).setCell ⟨R,o2+2+2,none⟩ M.out).setCell ⟨R,o2+2+3,none⟩ (.slice ar M.list.length cr))) (.slice ar M.list.length cr) (.slice al ll.length cl) M.list ll fr fl):=hH ((((HTW.out.setCell om _).setCell om _).setCell om _).setCell om _);have HWE:Hid (Wr (own R o2 6) V (((((V.setCell ⟨R,o2+2,none⟩ M.cap).setCell ⟨R,o2+2+1,none⟩ M.next).setCell ⟨R,o2+2+2,none⟩ M.out).setCell ⟨R,o2+2+3,none⟩ (.slice ar M.list.length cr)))):=hH (((((Wr.refl _ _).put (b:=R) (o:=o2+2) (Kaa.2 ⟨rfl,by simp only;omega,by simp only;omega⟩) (.int .i64 M.cap)).put (b:=R) (o:=o2+2+1) (Kaa.2 ⟨rfl,by simp only;omega,by simp only;omega⟩) (.int .i64 M.next)).put (b:=R) (o:=o2+2+2) (Kaa.2 ⟨rfl,by simp only;omega,by simp only;omega⟩) (.bool M.out)).put (b:=R) (o:=o2+2+3) (Kaa.2 ⟨rfl,by simp only;omega,by simp only;omega⟩) (.slice ar M.list.length cr))
  have HAE:Hid (At (((((V.setCell ⟨R,o2+2,none⟩ M.cap).setCell ⟨R,o2+2+1,none⟩ M.next).setCell ⟨R,o2+2+2,none⟩ M.out).setCell ⟨R,o2+2+3,none⟩ (.slice ar M.list.length cr))) R o2 [s.id,s.doc,M.cap,M.next,M.out,.slice ar M.list.length cr]):=hH ((((HI5.out.put 2 sm (.int .i64 M.cap)).put 3 sm (.int .i64 M.next)).put 4 sm (.bool M.out)).put 5 sm (.slice ar M.list.length cr));obtain⟨fd,fs,sd,ss,hf,hm⟩:=HI8.out (((((V.setCell ⟨R,o2+2,none⟩ M.cap).setCell ⟨R,o2+2+1,none⟩ M.next).setCell ⟨R,o2+2+2,none⟩ M.out).setCell ⟨R,o2+2+3,none⟩ (.slice ar M.list.length cr))) M (.slice ar M.list.length cr) fr HWE.out HAE.out HTE.out.1 HTE.out.2.2.1.left (fun p hp=>by have:=HTE.out.2.2.2 p (lu _ hp);omega)
  have HH:Hid (Two w2 w4 (((((V.setCell ⟨R,o2+2,none⟩ M.cap).setCell ⟨R,o2+2+1,none⟩ M.next).setCell ⟨R,o2+2+2,none⟩ M.out).setCell ⟨R,o2+2+3,none⟩ (.slice ar M.list.length cr))) (.slice ad z.docs.length cd) (.slice as_ z.subs.length cs_) z.docs (z.subs.set k ⟨s.id,s.doc,M⟩) fd fs):=hH ⟨sd,ss,hf,fun p hp=>by rcases hm p hp with h|h;omega;have:=HTE.out.2.2.2 p (lu _ h);omega⟩
  have HM:=hH hm;clear sd ss hf hm HI8 HI5;have HB:Hid (Below w w ((((((((V.setCell ⟨R,o2+2,none⟩ M.cap).setCell ⟨R,o2+2+1,none⟩ M.next).setCell ⟨R,o2+2+2,none⟩ M.out).setCell ⟨R,o2+2+3,none⟩ (.slice ar M.list.length cr)).setCell ⟨w+1,0,none⟩ sh).setCell ⟨w+1,1,none⟩ (.slice ad z.docs.length cd)).setCell ⟨w+1,2,none⟩ (.slice as_ z.subs.length cs_)).setCell ⟨w+1,3,none⟩ z.last)):=hH ((((((((j.out.setCell (p:=⟨R,o2+2,none⟩) om _).setCell (p:=⟨R,o2+2+1,none⟩) om _).setCell (p:=⟨R,o2+2+2,none⟩) om _).setCell (p:=⟨R,o2+2+3,none⟩) om _).setCell (p:=⟨w+1,0,none⟩) om _).setCell (p:=⟨w+1,1,none⟩) om _).setCell (p:=⟨w+1,2,none⟩) om _).setCell (p:=⟨w+1,3,none⟩) om _);have HA:=hH ((((HTE.out.setCell (b:=w+1) (o:=0) (.inl om) (.bool sh)).setCell (b:=w+1) (o:=1) (.inl om) (.slice ad z.docs.length cd)).setCell (b:=w+1) (o:=2) (.inl om) (.slice as_ z.subs.length cs_)).setCell (b:=w+1) (o:=3) (.inl om) (.int .i64 z.last));have HC:=hH ((((HH.out.setCell (b:=w+1) (o:=0) (.inl om) (.bool sh)).setCell (b:=w+1) (o:=1) (.inl om) (.slice ad z.docs.length cd)).setCell (b:=w+1) (o:=2) (.inl om) (.slice as_ z.subs.length cs_)).setCell (b:=w+1) (o:=3) (.inl om) (.int .i64 z.last));go_wp2;rw[HV.out];subst hsh;have hne:¬(w.heap.size+1=R):=om;have hne2:¬(R=w.heap.size+1):=om;exact bodyPost_ret (v:= .tuple #[.agg #[z.shut,.slice ad z.docs.length cd,.slice as_ z.subs.length cs_,z.last],.slice al ll.length cl,zI]) (by simp[results,Tryz.results97,Tryz.results18,go_sem,xaa, *]) rfl (qbh (y:=⟨z.shut,z.docs,z.subs.set k (Xaw s M),z.last⟩) HC.out.1 HC.out.2.1 HA.out.2.1 (HC.out.2.2.1.mono om) (HA.out.2.2.1.right.mono om) (fun p hp hq=>by
   have a1:=HA.out.2.2.2 p (lw _ hp);rcases HM.out p hq with h|h
   ·omega
   ·exact(ln.1 HA.out.2.2.1.nodup).2.2 p h p hp rfl) HB.out)
def yaA:=@kaL 97 (.inl rfl)
def Jaz:=@kaL 18 (.inr rfl)
