/- The walk of the law of DoAll. -/
import Derived.Test.YtocdogemgojgaaaGreatRca
set_option maxHeartbeats 64000000
set_option maxRecDepth 100000
namespace Go.Proofs.YtocdogemgojgaaaGreat
open Go.RowKit
section
variable {w0 w w':World} {B:List (Nat×List Value)} {Q:List (List Pos×World)}
theorem uaa.as3 {C:Nat}{a b c:List Pos}(h:uaa C w (a++(b++c))):uaa C w ((a++b)++c):=by rw[List.append_assoc];exact h
theorem Fr.call3 (h:Fr w0 w B Q)(hb:Below w w w'){a b c:List Pos}(j:uaa w w' (a++(b++c)))(n:Live w' (a++(b++c))):Fr w0 w' B (Q++[(a++b,w'),(c,w')]):=
 (h.call hb j.as3 (by rw[List.append_assoc];exact n)).split j.as3.nodup
end
theorem walkc_FnExactDoAll (x:vaf)(xd xs:Value)(l:List xah)(v_l:Value)(w:World)(q:zau maxLen w xd x.docs)(u:zau maxLen w xs x.subs)(h_l:zau maxLen w v_l l):
 Calls Tryz.prog 5 #[.agg #[x.shut,xd,xs,x.last],v_l] w (uac w (.bool true)):=by
 go_enter Tryz.func5,Tryz.ntmps5
 go_wp2_with fail
 refine(ubl x _ _ _ _ om om ((Fr.nil w).rm0 q) ((Fr.nil w).rm0 u)).mono ?_;rintro e w1 ⟨rfl,hb1⟩;have F:=hH (((Fr.nil w).new w).below hb1);clear hb1;have K:=F.out.all;simp only[uaA,uam,Nat.zero_add,Nat.reduceAdd,and_true]at K;by_cases cz_x:((GoS.sz x:Nat):Int)<=1048576
 rotate_left
 ·rw[Xac om];go_wp2;go_ret;exact⟨rfl,F.out.fin⟩
 rw[xad om];go_wp2_with fail
 refine(Kbg _ l _ _ om om (F.out.rm0 h_l)).mono ?_;rintro e w2 ⟨rfl,hb2⟩;replace F:=hH (F.out.below hb2);clear hb2;clear K;have K:=F.out.all;simp only[uaA,uam,Nat.zero_add,Nat.reduceAdd,and_true]at K;by_cases cz_l:((szL l:Nat):Int)<=1048576-((GoS.sz x:Nat):Int)
 rotate_left
 ·rw[Xac om];go_wp2;go_ret;exact⟨rfl,F.out.fin⟩
 rw[xad om];have ex:GoS.sz x=szL x.docs+szL x.subs:=rfl;have el:szL l=l.length+szs l:=rfl;have j:RdS w xd x.docs:=let⟨fp,s⟩:=q;⟨fp,s.up (zac om)⟩
 have n:RdS w xs x.subs:=let⟨fp,s⟩:=u;⟨fp,s.up (zac om)⟩
 have B:RdS w v_l l:=let⟨fp,s⟩:=h_l;⟨fp,s.up (zac om)⟩
 have cx:jab x.docs+jab x.subs<=5242880:=by have:=Zax x;omega
 have cc:jab l<=5242880:=by have:=zag l;omega
 obtain⟨⟨y0,y1⟩,hy⟩:∃r,Kam x l=r:=⟨_,rfl⟩;have cy:=xa2 (l:=l) (z:=x) (fun c hc=>by have:=vat hc;have e:GoS.sz c=c.doc.size+szL c.o+szL c.text:=rfl;omega) om
 rw[hy]at cy;obtain⟨cy0,cy1⟩:=cy;simp only at cy0 cy1;have HD:∀N:Nat,(N=33\/N=35)->∀(vd vs vl:Value) (W:World),RdS W vd x.docs->RdS W vs x.subs->RdS W vl l->
  Calls Tryz.prog N #[.agg #[x.shut,vd,vs,x.last],vl] W (jat W y0 y1):=fun _ h vd vs vl W h1 h2 h3=>by
  have hz:Xau x:=ybk om;rcases h with rfl|rfl
  ·have:=ua3 x l vd vs vl W h1 h2 h3 hz;rwa[hy]at this
  ·have:=Qa1 x l vd vs vl W h1 h2 h3 hz;rwa[hy]at this
 have HD:=hH HD;clear hy;go_wp2_with fail
 refine(yaY x _ _ _ (F.out.rd0 j) (F.out.rd0 n)).mono ?_;rintro e w3 ⟨_,rfl,⟨fp3,ho3,FR3⟩,hb3⟩;obtain⟨vd3,vs3,fd3,fs3,rfl,Sd3,Ss3,rfl⟩:=ho3;obtain⟨ad3,cd3,rfl⟩:=RdS.isSlice ⟨_,Sd3⟩;obtain⟨as3,cs3,rfl⟩:=RdS.isSlice ⟨_,Ss3⟩;replace F:=hH (F.out.call hb3 FR3 (Live.append.2 ⟨Sd3.live,Ss3.live⟩));clear hb3;clear K;have K:=F.out.all;simp only[uaA,uam,Nat.zero_add,Nat.reduceAdd,and_true]at K;go_wp2_with fail
 refine(zaF _ l _ (F.out.rd0 B)).mono ?_;rintro e w4 ⟨vl4,rfl,⟨fl4,Sl4,FR4⟩,hb4⟩;replace F:=hH (F.out.call hb4 FR4 Sl4.live);clear hb4;clear K;have K:=F.out.all;simp only[uaA,uam,Nat.zero_add,Nat.reduceAdd,and_true]at K;go_wp2_with fail
 refine(HD.out _ (.inl rfl) _ _ _ _ (F.out.rd 0 Sd3) (F.out.rd 0 Ss3) (F.out.rd 1 Sl4)).mono ?_;rintro e w5 ⟨vd5,vs5,va5,fd5,fs5,fa5,rfl,Q,a1,a4,FR5,hb5⟩;obtain⟨ad5,cd5,rfl⟩:=RdS.isSlice ⟨_,Q⟩;obtain⟨as5,cs5,rfl⟩:=RdS.isSlice ⟨_,a1⟩;replace F:=hH (F.out.call3 hb5 FR5 (Live.append.2 ⟨Q.live,Live.append.2 ⟨a1.live,a4.live⟩⟩));clear hb5;clear K;have K:=F.out.all;simp only[uaA,uam,Nat.zero_add,Nat.reduceAdd,and_true]at K;go_wp2_with fail
 refine(yaY x _ _ _ (F.out.rd0 j) (F.out.rd0 n)).mono ?_;rintro e w6 ⟨_,rfl,⟨fp6,ho6,FR6⟩,hb6⟩;obtain⟨vd6,vs6,fd6,fs6,rfl,R,a2,rfl⟩:=ho6;obtain⟨ad6,cd6,rfl⟩:=RdS.isSlice ⟨_,R⟩;obtain⟨as6,cs6,rfl⟩:=RdS.isSlice ⟨_,a2⟩;replace F:=hH ((F.out.new w5).call hb6 FR6 (Live.append.2 ⟨R.live,a2.live⟩));clear hb6;clear K;have K:=F.out.all;simp only[uaA,uam,Nat.zero_add,Nat.reduceAdd,and_true]at K;go_wp2_with fail
 refine(zaF _ l _ (F.out.rd0 B)).mono ?_;rintro e w7 ⟨vl7,rfl,⟨fl7,a6,FR7⟩,hb7⟩;replace F:=hH ((F.out.new w6).call hb7 FR7 a6.live);clear hb7;clear K;have K:=F.out.all;simp only[uaA,uam,Nat.zero_add,Nat.reduceAdd,and_true]at K;go_wp2_with fail
 refine(HD.out _ (.inr rfl) _ _ _ _ (F.out.rd 4 R) (F.out.rd 4 a2) (F.out.rd 5 a6)).mono ?_;rintro e w8 ⟨vd8,vs8,va8,fd8,fs8,fa8,rfl,U,a3,a5,FR8,hb8⟩;obtain⟨ad8,cd8,rfl⟩:=RdS.isSlice ⟨_,U⟩;obtain⟨as8,cs8,rfl⟩:=RdS.isSlice ⟨_,a3⟩;replace F:=hH (F.out.call3 hb8 FR8 (Live.append.2 ⟨U.live,Live.append.2 ⟨a3.live,a5.live⟩⟩));clear hb8;clear K;have K:=F.out.all;simp only[uaA,uam,Nat.zero_add,Nat.reduceAdd,and_true]at K;go_wp2_with fail
 refine(KaX y0 _ _ _ _ _ (F.out.rd 6 U) (F.out.rd 2 Q) (F.out.rd 6 a3) (F.out.rd 2 a1)).mono ?_;rintro e w9 ⟨rfl,hb9⟩;replace F:=hH ((F.out.new w8).below hb9);clear hb9;clear K;have K:=F.out.all;simp only[uaA,uam,Nat.zero_add,Nat.reduceAdd,and_true]at K;go_wp2_with fail
 refine(XaC _ _ y1 _ (F.out.rd 7 a5) (F.out.rd 3 a4)).mono ?_;rintro e w10 ⟨rfl,ae⟩;replace F:=hH (F.out.below ae);clear ae;clear K;have K:=F.out.all;simp only[uaA,uam,Nat.zero_add,Nat.reduceAdd,and_true]at K;go_wp2_with fail
 go_region_held3 (fun w'=>w'.cell? ⟨w.heap.size,0,none⟩=some (.bool x.shut)/\w'.cell? ⟨w.heap.size,1,none⟩=some (xd)/\w'.cell? ⟨w.heap.size,2,none⟩=some (xs)/\w'.cell? ⟨w.heap.size,3,none⟩=some (.int .i64 x.last)/\w'.cell? ⟨w6.heap.size,0,none⟩=some (.bool x.shut)/\w'.cell? ⟨w6.heap.size,1,none⟩=some (.slice ad6 x.docs.length cd6)/\w'.cell? ⟨w6.heap.size,2,none⟩=some (.slice as6 x.subs.length cs6)/\w'.cell? ⟨w6.heap.size,3,none⟩=some (.int .i64 x.last)) (go_keep)
  (first|(go_at_call 22;skip;refine(yaY x _ _ _ (F.out.rd0 j) (F.out.rd0 n)).mono ?_;rintro e w11 ⟨_,rfl,⟨fp11,ho11,FR11⟩,af⟩;obtain⟨vd11,vs11,fd11,fs11,rfl,I,Y,rfl⟩:=ho11;obtain⟨ad11,cd11,rfl⟩:=RdS.isSlice ⟨_,I⟩;obtain⟨as11,cs11,rfl⟩:=RdS.isSlice ⟨_,Y⟩;replace F:=hH (F.out.drew.call af FR11 (Live.append.2 ⟨I.live,Y.live⟩));clear af;clear K;have K:=F.out.all;simp only[uaA,uam,Nat.zero_add,Nat.reduceAdd,and_true]at K)|(go_at_call 24;skip;refine(KaX x _ _ _ _ _ (F.out.rd 4 R) (F.out.rd 8 I) (F.out.rd 4 a2) (F.out.rd 8 Y)).mono ?_;rintro e w12 ⟨rfl,ag⟩;replace F:=hH (F.out.below ag);clear ag;clear K;have K:=F.out.all;simp only[uaA,uam,Nat.zero_add,Nat.reduceAdd,and_true]at K))
 go_wp2_with fail
 refine(zaF _ l _ (F.out.rd0 B)).mono ?_;rintro e w13 ⟨vl13,rfl,⟨fl13,a8,FR13⟩,ah⟩;replace F:=hH (F.out.call ah FR13 a8.live);clear ah;clear K;have K:=F.out.all;simp only[uaA,uam,Nat.zero_add,Nat.reduceAdd,and_true]at K;go_wp2_with fail
 refine(qbi _ _ l _ (F.out.rd 5 a6) (F.out.rd 9 a8)).mono ?_;rintro e w14 ⟨rfl,ai⟩;replace F:=hH (F.out.below ai);clear ai;clear K;have K:=F.out.all;simp only[uaA,uam,Nat.zero_add,Nat.reduceAdd,and_true]at K;go_wp2_with fail
 refine(KaZ _ x.shut x.last _ _ _ _ fd6 fs6 _ 1 om om (F.out.sl 4 R) (F.out.sl 4 a2) (F.out.fresh 4 FR6)).mono ?_;rintro e w15 ⟨p,TSd6,TSs6,aj⟩;replace F:=hH (F.out.mark 4 aj);clear aj;clear K;have K:=F.out.all;simp only[uaA,uam,Nat.zero_add,Nat.reduceAdd,and_true]at K;obtain⟨k1,hk1,pk1⟩:∃k:Int,k=1+((jab x.docs+jab x.subs:Nat):Int)/\1<=k:=⟨_,rfl,by omega⟩
 obtain rfl:e= .returned (.int .i64 k1):=p.trans (by rw[hk1])
 have qk1:k1<=1+20000000000000:=om;have Hk1:=hH hk1;clear p hk1;go_wp2_with fail
 refine(Za5 _ _ l fl7 _ k1 om om (F.out.sl 5 a6) (F.out.fresh 5 FR7)).mono ?_;rintro e w16 ⟨p,TSl7,ak⟩;replace F:=hH (F.out.mark 5 ak);clear ak;clear K;have K:=F.out.all;simp only[uaA,uam,Nat.zero_add,Nat.reduceAdd,and_true]at K;obtain⟨k2,hk2,pk2⟩:∃k:Int,k=k1+((jab l:Nat):Int)/\k1<=k:=⟨_,rfl,by omega⟩
 obtain rfl:e= .returned (.int .i64 k2):=p.trans (by rw[hk2])
 have qk2:k2<=k1+20000000000000:=om;have Hk2:=hH hk2;clear p hk2;have hkn:decide (k2<0)=false:=by simp;omega
 have hkm:¬k2<0:=om;go_wp2_with fail
 refine(KaX y0 _ _ _ _ _ (F.out.rd 6 U) (F.out.rd 2 Q) (F.out.rd 6 a3) (F.out.rd 2 a1)).mono ?_;rintro e w17 ⟨rfl,al⟩;replace F:=hH (F.out.below al);clear al;clear K;have K:=F.out.all;simp only[uaA,uam,Nat.zero_add,Nat.reduceAdd,and_true]at K;go_wp2_with fail
 refine(XaC _ _ y1 _ (F.out.rd 7 a5) (F.out.rd 3 a4)).mono ?_;rintro e w18 ⟨rfl,am⟩;replace F:=hH (F.out.below am);clear am;clear K;have K:=F.out.all;simp only[uaA,uam,Nat.zero_add,Nat.reduceAdd,and_true]at K;go_wp2_with fail
 refine(KaZ _ y0.shut y0.last _ _ _ _ fd8 fs8 _ 1 om om (F.out.sl 6 U) (F.out.sl 6 a3) (F.out.fresh 6 FR8.as3.left)).mono ?_;rintro e w19 ⟨p,ac,ad,ao⟩;replace F:=hH (F.out.mark 6 ao);clear ao;clear K;have K:=F.out.all;simp only[uaA,uam,Nat.zero_add,Nat.reduceAdd,and_true]at K;obtain⟨D,hm1,pm1⟩:∃k:Int,k=1+((jab y0.docs+jab y0.subs:Nat):Int)/\1<=k:=⟨_,rfl,by omega⟩
 obtain rfl:e= .returned (.int .i64 D):=p.trans (by rw[hm1])
 have qm1:D<=1+20000000000000:=om;have Hm1:=hH hm1;clear p hm1;go_wp2_with fail
 refine(jaY _ _ y1 fa8 _ D om om (F.out.sl 7 a5) (F.out.fresh 7 FR8.as3.right)).mono ?_;rintro e w20 ⟨p,aa,ap⟩;replace F:=hH (F.out.mark 7 ap);clear ap;clear K;have K:=F.out.all;simp only[uaA,uam,Nat.zero_add,Nat.reduceAdd,and_true]at K;obtain⟨m2,hm2,pm2⟩:∃k:Int,k=D+((jab y1:Nat):Int)/\D<=k:=⟨_,rfl,by omega⟩
 obtain rfl:e= .returned (.int .i64 m2):=p.trans (by rw[hm2])
 have qm2:m2<=D+20000000000000:=om;have Hm2:=hH hm2;clear p hm2;have hx1:decide (D<0)=false:=by simp;omega
 have hx2:decide (m2<0)=false:=by simp;omega
 have hy1:¬D<0:=om;have hy2:¬m2<0:=om;have hz:(m2 !=m2)=false:=by simp
 go_wp2_with fail
 refine(vaZ y0.shut y0.last _ _ _ _ _ 1 om (by(try simp only[Xag]);omega) (F.out.rd 6 ac) (F.out.rd 6 ad) (by(try simp only[Xag]);exact xap _ _) (by(try simp only[Xag]);exact xap _ _)).mono ?_
 rintro e w21 ⟨p,ar⟩;obtain rfl:e= .returned (.int .i64 D):=p.trans (by(try simp only[Xag]);rw[Hm1.out])
 clear p;replace F:=hH (F.out.below ar);clear ar;clear K;have K:=F.out.all;simp only[uaA,uam,Nat.zero_add,Nat.reduceAdd,and_true]at K;go_wp2_with fail
 refine(QaF _ _ _ D om (by(try simp only[Xag]);omega) (F.out.rd 7 aa) (xap _ _)).mono ?_
 rintro e w22 ⟨p,au⟩;obtain rfl:e= .returned (.int .i64 m2):=p.trans (by(try simp only[Xag]);rw[Hm2.out])
 clear p;replace F:=hH (F.out.below au);clear au;clear K;have K:=F.out.all;simp only[uaA,uam,Nat.zero_add,Nat.reduceAdd,and_true]at K;go_wp2_with fail
 refine(yaY x _ _ _ (F.out.rd0 j) (F.out.rd0 n)).mono ?_;rintro e w23 ⟨_,rfl,⟨fp23,ho23,FR23⟩,av⟩;obtain⟨vd23,vs23,fd23,fs23,rfl,J,Z,rfl⟩:=ho23;obtain⟨ad23,cd23,rfl⟩:=RdS.isSlice ⟨_,J⟩;obtain⟨as23,cs23,rfl⟩:=RdS.isSlice ⟨_,Z⟩;replace F:=hH (F.out.call av FR23 (Live.append.2 ⟨J.live,Z.live⟩));clear av;clear K;have K:=F.out.all;simp only[uaA,uam,Nat.zero_add,Nat.reduceAdd,and_true]at K;go_wp2_with fail
 refine(zaF _ l _ (F.out.rd0 B)).mono ?_;rintro e w24 ⟨vl24,rfl,⟨fl24,a9,FR24⟩,aw⟩;replace F:=hH (F.out.call aw FR24 a9.live);clear aw;clear K;have K:=F.out.all;simp only[uaA,uam,Nat.zero_add,Nat.reduceAdd,and_true]at K;go_wp2_with fail
 refine(HD.out _ (.inr rfl) _ _ _ _ (F.out.rd 10 J) (F.out.rd 10 Z) (F.out.rd 11 a9)).mono ?_;rintro e w25 ⟨vd25,vs25,va25,fd25,fs25,fa25,rfl,M,a0,a7,FR25,ax⟩;obtain⟨ad25,cd25,rfl⟩:=RdS.isSlice ⟨_,M⟩;obtain⟨as25,cs25,rfl⟩:=RdS.isSlice ⟨_,a0⟩;replace F:=hH (F.out.call3 ax FR25 (Live.append.2 ⟨M.live,Live.append.2 ⟨a0.live,a7.live⟩⟩));clear ax;clear K;have K:=F.out.all;simp only[uaA,uam,Nat.zero_add,Nat.reduceAdd,and_true]at K;go_wp2_with fail
 refine(KaX y0 _ _ _ _ _ (F.out.rd 12 M) (F.out.rd 2 Q) (F.out.rd 12 a0) (F.out.rd 2 a1)).mono ?_;rintro e w26 ⟨rfl,ay⟩;replace F:=hH ((F.out.new w25).below ay);clear ay;clear K;have K:=F.out.all;simp only[uaA,uam,Nat.zero_add,Nat.reduceAdd,and_true]at K;go_wp2_with fail
 refine(XaC _ _ y1 _ (F.out.rd 13 a7) (F.out.rd 3 a4)).mono ?_;rintro e w27 ⟨rfl,az⟩;replace F:=hH (F.out.below az);clear az;clear K;have K:=F.out.all;simp only[uaA,uam,Nat.zero_add,Nat.reduceAdd,and_true]at K;go_wp2_with fail
 refine(vaZ y0.shut y0.last _ _ _ _ _ 1 om (by(try simp only[Xag]);omega) (F.out.rd 6 ac) (F.out.rd 6 ad) (by(try simp only[Xag]);exact xap _ _) (by(try simp only[Xag]);exact xap _ _)).mono ?_
 rintro e w28 ⟨p,aA⟩;obtain rfl:e= .returned (.int .i64 D):=p.trans (by(try simp only[Xag]);rw[Hm1.out])
 clear p;replace F:=hH (F.out.below aA);clear aA;clear K;have K:=F.out.all;simp only[uaA,uam,Nat.zero_add,Nat.reduceAdd,and_true]at K;go_wp2_with fail
 refine(QaF _ _ _ D om (by(try simp only[Xag]);omega) (F.out.rd 7 aa) (xap _ _)).mono ?_
 rintro e w29 ⟨p,aB⟩;obtain rfl:e= .returned (.int .i64 m2):=p.trans (by(try simp only[Xag]);rw[Hm2.out])
 clear p;replace F:=hH (F.out.below aB);clear aB;clear K;have K:=F.out.all;simp only[uaA,uam,Nat.zero_add,Nat.reduceAdd,and_true]at K;go_wp2;go_ret;exact⟨rfl,F.out.fin⟩
