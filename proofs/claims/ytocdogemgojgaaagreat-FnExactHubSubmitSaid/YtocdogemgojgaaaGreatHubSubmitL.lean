/- 'laws.FnExactHubSubmit' answers true for every input, and each argument reads afterwards as before. No conditions. -/
import Derived.Test.YtocdogemgojgaaaGreatEz
import Derived.Test.YtocdogemgojgaaaGreatMk
import Derived.Test.YtocdogemgojgaaaGreatRo
import Derived.Test.YtocdogemgojgaaaGreatCdr
import Derived.Test.YtocdogemgojgaaaGreatRows
import Derived.Test.YtocdogemgojgaaaGreatHss
import Derived.Test.YtocdogemgojgaaaGreatHsm
import Derived.ProofKit
import Derived.OpenShut
import Derived.ChangeMaps5
import Derived.Deep.RegionHeld3
set_option maxHeartbeats 16000000
set_option maxRecDepth 100000
namespace Go.Proofs.YtocdogemgojgaaaGreat
open Go.ChangeShapes Go.WideShapes Go.ChangeAt Go.RowKit
open Go.ChangeMaps (open_string shut_string)
theorem walk_FnExactHubSubmit (x:DHub)(xd:Value)(xs:Value)(nm:ByteArray)(client:Int)(seq:Int)(base:Int)(o:List DPart)(v_o:Value)(w:World)(h_x_docs:RdSM maxLen w xd x.docs)(h_x_subs:RdSM maxLen w xs x.subs)(n_nm:nm.size<=maxLen)(_b1_client: -9223372036854775808<=client)(_b2_client:client<=9223372036854775807)(_b1_seq: -9223372036854775808<=seq)(_b2_seq:seq<=9223372036854775807)(_b1_base: -9223372036854775808<=base)(_b2_base:base<=9223372036854775807)(h_o:RdSM maxLen w v_o o)(y0:DHub)(y1:Int)(y2:Int)
 (HS0:nm.size<=1048576→ -9223372036854775808<=client->client<=9223372036854775807→ -9223372036854775808<=seq->seq<=9223372036854775807→ -9223372036854775808<=base->base<=9223372036854775807->∀(xd xs v_o:Value) (W:World),RdS W xd x.docs->RdS W xs x.subs->RdS W v_o o->Calls Tryz.prog 42 #[.agg #[.bool x.shut,xd,xs,.int .i64 x.last],.string nm,.int .i64 client,.int .i64 seq,.int .i64 base,v_o] W (Out_Hub_i_i W y0 y1 y2))
 (HI0:nm.size<=1048576→ -9223372036854775808<=client->client<=9223372036854775807→ -9223372036854775808<=seq->seq<=9223372036854775807→ -9223372036854775808<=base->base<=9223372036854775807->∀(xd xs v_o:Value) (W:World),RdS W xd x.docs->RdS W xs x.subs->RdS W v_o o->Calls Tryz.prog 44 #[.agg #[.bool x.shut,xd,xs,.int .i64 x.last],.string nm,.int .i64 client,.int .i64 seq,.int .i64 base,v_o] W (Out_Hub_i_i W y0 y1 y2))
 (HC0:(GoS.sz x:Nat)<=1048576->(szL o:Nat)<=1048576->cntL y0.docs+cntL y0.subs<=1099511627776):
 Calls Tryz.prog 6 #[.agg #[.bool x.shut,xd,xs,.int .i64 x.last],.string nm,.int .i64 client,.int .i64 seq,.int .i64 base,v_o] w (Tells w (.bool true)):=by
 have HS1:=hH HS0;have HI1:=hH HI0;clear HS0 HI0;unfold maxLen at n_nm;by_cases cl_nm:nm.size<=1048576
 rotate_left
 ·go_enter Tryz.func6,Tryz.ntmps6
  go_wp2;go_ret;exact⟨rfl,blw2⟩
 by_cases cz_x:((GoS.sz x:Nat):Int)<=1048576
 rotate_left
 ·go_enter Tryz.func6,Tryz.ntmps6
  go_wp2_with fail
  refine(szHub_c x _ _ _ _ (by omega) (by omega) (h_x_docs.below blw2) (h_x_subs.below blw2)).mono ?_
  rintro e w1 ⟨rfl,hb1⟩;have hN:Below (w.heap.size+1) (w.alloc (.cells #[.bool x.shut,xd,xs,.int .i64 x.last] 51)) w1:=blw2;have B1:Below w.heap.size w w1:=blw2;have s1:w.heap.size+1<=w1.heap.size:=(by have:=hb1.size;(try simp at this);omega)
  have n:w1.cell? ⟨w.heap.size,0,none⟩=some (.bool x.shut):=by rw[hN.cell (by simp;try omega)];simp
  have u:w1.cell? ⟨w.heap.size,1,none⟩=some (xd):=by rw[hN.cell (by simp;try omega)];simp
  have z:w1.cell? ⟨w.heap.size,2,none⟩=some (xs):=by rw[hN.cell (by simp;try omega)];simp
  have B:w1.cell? ⟨w.heap.size,3,none⟩=some (.int .i64 x.last):=by rw[hN.cell (by simp;try omega)];simp
  clear hN;have z1_p0:w.heap.size<w1.heap.size:=(by omega)
  clear hb1;rw[less_neg (by omega)]
  go_wp2;go_ret;exact⟨rfl,blw2⟩
 by_cases cz_o:((szL o:Nat):Int)<=1048576-((GoS.sz x:Nat):Int)
 rotate_left
 ·go_enter Tryz.func6,Tryz.ntmps6
  go_wp2_with fail
  refine(szHub_c x _ _ _ _ (by omega) (by omega) (h_x_docs.below blw2) (h_x_subs.below blw2)).mono ?_
  rintro e w1 ⟨rfl,hb1⟩;have hN:Below (w.heap.size+1) (w.alloc (.cells #[.bool x.shut,xd,xs,.int .i64 x.last] 51)) w1:=blw2;have B1:Below w.heap.size w w1:=blw2;have s1:w.heap.size+1<=w1.heap.size:=(by have:=hb1.size;(try simp at this);omega)
  have n:w1.cell? ⟨w.heap.size,0,none⟩=some (.bool x.shut):=by rw[hN.cell (by simp;try omega)];simp
  have u:w1.cell? ⟨w.heap.size,1,none⟩=some (xd):=by rw[hN.cell (by simp;try omega)];simp
  have z:w1.cell? ⟨w.heap.size,2,none⟩=some (xs):=by rw[hN.cell (by simp;try omega)];simp
  have B:w1.cell? ⟨w.heap.size,3,none⟩=some (.int .i64 x.last):=by rw[hN.cell (by simp;try omega)];simp
  clear hN;have z1_p0:w.heap.size<w1.heap.size:=(by omega)
  clear hb1;rw[less_pos (by omega)]
  go_wp2_with fail
  refine(szPartS_c _ o _ _ (by omega) (by omega) (h_o.below blw2)).mono ?_
  rintro e w2 ⟨rfl,hb2⟩;have B2:Below w1.heap.size w1 w2:=blw2;have s2:w1.heap.size<=w2.heap.size:=(by have:=hb2.size;(try simp at this);omega)
  have hh:=mc4 B2 n u z B;clear n u z B;obtain⟨n,u,z,B⟩:=hh;have z2_p0:w.heap.size<w2.heap.size:=(by omega)
  clear hb2;rw[less_neg (by omega)]
  go_wp2;go_ret;exact⟨rfl,blw2⟩
 have hr_x_docs:RdS w xd x.docs:=let⟨fp,s⟩:=h_x_docs;⟨fp,s.up (by have:GoS.sz x=szL x.docs+szL x.subs:=rfl;exact le_BIG (by omega))⟩
 have hr_x_subs:RdS w xs x.subs:=let⟨fp,s⟩:=h_x_subs;⟨fp,s.up (by have:GoS.sz x=szL x.docs+szL x.subs:=rfl;exact le_BIG (by omega))⟩
 have cx_x:cntL x.docs+cntL x.subs<=5*1048576:=by have:GoS.sz x=szL x.docs+szL x.subs:=rfl;have:=cntL_le x.docs;have:=cntL_le x.subs;omega
 have hr_o:RdS w v_o o:=let⟨fp,s⟩:=h_o;⟨fp,s.up (by exact le_BIG (by omega))⟩
 have HS:=hH (HS1.out (by omega) _b1_client _b2_client _b1_seq _b2_seq _b1_base _b2_base)
 have HI:=hH (HI1.out (by omega) _b1_client _b2_client _b1_seq _b2_seq _b1_base _b2_base)
 clear HS1 HI1;have hcnt:cntL y0.docs+cntL y0.subs<=1099511627776:=HC0 (by omega) (by omega)
 clear HC0;have cx_o:cntL o<=5*1048576:=by have:=cntL_le o;omega
 go_enter Tryz.func6,Tryz.ntmps6
 go_wp2_with fail
 refine(szHub_c x _ _ _ _ (by omega) (by omega) (h_x_docs.below blw2) (h_x_subs.below blw2)).mono ?_
 rintro e w1 ⟨rfl,hb1⟩;have hN:Below (w.heap.size+1) (w.alloc (.cells #[.bool x.shut,xd,xs,.int .i64 x.last] 51)) w1:=blw2;have B1:Below w.heap.size w w1:=blw2;have s1:w.heap.size+1<=w1.heap.size:=(by have:=hb1.size;(try simp at this);omega)
 have n:w1.cell? ⟨w.heap.size,0,none⟩=some (.bool x.shut):=by rw[hN.cell (by simp;try omega)];simp
 have u:w1.cell? ⟨w.heap.size,1,none⟩=some (xd):=by rw[hN.cell (by simp;try omega)];simp
 have z:w1.cell? ⟨w.heap.size,2,none⟩=some (xs):=by rw[hN.cell (by simp;try omega)];simp
 have B:w1.cell? ⟨w.heap.size,3,none⟩=some (.int .i64 x.last):=by rw[hN.cell (by simp;try omega)];simp
 clear hN;have z1_p0:w.heap.size<w1.heap.size:=(by omega)
 clear hb1;rw[less_pos (by omega)]
 go_wp2_with fail
 refine(szPartS_c _ o _ _ (by omega) (by omega) (h_o.below blw2)).mono ?_
 rintro e w2 ⟨rfl,hb2⟩;have B2:Below w1.heap.size w1 w2:=blw2;have s2:w1.heap.size<=w2.heap.size:=(by have:=hb2.size;(try simp at this);omega)
 have hh:=mc4 B2 n u z B;clear n u z B;obtain⟨n,u,z,B⟩:=hh;have z2_p0:w.heap.size<w2.heap.size:=(by omega)
 clear hb2;rw[less_pos (by omega)]
 go_wp2_with fail
 refine(toHub_c x _ _ _ (hr_x_docs.below blw2) (hr_x_subs.below blw2)).mono ?_;rintro e w3 ⟨_,rfl,⟨fp3,ho3,FR3⟩,hb3⟩;obtain⟨v3_docs,v3_subs,f3_docs,f3_subs,rfl,S3_docs,S3_subs,rfl⟩:=ho3;obtain⟨a3_docs,c3_docs,rfl⟩:=RdS.isSlice ⟨_,S3_docs⟩;obtain⟨a3_subs,c3_subs,rfl⟩:=RdS.isSlice ⟨_,S3_subs⟩;have UB3:∀p∈(f3_docs++f3_subs),p.1<w3.heap.size:=Live.lt (Live.append.2 ⟨S3_docs.live,S3_subs.live⟩);replace FR3:Fresh (w2.heap.size) w3 (f3_docs++f3_subs):=FR3.mono (by first|exact lr _|(simp;done)|(simp;omega))
 have K3:Kept (f3_docs++f3_subs) w3 w3:=Kept.refl _ _;have B3:Below w2.heap.size w2 w3:=blw2;have s3:w2.heap.size<=w3.heap.size:=(by have:=hb3.size;(try simp at this);omega)
 have hh:=mc4 B3 n u z B;clear n u z B;obtain⟨n,u,z,B⟩:=hh;have z3_p0:w.heap.size<w3.heap.size:=(by omega)
 clear hb3;go_wp2_with fail
 refine(toPartS_c _ o _ (hr_o.below blw2)).mono ?_;rintro e w4 ⟨v4_o,rfl,⟨f4_o,S4_o,FR4⟩,hb4⟩;have UB4:∀p∈f4_o,p.1<w4.heap.size:=Live.lt (S4_o.live);replace FR4:Fresh (w3.heap.size) w4 f4_o:=FR4.mono (by first|exact lr _|(simp;done)|(simp;omega))
 have K4:Kept f4_o w4 w4:=Kept.refl _ _;have B4:Below w3.heap.size w3 w4:=blw2;have s4:w3.heap.size<=w4.heap.size:=(by have:=hb4.size;(try simp at this);omega)
 have hh:=mc4 B4 n u z B;clear n u z B;obtain⟨n,u,z,B⟩:=hh;replace K3:Kept (f3_docs++f3_subs) w3 w4:=K3.below B4 (fun p j=>lq (UB3 p j) (by omega))
 have z4_p0:w.heap.size<w4.heap.size:=(by omega)
 clear hb4;go_wp2_with fail
 refine(HS.out _ _ _ _ ((⟨_,S3_docs.kept (K3.below (show Below w4.heap.size w4 _ from blw2) (fun p j=>lq (UB3 p j) (by omega))) (by intro p j;simp only[lm];simp[j])⟩:RdS _ _ _)) ((⟨_,S3_subs.kept (K3.below (show Below w4.heap.size w4 _ from blw2) (fun p j=>lq (UB3 p j) (by omega))) (by intro p j;simp only[lm];simp[j])⟩:RdS _ _ _)) ((⟨_,S4_o.kept (K4.below (show Below w4.heap.size w4 _ from blw2) (fun p j=>lq (UB4 p j) (by omega))) (fun _ h=>h)⟩:RdS _ _ _))).mono ?_
 rintro e w5 ⟨v5_0_docs,v5_0_subs,Y,Z,rfl,S5_0_docs,S5_0_subs,FR5,hb5⟩;obtain⟨a5_0_docs,c5_0_docs,rfl⟩:=RdS.isSlice ⟨_,S5_0_docs⟩;obtain⟨a5_0_subs,c5_0_subs,rfl⟩:=RdS.isSlice ⟨_,S5_0_subs⟩;have UB5:∀p∈(Y++Z),p.1<w5.heap.size:=Live.lt (Live.append.2 ⟨S5_0_docs.live,S5_0_subs.live⟩);replace FR5:Fresh (w4.heap.size) w5 (Y++Z):=FR5.mono (by first|exact lr _|(simp;done)|(simp;omega))
 have K5:Kept (Y++Z) w5 w5:=Kept.refl _ _;have B5:Below w4.heap.size w4 w5:=blw2;have s5:w4.heap.size<=w5.heap.size:=(by have:=hb5.size;(try simp at this);omega)
 have hh:=mc4 B5 n u z B;clear n u z B;obtain⟨n,u,z,B⟩:=hh;replace K3:Kept (f3_docs++f3_subs) w3 w5:=K3.below B5 (fun p j=>lq (UB3 p j) (by omega))
 replace K4:Kept f4_o w4 w5:=K4.below B5 (fun p j=>lq (UB4 p j) (by omega))
 have z5_p0:w.heap.size<w5.heap.size:=(by omega)
 clear hb5;go_wp2_with fail
 refine(toHub_c x _ _ _ (hr_x_docs.below blw2) (hr_x_subs.below blw2)).mono ?_;rintro e w6 ⟨_,rfl,⟨fp6,ho6,FR6⟩,hb6⟩;obtain⟨v6_docs,v6_subs,a6,a7,rfl,S6_docs,S6_subs,rfl⟩:=ho6;obtain⟨a6_docs,c6_docs,rfl⟩:=RdS.isSlice ⟨_,S6_docs⟩;obtain⟨a6_subs,c6_subs,rfl⟩:=RdS.isSlice ⟨_,S6_subs⟩;have UB6:∀p∈(a6++a7),p.1<w6.heap.size:=Live.lt (Live.append.2 ⟨S6_docs.live,S6_subs.live⟩);replace FR6:Fresh (w5.heap.size+1) w6 (a6++a7):=FR6.mono (by first|exact lr _|(simp;done)|(simp;omega))
 have K6:Kept (a6++a7) w6 w6:=Kept.refl _ _;have hN:Below (w5.heap.size+1) (w5.alloc (.cells #[.bool y0.shut,.slice a5_0_docs y0.docs.length c5_0_docs,.slice a5_0_subs y0.subs.length c5_0_subs,.int .i64 y0.last] 26)) w6:=blw2;have B6:Below w5.heap.size w5 w6:=blw2;have s6:w5.heap.size+1<=w6.heap.size:=(by have:=hb6.size;(try simp at this);omega)
 have hh:=mc4 B6 n u z B;clear n u z B;obtain⟨n,u,z,B⟩:=hh;have D:w6.cell? ⟨w5.heap.size,0,none⟩=some (.bool y0.shut):=by rw[hN.cell (by simp;try omega)];simp
 have I:w6.cell? ⟨w5.heap.size,1,none⟩=some (.slice a5_0_docs y0.docs.length c5_0_docs):=by rw[hN.cell (by simp;try omega)];simp
 have J:w6.cell? ⟨w5.heap.size,2,none⟩=some (.slice a5_0_subs y0.subs.length c5_0_subs):=by rw[hN.cell (by simp;try omega)];simp
 have M:w6.cell? ⟨w5.heap.size,3,none⟩=some (.int .i64 y0.last):=by rw[hN.cell (by simp;try omega)];simp
 clear hN;replace K5:Kept (Y++Z) w5 w6:=K5.below B6 (fun p j=>lq (UB5 p j) (by omega))
 have z6_p0:w.heap.size<w6.heap.size:=(by omega)
 have z6_W0:w5.heap.size<w6.heap.size:=(by omega)
 clear hb6;go_wp2_with fail
 refine(toPartS_c _ o _ (hr_o.below blw2)).mono ?_;rintro e w7 ⟨v7_o,rfl,⟨f7_o,S7_o,FR7⟩,hb7⟩;have UB7:∀p∈f7_o,p.1<w7.heap.size:=Live.lt (S7_o.live);replace FR7:Fresh (w6.heap.size+1) w7 f7_o:=FR7.mono (by first|exact lr _|(simp;done)|(simp;omega))
 have K7:Kept f7_o w7 w7:=Kept.refl _ _;have hN:Below (w6.heap.size+1) (w6.alloc (.cells #[.bool x.shut,.slice a6_docs x.docs.length c6_docs,.slice a6_subs x.subs.length c6_subs,.int .i64 x.last] 26)) w7:=blw2;have B7:Below w6.heap.size w6 w7:=blw2;have s7:w6.heap.size+1<=w7.heap.size:=(by have:=hb7.size;(try simp at this);omega)
 have hh:=mc8 B7 n u z B D I J M;clear n u z B D I J M;obtain⟨n,u,z,B,D,I,J,M⟩:=hh;have N:w7.cell? ⟨w6.heap.size,0,none⟩=some (.bool x.shut):=by rw[hN.cell (by simp;try omega)];simp
 have Q:w7.cell? ⟨w6.heap.size,1,none⟩=some (.slice a6_docs x.docs.length c6_docs):=by rw[hN.cell (by simp;try omega)];simp
 have R:w7.cell? ⟨w6.heap.size,2,none⟩=some (.slice a6_subs x.subs.length c6_subs):=by rw[hN.cell (by simp;try omega)];simp
 have U:w7.cell? ⟨w6.heap.size,3,none⟩=some (.int .i64 x.last):=by rw[hN.cell (by simp;try omega)];simp
 clear hN;replace K5:Kept (Y++Z) w5 w7:=K5.below B7 (fun p j=>lq (UB5 p j) (by omega))
 replace K6:Kept (a6++a7) w6 w7:=K6.below B7 (fun p j=>lq (UB6 p j) (by omega))
 have z7_p0:w.heap.size<w7.heap.size:=(by omega)
 have z7_W0:w5.heap.size<w7.heap.size:=(by omega)
 have z7_xx:w6.heap.size<w7.heap.size:=(by omega)
 clear hb7;go_wp2_with fail
 refine(HI.out _ _ _ _ ((⟨_,S6_docs.kept (K6.below (show Below w7.heap.size w7 _ from blw2) (fun p j=>lq (UB6 p j) (by omega))) (by intro p j;simp only[lm];simp[j])⟩:RdS _ _ _)) ((⟨_,S6_subs.kept (K6.below (show Below w7.heap.size w7 _ from blw2) (fun p j=>lq (UB6 p j) (by omega))) (by intro p j;simp only[lm];simp[j])⟩:RdS _ _ _)) ((⟨_,S7_o.kept (K7.below (show Below w7.heap.size w7 _ from blw2) (fun p j=>lq (UB7 p j) (by omega))) (fun _ h=>h)⟩:RdS _ _ _))).mono ?_
 rintro e w8 ⟨v8_0_docs,v8_0_subs,a0,a1,rfl,a8,a9,FR8,hb8⟩;obtain⟨a8_0_docs,c8_0_docs,rfl⟩:=RdS.isSlice ⟨_,a8⟩;obtain⟨a8_0_subs,c8_0_subs,rfl⟩:=RdS.isSlice ⟨_,a9⟩;have aa:∀p∈(a0++a1),p.1<w8.heap.size:=Live.lt (Live.append.2 ⟨a8.live,a9.live⟩);replace FR8:Fresh (w7.heap.size) w8 (a0++a1):=FR8.mono (by first|exact lr _|(simp;done)|(simp;omega))
 have K8:Kept (a0++a1) w8 w8:=Kept.refl _ _;have B8:Below w7.heap.size w7 w8:=blw2;have s8:w7.heap.size<=w8.heap.size:=(by have:=hb8.size;(try simp at this);omega)
 have hh:=mc8 B8 n u z B D I J M;clear n u z B D I J M;obtain⟨n,u,z,B,D,I,J,M⟩:=hh;have hh:=mc4 B8 N Q R U;clear N Q R U;obtain⟨N,Q,R,U⟩:=hh;replace K5:Kept (Y++Z) w5 w8:=K5.below B8 (fun p j=>lq (UB5 p j) (by omega))
 replace K6:Kept (a6++a7) w6 w8:=K6.below B8 (fun p j=>lq (UB6 p j) (by omega))
 replace K7:Kept f7_o w7 w8:=K7.below B8 (fun p j=>lq (UB7 p j) (by omega))
 have z8_p0:w.heap.size<w8.heap.size:=(by omega)
 have z8_W0:w5.heap.size<w8.heap.size:=(by omega)
 have z8_xx:w6.heap.size<w8.heap.size:=(by omega)
 clear hb8;go_wp2_with fail
 refine(eqHub_c y0 _ _ _ _ _ ((⟨_,a8.kept (K8.below (show Below w8.heap.size w8 _ from blw2) (fun p j=>lq (aa p j) (by omega))) (by intro p j;simp only[lm];simp[j])⟩:RdS _ _ _)) ((⟨_,S5_0_docs.kept (K5.below (show Below w8.heap.size w8 _ from blw2) (fun p j=>lq (UB5 p j) (by omega))) (by intro p j;simp only[lm];simp[j])⟩:RdS _ _ _)) ((⟨_,a9.kept (K8.below (show Below w8.heap.size w8 _ from blw2) (fun p j=>lq (aa p j) (by omega))) (by intro p j;simp only[lm];simp[j])⟩:RdS _ _ _)) ((⟨_,S5_0_subs.kept (K5.below (show Below w8.heap.size w8 _ from blw2) (fun p j=>lq (UB5 p j) (by omega))) (by intro p j;simp only[lm];simp[j])⟩:RdS _ _ _))).mono ?_
 rintro e w9 ⟨rfl,hb9⟩;have hN:Below (w8.heap.size+1) (w8.alloc (.cells #[.bool y0.shut,.slice a8_0_docs y0.docs.length c8_0_docs,.slice a8_0_subs y0.subs.length c8_0_subs,.int .i64 y0.last] 26)) w9:=blw2;have B9:Below w8.heap.size w8 w9:=blw2;have s9:w8.heap.size+1<=w9.heap.size:=(by have:=hb9.size;(try simp at this);omega)
 have hh:=mc8 B9 n u z B D I J M;clear n u z B D I J M;obtain⟨n,u,z,B,D,I,J,M⟩:=hh;have hh:=mc4 B9 N Q R U;clear N Q R U;obtain⟨N,Q,R,U⟩:=hh;have a2:w9.cell? ⟨w8.heap.size,0,none⟩=some (.bool y0.shut):=by rw[hN.cell (by simp;try omega)];simp
 have a3:w9.cell? ⟨w8.heap.size,1,none⟩=some (.slice a8_0_docs y0.docs.length c8_0_docs):=by rw[hN.cell (by simp;try omega)];simp
 have a4:w9.cell? ⟨w8.heap.size,2,none⟩=some (.slice a8_0_subs y0.subs.length c8_0_subs):=by rw[hN.cell (by simp;try omega)];simp
 have a5:w9.cell? ⟨w8.heap.size,3,none⟩=some (.int .i64 y0.last):=by rw[hN.cell (by simp;try omega)];simp
 clear hN;replace K5:Kept (Y++Z) w5 w9:=K5.below B9 (fun p j=>lq (UB5 p j) (by omega))
 replace K6:Kept (a6++a7) w6 w9:=K6.below B9 (fun p j=>lq (UB6 p j) (by omega))
 replace K7:Kept f7_o w7 w9:=K7.below B9 (fun p j=>lq (UB7 p j) (by omega))
 replace K8:Kept (a0++a1) w8 w9:=K8.below B9 (fun p j=>lq (aa p j) (by omega))
 have z9_p0:w.heap.size<w9.heap.size:=(by omega)
 have z9_W0:w5.heap.size<w9.heap.size:=(by omega)
 have z9_xx:w6.heap.size<w9.heap.size:=(by omega)
 have z9_G0:w8.heap.size<w9.heap.size:=(by omega)
 clear hb9;go_wp2_with fail
 go_region_held3 (fun w'=>w'.cell? ⟨w.heap.size,0,none⟩=some (.bool x.shut)/\w'.cell? ⟨w.heap.size,1,none⟩=some (xd)/\w'.cell? ⟨w.heap.size,2,none⟩=some (xs)/\w'.cell? ⟨w.heap.size,3,none⟩=some (.int .i64 x.last)/\w'.cell? ⟨w6.heap.size,0,none⟩=some (.bool x.shut)/\w'.cell? ⟨w6.heap.size,1,none⟩=some (.slice a6_docs x.docs.length c6_docs)/\w'.cell? ⟨w6.heap.size,2,none⟩=some (.slice a6_subs x.subs.length c6_subs)/\w'.cell? ⟨w6.heap.size,3,none⟩=some (.int .i64 x.last)) (go_keep)
  (first|(go_at_call 22;refine(toHub_c x _ _ _ (hr_x_docs.below blw2) (hr_x_subs.below blw2)).mono ?_;rintro e ac ⟨_,rfl,⟨fp10,ho10,FR10⟩,hb10⟩;obtain⟨v10_docs,v10_subs,f10_docs,f10_subs,rfl,S10_docs,S10_subs,rfl⟩:=ho10;obtain⟨a10_docs,c10_docs,rfl⟩:=RdS.isSlice ⟨_,S10_docs⟩;obtain⟨a10_subs,c10_subs,rfl⟩:=RdS.isSlice ⟨_,S10_subs⟩;have UB10:∀p∈(f10_docs++f10_subs),p.1<ac.heap.size:=Live.lt (Live.append.2 ⟨S10_docs.live,S10_subs.live⟩);replace FR10:Fresh (w9.heap.size) ac (f10_docs++f10_subs):=FR10.mono (by first|exact lr _|(simp;done)|(simp;omega));have K10:Kept (f10_docs++f10_subs) ac ac:=Kept.refl _ _;have B10:Below w9.heap.size w9 ac:=blw2;have s10:w9.heap.size<=ac.heap.size:=(by have:=hb10.size;(try simp at this);omega);replace n:ac.cell? ⟨w.heap.size,0,none⟩=some (.bool x.shut):=cellb B10 n;replace u:ac.cell? ⟨w.heap.size,1,none⟩=some (xd):=cellb B10 u;replace z:ac.cell? ⟨w.heap.size,2,none⟩=some (xs):=cellb B10 z;replace B:ac.cell? ⟨w.heap.size,3,none⟩=some (.int .i64 x.last):=cellb B10 B;replace D:ac.cell? ⟨w5.heap.size,0,none⟩=some (.bool y0.shut):=cellb B10 D;replace I:ac.cell? ⟨w5.heap.size,1,none⟩=some (.slice a5_0_docs y0.docs.length c5_0_docs):=cellb B10 I;replace J:ac.cell? ⟨w5.heap.size,2,none⟩=some (.slice a5_0_subs y0.subs.length c5_0_subs):=cellb B10 J;replace M:ac.cell? ⟨w5.heap.size,3,none⟩=some (.int .i64 y0.last):=cellb B10 M;replace N:ac.cell? ⟨w6.heap.size,0,none⟩=some (.bool x.shut):=cellb B10 N;replace Q:ac.cell? ⟨w6.heap.size,1,none⟩=some (.slice a6_docs x.docs.length c6_docs):=cellb B10 Q;replace R:ac.cell? ⟨w6.heap.size,2,none⟩=some (.slice a6_subs x.subs.length c6_subs):=cellb B10 R;replace U:ac.cell? ⟨w6.heap.size,3,none⟩=some (.int .i64 x.last):=cellb B10 U;replace a2:ac.cell? ⟨w8.heap.size,0,none⟩=some (.bool y0.shut):=cellb B10 a2;replace a3:ac.cell? ⟨w8.heap.size,1,none⟩=some (.slice a8_0_docs y0.docs.length c8_0_docs):=cellb B10 a3;replace a4:ac.cell? ⟨w8.heap.size,2,none⟩=some (.slice a8_0_subs y0.subs.length c8_0_subs):=cellb B10 a4;replace a5:ac.cell? ⟨w8.heap.size,3,none⟩=some (.int .i64 y0.last):=cellb B10 a5;replace K5:Kept (Y++Z) w5 ac:=K5.below B10 (fun p j=>lq (UB5 p j) (by omega));replace K6:Kept (a6++a7) w6 ac:=K6.below B10 (fun p j=>lq (UB6 p j) (by omega));replace K7:Kept f7_o w7 ac:=K7.below B10 (fun p j=>lq (UB7 p j) (by omega));replace K8:Kept (a0++a1) w8 ac:=K8.below B10 (fun p j=>lq (aa p j) (by omega));have z10_p0:w.heap.size<ac.heap.size:=(by omega);have z10_W0:w5.heap.size<ac.heap.size:=(by omega);have z10_xx:w6.heap.size<ac.heap.size:=(by omega);have z10_G0:w8.heap.size<ac.heap.size:=(by omega);clear hb10)|(go_at_call 24;refine(eqHub_c x _ _ _ _ _ ((⟨_,S6_docs.kept (K6.below (show Below ac.heap.size ac _ from blw2) (fun p j=>lq (UB6 p j) (by omega))) (by intro p j;simp only[lm];simp[j])⟩:RdS _ _ _)) ((⟨_,S10_docs.kept (K10.below (show Below ac.heap.size ac _ from blw2) (fun p j=>lq (UB10 p j) (by omega))) (by intro p j;simp only[lm];simp[j])⟩:RdS _ _ _)) ((⟨_,S6_subs.kept (K6.below (show Below ac.heap.size ac _ from blw2) (fun p j=>lq (UB6 p j) (by omega))) (by intro p j;simp only[lm];simp[j])⟩:RdS _ _ _)) ((⟨_,S10_subs.kept (K10.below (show Below ac.heap.size ac _ from blw2) (fun p j=>lq (UB10 p j) (by omega))) (by intro p j;simp only[lm];simp[j])⟩:RdS _ _ _))).mono ?_;rintro e w11 ⟨rfl,hb11⟩;have B11:Below ac.heap.size ac w11:=blw2;have s11:ac.heap.size<=w11.heap.size:=(by have:=hb11.size;(try simp at this);omega);replace n:w11.cell? ⟨w.heap.size,0,none⟩=some (.bool x.shut):=cellb B11 n;replace u:w11.cell? ⟨w.heap.size,1,none⟩=some (xd):=cellb B11 u;replace z:w11.cell? ⟨w.heap.size,2,none⟩=some (xs):=cellb B11 z;replace B:w11.cell? ⟨w.heap.size,3,none⟩=some (.int .i64 x.last):=cellb B11 B;replace D:w11.cell? ⟨w5.heap.size,0,none⟩=some (.bool y0.shut):=cellb B11 D;replace I:w11.cell? ⟨w5.heap.size,1,none⟩=some (.slice a5_0_docs y0.docs.length c5_0_docs):=cellb B11 I;replace J:w11.cell? ⟨w5.heap.size,2,none⟩=some (.slice a5_0_subs y0.subs.length c5_0_subs):=cellb B11 J;replace M:w11.cell? ⟨w5.heap.size,3,none⟩=some (.int .i64 y0.last):=cellb B11 M;replace N:w11.cell? ⟨w6.heap.size,0,none⟩=some (.bool x.shut):=cellb B11 N;replace Q:w11.cell? ⟨w6.heap.size,1,none⟩=some (.slice a6_docs x.docs.length c6_docs):=cellb B11 Q;replace R:w11.cell? ⟨w6.heap.size,2,none⟩=some (.slice a6_subs x.subs.length c6_subs):=cellb B11 R;replace U:w11.cell? ⟨w6.heap.size,3,none⟩=some (.int .i64 x.last):=cellb B11 U;replace a2:w11.cell? ⟨w8.heap.size,0,none⟩=some (.bool y0.shut):=cellb B11 a2;replace a3:w11.cell? ⟨w8.heap.size,1,none⟩=some (.slice a8_0_docs y0.docs.length c8_0_docs):=cellb B11 a3;replace a4:w11.cell? ⟨w8.heap.size,2,none⟩=some (.slice a8_0_subs y0.subs.length c8_0_subs):=cellb B11 a4;replace a5:w11.cell? ⟨w8.heap.size,3,none⟩=some (.int .i64 y0.last):=cellb B11 a5;replace K5:Kept (Y++Z) w5 w11:=K5.below B11 (fun p j=>lq (UB5 p j) (by omega));replace K6:Kept (a6++a7) w6 w11:=K6.below B11 (fun p j=>lq (UB6 p j) (by omega));replace K7:Kept f7_o w7 w11:=K7.below B11 (fun p j=>lq (UB7 p j) (by omega));replace K8:Kept (a0++a1) w8 w11:=K8.below B11 (fun p j=>lq (aa p j) (by omega));replace K10:Kept (f10_docs++f10_subs) ac w11:=K10.below B11 (fun p j=>lq (UB10 p j) (by omega));have z11_p0:w.heap.size<w11.heap.size:=(by omega);have z11_W0:w5.heap.size<w11.heap.size:=(by omega);have z11_xx:w6.heap.size<w11.heap.size:=(by omega);have z11_G0:w8.heap.size<w11.heap.size:=(by omega);clear hb11))
 go_wp2_with fail
 refine(toPartS_c _ o _ (hr_o.below blw2)).mono ?_;rintro e w12 ⟨v12_o,rfl,⟨f12_o,S12_o,FR12⟩,hb12⟩;have UB12:∀p∈f12_o,p.1<w12.heap.size:=Live.lt (S12_o.live);replace FR12:Fresh (w11.heap.size) w12 f12_o:=FR12.mono (by first|exact lr _|(simp;done)|(simp;omega))
 have K12:Kept f12_o w12 w12:=Kept.refl _ _;have B12:Below w11.heap.size w11 w12:=blw2;have s12:w11.heap.size<=w12.heap.size:=(by have:=hb12.size;(try simp at this);omega)
 have hh:=mc8 B12 n u z B D I J M;clear n u z B D I J M;obtain⟨n,u,z,B,D,I,J,M⟩:=hh;have hh:=mc8 B12 N Q R U a2 a3 a4 a5;clear N Q R U a2 a3 a4 a5;obtain⟨N,Q,R,U,a2,a3,a4,a5⟩:=hh;replace K5:Kept (Y++Z) w5 w12:=K5.below B12 (fun p j=>lq (UB5 p j) (by omega))
 replace K6:Kept (a6++a7) w6 w12:=K6.below B12 (fun p j=>lq (UB6 p j) (by omega))
 replace K7:Kept f7_o w7 w12:=K7.below B12 (fun p j=>lq (UB7 p j) (by omega))
 replace K8:Kept (a0++a1) w8 w12:=K8.below B12 (fun p j=>lq (aa p j) (by omega))
 have z12_p0:w.heap.size<w12.heap.size:=(by omega)
 have z12_W0:w5.heap.size<w12.heap.size:=(by omega)
 have z12_xx:w6.heap.size<w12.heap.size:=(by omega)
 have z12_G0:w8.heap.size<w12.heap.size:=(by omega)
 clear hb12;go_wp2_with fail
 refine(eqPartS_c _ _ o _ ((⟨_,S7_o.kept (K7.below (show Below w12.heap.size w12 _ from blw2) (fun p j=>lq (UB7 p j) (by omega))) (fun _ h=>h)⟩:RdS _ _ _)) ((⟨_,S12_o.kept (K12.below (show Below w12.heap.size w12 _ from blw2) (fun p j=>lq (UB12 p j) (by omega))) (fun _ h=>h)⟩:RdS _ _ _))).mono ?_
 rintro e w13 ⟨rfl,hb13⟩;have B13:Below w12.heap.size w12 w13:=blw2;have s13:w12.heap.size<=w13.heap.size:=(by have:=hb13.size;(try simp at this);omega)
 have hh:=mc8 B13 n u z B D I J M;clear n u z B D I J M;obtain⟨n,u,z,B,D,I,J,M⟩:=hh;have hh:=mc8 B13 N Q R U a2 a3 a4 a5;clear N Q R U a2 a3 a4 a5;obtain⟨N,Q,R,U,a2,a3,a4,a5⟩:=hh;replace K5:Kept (Y++Z) w5 w13:=K5.below B13 (fun p j=>lq (UB5 p j) (by omega))
 replace K6:Kept (a6++a7) w6 w13:=K6.below B13 (fun p j=>lq (UB6 p j) (by omega))
 replace K7:Kept f7_o w7 w13:=K7.below B13 (fun p j=>lq (UB7 p j) (by omega))
 replace K8:Kept (a0++a1) w8 w13:=K8.below B13 (fun p j=>lq (aa p j) (by omega))
 replace K12:Kept f12_o w12 w13:=K12.below B13 (fun p j=>lq (UB12 p j) (by omega))
 have z13_p0:w.heap.size<w13.heap.size:=(by omega)
 have z13_W0:w5.heap.size<w13.heap.size:=(by omega)
 have z13_xx:w6.heap.size<w13.heap.size:=(by omega)
 have z13_G0:w8.heap.size<w13.heap.size:=(by omega)
 clear hb13;replace S6_docs:=S6_docs.kept K6 (by intro p j;simp only[lm];simp[j])
 replace S6_subs:=S6_subs.kept K6 (by intro p j;simp only[lm];simp[j])
 replace FR6:=FR6.kept K6 (fun _ h=>h)
 clear K6;go_wp2_with fail
 refine(markHub_c (w5.heap.size+1) x.shut x.last _ _ _ _ a6 a7 _ 1 (by omega) (by omega) (S6_docs.belowW blw2) (S6_subs.belowW blw2) (FR6.belowL blw2 (fun p j=>lq (UB6 p j) (by omega)))).mono ?_
 rintro e w14 ⟨he,T14_docs,T14_subs,hw14⟩;have s14:w13.heap.size<=w14.heap.size:=wrs hw14 blw2;replace n:w14.cell? ⟨w.heap.size,0,none⟩=some (.bool x.shut):=cellw blw2 hw14 n (fun j=>by have q1:=FR6.ge _ j;have q2:=UB6 _ j;simp only at q1 q2;omega)
 replace u:w14.cell? ⟨w.heap.size,1,none⟩=some (xd):=cellw blw2 hw14 u (fun j=>by have q1:=FR6.ge _ j;have q2:=UB6 _ j;simp only at q1 q2;omega)
 replace z:w14.cell? ⟨w.heap.size,2,none⟩=some (xs):=cellw blw2 hw14 z (fun j=>by have q1:=FR6.ge _ j;have q2:=UB6 _ j;simp only at q1 q2;omega)
 replace B:w14.cell? ⟨w.heap.size,3,none⟩=some (.int .i64 x.last):=cellw blw2 hw14 B (fun j=>by have q1:=FR6.ge _ j;have q2:=UB6 _ j;simp only at q1 q2;omega)
 replace D:w14.cell? ⟨w5.heap.size,0,none⟩=some (.bool y0.shut):=cellw blw2 hw14 D (fun j=>by have q1:=FR6.ge _ j;have q2:=UB6 _ j;simp only at q1 q2;omega)
 replace I:w14.cell? ⟨w5.heap.size,1,none⟩=some (.slice a5_0_docs y0.docs.length c5_0_docs):=cellw blw2 hw14 I (fun j=>by have q1:=FR6.ge _ j;have q2:=UB6 _ j;simp only at q1 q2;omega)
 replace J:w14.cell? ⟨w5.heap.size,2,none⟩=some (.slice a5_0_subs y0.subs.length c5_0_subs):=cellw blw2 hw14 J (fun j=>by have q1:=FR6.ge _ j;have q2:=UB6 _ j;simp only at q1 q2;omega)
 replace M:w14.cell? ⟨w5.heap.size,3,none⟩=some (.int .i64 y0.last):=cellw blw2 hw14 M (fun j=>by have q1:=FR6.ge _ j;have q2:=UB6 _ j;simp only at q1 q2;omega)
 replace N:w14.cell? ⟨w6.heap.size,0,none⟩=some (.bool x.shut):=cellw blw2 hw14 N (fun j=>by have q1:=FR6.ge _ j;have q2:=UB6 _ j;simp only at q1 q2;omega)
 replace Q:w14.cell? ⟨w6.heap.size,1,none⟩=some (.slice a6_docs x.docs.length c6_docs):=cellw blw2 hw14 Q (fun j=>by have q1:=FR6.ge _ j;have q2:=UB6 _ j;simp only at q1 q2;omega)
 replace R:w14.cell? ⟨w6.heap.size,2,none⟩=some (.slice a6_subs x.subs.length c6_subs):=cellw blw2 hw14 R (fun j=>by have q1:=FR6.ge _ j;have q2:=UB6 _ j;simp only at q1 q2;omega)
 replace U:w14.cell? ⟨w6.heap.size,3,none⟩=some (.int .i64 x.last):=cellw blw2 hw14 U (fun j=>by have q1:=FR6.ge _ j;have q2:=UB6 _ j;simp only at q1 q2;omega)
 replace a2:w14.cell? ⟨w8.heap.size,0,none⟩=some (.bool y0.shut):=cellw blw2 hw14 a2 (fun j=>by have q1:=FR6.ge _ j;have q2:=UB6 _ j;simp only at q1 q2;omega)
 replace a3:w14.cell? ⟨w8.heap.size,1,none⟩=some (.slice a8_0_docs y0.docs.length c8_0_docs):=cellw blw2 hw14 a3 (fun j=>by have q1:=FR6.ge _ j;have q2:=UB6 _ j;simp only at q1 q2;omega)
 replace a4:w14.cell? ⟨w8.heap.size,2,none⟩=some (.slice a8_0_subs y0.subs.length c8_0_subs):=cellw blw2 hw14 a4 (fun j=>by have q1:=FR6.ge _ j;have q2:=UB6 _ j;simp only at q1 q2;omega)
 replace a5:w14.cell? ⟨w8.heap.size,3,none⟩=some (.int .i64 y0.last):=cellw blw2 hw14 a5 (fun j=>by have q1:=FR6.ge _ j;have q2:=UB6 _ j;simp only at q1 q2;omega)
 replace K5:Kept (Y++Z) w5 w14:=K5.wr2 blw2 hw14 (fun p j=>lq (UB5 p j) (by omega)) (fun q hq j=>by have q1:=FR6.ge q j;have q2:=UB6 q j;first|(have q3:=UB5 q hq;omega)|(have q3:=FR5.ge q hq;omega))
 replace K7:Kept f7_o w7 w14:=K7.wr2 blw2 hw14 (fun p j=>lq (UB7 p j) (by omega)) (fun q hq j=>by have q1:=FR6.ge q j;have q2:=UB6 q j;first|(have q3:=UB7 q hq;omega)|(have q3:=FR7.ge q hq;omega))
 replace K8:Kept (a0++a1) w8 w14:=K8.wr2 blw2 hw14 (fun p j=>lq (aa p j) (by omega)) (fun q hq j=>by have q1:=FR6.ge q j;have q2:=UB6 q j;first|(have q3:=aa q hq;omega)|(have q3:=FR8.ge q hq;omega))
 have B14:Below (w5.heap.size+1) w13 w14:=wrb hw14 blw2 (by omega) (fun p j=>FR6.ge p j)
 replace FR6:Fresh (w5.heap.size+1) w14 (a6++a7):=FR6.wr2 blw2 hw14 (fun p j=>lq (UB6 p j) (by omega))
 replace S6_docs:=T14_docs;replace S6_subs:=T14_subs;have K6:Kept (a6++a7) w14 w14:=Kept.refl _ _;have z14_p0:w.heap.size<w14.heap.size:=(by omega)
 have z14_W0:w5.heap.size<w14.heap.size:=(by omega)
 have z14_xx:w6.heap.size<w14.heap.size:=(by omega)
 have z14_G0:w8.heap.size<w14.heap.size:=(by omega)
 obtain⟨k1,hk1,hp1⟩:∃k:Int,k=1+((cntL x.docs+cntL x.subs:Nat):Int)/\1<=k:=⟨_,rfl,by omega⟩
 obtain rfl:e= .returned (.int .i64 k1):=he.trans (by rw[hk1])
 have hq1:k1<=1+5242880:=by omega
 clear he hk1;replace S7_o:=S7_o.kept K7 (fun _ h=>h)
 replace FR7:=FR7.kept K7 (fun _ h=>h)
 clear K7;go_wp2_with fail
 refine(markPartS_c (w6.heap.size+1) _ _ f7_o _ k1 (by omega) (by omega) (S7_o.belowW blw2) (FR7.belowL blw2 (fun p j=>lq (UB7 p j) (by omega)))).mono ?_
 rintro e ad ⟨he,T15_o,hw15⟩;have s15:w14.heap.size<=ad.heap.size:=wrs hw15 blw2;replace n:ad.cell? ⟨w.heap.size,0,none⟩=some (.bool x.shut):=cellw blw2 hw15 n (fun j=>by have q1:=FR7.ge _ j;have q2:=UB7 _ j;simp only at q1 q2;omega)
 replace u:ad.cell? ⟨w.heap.size,1,none⟩=some (xd):=cellw blw2 hw15 u (fun j=>by have q1:=FR7.ge _ j;have q2:=UB7 _ j;simp only at q1 q2;omega)
 replace z:ad.cell? ⟨w.heap.size,2,none⟩=some (xs):=cellw blw2 hw15 z (fun j=>by have q1:=FR7.ge _ j;have q2:=UB7 _ j;simp only at q1 q2;omega)
 replace B:ad.cell? ⟨w.heap.size,3,none⟩=some (.int .i64 x.last):=cellw blw2 hw15 B (fun j=>by have q1:=FR7.ge _ j;have q2:=UB7 _ j;simp only at q1 q2;omega)
 replace D:ad.cell? ⟨w5.heap.size,0,none⟩=some (.bool y0.shut):=cellw blw2 hw15 D (fun j=>by have q1:=FR7.ge _ j;have q2:=UB7 _ j;simp only at q1 q2;omega)
 replace I:ad.cell? ⟨w5.heap.size,1,none⟩=some (.slice a5_0_docs y0.docs.length c5_0_docs):=cellw blw2 hw15 I (fun j=>by have q1:=FR7.ge _ j;have q2:=UB7 _ j;simp only at q1 q2;omega)
 replace J:ad.cell? ⟨w5.heap.size,2,none⟩=some (.slice a5_0_subs y0.subs.length c5_0_subs):=cellw blw2 hw15 J (fun j=>by have q1:=FR7.ge _ j;have q2:=UB7 _ j;simp only at q1 q2;omega)
 replace M:ad.cell? ⟨w5.heap.size,3,none⟩=some (.int .i64 y0.last):=cellw blw2 hw15 M (fun j=>by have q1:=FR7.ge _ j;have q2:=UB7 _ j;simp only at q1 q2;omega)
 replace N:ad.cell? ⟨w6.heap.size,0,none⟩=some (.bool x.shut):=cellw blw2 hw15 N (fun j=>by have q1:=FR7.ge _ j;have q2:=UB7 _ j;simp only at q1 q2;omega)
 replace Q:ad.cell? ⟨w6.heap.size,1,none⟩=some (.slice a6_docs x.docs.length c6_docs):=cellw blw2 hw15 Q (fun j=>by have q1:=FR7.ge _ j;have q2:=UB7 _ j;simp only at q1 q2;omega)
 replace R:ad.cell? ⟨w6.heap.size,2,none⟩=some (.slice a6_subs x.subs.length c6_subs):=cellw blw2 hw15 R (fun j=>by have q1:=FR7.ge _ j;have q2:=UB7 _ j;simp only at q1 q2;omega)
 replace U:ad.cell? ⟨w6.heap.size,3,none⟩=some (.int .i64 x.last):=cellw blw2 hw15 U (fun j=>by have q1:=FR7.ge _ j;have q2:=UB7 _ j;simp only at q1 q2;omega)
 replace a2:ad.cell? ⟨w8.heap.size,0,none⟩=some (.bool y0.shut):=cellw blw2 hw15 a2 (fun j=>by have q1:=FR7.ge _ j;have q2:=UB7 _ j;simp only at q1 q2;omega)
 replace a3:ad.cell? ⟨w8.heap.size,1,none⟩=some (.slice a8_0_docs y0.docs.length c8_0_docs):=cellw blw2 hw15 a3 (fun j=>by have q1:=FR7.ge _ j;have q2:=UB7 _ j;simp only at q1 q2;omega)
 replace a4:ad.cell? ⟨w8.heap.size,2,none⟩=some (.slice a8_0_subs y0.subs.length c8_0_subs):=cellw blw2 hw15 a4 (fun j=>by have q1:=FR7.ge _ j;have q2:=UB7 _ j;simp only at q1 q2;omega)
 replace a5:ad.cell? ⟨w8.heap.size,3,none⟩=some (.int .i64 y0.last):=cellw blw2 hw15 a5 (fun j=>by have q1:=FR7.ge _ j;have q2:=UB7 _ j;simp only at q1 q2;omega)
 replace K5:Kept (Y++Z) w5 ad:=K5.wr2 blw2 hw15 (fun p j=>lq (UB5 p j) (by omega)) (fun q hq j=>by have q1:=FR7.ge q j;have q2:=UB7 q j;first|(have q3:=UB5 q hq;omega)|(have q3:=FR5.ge q hq;omega))
 replace K6:Kept (a6++a7) w14 ad:=K6.wr2 blw2 hw15 (fun p j=>lq (UB6 p j) (by omega)) (fun q hq j=>by have q1:=FR7.ge q j;have q2:=UB7 q j;first|(have q3:=UB6 q hq;omega)|(have q3:=FR6.ge q hq;omega))
 replace K8:Kept (a0++a1) w8 ad:=K8.wr2 blw2 hw15 (fun p j=>lq (aa p j) (by omega)) (fun q hq j=>by have q1:=FR7.ge q j;have q2:=UB7 q j;first|(have q3:=aa q hq;omega)|(have q3:=FR8.ge q hq;omega))
 have B15:Below (w6.heap.size+1) w14 ad:=wrb hw15 blw2 (by omega) (fun p j=>FR7.ge p j)
 replace FR7:Fresh (w6.heap.size+1) ad f7_o:=FR7.wr2 blw2 hw15 (fun p j=>lq (UB7 p j) (by omega))
 replace S7_o:=T15_o;have K7:Kept f7_o ad ad:=Kept.refl _ _;have z15_p0:w.heap.size<ad.heap.size:=(by omega)
 have z15_W0:w5.heap.size<ad.heap.size:=(by omega)
 have z15_xx:w6.heap.size<ad.heap.size:=(by omega)
 have z15_G0:w8.heap.size<ad.heap.size:=(by omega)
 obtain⟨k2,hk2,hp2⟩:∃k:Int,k=k1+((cntL o:Nat):Int)/\k1<=k:=⟨_,rfl,by omega⟩
 obtain rfl:e= .returned (.int .i64 k2):=he.trans (by rw[hk2])
 have hq2:k2<=k1+5242880:=by omega
 clear he hk2;have hkn:decide (k2<0)=false:=by simp;omega
 have hkm:¬k2<0:=by omega
 go_wp2_with fail
 refine(eqHub_c y0 _ _ _ _ _ ((⟨_,a8.kept (K8.below (show Below ad.heap.size ad _ from blw2) (fun p j=>lq (aa p j) (by omega))) (by intro p j;simp only[lm];simp[j])⟩:RdS _ _ _)) ((⟨_,S5_0_docs.kept (K5.below (show Below ad.heap.size ad _ from blw2) (fun p j=>lq (UB5 p j) (by omega))) (by intro p j;simp only[lm];simp[j])⟩:RdS _ _ _)) ((⟨_,a9.kept (K8.below (show Below ad.heap.size ad _ from blw2) (fun p j=>lq (aa p j) (by omega))) (by intro p j;simp only[lm];simp[j])⟩:RdS _ _ _)) ((⟨_,S5_0_subs.kept (K5.below (show Below ad.heap.size ad _ from blw2) (fun p j=>lq (UB5 p j) (by omega))) (by intro p j;simp only[lm];simp[j])⟩:RdS _ _ _))).mono ?_
 rintro e w16 ⟨rfl,hb16⟩;have B16:Below ad.heap.size ad w16:=blw2;have s16:ad.heap.size<=w16.heap.size:=(by have:=hb16.size;(try simp at this);omega)
 have hh:=mc8 B16 n u z B D I J M;clear n u z B D I J M;obtain⟨n,u,z,B,D,I,J,M⟩:=hh;have hh:=mc8 B16 N Q R U a2 a3 a4 a5;clear N Q R U a2 a3 a4 a5;obtain⟨N,Q,R,U,a2,a3,a4,a5⟩:=hh;replace K5:Kept (Y++Z) w5 w16:=K5.below B16 (fun p j=>lq (UB5 p j) (by omega))
 replace K8:Kept (a0++a1) w8 w16:=K8.below B16 (fun p j=>lq (aa p j) (by omega))
 have z16_p0:w.heap.size<w16.heap.size:=(by omega)
 have z16_W0:w5.heap.size<w16.heap.size:=(by omega)
 have z16_xx:w6.heap.size<w16.heap.size:=(by omega)
 have z16_G0:w8.heap.size<w16.heap.size:=(by omega)
 clear hb16;replace a8:=a8.kept K8 (by intro p j;simp only[lm];simp[j])
 replace a9:=a9.kept K8 (by intro p j;simp only[lm];simp[j])
 replace FR8:=FR8.kept K8 (fun _ h=>h)
 clear K8;go_wp2_with fail
 refine(markHub_c (w7.heap.size) y0.shut y0.last _ _ _ _ a0 a1 _ 1 (by omega) (by omega) (a8.belowW blw2) (a9.belowW blw2) (FR8.belowL blw2 (fun p j=>lq (aa p j) (by omega)))).mono ?_
 rintro e ae ⟨he,T17_0_docs,T17_0_subs,hw17⟩;have s17:w16.heap.size<=ae.heap.size:=wrs hw17 blw2;replace n:ae.cell? ⟨w.heap.size,0,none⟩=some (.bool x.shut):=cellw blw2 hw17 n (fun j=>by have q1:=FR8.ge _ j;have q2:=aa _ j;simp only at q1 q2;omega)
 replace u:ae.cell? ⟨w.heap.size,1,none⟩=some (xd):=cellw blw2 hw17 u (fun j=>by have q1:=FR8.ge _ j;have q2:=aa _ j;simp only at q1 q2;omega)
 replace z:ae.cell? ⟨w.heap.size,2,none⟩=some (xs):=cellw blw2 hw17 z (fun j=>by have q1:=FR8.ge _ j;have q2:=aa _ j;simp only at q1 q2;omega)
 replace B:ae.cell? ⟨w.heap.size,3,none⟩=some (.int .i64 x.last):=cellw blw2 hw17 B (fun j=>by have q1:=FR8.ge _ j;have q2:=aa _ j;simp only at q1 q2;omega)
 replace D:ae.cell? ⟨w5.heap.size,0,none⟩=some (.bool y0.shut):=cellw blw2 hw17 D (fun j=>by have q1:=FR8.ge _ j;have q2:=aa _ j;simp only at q1 q2;omega)
 replace I:ae.cell? ⟨w5.heap.size,1,none⟩=some (.slice a5_0_docs y0.docs.length c5_0_docs):=cellw blw2 hw17 I (fun j=>by have q1:=FR8.ge _ j;have q2:=aa _ j;simp only at q1 q2;omega)
 replace J:ae.cell? ⟨w5.heap.size,2,none⟩=some (.slice a5_0_subs y0.subs.length c5_0_subs):=cellw blw2 hw17 J (fun j=>by have q1:=FR8.ge _ j;have q2:=aa _ j;simp only at q1 q2;omega)
 replace M:ae.cell? ⟨w5.heap.size,3,none⟩=some (.int .i64 y0.last):=cellw blw2 hw17 M (fun j=>by have q1:=FR8.ge _ j;have q2:=aa _ j;simp only at q1 q2;omega)
 replace N:ae.cell? ⟨w6.heap.size,0,none⟩=some (.bool x.shut):=cellw blw2 hw17 N (fun j=>by have q1:=FR8.ge _ j;have q2:=aa _ j;simp only at q1 q2;omega)
 replace Q:ae.cell? ⟨w6.heap.size,1,none⟩=some (.slice a6_docs x.docs.length c6_docs):=cellw blw2 hw17 Q (fun j=>by have q1:=FR8.ge _ j;have q2:=aa _ j;simp only at q1 q2;omega)
 replace R:ae.cell? ⟨w6.heap.size,2,none⟩=some (.slice a6_subs x.subs.length c6_subs):=cellw blw2 hw17 R (fun j=>by have q1:=FR8.ge _ j;have q2:=aa _ j;simp only at q1 q2;omega)
 replace U:ae.cell? ⟨w6.heap.size,3,none⟩=some (.int .i64 x.last):=cellw blw2 hw17 U (fun j=>by have q1:=FR8.ge _ j;have q2:=aa _ j;simp only at q1 q2;omega)
 replace a2:ae.cell? ⟨w8.heap.size,0,none⟩=some (.bool y0.shut):=cellw blw2 hw17 a2 (fun j=>by have q1:=FR8.ge _ j;have q2:=aa _ j;simp only at q1 q2;omega)
 replace a3:ae.cell? ⟨w8.heap.size,1,none⟩=some (.slice a8_0_docs y0.docs.length c8_0_docs):=cellw blw2 hw17 a3 (fun j=>by have q1:=FR8.ge _ j;have q2:=aa _ j;simp only at q1 q2;omega)
 replace a4:ae.cell? ⟨w8.heap.size,2,none⟩=some (.slice a8_0_subs y0.subs.length c8_0_subs):=cellw blw2 hw17 a4 (fun j=>by have q1:=FR8.ge _ j;have q2:=aa _ j;simp only at q1 q2;omega)
 replace a5:ae.cell? ⟨w8.heap.size,3,none⟩=some (.int .i64 y0.last):=cellw blw2 hw17 a5 (fun j=>by have q1:=FR8.ge _ j;have q2:=aa _ j;simp only at q1 q2;omega)
 replace K5:Kept (Y++Z) w5 ae:=K5.wr2 blw2 hw17 (fun p j=>lq (UB5 p j) (by omega)) (fun q hq j=>by have q1:=FR8.ge q j;have q2:=aa q j;first|(have q3:=UB5 q hq;omega)|(have q3:=FR5.ge q hq;omega))
 have B17:Below (w7.heap.size) w16 ae:=wrb hw17 blw2 (by omega) (fun p j=>FR8.ge p j)
 replace FR8:Fresh (w7.heap.size) ae (a0++a1):=FR8.wr2 blw2 hw17 (fun p j=>lq (aa p j) (by omega))
 replace a8:=T17_0_docs;replace a9:=T17_0_subs;have K8:Kept (a0++a1) ae ae:=Kept.refl _ _;have z17_p0:w.heap.size<ae.heap.size:=(by omega)
 have z17_W0:w5.heap.size<ae.heap.size:=(by omega)
 have z17_xx:w6.heap.size<ae.heap.size:=(by omega)
 have z17_G0:w8.heap.size<ae.heap.size:=(by omega)
 obtain⟨m1,hm1,hn1⟩:∃m:Int,m=1+((cntL y0.docs+cntL y0.subs:Nat):Int)/\1<=m:=⟨_,rfl,by omega⟩
 obtain rfl:e= .returned (.int .i64 m1):=he.trans (by rw[hm1])
 have ho1:m1<=1+1099511627776:=by omega
 have HM1:Hid (m1=1+((cntL y0.docs+cntL y0.subs:Nat):Int)):=hH hm1;clear he hm1;have hx1:decide (m1<0)=false:=by simp;omega
 have hy1:¬m1<0:=by omega
 have hz:(m1 !=m1)=false:=by simp
 go_wp2_with fail
 refine(heldHub_c y0.shut y0.last _ _ _ _ _ 1 (by omega) (by(try simp only[cntL_mkL]);omega) ((⟨_,a8.kept (K8.below (show Below ae.heap.size ae _ from blw2) (fun p j=>lq (aa p j) (by omega))) (by intro p j;simp only[lm];simp[j])⟩:RdS _ _ _)) ((⟨_,a9.kept (K8.below (show Below ae.heap.size ae _ from blw2) (fun p j=>lq (aa p j) (by omega))) (by intro p j;simp only[lm];simp[j])⟩:RdS _ _ _)) (by(try simp only[cntL_mkL]);exact mkL_mkL _ _) (by(try simp only[cntL_mkL]);exact mkL_mkL _ _)).mono ?_
 rintro e w18 ⟨he,hb18⟩;obtain rfl:e= .returned (.int .i64 m1):=he.trans (by(try simp only[cntL_mkL]);rw[HM1.out])
 clear he;have B18:Below ae.heap.size ae w18:=blw2;have s18:ae.heap.size<=w18.heap.size:=(by have:=hb18.size;(try simp at this);omega)
 have hh:=mc8 B18 n u z B D I J M;clear n u z B D I J M;obtain⟨n,u,z,B,D,I,J,M⟩:=hh;have hh:=mc8 B18 N Q R U a2 a3 a4 a5;clear N Q R U a2 a3 a4 a5;obtain⟨N,Q,R,U,a2,a3,a4,a5⟩:=hh;replace K5:Kept (Y++Z) w5 w18:=K5.below B18 (fun p j=>lq (UB5 p j) (by omega))
 replace K8:Kept (a0++a1) ae w18:=K8.below B18 (fun p j=>lq (aa p j) (by omega))
 have z18_p0:w.heap.size<w18.heap.size:=(by omega)
 have z18_W0:w5.heap.size<w18.heap.size:=(by omega)
 have z18_xx:w6.heap.size<w18.heap.size:=(by omega)
 have z18_G0:w8.heap.size<w18.heap.size:=(by omega)
 clear hb18;go_wp2_with fail
 refine(toHub_c x _ _ _ (hr_x_docs.below blw2) (hr_x_subs.below blw2)).mono ?_;rintro e w19 ⟨_,rfl,⟨fp19,ho19,FR19⟩,hb19⟩;obtain⟨v19_docs,v19_subs,f19_docs,f19_subs,rfl,S19_docs,S19_subs,rfl⟩:=ho19;obtain⟨a19_docs,c19_docs,rfl⟩:=RdS.isSlice ⟨_,S19_docs⟩;obtain⟨a19_subs,c19_subs,rfl⟩:=RdS.isSlice ⟨_,S19_subs⟩;have UB19:∀p∈(f19_docs++f19_subs),p.1<w19.heap.size:=Live.lt (Live.append.2 ⟨S19_docs.live,S19_subs.live⟩);replace FR19:Fresh (w18.heap.size) w19 (f19_docs++f19_subs):=FR19.mono (by first|exact lr _|(simp;done)|(simp;omega))
 have K19:Kept (f19_docs++f19_subs) w19 w19:=Kept.refl _ _;have B19:Below w18.heap.size w18 w19:=blw2;have s19:w18.heap.size<=w19.heap.size:=(by have:=hb19.size;(try simp at this);omega)
 have hh:=mc8 B19 n u z B D I J M;clear n u z B D I J M;obtain⟨n,u,z,B,D,I,J,M⟩:=hh;have hh:=mc8 B19 N Q R U a2 a3 a4 a5;clear N Q R U a2 a3 a4 a5;obtain⟨N,Q,R,U,a2,a3,a4,a5⟩:=hh;replace K5:Kept (Y++Z) w5 w19:=K5.below B19 (fun p j=>lq (UB5 p j) (by omega))
 replace K8:Kept (a0++a1) ae w19:=K8.below B19 (fun p j=>lq (aa p j) (by omega))
 have z19_p0:w.heap.size<w19.heap.size:=(by omega)
 have z19_W0:w5.heap.size<w19.heap.size:=(by omega)
 have z19_xx:w6.heap.size<w19.heap.size:=(by omega)
 have z19_G0:w8.heap.size<w19.heap.size:=(by omega)
 clear hb19;go_wp2_with fail
 refine(toPartS_c _ o _ (hr_o.below blw2)).mono ?_;rintro e w20 ⟨v20_o,rfl,⟨f20_o,S20_o,FR20⟩,hb20⟩;have UB20:∀p∈f20_o,p.1<w20.heap.size:=Live.lt (S20_o.live);replace FR20:Fresh (w19.heap.size) w20 f20_o:=FR20.mono (by first|exact lr _|(simp;done)|(simp;omega))
 have K20:Kept f20_o w20 w20:=Kept.refl _ _;have B20:Below w19.heap.size w19 w20:=blw2;have s20:w19.heap.size<=w20.heap.size:=(by have:=hb20.size;(try simp at this);omega)
 have hh:=mc8 B20 n u z B D I J M;clear n u z B D I J M;obtain⟨n,u,z,B,D,I,J,M⟩:=hh;have hh:=mc8 B20 N Q R U a2 a3 a4 a5;clear N Q R U a2 a3 a4 a5;obtain⟨N,Q,R,U,a2,a3,a4,a5⟩:=hh;replace K5:Kept (Y++Z) w5 w20:=K5.below B20 (fun p j=>lq (UB5 p j) (by omega))
 replace K8:Kept (a0++a1) ae w20:=K8.below B20 (fun p j=>lq (aa p j) (by omega))
 replace K19:Kept (f19_docs++f19_subs) w19 w20:=K19.below B20 (fun p j=>lq (UB19 p j) (by omega))
 have z20_p0:w.heap.size<w20.heap.size:=(by omega)
 have z20_W0:w5.heap.size<w20.heap.size:=(by omega)
 have z20_xx:w6.heap.size<w20.heap.size:=(by omega)
 have z20_G0:w8.heap.size<w20.heap.size:=(by omega)
 clear hb20;go_wp2_with fail
 refine(HI.out _ _ _ _ ((⟨_,S19_docs.kept (K19.below (show Below w20.heap.size w20 _ from blw2) (fun p j=>lq (UB19 p j) (by omega))) (by intro p j;simp only[lm];simp[j])⟩:RdS _ _ _)) ((⟨_,S19_subs.kept (K19.below (show Below w20.heap.size w20 _ from blw2) (fun p j=>lq (UB19 p j) (by omega))) (by intro p j;simp only[lm];simp[j])⟩:RdS _ _ _)) ((⟨_,S20_o.kept (K20.below (show Below w20.heap.size w20 _ from blw2) (fun p j=>lq (UB20 p j) (by omega))) (fun _ h=>h)⟩:RdS _ _ _))).mono ?_
 rintro e w21 ⟨v21_0_docs,v21_0_subs,f21_0_docs,f21_0_subs,rfl,S21_0_docs,S21_0_subs,FR21,hb21⟩;obtain⟨a21_0_docs,c21_0_docs,rfl⟩:=RdS.isSlice ⟨_,S21_0_docs⟩;obtain⟨a21_0_subs,c21_0_subs,rfl⟩:=RdS.isSlice ⟨_,S21_0_subs⟩;have UB21:∀p∈(f21_0_docs++f21_0_subs),p.1<w21.heap.size:=Live.lt (Live.append.2 ⟨S21_0_docs.live,S21_0_subs.live⟩);replace FR21:Fresh (w20.heap.size) w21 (f21_0_docs++f21_0_subs):=FR21.mono (by first|exact lr _|(simp;done)|(simp;omega))
 have K21:Kept (f21_0_docs++f21_0_subs) w21 w21:=Kept.refl _ _;have B21:Below w20.heap.size w20 w21:=blw2;have s21:w20.heap.size<=w21.heap.size:=(by have:=hb21.size;(try simp at this);omega)
 have hh:=mc8 B21 n u z B D I J M;clear n u z B D I J M;obtain⟨n,u,z,B,D,I,J,M⟩:=hh;have hh:=mc8 B21 N Q R U a2 a3 a4 a5;clear N Q R U a2 a3 a4 a5;obtain⟨N,Q,R,U,a2,a3,a4,a5⟩:=hh;replace K5:Kept (Y++Z) w5 w21:=K5.below B21 (fun p j=>lq (UB5 p j) (by omega))
 replace K8:Kept (a0++a1) ae w21:=K8.below B21 (fun p j=>lq (aa p j) (by omega))
 replace K19:Kept (f19_docs++f19_subs) w19 w21:=K19.below B21 (fun p j=>lq (UB19 p j) (by omega))
 replace K20:Kept f20_o w20 w21:=K20.below B21 (fun p j=>lq (UB20 p j) (by omega))
 have z21_p0:w.heap.size<w21.heap.size:=(by omega)
 have z21_W0:w5.heap.size<w21.heap.size:=(by omega)
 have z21_xx:w6.heap.size<w21.heap.size:=(by omega)
 have z21_G0:w8.heap.size<w21.heap.size:=(by omega)
 clear hb21;go_wp2_with fail
 refine(eqHub_c y0 _ _ _ _ _ ((⟨_,S21_0_docs.kept (K21.below (show Below w21.heap.size w21 _ from blw2) (fun p j=>lq (UB21 p j) (by omega))) (by intro p j;simp only[lm];simp[j])⟩:RdS _ _ _)) ((⟨_,S5_0_docs.kept (K5.below (show Below w21.heap.size w21 _ from blw2) (fun p j=>lq (UB5 p j) (by omega))) (by intro p j;simp only[lm];simp[j])⟩:RdS _ _ _)) ((⟨_,S21_0_subs.kept (K21.below (show Below w21.heap.size w21 _ from blw2) (fun p j=>lq (UB21 p j) (by omega))) (by intro p j;simp only[lm];simp[j])⟩:RdS _ _ _)) ((⟨_,S5_0_subs.kept (K5.below (show Below w21.heap.size w21 _ from blw2) (fun p j=>lq (UB5 p j) (by omega))) (by intro p j;simp only[lm];simp[j])⟩:RdS _ _ _))).mono ?_
 rintro e w22 ⟨rfl,hb22⟩;have hN:Below (w21.heap.size+1) (w21.alloc (.cells #[.bool y0.shut,.slice a21_0_docs y0.docs.length c21_0_docs,.slice a21_0_subs y0.subs.length c21_0_subs,.int .i64 y0.last] 26)) w22:=blw2;have B22:Below w21.heap.size w21 w22:=blw2;have s22:w21.heap.size+1<=w22.heap.size:=(by have:=hb22.size;(try simp at this);omega)
 have hh:=mc8 B22 n u z B D I J M;clear n u z B D I J M;obtain⟨n,u,z,B,D,I,J,M⟩:=hh;have hh:=mc8 B22 N Q R U a2 a3 a4 a5;clear N Q R U a2 a3 a4 a5;obtain⟨N,Q,R,U,a2,a3,a4,a5⟩:=hh;have cH0_0:w22.cell? ⟨w21.heap.size,0,none⟩=some (.bool y0.shut):=by rw[hN.cell (by simp;try omega)];simp
 have cH0_1:w22.cell? ⟨w21.heap.size,1,none⟩=some (.slice a21_0_docs y0.docs.length c21_0_docs):=by rw[hN.cell (by simp;try omega)];simp
 have cH0_2:w22.cell? ⟨w21.heap.size,2,none⟩=some (.slice a21_0_subs y0.subs.length c21_0_subs):=by rw[hN.cell (by simp;try omega)];simp
 have cH0_3:w22.cell? ⟨w21.heap.size,3,none⟩=some (.int .i64 y0.last):=by rw[hN.cell (by simp;try omega)];simp
 clear hN;replace K5:Kept (Y++Z) w5 w22:=K5.below B22 (fun p j=>lq (UB5 p j) (by omega))
 replace K8:Kept (a0++a1) ae w22:=K8.below B22 (fun p j=>lq (aa p j) (by omega))
 replace K21:Kept (f21_0_docs++f21_0_subs) w21 w22:=K21.below B22 (fun p j=>lq (UB21 p j) (by omega))
 have z22_p0:w.heap.size<w22.heap.size:=(by omega)
 have z22_W0:w5.heap.size<w22.heap.size:=(by omega)
 have z22_xx:w6.heap.size<w22.heap.size:=(by omega)
 have z22_G0:w8.heap.size<w22.heap.size:=(by omega)
 have z22_H0:w21.heap.size<w22.heap.size:=(by omega)
 clear hb22;go_wp2_with fail
 refine(heldHub_c y0.shut y0.last _ _ _ _ _ 1 (by omega) (by(try simp only[cntL_mkL]);omega) ((⟨_,a8.kept (K8.below (show Below w22.heap.size w22 _ from blw2) (fun p j=>lq (aa p j) (by omega))) (by intro p j;simp only[lm];simp[j])⟩:RdS _ _ _)) ((⟨_,a9.kept (K8.below (show Below w22.heap.size w22 _ from blw2) (fun p j=>lq (aa p j) (by omega))) (by intro p j;simp only[lm];simp[j])⟩:RdS _ _ _)) (by(try simp only[cntL_mkL]);exact mkL_mkL _ _) (by(try simp only[cntL_mkL]);exact mkL_mkL _ _)).mono ?_
 rintro e w23 ⟨he,hb23⟩;obtain rfl:e= .returned (.int .i64 m1):=he.trans (by(try simp only[cntL_mkL]);rw[HM1.out])
 clear he;have B23:Below w22.heap.size w22 w23:=blw2;have s23:w22.heap.size<=w23.heap.size:=(by have:=hb23.size;(try simp at this);omega)
 have hh:=mc8 B23 n u z B D I J M;clear n u z B D I J M;obtain⟨n,u,z,B,D,I,J,M⟩:=hh;have hh:=mc8 B23 N Q R U a2 a3 a4 a5;clear N Q R U a2 a3 a4 a5;obtain⟨N,Q,R,U,a2,a3,a4,a5⟩:=hh;have hh:=mc4 B23 cH0_0 cH0_1 cH0_2 cH0_3;clear cH0_0 cH0_1 cH0_2 cH0_3;obtain⟨cH0_0,cH0_1,cH0_2,cH0_3⟩:=hh;replace K5:Kept (Y++Z) w5 w23:=K5.below B23 (fun p j=>lq (UB5 p j) (by omega))
 replace K8:Kept (a0++a1) ae w23:=K8.below B23 (fun p j=>lq (aa p j) (by omega))
 have z23_p0:w.heap.size<w23.heap.size:=(by omega)
 have z23_W0:w5.heap.size<w23.heap.size:=(by omega)
 have z23_xx:w6.heap.size<w23.heap.size:=(by omega)
 have z23_G0:w8.heap.size<w23.heap.size:=(by omega)
 have z23_H0:w21.heap.size<w23.heap.size:=(by omega)
 clear hb23;go_wp2;go_ret;exact⟨rfl,blw2⟩
theorem walkc_FnExactHubSubmit (x:DHub)(Y:Value)(Z:Value)(I:ByteArray)(client:Int)(seq:Int)(base:Int)(o:List DPart)(J:Value)(w:World)(p:RdSM maxLen w Y x.docs)(q:RdSM maxLen w Z x.subs)(M:I.size<=maxLen)(j: -9223372036854775808<=client)(n:client<=9223372036854775807)(B: -9223372036854775808<=seq)(D:seq<=9223372036854775807)(u: -9223372036854775808<=base)(z:base<=9223372036854775807)(U:RdSM maxLen w J o):
 Calls Tryz.prog 6 #[.agg #[.bool x.shut,Y,Z,.int .i64 x.last],.string I,.int .i64 client,.int .i64 seq,.int .i64 base,J] w (Tells w (.bool true)):=
 walk_FnExactHubSubmit x Y Z I client seq base o J w p q M j n B D u z U ((hubSubmit x I client seq base o).1) ((hubSubmit x I client seq base o).2.1) ((hubSubmit x I client seq base o).2.2) (fun _ _ _ _ _ _ _ _ _ _ W N Q R=>spec_HubSubmit_c x _ _ I client seq base _ o W N Q R) (fun _ _ _ _ _ _ _ _ _ _ W N Q R=>impl_HubSubmit_c x _ _ I client seq base _ o W N Q R) (fun hz _=>by have:=hubSubmit_cnt x I client seq base o;have:GoS.sz x=szL x.docs+szL x.subs:=rfl;omega)
namespace fnExactHubSubmit
theorem own:ownKnob Tryz.prog.godebug=none:=by kernel_rfl
theorem laidOut:laidOutB Tryz.prog=true:=by kernel_rfl
theorem lifted (os:Os)(started:os.Started)(H:Type)(enc:TypeId×Value->H):
 ReturnsInHanded {} Tryz.checked os 6 .any (Rows.fnExactHubSubmitSpec.pre6 enc Tryz.prog Tryz.f6 Rows.fnExactHubSubmitRow.domain false) (Rows.fnExactHubSubmitSpec.post enc Tryz.prog Tryz.f6 false true false false):=by
 refine returnsInHanded_of_change (C:=Tryz.checked) own started (by kernel_rfl) Tryz.func6
  (ChangeSpec.witness6 (enc:=enc) (C:=Tryz.checked) false ⟨#[],#[.agg #[.bool false,.slice none 0 0,.slice none 0 0,.int .i64 0],.string ByteArray.empty,.int .i64 0,.int .i64 0,.int .i64 0,.slice none 0 0],[]⟩ 8 (by kernel_rfl) (by kernel_rfl) (by kernel_rfl) (by kernel_rfl)) ?_
 intro W base args ds gs before u hW hcnd _;have n:∀(j:Nat) t v,Tryz.f6.params[j]? =some t->args[j]? =some v->Value.okWide Tryz.prog W .any base t v:=u;have Y:=hW;obtain⟨p,q,M,hV,rfl,hfz,hnd⟩:=hW;have hA:DataW.TrodAll enc Tryz.prog W 0 (fun _=>true) true Tryz.f6.params.toList args.toList ds p:=M
 rw[Tryz.params6]at hA n;obtain⟨v0,vs0,d0,ds0,p0,q0,Z,rfl,rfl,h0,r0⟩:=trodAll_cons hA;obtain⟨v1,vs1,d1,ds1,p1,q1,rfl,rfl,rfl,h1,r1⟩:=trodAll_cons r0;obtain⟨v2,vs2,d2,ds2,p2,q2,rfl,rfl,rfl,h2,r2⟩:=trodAll_cons r1;obtain⟨v3,vs3,d3,ds3,p3,q3,rfl,rfl,rfl,h3,r3⟩:=trodAll_cons r2;obtain⟨v4,vs4,d4,ds4,p4,q4,rfl,rfl,rfl,h4,r4⟩:=trodAll_cons r3;obtain⟨v5,vs5,d5,ds5,p5,q5,rfl,rfl,rfl,h5,r5⟩:=trodAll_cons r4;obtain⟨rfl,rfl,rfl⟩:=trodAll_nil r5;obtain rfl:args= #[v0,v1,v2,v3,v4,v5]:=by cases args;simp_all
 obtain⟨rfl,rfl⟩:=trodVars_none hV;obtain⟨I,rfl,_⟩:=okWide_struct Tryz.underlying51 (n 0 51 v0 rfl rfl);have k0:=h0;have lt0:∀x∈p0,x.block<W.heap.size:=by obtain⟨m,hm⟩:=k0;exact DataW.trod_lt m _ _ _ hm
 obtain⟨x0,m0⟩:∃x:DHub,RdM maxLen W I.toList x:=by
  obtain⟨fuel,hf⟩:=h0;exact opens_DHub _ _ _ _ _ _ _ _ hf
 obtain⟨R,U,N,z,B⟩:=invM_DHub m0;obtain⟨I⟩:=I;simp only at N;subst N;obtain⟨a1,rfl,rfl,rfl,w1⟩:=open_string Tryz.underlying9 (n 1 9 v1 rfl rfl) h1;obtain⟨a2,rfl,rfl,rfl,w2⟩:=open_int Tryz.underlying3 (n 2 3 v2 rfl rfl) h2;have b2:=i64_bounds w2;obtain⟨a3,rfl,rfl,rfl,w3⟩:=open_int Tryz.underlying3 (n 3 3 v3 rfl rfl) h3;have b3:=i64_bounds w3;obtain⟨a4,rfl,rfl,rfl,w4⟩:=open_int Tryz.underlying3 (n 4 3 v4 rfl rfl) h4;have b4:=i64_bounds w4;obtain⟨a5,Q,J,rfl⟩:=okWide_slice Tryz.underlying52 (n 5 52 v5 rfl rfl);have k5:=h5;have lt5:∀x∈p5,x.block<W.heap.size:=by obtain⟨m,hm⟩:=k5;exact DataW.trod_lt m _ _ _ hm
 obtain⟨x5,m5⟩:∃l:List DPart,RdSM maxLen W (.slice a5 Q J) l:=by
  obtain⟨fuel,hf⟩:=h5;obtain⟨l,fp,v,hv,hs⟩:=opens_slice Tryz.underlying52 (by kernel_rfl) opens_DPart _ _ _ _ _ _ _ _ hf
  simp only[Value.cells,List.cons.injEq,and_true]at hv;subst hv;exact⟨l,fp,hs⟩
 clear M u;refine(walkc_FnExactHubSubmit x0 _ _ a1 a2 a3 a4 x5 _ W z B w1 b2.1 b2.2 b3.1 b3.2 b4.1 b4.2 m5).mono fun e W' ⟨he,D⟩=> ?_
 subst he;exact⟨_,rfl,_,_,_,[],_,[],Y,trodAll_mk1 (shut_bool Tryz.underlying4 _),(trodAll_cons_mk (Below.trod laidOut (by kernel_rfl) (of_decide_eq_true (by kernel_rfl)) k0 D lt0) (trodAll_cons_mk (shut_string Tryz.underlying9 w1) (trodAll_cons_mk (shut_int Tryz.underlying3 w2) (trodAll_cons_mk (shut_int Tryz.underlying3 w3) (trodAll_cons_mk (shut_int Tryz.underlying3 w4) (trodAll_cons_mk (Below.trod laidOut (by kernel_rfl) (of_decide_eq_true (by kernel_rfl)) k5 D lt5) trodAll_mk0)))))),rfl,D.frame _,fun h=>by cases h⟩
theorem over:Rows.fnExactHubSubmitRow.holds Tryz.pinned (OpenSpec.ofChange Rows.fnExactHubSubmitSpec):=
 OpenClaim.holds_of_wide 6 Tryz.f6 rfl rfl rfl rfl rfl rfl rfl ⟨rfl,rfl,rfl,rfl,rfl⟩ rfl rfl rfl rfl rfl (by kernel_rfl) Tryz.func6 (by kernel_rfl)
  (of_decide_eq_true (by kernel_rfl)) (by unfold Func.isWrapper;first|(rw[if_pos (by decide+kernel)];kernel_rfl)|(rw[if_neg (by decide+kernel)];exact⟨rfl,rfl⟩))
  (fun os started H enc _=>lifted os started H enc)
theorem proved:Rows.FnExactHubSubmitSaid:=over
end fnExactHubSubmit
#print axioms fnExactHubSubmit.proved
