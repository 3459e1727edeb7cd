/- What the program asks of a call (over Clo). -/
import Derived.Test.YtbonkabfmlajnaaGreatQrap
set_option maxHeartbeats 8000000
set_option maxRecDepth 100000
namespace Go.Proofs.YtbonkabfmlajnaaGreat
open Go.RowKit
theorem KaU (c:Jag)(I j:Value)(w:World)(h_o:RdS w I c.o)(M:RdS w j c.text):
 Calls Tryz.prog 10 #[.agg #[c.kind,c.doc,c.client,c.seq,c.n,I,j]] w (yae w (.bool (xac c))):=by
 obtain⟨kind,doc,client,seq,n,po,text⟩:=c;simp only at h_o M;show Calls Tryz.prog 10 #[.agg #[kind,doc,client,seq,n,I,j]] w _;have hW:∃W1,W1=(w.alloc (.cells #[kind,doc,client,seq,n,I,j] 33)):=⟨_,rfl⟩;obtain⟨W1,D⟩:=hW;have hbx:Below w w W1:=by rw[D];exact(lf _ _).alloc (lr _) _
 have B:w<W1.heap.size:=by rw[D];simp
 have q0_0:W1.cell? ⟨w.heap.size,0,none⟩=some (.int .i64 kind):=by rw[D];simp
 have q0_1:W1.cell? ⟨w.heap.size,1,none⟩=some (.string doc):=by rw[D];simp
 have q0_2:W1.cell? ⟨w.heap.size,2,none⟩=some (.int .i64 client):=by rw[D];simp
 have q0_3:W1.cell? ⟨w.heap.size,3,none⟩=some (.int .i64 seq):=by rw[D];simp
 have q0_4:W1.cell? ⟨w.heap.size,4,none⟩=some (.int .i64 n):=by rw[D];simp
 have q0_5:W1.cell? ⟨w.heap.size,5,none⟩=some (I):=by rw[D];simp
 have q0_6:W1.cell? ⟨w.heap.size,6,none⟩=some (j):=by rw[D];simp
 by_cases h1:within kind 1 8=true
 rotate_left
 ·have h1:within kind 1 8=false:=by simpa using h1
  have HV:Hid (xac ⟨kind,doc,client,seq,n,po,text⟩=false):=hH (by simp[xac,h1])
  go_enter Tryz.func10,Tryz.ntmps10
  go_wp2_with fail
  rw[<-D];clear D;first
   |go_region_with (first|(go_at_call 26;refine(vaa kind 1 8 _).mono ?_;rintro e z ⟨rfl,q⟩;rw[h1];have s1:=q.size;have N:w<z.heap.size:=lq B s1;have R:z.cell? ⟨w.heap.size,0,none⟩=some (.int .i64 kind):=(q.cell (p:=⟨w,0,none⟩) B).trans q0_0;have U:z.cell? ⟨w.heap.size,1,none⟩=some (.string doc):=(q.cell (p:=⟨w,1,none⟩) B).trans q0_1;have Y:z.cell? ⟨w.heap.size,2,none⟩=some (.int .i64 client):=(q.cell (p:=⟨w,2,none⟩) B).trans q0_2;have Z:z.cell? ⟨w.heap.size,3,none⟩=some (.int .i64 seq):=(q.cell (p:=⟨w,3,none⟩) B).trans q0_3;have a0:z.cell? ⟨w.heap.size,4,none⟩=some (.int .i64 n):=(q.cell (p:=⟨w,4,none⟩) B).trans q0_4;have a1:z.cell? ⟨w.heap.size,5,none⟩=some (I):=(q.cell (p:=⟨w,5,none⟩) B).trans q0_5;have a2:z.cell? ⟨w.heap.size,6,none⟩=some (j):=(q.cell (p:=⟨w,6,none⟩) B).trans q0_6))
   |fail
  all_goals
   go_wp2;go_ret;exact⟨jaa HV.out.symm,blw⟩
 by_cases h2:doc.size<=8
 rotate_left
 ·have h2a:decide ((doc.size:Int)<=8)=false:=by simp;omega
  have h2b:¬((doc.size:Int)<=8):=om;have HV:Hid (xac ⟨kind,doc,client,seq,n,po,text⟩=false):=hH (by simp[xac,h2])
  clear h2;go_enter Tryz.func10,Tryz.ntmps10
  go_wp2_with fail
  rw[<-D];clear D;first
   |go_region_with (first|(go_at_call 26;refine(vaa kind 1 8 _).mono ?_;rintro e z ⟨rfl,q⟩;rw[h1];have s1:=q.size;have N:w<z.heap.size:=lq B s1;have R:z.cell? ⟨w.heap.size,0,none⟩=some (.int .i64 kind):=(q.cell (p:=⟨w,0,none⟩) B).trans q0_0;have U:z.cell? ⟨w.heap.size,1,none⟩=some (.string doc):=(q.cell (p:=⟨w,1,none⟩) B).trans q0_1;have Y:z.cell? ⟨w.heap.size,2,none⟩=some (.int .i64 client):=(q.cell (p:=⟨w,2,none⟩) B).trans q0_2;have Z:z.cell? ⟨w.heap.size,3,none⟩=some (.int .i64 seq):=(q.cell (p:=⟨w,3,none⟩) B).trans q0_3;have a0:z.cell? ⟨w.heap.size,4,none⟩=some (.int .i64 n):=(q.cell (p:=⟨w,4,none⟩) B).trans q0_4;have a1:z.cell? ⟨w.heap.size,5,none⟩=some (I):=(q.cell (p:=⟨w,5,none⟩) B).trans q0_5;have a2:z.cell? ⟨w.heap.size,6,none⟩=some (j):=(q.cell (p:=⟨w,6,none⟩) B).trans q0_6))
   |fail
  all_goals
   go_wp2;go_ret;exact⟨jaa HV.out.symm,blw⟩
 have h2a:decide ((doc.size:Int)<=8)=true:=by simp;omega
 by_cases h3:Xag po=true
 rotate_left
 ·have h3:Xag po=false:=by simpa using h3
  have HV:Hid (xac ⟨kind,doc,client,seq,n,po,text⟩=false):=hH (by simp[xac,h3])
  go_enter Tryz.func10,Tryz.ntmps10
  go_wp2_with fail
  rw[<-D];clear D;first
   |go_region_with (first|(go_at_call 26;refine(vaa kind 1 8 _).mono ?_;rintro e z ⟨rfl,q⟩;rw[h1];have s1:=q.size;have N:w<z.heap.size:=lq B s1;have R:z.cell? ⟨w.heap.size,0,none⟩=some (.int .i64 kind):=(q.cell (p:=⟨w,0,none⟩) B).trans q0_0;have U:z.cell? ⟨w.heap.size,1,none⟩=some (.string doc):=(q.cell (p:=⟨w,1,none⟩) B).trans q0_1;have Y:z.cell? ⟨w.heap.size,2,none⟩=some (.int .i64 client):=(q.cell (p:=⟨w,2,none⟩) B).trans q0_2;have Z:z.cell? ⟨w.heap.size,3,none⟩=some (.int .i64 seq):=(q.cell (p:=⟨w,3,none⟩) B).trans q0_3;have a0:z.cell? ⟨w.heap.size,4,none⟩=some (.int .i64 n):=(q.cell (p:=⟨w,4,none⟩) B).trans q0_4;have a1:z.cell? ⟨w.heap.size,5,none⟩=some (I):=(q.cell (p:=⟨w,5,none⟩) B).trans q0_5;have a2:z.cell? ⟨w.heap.size,6,none⟩=some (j):=(q.cell (p:=⟨w,6,none⟩) B).trans q0_6)|(go_at_call 31;refine(zak _ po _ (h_o.below (by exact blw))).mono ?_;rintro e Q ⟨rfl,u⟩;rw[h3];have s2:=u.size;have z2:w<Q.heap.size:=lq N s2;have q2_0:Q.cell? ⟨w.heap.size,0,none⟩=some (.int .i64 kind):=(u.cell (p:=⟨w,0,none⟩) N).trans R;have q2_1:Q.cell? ⟨w.heap.size,1,none⟩=some (.string doc):=(u.cell (p:=⟨w,1,none⟩) N).trans U;have q2_2:Q.cell? ⟨w.heap.size,2,none⟩=some (.int .i64 client):=(u.cell (p:=⟨w,2,none⟩) N).trans Y;have q2_3:Q.cell? ⟨w.heap.size,3,none⟩=some (.int .i64 seq):=(u.cell (p:=⟨w,3,none⟩) N).trans Z;have q2_4:Q.cell? ⟨w.heap.size,4,none⟩=some (.int .i64 n):=(u.cell (p:=⟨w,4,none⟩) N).trans a0;have q2_5:Q.cell? ⟨w.heap.size,5,none⟩=some (I):=(u.cell (p:=⟨w,5,none⟩) N).trans a1;have q2_6:Q.cell? ⟨w.heap.size,6,none⟩=some (j):=(u.cell (p:=⟨w,6,none⟩) N).trans a2))
   |fail
  all_goals
   go_wp2;go_ret;exact⟨jaa HV.out.symm,blw⟩
 by_cases h4:jae text=true
 rotate_left
 ·have h4:jae text=false:=by simpa using h4
  have HV:Hid (xac ⟨kind,doc,client,seq,n,po,text⟩=false):=hH (by simp[xac,h4])
  go_enter Tryz.func10,Tryz.ntmps10
  go_wp2_with fail
  rw[<-D];clear D;first
   |go_region_with (first|(go_at_call 26;refine(vaa kind 1 8 _).mono ?_;rintro e z ⟨rfl,q⟩;rw[h1];have s1:=q.size;have N:w<z.heap.size:=lq B s1;have R:z.cell? ⟨w.heap.size,0,none⟩=some (.int .i64 kind):=(q.cell (p:=⟨w,0,none⟩) B).trans q0_0;have U:z.cell? ⟨w.heap.size,1,none⟩=some (.string doc):=(q.cell (p:=⟨w,1,none⟩) B).trans q0_1;have Y:z.cell? ⟨w.heap.size,2,none⟩=some (.int .i64 client):=(q.cell (p:=⟨w,2,none⟩) B).trans q0_2;have Z:z.cell? ⟨w.heap.size,3,none⟩=some (.int .i64 seq):=(q.cell (p:=⟨w,3,none⟩) B).trans q0_3;have a0:z.cell? ⟨w.heap.size,4,none⟩=some (.int .i64 n):=(q.cell (p:=⟨w,4,none⟩) B).trans q0_4;have a1:z.cell? ⟨w.heap.size,5,none⟩=some (I):=(q.cell (p:=⟨w,5,none⟩) B).trans q0_5;have a2:z.cell? ⟨w.heap.size,6,none⟩=some (j):=(q.cell (p:=⟨w,6,none⟩) B).trans q0_6)|(go_at_call 31;refine(zak _ po _ (h_o.below (by exact blw))).mono ?_;rintro e Q ⟨rfl,u⟩;rw[h3];have s2:=u.size;have z2:w<Q.heap.size:=lq N s2;have q2_0:Q.cell? ⟨w.heap.size,0,none⟩=some (.int .i64 kind):=(u.cell (p:=⟨w,0,none⟩) N).trans R;have q2_1:Q.cell? ⟨w.heap.size,1,none⟩=some (.string doc):=(u.cell (p:=⟨w,1,none⟩) N).trans U;have q2_2:Q.cell? ⟨w.heap.size,2,none⟩=some (.int .i64 client):=(u.cell (p:=⟨w,2,none⟩) N).trans Y;have q2_3:Q.cell? ⟨w.heap.size,3,none⟩=some (.int .i64 seq):=(u.cell (p:=⟨w,3,none⟩) N).trans Z;have q2_4:Q.cell? ⟨w.heap.size,4,none⟩=some (.int .i64 n):=(u.cell (p:=⟨w,4,none⟩) N).trans a0;have q2_5:Q.cell? ⟨w.heap.size,5,none⟩=some (I):=(u.cell (p:=⟨w,5,none⟩) N).trans a1;have q2_6:Q.cell? ⟨w.heap.size,6,none⟩=some (j):=(u.cell (p:=⟨w,6,none⟩) N).trans a2)|(go_at_call 32;refine(Qaf _ text _ (M.below (by exact blw))).mono ?_;rintro e w3 ⟨rfl,J⟩;rw[h4];have s3:=J.size;have z3:w<w3.heap.size:=lq z2 s3;have q3_0:w3.cell? ⟨w.heap.size,0,none⟩=some (.int .i64 kind):=(J.cell (p:=⟨w,0,none⟩) z2).trans q2_0;have q3_1:w3.cell? ⟨w.heap.size,1,none⟩=some (.string doc):=(J.cell (p:=⟨w,1,none⟩) z2).trans q2_1;have q3_2:w3.cell? ⟨w.heap.size,2,none⟩=some (.int .i64 client):=(J.cell (p:=⟨w,2,none⟩) z2).trans q2_2;have q3_3:w3.cell? ⟨w.heap.size,3,none⟩=some (.int .i64 seq):=(J.cell (p:=⟨w,3,none⟩) z2).trans q2_3;have q3_4:w3.cell? ⟨w.heap.size,4,none⟩=some (.int .i64 n):=(J.cell (p:=⟨w,4,none⟩) z2).trans q2_4;have q3_5:w3.cell? ⟨w.heap.size,5,none⟩=some (I):=(J.cell (p:=⟨w,5,none⟩) z2).trans q2_5;have q3_6:w3.cell? ⟨w.heap.size,6,none⟩=some (j):=(J.cell (p:=⟨w,6,none⟩) z2).trans q2_6))
   |fail
  all_goals
   go_wp2;go_ret;exact⟨jaa HV.out.symm,blw⟩
 have HV:Hid (xac ⟨kind,doc,client,seq,n,po,text⟩=decide ((⟨kind,doc,client,seq,n,po,text⟩:Jag)=Jaf ⟨kind,doc,client,seq,n,po,text⟩)):=hH (KaM (c:=⟨kind,doc,client,seq,n,po,text⟩) h1 h2 h3 h4);go_enter Tryz.func10,Tryz.ntmps10
 go_wp2_with fail
 rw[<-D];clear D;go_region_held3 (fun w'=>w'.cell? ⟨w.heap.size,0,none⟩=some (.int .i64 kind)/\w'.cell? ⟨w.heap.size,1,none⟩=some (.string doc)/\w'.cell? ⟨w.heap.size,2,none⟩=some (.int .i64 client)/\w'.cell? ⟨w.heap.size,3,none⟩=some (.int .i64 seq)/\w'.cell? ⟨w.heap.size,4,none⟩=some (.int .i64 n)/\w'.cell? ⟨w.heap.size,5,none⟩=some (I)/\w'.cell? ⟨w.heap.size,6,none⟩=some j) (go_keep)
  (first|(go_at_call 26;refine(vaa kind 1 8 _).mono ?_;rintro e z ⟨rfl,q⟩;rw[h1];have s1:=q.size;have N:w<z.heap.size:=lq B s1;have R:z.cell? ⟨w.heap.size,0,none⟩=some (.int .i64 kind):=(q.cell (p:=⟨w,0,none⟩) B).trans q0_0;have U:z.cell? ⟨w.heap.size,1,none⟩=some (.string doc):=(q.cell (p:=⟨w,1,none⟩) B).trans q0_1;have Y:z.cell? ⟨w.heap.size,2,none⟩=some (.int .i64 client):=(q.cell (p:=⟨w,2,none⟩) B).trans q0_2;have Z:z.cell? ⟨w.heap.size,3,none⟩=some (.int .i64 seq):=(q.cell (p:=⟨w,3,none⟩) B).trans q0_3;have a0:z.cell? ⟨w.heap.size,4,none⟩=some (.int .i64 n):=(q.cell (p:=⟨w,4,none⟩) B).trans q0_4;have a1:z.cell? ⟨w.heap.size,5,none⟩=some (I):=(q.cell (p:=⟨w,5,none⟩) B).trans q0_5;have a2:z.cell? ⟨w.heap.size,6,none⟩=some (j):=(q.cell (p:=⟨w,6,none⟩) B).trans q0_6)|(go_at_call 31;refine(zak _ po _ (h_o.below (by exact blw))).mono ?_;rintro e Q ⟨rfl,u⟩;rw[h3];have s2:=u.size;have z2:w<Q.heap.size:=lq N s2;have q2_0:Q.cell? ⟨w.heap.size,0,none⟩=some (.int .i64 kind):=(u.cell (p:=⟨w,0,none⟩) N).trans R;have q2_1:Q.cell? ⟨w.heap.size,1,none⟩=some (.string doc):=(u.cell (p:=⟨w,1,none⟩) N).trans U;have q2_2:Q.cell? ⟨w.heap.size,2,none⟩=some (.int .i64 client):=(u.cell (p:=⟨w,2,none⟩) N).trans Y;have q2_3:Q.cell? ⟨w.heap.size,3,none⟩=some (.int .i64 seq):=(u.cell (p:=⟨w,3,none⟩) N).trans Z;have q2_4:Q.cell? ⟨w.heap.size,4,none⟩=some (.int .i64 n):=(u.cell (p:=⟨w,4,none⟩) N).trans a0;have q2_5:Q.cell? ⟨w.heap.size,5,none⟩=some (I):=(u.cell (p:=⟨w,5,none⟩) N).trans a1;have q2_6:Q.cell? ⟨w.heap.size,6,none⟩=some (j):=(u.cell (p:=⟨w,6,none⟩) N).trans a2)|(go_at_call 32;refine(Qaf _ text _ (M.below (by exact blw))).mono ?_;rintro e w3 ⟨rfl,J⟩;rw[h4];have s3:=J.size;have z3:w<w3.heap.size:=lq z2 s3;have q3_0:w3.cell? ⟨w.heap.size,0,none⟩=some (.int .i64 kind):=(J.cell (p:=⟨w,0,none⟩) z2).trans q2_0;have q3_1:w3.cell? ⟨w.heap.size,1,none⟩=some (.string doc):=(J.cell (p:=⟨w,1,none⟩) z2).trans q2_1;have q3_2:w3.cell? ⟨w.heap.size,2,none⟩=some (.int .i64 client):=(J.cell (p:=⟨w,2,none⟩) z2).trans q2_2;have q3_3:w3.cell? ⟨w.heap.size,3,none⟩=some (.int .i64 seq):=(J.cell (p:=⟨w,3,none⟩) z2).trans q2_3;have q3_4:w3.cell? ⟨w.heap.size,4,none⟩=some (.int .i64 n):=(J.cell (p:=⟨w,4,none⟩) z2).trans q2_4;have q3_5:w3.cell? ⟨w.heap.size,5,none⟩=some (I):=(J.cell (p:=⟨w,5,none⟩) z2).trans q2_5;have q3_6:w3.cell? ⟨w.heap.size,6,none⟩=some (j):=(J.cell (p:=⟨w,6,none⟩) z2).trans q2_6)|(go_at_call 34;refine(xa3 ⟨kind,doc,client,seq,n,po,text⟩ _ _ _ h1 (h_o.below (by exact blw)) (M.below (by exact blw))).mono ?_;rintro e w4 ⟨vo,vt,rfl,ro,rt,hb4⟩;have s4:=hb4.size;have z4:w<w4.heap.size:=lq z3 s4;have q4_0:w4.cell? ⟨w.heap.size,0,none⟩=some (.int .i64 kind):=(hb4.cell (p:=⟨w,0,none⟩) z3).trans q3_0;have q4_1:w4.cell? ⟨w.heap.size,1,none⟩=some (.string doc):=(hb4.cell (p:=⟨w,1,none⟩) z3).trans q3_1;have q4_2:w4.cell? ⟨w.heap.size,2,none⟩=some (.int .i64 client):=(hb4.cell (p:=⟨w,2,none⟩) z3).trans q3_2;have q4_3:w4.cell? ⟨w.heap.size,3,none⟩=some (.int .i64 seq):=(hb4.cell (p:=⟨w,3,none⟩) z3).trans q3_3;have q4_4:w4.cell? ⟨w.heap.size,4,none⟩=some (.int .i64 n):=(hb4.cell (p:=⟨w,4,none⟩) z3).trans q3_4;have q4_5:w4.cell? ⟨w.heap.size,5,none⟩=some (I):=(hb4.cell (p:=⟨w,5,none⟩) z3).trans q3_5;have q4_6:w4.cell? ⟨w.heap.size,6,none⟩=some (j):=(hb4.cell (p:=⟨w,6,none⟩) z3).trans q3_6)|(go_at_call 33;refine(QaK ⟨kind,doc,client,seq,n,po,text⟩ (Jaf ⟨kind,doc,client,seq,n,po,text⟩) _ _ _ _ _ (h_o.below (by exact blw)) (ro.below blw) (M.below (by exact blw)) (rt.below blw)).mono ?_;rintro e w5 ⟨rfl,hb5⟩;have s5:=hb5.size;have z5:w<w5.heap.size:=lq z4 s5;have q5_0:w5.cell? ⟨w.heap.size,0,none⟩=some (.int .i64 kind):=(hb5.cell (p:=⟨w,0,none⟩) z4).trans q4_0;have q5_1:w5.cell? ⟨w.heap.size,1,none⟩=some (.string doc):=(hb5.cell (p:=⟨w,1,none⟩) z4).trans q4_1;have q5_2:w5.cell? ⟨w.heap.size,2,none⟩=some (.int .i64 client):=(hb5.cell (p:=⟨w,2,none⟩) z4).trans q4_2;have q5_3:w5.cell? ⟨w.heap.size,3,none⟩=some (.int .i64 seq):=(hb5.cell (p:=⟨w,3,none⟩) z4).trans q4_3;have q5_4:w5.cell? ⟨w.heap.size,4,none⟩=some (.int .i64 n):=(hb5.cell (p:=⟨w,4,none⟩) z4).trans q4_4;have q5_5:w5.cell? ⟨w.heap.size,5,none⟩=some (I):=(hb5.cell (p:=⟨w,5,none⟩) z4).trans q4_5;have q5_6:w5.cell? ⟨w.heap.size,6,none⟩=some (j):=(hb5.cell (p:=⟨w,6,none⟩) z4).trans q4_6))
 all_goals
  go_wp2;go_ret;exact⟨jaa HV.out.symm,blw⟩
