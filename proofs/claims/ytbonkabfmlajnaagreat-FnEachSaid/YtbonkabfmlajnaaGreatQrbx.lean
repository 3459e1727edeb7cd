/- A slice that is kept through draws, new blocks, stores elsewhere. -/
import Derived.Test.YtbonkabfmlajnaaGreatQrbs
set_option maxHeartbeats 16000000
set_option maxRecDepth 100000
namespace Go.Proofs.YtbonkabfmlajnaaGreat
open Go.RowKit
section
variable {α:Type} [GoT α] {M:Nat} {w:World} {v:Value} {l:List α} {f:List Pos}
theorem Sl.drewS (h:Sl M w v l f):Sl M w.drew v l f:=h.keep fun _ _=>rfl
theorem Sl.putS (h:Sl M w v l f){b o:Nat}(j:(b,o)∉f)(u:Value):Sl M (w.setCell ⟨b,o,none⟩ u) v l f:=h.put j u
end
end Go.Proofs.YtbonkabfmlajnaaGreat
namespace Go.Proofs.YtbonkabfmlajnaaGreat
open Go.RowKit
attribute [local go_sem ↓] Go.wp_at_zero Go.wp_at_succ
theorem yaU {w j:World}{n:Int}(hb:Below w w j):kau w (jaA n) (.returned (.agg #[n,zI,zN,zN])) j:=⟨_,_,[],[],rfl,Sl.nil,Sl.nil,Qaa.nil _ _,hb⟩
theorem zag.ans_t {C D:Nat}{w j:World}{v:Value}{t:List Int}{n m:Int}(h:zag C D j v t)(p:w.heap.size<=C)(hb:Below w w j):kau w ⟨n,m,t,[]⟩ (.returned (.agg #[n,m,v,zN])) j:=
 let⟨f,s,k,_⟩:=h;⟨_,_,f,[],rfl,s,Sl.nil,by simpa using k.mono p,hb⟩
theorem zag.ans_l {C D:Nat}{w j:World}{v:Value}{l:List yab}{n m:Int}(h:zag C D j v l)(p:w.heap.size<=C)(hb:Below w w j):kau w ⟨n,m,[],l⟩ (.returned (.agg #[n,m,zN,v])) j:=
 let⟨f,s,k,_⟩:=h;⟨_,_,[],f,rfl,Sl.nil,s,by simpa using k.mono p,hb⟩
theorem Xaz (z:qae)(c:Jag)(j I v_o Z:Value)(w:World)(B:RdS w j z.docs)(hok:Qac z=true):
 Calls Tryz.prog 104 #[.agg #[z.shut,j,I,z.last],.agg #[c.kind,c.doc,c.client,c.seq,c.n,v_o,Z]] w (kau w (Kah z c)):=by
 obtain⟨sh,Y⟩:∃sh:Bool,z.shut=sh:=⟨_,rfl⟩;have hHD:=fun(W:World) (a:RdS W j z.docs)=>vaj z j I c.doc W a
 simp only[Y]at hHD;rw[Y];have HHD:=hH hHD;have a0:=hH Y;clear hHD Y;go_enter Tryz.func104,Tryz.ntmps104
 go_wp2_with fail
 refine(HHD.out _ (B.below blw)).mono ?_;rintro e' p ⟨rfl,M⟩;have HX:=hH ((((Bx.new (b:=w) rfl).alloc _).alloc _).at M);have HY:Hid (Bx p (w+1) _):=hH (((Bx.new sm).alloc _).at M);have HR:Hid (Bx p (w+2) _):=hH ((Bx.new sm).at M);have HB:=hH ((((((lf w w).alloc om _).alloc om _).alloc om _)).trans (M.mono om));have s1:w+3<=p.heap.size:=szl M;have hB:=HB.out;obtain⟨z0,x0,x1,x2,x3⟩:=HX.out.o4;obtain⟨z1,y0,y1,y2,y3,y4,y5,y6⟩:=HY.out.o7;obtain⟨z2,r0,r1,r2,r3,g0,g1,g2,g3⟩:=HR.out.q4;clear M;cases sh;rotate_left
 ·have HV:=hH (QaN (c:=c) a0.out);go_wp2;exact bodyPost_ret (v:= .agg #[.int .i64 12,zI,zN,zN]) (by simp[results,Tryz.results104,go_sem,xaa, *]) rfl (by rw[HV.out];exact yaU blw)
 by_cases h3:zad z c.doc<0
 ·have HV:=hH (jaK a0.out h3);go_wp2;exact bodyPost_ret (v:= .agg #[.int .i64 6,zI,zN,zN]) (by simp[results,Tryz.results104,go_sem,xaa, *]) rfl (by rw[HV.out];exact yaU blw)
 obtain⟨k,d,hk,hd⟩:=qan h3;have U:=hH (KaZ a0.out hk hd);have hbd:=yaf ((vad.1 hok).doc (List.mem_of_getElem? hd));have kl:=(lg.1 hd).1;obtain⟨u,o1,cs,i1,i2,i3⟩:=B.idx Tryz.underlying23 uag k hd;obtain⟨v_t,v_l,v_s,rfl,nn,rt,rl,rs⟩:=Kai i3;have l0:u<w.heap.size:=lk (w:=w) (a:=⟨u,o1,none⟩) i2.zero;obtain⟨q0,q1,q2,q3,q4⟩:=mv5 hB l0 i2.zero (i2 1 _ rfl) (i2 2 _ rfl) (i2 3 _ rfl) (i2 4 _ rfl);have l1:u<p.heap.size:=om;have n1:¬(u=w.heap.size+1+1):=om;have n2:¬(w.heap.size+1+1=u):=om;have n3:¬(w=w.heap.size+1+1):=om;have n4:¬(w+1=w.heap.size+1+1):=om;have RT:=hH (rt.below hB);have RL:=hH (rl.below hB);have RS:=hH (rs.below hB);rw[hk];have h3b:decide ((k:Int)<0)=false:=by simp
 have h3c:¬((k:Int)<0):=om;clear hk hd h3 rt rl rs i2 i3;by_cases h4:c.kind=4
 ·have HV:=hH (U.out.trans (if_pos h4));have e4:(c.kind==4)=true:=by simpa using h4
  clear h4 U;go_wp2_with fail
  go_region_held3 (fun J=>J.cell? ⟨w.heap.size,1,none⟩=some j/\J.cell? ⟨u,o1,none⟩=some (.string d.name)/\J.cell? ⟨u,o1+1,none⟩=some (.int .i64 d.from_)/\J.cell? ⟨u,o1+2,none⟩=some v_t/\J.cell? ⟨u,o1+3,none⟩=some v_l/\J.cell? ⟨u,o1+4,none⟩=some v_s) (first|(go_keep;done)|(simp[go_sem,xaa, *];done))
   (first|(go_at_call 132;refine(uar d _ _ _ _ nn (RT.out.below blw) (RL.out.below blw) (RS.out.below blw)).mono ?_;rintro e' N ⟨vh,fh,rfl,q,kh,Q⟩;obtain⟨av,cv,rfl⟩:=q.isS;have R:Below p p N:=(show Below p p _ from blw).trans (Q.mono om);have HT:Hid (zag p N N (.slice av (vae d).length cv) (vae d)):=hH ⟨fh,q,kh.mono om,Live.lt q.live⟩;obtain⟨z02,x02,x12,x22,x32⟩:=(HX.out.at R).o4;obtain⟨p0,p1,p2,p3,p4⟩:=mv5 R l1 q0 q1 q2 q3 q4;obtain⟨z22,r02,r12,r22,r32,g02,g12,g22,g32⟩:=(HR.out.at R).q4;have s2:=R.size;clear q kh Q)|(go_at_call 100;refine(Jab d _ _ _ _ (RL.out.below blw) om om).mono ?_;rintro e' w3 ⟨rfl,hb3⟩;have B3:Below p p w3:=(show Below p p _ from blw).trans (hb3.mono om);(try(have X3:Below N N w3:=(show Below N N _ from blw).trans (hb3.mono om)));obtain⟨z03,x03,x13,x23,x33⟩:=(HX.out.at B3).o4;obtain⟨p03,p13,p23,p33,p43⟩:=mv5 B3 l1 q0 q1 q2 q3 q4;obtain⟨z23,r03,r13,r23,r33,g03,g13,g23,g33⟩:=(HR.out.at B3).q4;have s3:=B3.size;clear hb3))
  all_goals
   go_wp2;exact bodyPost_ret (v:= .agg #[zI,(yaa d),.slice av (vae d).length cv,zN]) (by simp[results,Tryz.results104,go_sem,xaa, *]) rfl (by rw[HV.out];exact zag.ans_t (C:=p) (D:=N) (by repeat'(first|(with_reducible exact HT.out)|(with_reducible refine zag.setCell ?_ ?_ _)|(with_reducible refine zag.drew ?_)|(with_reducible exact HT.out.below X3)|omega)) HB.out.size blw)
 ·have HV:=hH (U.out.trans (if_neg h4));have e4:(c.kind==4)=false:=by simpa using h4
  clear h4 U;go_wp2_with fail
  go_region_held3 (fun J=>J.cell? ⟨w.heap.size,1,none⟩=some j/\J.cell? ⟨w.heap.size+1,4,none⟩=some (.int .i64 c.n)/\J.cell? ⟨u,o1,none⟩=some (.string d.name)/\J.cell? ⟨u,o1+1,none⟩=some (.int .i64 d.from_)/\J.cell? ⟨u,o1+2,none⟩=some v_t/\J.cell? ⟨u,o1+3,none⟩=some v_l/\J.cell? ⟨u,o1+4,none⟩=some v_s) (first|(go_keep;done)|(simp[go_sem,xaa, *];done))
   (first|(go_at_call 139;refine(XaY d _ _ _ c.n _ nn (RT.out.below blw) (RL.out.below blw) (RS.out.below blw)).mono ?_;rintro e' N ⟨vh,fh,rfl,q,kh,Q⟩;obtain⟨av,cv,rfl⟩:=q.isS;have R:Below p p N:=(show Below p p _ from blw).trans (Q.mono om);have HT:Hid (zag p N N (.slice av (Qar d c.n).1.length cv) (Qar d c.n).1):=hH ⟨fh,q,kh.mono om,Live.lt q.live⟩;obtain⟨z02,x02,x12,x22,x32⟩:=(HX.out.at R).o4;obtain⟨z12,y02,y12,y22,y32,y42,y52,y62⟩:=(HY.out.at R).o7;obtain⟨p0,p1,p2,p3,p4⟩:=mv5 R l1 q0 q1 q2 q3 q4;obtain⟨z22,r02,r12,r22,r32,g02,g12,g22,g32⟩:=(HR.out.at R).q4;have s2:=R.size;clear q kh Q))
  all_goals
   go_wp2;exact bodyPost_ret (v:= .agg #[(Qar d c.n).2,zI,zN,.slice av (Qar d c.n).1.length cv]) (by simp[results,Tryz.results104,go_sem,xaa, *]) rfl (by rw[HV.out];exact zag.ans_l (C:=p) (D:=N) (by repeat'(first|(with_reducible exact HT.out)|(with_reducible refine zag.setCell ?_ ?_ _)|(with_reducible refine zag.drew ?_)|omega)) HB.out.size blw)
theorem kaN (z:qae)(c:Jag)(j I v_o Z:Value)(w:World)(B:RdS w j z.docs)(hok:Qac z=true):
 Calls Tryz.prog 25 #[.agg #[z.shut,j,I,z.last],.agg #[c.kind,c.doc,c.client,c.seq,c.n,v_o,Z]] w (kau w (Kah z c)):=by
 obtain⟨sh,Y⟩:∃sh:Bool,z.shut=sh:=⟨_,rfl⟩;have hHD:=fun(W:World) (a:RdS W j z.docs)=>Xal z j I c.doc W a
 simp only[Y]at hHD;rw[Y];have HHD:=hH hHD;have a0:=hH Y;clear hHD Y;go_enter Tryz.func25,Tryz.ntmps25
 go_wp2_with fail
 refine(HHD.out _ (B.below blw)).mono ?_;rintro e' p ⟨rfl,M⟩;have HX:=hH ((((Bx.new (b:=w) rfl).alloc _).alloc _).at M);have HY:Hid (Bx p (w+1) _):=hH (((Bx.new sm).alloc _).at M);have HR:Hid (Bx p (w+2) _):=hH ((Bx.new sm).at M);have HB:=hH ((((((lf w w).alloc om _).alloc om _).alloc om _)).trans (M.mono om));have s1:w+3<=p.heap.size:=szl M;have hB:=HB.out;obtain⟨z0,x0,x1,x2,x3⟩:=HX.out.o4;obtain⟨z1,y0,y1,y2,y3,y4,y5,y6⟩:=HY.out.o7;obtain⟨z2,r0,r1,r2,r3,g0,g1,g2,g3⟩:=HR.out.q4;clear M;cases sh;rotate_left
 ·have HV:=hH (QaN (c:=c) a0.out);go_wp2;exact bodyPost_ret (v:= .agg #[.int .i64 12,zI,zN,zN]) (by simp[results,Tryz.results25,go_sem,xaa, *]) rfl (by rw[HV.out];exact yaU blw)
 by_cases h3:zad z c.doc<0
 ·have HV:=hH (jaK a0.out h3);go_wp2;exact bodyPost_ret (v:= .agg #[.int .i64 6,zI,zN,zN]) (by simp[results,Tryz.results25,go_sem,xaa, *]) rfl (by rw[HV.out];exact yaU blw)
 obtain⟨k,d,hk,hd⟩:=qan h3;have U:=hH (KaZ a0.out hk hd);have hbd:=yaf ((vad.1 hok).doc (List.mem_of_getElem? hd));have kl:=(lg.1 hd).1;obtain⟨u,o1,cs,i1,i2,i3⟩:=B.idx Tryz.underlying23 uag k hd;obtain⟨v_t,v_l,v_s,rfl,nn,rt,rl,rs⟩:=Kai i3;have l0:u<w.heap.size:=lk (w:=w) (a:=⟨u,o1,none⟩) i2.zero;obtain⟨q0,q1,q2,q3,q4⟩:=mv5 hB l0 i2.zero (i2 1 _ rfl) (i2 2 _ rfl) (i2 3 _ rfl) (i2 4 _ rfl);have l1:u<p.heap.size:=om;have n1:¬(u=w.heap.size+1+1):=om;have n2:¬(w.heap.size+1+1=u):=om;have n3:¬(w=w.heap.size+1+1):=om;have n4:¬(w+1=w.heap.size+1+1):=om;have RT:=hH (rt.below hB);have RL:=hH (rl.below hB);have RS:=hH (rs.below hB);rw[hk];have h3b:decide ((k:Int)<0)=false:=by simp
 have h3c:¬((k:Int)<0):=om;clear hk hd h3 rt rl rs i2 i3;by_cases h4:c.kind=4
 ·have HV:=hH (U.out.trans (if_pos h4));have e4:(c.kind==4)=true:=by simpa using h4
  clear h4 U;go_wp2_with fail
  go_region_held3 (fun J=>J.cell? ⟨w.heap.size,1,none⟩=some j/\J.cell? ⟨u,o1,none⟩=some (.string d.name)/\J.cell? ⟨u,o1+1,none⟩=some (.int .i64 d.from_)/\J.cell? ⟨u,o1+2,none⟩=some v_t/\J.cell? ⟨u,o1+3,none⟩=some v_l/\J.cell? ⟨u,o1+4,none⟩=some v_s) (first|(go_keep;done)|(simp[go_sem,xaa, *];done))
   (first|(go_at_call 51;refine(Zaw d _ _ _ _ nn (RT.out.below blw) (RL.out.below blw) (RS.out.below blw)).mono ?_;rintro e' N ⟨vh,fh,rfl,q,kh,Q⟩;obtain⟨av,cv,rfl⟩:=q.isS;have R:Below p p N:=(show Below p p _ from blw).trans (Q.mono om);have HT:Hid (zag p N N (.slice av (vae d).length cv) (vae d)):=hH ⟨fh,q,kh.mono om,Live.lt q.live⟩;obtain⟨z02,x02,x12,x22,x32⟩:=(HX.out.at R).o4;obtain⟨p0,p1,p2,p3,p4⟩:=mv5 R l1 q0 q1 q2 q3 q4;obtain⟨z22,r02,r12,r22,r32,g02,g12,g22,g32⟩:=(HR.out.at R).q4;have s2:=R.size;clear q kh Q)|(go_at_call 30;refine(zac d _ _ _ _ (RL.out.below blw) om om).mono ?_;rintro e' w3 ⟨rfl,hb3⟩;have B3:Below p p w3:=(show Below p p _ from blw).trans (hb3.mono om);(try(have X3:Below N N w3:=(show Below N N _ from blw).trans (hb3.mono om)));obtain⟨z03,x03,x13,x23,x33⟩:=(HX.out.at B3).o4;obtain⟨p03,p13,p23,p33,p43⟩:=mv5 B3 l1 q0 q1 q2 q3 q4;obtain⟨z23,r03,r13,r23,r33,g03,g13,g23,g33⟩:=(HR.out.at B3).q4;have s3:=B3.size;clear hb3))
  all_goals
   go_wp2;exact bodyPost_ret (v:= .agg #[zI,(yaa d),.slice av (vae d).length cv,zN]) (by simp[results,Tryz.results25,go_sem,xaa, *]) rfl (by rw[HV.out];exact zag.ans_t (C:=p) (D:=N) (by repeat'(first|(with_reducible exact HT.out)|(with_reducible refine zag.setCell ?_ ?_ _)|(with_reducible refine zag.drew ?_)|(with_reducible exact HT.out.below X3)|omega)) HB.out.size blw)
 ·have HV:=hH (U.out.trans (if_neg h4));have e4:(c.kind==4)=false:=by simpa using h4
  clear h4 U;go_wp2_with fail
  go_region_held3 (fun J=>J.cell? ⟨w.heap.size,1,none⟩=some j/\J.cell? ⟨w.heap.size+1,4,none⟩=some (.int .i64 c.n)/\J.cell? ⟨u,o1,none⟩=some (.string d.name)/\J.cell? ⟨u,o1+1,none⟩=some (.int .i64 d.from_)/\J.cell? ⟨u,o1+2,none⟩=some v_t/\J.cell? ⟨u,o1+3,none⟩=some v_l/\J.cell? ⟨u,o1+4,none⟩=some v_s) (first|(go_keep;done)|(simp[go_sem,xaa, *];done))
   (first|(go_at_call 65;refine(vaY d _ _ _ c.n _ nn (RT.out.below blw) (RL.out.below blw) (RS.out.below blw)).mono ?_;rintro e' N ⟨vh,fh,rfl,q,kh,Q⟩;obtain⟨av,cv,rfl⟩:=q.isS;have R:Below p p N:=(show Below p p _ from blw).trans (Q.mono om);have HT:Hid (zag p N N (.slice av (Qar d c.n).1.length cv) (Qar d c.n).1):=hH ⟨fh,q,kh.mono om,Live.lt q.live⟩;obtain⟨z02,x02,x12,x22,x32⟩:=(HX.out.at R).o4;obtain⟨z12,y02,y12,y22,y32,y42,y52,y62⟩:=(HY.out.at R).o7;obtain⟨p0,p1,p2,p3,p4⟩:=mv5 R l1 q0 q1 q2 q3 q4;obtain⟨z22,r02,r12,r22,r32,g02,g12,g22,g32⟩:=(HR.out.at R).q4;have s2:=R.size;clear q kh Q))
  all_goals
   go_wp2;exact bodyPost_ret (v:= .agg #[(Qar d c.n).2,zI,zN,.slice av (Qar d c.n).1.length cv]) (by simp[results,Tryz.results25,go_sem,xaa, *]) rfl (by rw[HV.out];exact zag.ans_l (C:=p) (D:=N) (by repeat'(first|(with_reducible exact HT.out)|(with_reducible refine zag.setCell ?_ ?_ _)|(with_reducible refine zag.drew ?_)|omega)) HB.out.size blw)
