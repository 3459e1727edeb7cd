/- Doing a call on a hub: what comes of it, and how much. -/
import Derived.Test.YtocdogemgojgaaaGreatRbl
import Derived.Test.YtocdogemgojgaaaGreatRbp
import Derived.Test.YtocdogemgojgaaaGreatRbu
import Derived.Test.YtocdogemgojgaaaGreatRaq
set_option maxHeartbeats 16000000
set_option maxRecDepth 100000
namespace Go.Proofs.YtocdogemgojgaaaGreat
open Go.RowKit
def xaJ (n:Int):Zad:=⟨n,0,[],[]⟩
def Kai (z:vaf)(c:xah):Zad:=
 if z.shut=true then xaJ 12 else if xae z c.doc<0 then xaJ 6 else
 match z.docs[(xae z c.doc).toNat]? with
 |none=>xaJ 6
 |some d=>if c.kind=4 then⟨0,yaa d,Kad d,[]⟩else⟨(zar d c.n).2,0,[],(zar d c.n).1⟩
def vaq (z:vaf)(c:xah):vaf×Zad:=
 if c.kind=1 then((jai z c.doc c.text).1,xaJ (jai z c.doc c.text).2)
 else if c.kind=2 then((Kae z c.doc c.client c.seq c.n c.o).1,⟨(Kae z c.doc c.client c.seq c.n c.o).2.2,(Kae z c.doc c.client c.seq c.n c.o).2.1,[],[]⟩)
 else if c.kind=5 then((yae z c.doc c.n).1,⟨(yae z c.doc c.n).2.2,(yae z c.doc c.n).2.1,[],[]⟩)
 else if c.kind=6 then((Zal z c.client c.n).1,⟨(Zal z c.client c.n).2.2,0,[],(Zal z c.client c.n).2.1⟩)
 else if c.kind=7 then((yah z c.client).1,⟨(yah z c.client).2.2.2,(yah z c.client).2.2.1,(yah z c.client).2.1,[]⟩)
 else((van z).1,xaJ (van z).2)
def Kag (z:vaf)(c:xah):vaf×Zad:=
 if kae z=true/\Qac c=true then
  (if c.kind=3\/c.kind=4 then(z,Kai z c)else if(vaq z c).2.code=0 then vaq z c else(z,xaJ (vaq z c).2.code))
 else(z,xaJ 1)
theorem kap {z:vaf}{c:xah}(h:¬(kae z=true/\Qac c=true)):Kag z c=(z,xaJ 1):=if_neg h
theorem vap {z:vaf}{c:xah}(h:kae z=true/\Qac c=true)(j:c.kind=3\/c.kind=4):Kag z c=(z,Kai z c):=by unfold Kag;rw[if_pos h,if_pos j]
theorem zaA {z:vaf}{c:xah}(h:kae z=true/\Qac c=true)(n:¬(c.kind=3\/c.kind=4))(j:(vaq z c).2.code=0):Kag z c=vaq z c:=by unfold Kag;rw[if_pos h,if_neg n,if_pos j]
theorem qaE {z:vaf}{c:xah}(h:kae z=true/\Qac c=true)(n:¬(c.kind=3\/c.kind=4))(j:¬(vaq z c).2.code=0):Kag z c=(z,xaJ (vaq z c).2.code):=by unfold Kag;rw[if_pos h,if_neg n,if_neg j]
theorem QaO {z:vaf}{c:xah}(h:z.shut=true):Kai z c=xaJ 12:=if_pos h
theorem uaO {z:vaf}{c:xah}(h:z.shut=false)(j:xae z c.doc<0):Kai z c=xaJ 6:=by unfold Kai;rw[if_neg (by simp[h]),if_pos j]
theorem xa3 {z:vaf}{c:xah}{k:Nat}{d:Jac}(h:z.shut=false)(j:xae z c.doc=k)(hd:z.docs[k]? =some d):
 Kai z c=if c.kind=4 then⟨0,yaa d,Kad d,[]⟩else⟨(zar d c.n).2,0,[],(zar d c.n).1⟩:=by
 unfold Kai;rw[if_neg (by simp[h]),if_neg om,j,Int.toNat_natCast,hd]
theorem Zbc (z:vaf)(c:xah):jab (Kai z c).text+jab (Kai z c).list<=5*szL z.docs+1000:=by
 unfold Kai;split
 ·simp[xaJ,jab]
 ·split
  ·simp[xaJ,jab]
  ·split
   ·simp[xaJ,jab]
   ·rename_i d hd
    have q:=vat (List.mem_of_getElem? hd);have u:GoS.sz d=d.name.size+szL d.text+szL d.list+szL d.seen:=rfl;split
    ·have j:=zag (Kad d);have p:=yaT d (yaa d);rw[qaw]at j;unfold Kad at *;simp only[jab];omega
    ·have:=kbf d c.n;simp only[jab];omega
theorem Xba (z:vaf)(c:xah):jab (Kag z c).1.docs+jab (Kag z c).1.subs+(jab (Kag z c).2.text+jab (Kag z c).2.list)<=10*(szL z.docs+szL z.subs)+5*szL c.text+5001000:=by
 have D:=Zax z;have I:=Zbc z c;have j:∀n,jab (xaJ n).text+jab (xaJ n).list=0:=fun _=>by simp[xaJ,jab]
 by_cases h:kae z=true/\Qac c=true
 rotate_left
 ·rw[kap h];have:=j 1;simp only;omega
 by_cases q:c.kind=3\/c.kind=4
 ·rw[vap h q];simp only;omega
 by_cases p:(vaq z c).2.code=0
 rotate_left
 ·rw[qaE h q p];have:=j (vaq z c).2.code;simp only;omega
 rw[zaA h q p];clear p;unfold vaq;have B:jab ([]:List Int)=0:=rfl;have u:jab ([]:List xab)=0:=rfl;split
 ·have:=za4 z c.doc c.text;have:=j (jai z c.doc c.text).2;simp only;omega
 ·split
  ·have:=vaY z c.doc c.client c.seq c.n c.o;simp only[B,u];omega
  ·split
   ·have:=yaK z c.doc c.n;simp only[B,u];omega
   ·split
    ·have:=qa6 z c.client c.n;simp only[B];omega
    ·split
     ·have:=XaW z c.client;simp only[u];omega
     ·have:=Ja5 z;have:=j (van z).2;simp only;omega
end Go.Proofs.YtocdogemgojgaaaGreat
namespace Go.Proofs.YtocdogemgojgaaaGreat
open Go.RowKit
attribute [local go_sem ↓] Go.wp_at_zero Go.wp_at_succ
theorem ZaV {w j:World}{n:Int}(hb:Below w w j):vav w (xaJ n) (.returned (.agg #[n,zI,zN,zN])) j:=⟨_,_,[],[],rfl,Sl.nil,Sl.nil,uaa.nil _ _,hb⟩
theorem Xad.ans_t {C D:Nat}{w j:World}{v:Value}{t:List Int}{n m:Int}(h:Xad C D j v t)(p:w.heap.size<=C)(hb:Below w w j):vav w ⟨n,m,t,[]⟩ (.returned (.agg #[n,m,v,zN])) j:=
 let⟨f,s,k,_⟩:=h;⟨_,_,f,[],rfl,s,Sl.nil,by simpa using k.mono p,hb⟩
theorem Xad.ans_l {C D:Nat}{w j:World}{v:Value}{l:List xab}{n m:Int}(h:Xad C D j v l)(p:w.heap.size<=C)(hb:Below w w j):vav w ⟨n,m,[],l⟩ (.returned (.agg #[n,m,zN,v])) j:=
 let⟨f,s,k,_⟩:=h;⟨_,_,[],f,rfl,Sl.nil,s,by simpa using k.mono p,hb⟩
theorem zaB (z:vaf)(c:xah)(j I v_o Z:Value)(w:World)(B:RdS w j z.docs)(hok:kae z=true):
 Calls Tryz.prog 81 #[.agg #[z.shut,j,I,z.last],.agg #[c.kind,c.doc,c.client,c.seq,c.n,v_o,Z]] w (vav w (Kai z c)):=by
 obtain⟨sh,Y⟩:∃sh:Bool,z.shut=sh:=⟨_,rfl⟩;have hHD:=fun(W:World) (a:RdS W j z.docs)=>vam z j I c.doc W a
 simp only[Y]at hHD;rw[Y];have HHD:=hH hHD;have a0:=hH Y;clear hHD Y;go_enter Tryz.func81,Tryz.ntmps81
 go_wp2_with fail
 refine(HHD.out _ (B.below blw)).mono ?_;rintro e' p ⟨rfl,M⟩;have HX:=hH ((((Bx.new (b:=w) rfl).alloc _).alloc _).at M);have HY:Hid (Bx p (w+1) _):=hH (((Bx.new sm).alloc _).at M);have HR:Hid (Bx p (w+2) _):=hH ((Bx.new sm).at M);have HB:=hH ((((((lf w w).alloc om _).alloc om _).alloc om _)).trans (M.mono om));have s1:w+3<=p.heap.size:=szl M;have hB:=HB.out;obtain⟨z0,x0,x1,x2,x3⟩:=HX.out.o4;obtain⟨z1,y0,y1,y2,y3,y4,y5,y6⟩:=HY.out.o7;obtain⟨z2,r0,r1,r2,r3,g0,g1,g2,g3⟩:=HR.out.q4;clear M;cases sh;rotate_left
 ·have HV:=hH (QaO (c:=c) a0.out);go_wp2;exact bodyPost_ret (v:= .agg #[.int .i64 12,zI,zN,zN]) (by simp[results,Tryz.results81,go_sem,xaa, *]) rfl (by rw[HV.out];exact ZaV blw)
 by_cases h3:xae z c.doc<0
 ·have HV:=hH (uaO a0.out h3);go_wp2;exact bodyPost_ret (v:= .agg #[.int .i64 6,zI,zN,zN]) (by simp[results,Tryz.results81,go_sem,xaa, *]) rfl (by rw[HV.out];exact ZaV blw)
 obtain⟨k,d,hk,hd⟩:=xao h3;have U:=hH (xa3 a0.out hk hd);have hbd:=Zag ((kad.1 hok).doc (List.mem_of_getElem? hd));have kl:=(lg.1 hd).1;obtain⟨u,o1,cs,i1,i2,i3⟩:=B.idx Tryz.underlying23 uah k hd;obtain⟨v_t,v_l,v_s,rfl,nn,rt,rl,rs⟩:=qai i3;have l0:u<w.heap.size:=lk (w:=w) (a:=⟨u,o1,none⟩) i2.zero;obtain⟨q0,q1,q2,q3,q4⟩:=mv5 hB l0 i2.zero (i2 1 _ rfl) (i2 2 _ rfl) (i2 3 _ rfl) (i2 4 _ rfl);have l1:u<p.heap.size:=om;have n1:¬(u=w.heap.size+1+1):=om;have n2:¬(w.heap.size+1+1=u):=om;have n3:¬(w=w.heap.size+1+1):=om;have n4:¬(w+1=w.heap.size+1+1):=om;have RT:=hH (rt.below hB);have RL:=hH (rl.below hB);have RS:=hH (rs.below hB);rw[hk];have h3b:decide ((k:Int)<0)=false:=by simp
 have h3c:¬((k:Int)<0):=om;clear hk hd h3 rt rl rs i2 i3;by_cases h4:c.kind=4
 ·have HV:=hH (U.out.trans (if_pos h4));have e4:(c.kind==4)=true:=by simpa using h4
  clear h4 U;go_wp2_with fail
  go_region_held3 (fun J=>J.cell? ⟨w.heap.size,1,none⟩=some j/\J.cell? ⟨u,o1,none⟩=some (.string d.name)/\J.cell? ⟨u,o1+1,none⟩=some (.int .i64 d.from_)/\J.cell? ⟨u,o1+2,none⟩=some v_t/\J.cell? ⟨u,o1+3,none⟩=some v_l/\J.cell? ⟨u,o1+4,none⟩=some v_s) (first|(go_keep;done)|(simp[go_sem,xaa, *];done))
   (first|(go_at_call 150;refine(qat d _ _ _ _ nn (RT.out.below blw) (RL.out.below blw) (RS.out.below blw)).mono ?_;rintro e' N ⟨vh,fh,rfl,q,kh,Q⟩;obtain⟨av,cv,rfl⟩:=q.isS;have R:Below p p N:=(show Below p p _ from blw).trans (Q.mono om);have HT:Hid (Xad p N N (.slice av (Kad d).length cv) (Kad d)):=hH ⟨fh,q,kh.mono om,Live.lt q.live⟩;obtain⟨z02,x02,x12,x22,x32⟩:=(HX.out.at R).o4;obtain⟨p0,p1,p2,p3,p4⟩:=mv5 R l1 q0 q1 q2 q3 q4;obtain⟨z22,r02,r12,r22,r32,g02,g12,g22,g32⟩:=(HR.out.at R).q4;have s2:=R.size;clear q kh Q)|(go_at_call 105;refine(vac d _ _ _ _ (RL.out.below blw) om om).mono ?_;rintro e' w3 ⟨rfl,hb3⟩;have B3:Below p p w3:=(show Below p p _ from blw).trans (hb3.mono om);(try(have X3:Below N N w3:=(show Below N N _ from blw).trans (hb3.mono om)));obtain⟨z03,x03,x13,x23,x33⟩:=(HX.out.at B3).o4;obtain⟨p03,p13,p23,p33,p43⟩:=mv5 B3 l1 q0 q1 q2 q3 q4;obtain⟨z23,r03,r13,r23,r33,g03,g13,g23,g33⟩:=(HR.out.at B3).q4;have s3:=B3.size;clear hb3))
  all_goals
   go_wp2;exact bodyPost_ret (v:= .agg #[zI,(yaa d),.slice av (Kad d).length cv,zN]) (by simp[results,Tryz.results81,go_sem,xaa, *]) rfl (by rw[HV.out];exact Xad.ans_t (C:=p) (D:=N) (by repeat'(first|(with_reducible exact HT.out)|(with_reducible refine Xad.setCell ?_ ?_ _)|(with_reducible refine Xad.drew ?_)|(with_reducible exact HT.out.below X3)|omega)) HB.out.size blw)
 ·have HV:=hH (U.out.trans (if_neg h4));have e4:(c.kind==4)=false:=by simpa using h4
  clear h4 U;go_wp2_with fail
  go_region_held3 (fun J=>J.cell? ⟨w.heap.size,1,none⟩=some j/\J.cell? ⟨w.heap.size+1,4,none⟩=some (.int .i64 c.n)/\J.cell? ⟨u,o1,none⟩=some (.string d.name)/\J.cell? ⟨u,o1+1,none⟩=some (.int .i64 d.from_)/\J.cell? ⟨u,o1+2,none⟩=some v_t/\J.cell? ⟨u,o1+3,none⟩=some v_l/\J.cell? ⟨u,o1+4,none⟩=some v_s) (first|(go_keep;done)|(simp[go_sem,xaa, *];done))
   (first|(go_at_call 151;refine(Ja0 d _ _ _ c.n _ nn (RT.out.below blw) (RL.out.below blw) (RS.out.below blw)).mono ?_;rintro e' N ⟨vh,fh,rfl,q,kh,Q⟩;obtain⟨av,cv,rfl⟩:=q.isS;have R:Below p p N:=(show Below p p _ from blw).trans (Q.mono om);have HT:Hid (Xad p N N (.slice av (zar d c.n).1.length cv) (zar d c.n).1):=hH ⟨fh,q,kh.mono om,Live.lt q.live⟩;obtain⟨z02,x02,x12,x22,x32⟩:=(HX.out.at R).o4;obtain⟨z12,y02,y12,y22,y32,y42,y52,y62⟩:=(HY.out.at R).o7;obtain⟨p0,p1,p2,p3,p4⟩:=mv5 R l1 q0 q1 q2 q3 q4;obtain⟨z22,r02,r12,r22,r32,g02,g12,g22,g32⟩:=(HR.out.at R).q4;have s2:=R.size;clear q kh Q))
  all_goals
   go_wp2;exact bodyPost_ret (v:= .agg #[(zar d c.n).2,zI,zN,.slice av (zar d c.n).1.length cv]) (by simp[results,Tryz.results81,go_sem,xaa, *]) rfl (by rw[HV.out];exact Xad.ans_l (C:=p) (D:=N) (by repeat'(first|(with_reducible exact HT.out)|(with_reducible refine Xad.setCell ?_ ?_ _)|(with_reducible refine Xad.drew ?_)|omega)) HB.out.size blw)
theorem zaQ (z:vaf)(c:xah)(j I v_o Z:Value)(w:World)(B:RdS w j z.docs)(hok:kae z=true):
 Calls Tryz.prog 55 #[.agg #[z.shut,j,I,z.last],.agg #[c.kind,c.doc,c.client,c.seq,c.n,v_o,Z]] w (vav w (Kai z c)):=by
 obtain⟨sh,Y⟩:∃sh:Bool,z.shut=sh:=⟨_,rfl⟩;have hHD:=fun(W:World) (a:RdS W j z.docs)=>qam z j I c.doc W a
 simp only[Y]at hHD;rw[Y];have HHD:=hH hHD;have a0:=hH Y;clear hHD Y;go_enter Tryz.func55,Tryz.ntmps55
 go_wp2_with fail
 refine(HHD.out _ (B.below blw)).mono ?_;rintro e' p ⟨rfl,M⟩;have HX:=hH ((((Bx.new (b:=w) rfl).alloc _).alloc _).at M);have HY:Hid (Bx p (w+1) _):=hH (((Bx.new sm).alloc _).at M);have HR:Hid (Bx p (w+2) _):=hH ((Bx.new sm).at M);have HB:=hH ((((((lf w w).alloc om _).alloc om _).alloc om _)).trans (M.mono om));have s1:w+3<=p.heap.size:=szl M;have hB:=HB.out;obtain⟨z0,x0,x1,x2,x3⟩:=HX.out.o4;obtain⟨z1,y0,y1,y2,y3,y4,y5,y6⟩:=HY.out.o7;obtain⟨z2,r0,r1,r2,r3,g0,g1,g2,g3⟩:=HR.out.q4;clear M;cases sh;rotate_left
 ·have HV:=hH (QaO (c:=c) a0.out);go_wp2;exact bodyPost_ret (v:= .agg #[.int .i64 12,zI,zN,zN]) (by simp[results,Tryz.results55,go_sem,xaa, *]) rfl (by rw[HV.out];exact ZaV blw)
 by_cases h3:xae z c.doc<0
 ·have HV:=hH (uaO a0.out h3);go_wp2;exact bodyPost_ret (v:= .agg #[.int .i64 6,zI,zN,zN]) (by simp[results,Tryz.results55,go_sem,xaa, *]) rfl (by rw[HV.out];exact ZaV blw)
 obtain⟨k,d,hk,hd⟩:=xao h3;have U:=hH (xa3 a0.out hk hd);have hbd:=Zag ((kad.1 hok).doc (List.mem_of_getElem? hd));have kl:=(lg.1 hd).1;obtain⟨u,o1,cs,i1,i2,i3⟩:=B.idx Tryz.underlying23 uah k hd;obtain⟨v_t,v_l,v_s,rfl,nn,rt,rl,rs⟩:=qai i3;have l0:u<w.heap.size:=lk (w:=w) (a:=⟨u,o1,none⟩) i2.zero;obtain⟨q0,q1,q2,q3,q4⟩:=mv5 hB l0 i2.zero (i2 1 _ rfl) (i2 2 _ rfl) (i2 3 _ rfl) (i2 4 _ rfl);have l1:u<p.heap.size:=om;have n1:¬(u=w.heap.size+1+1):=om;have n2:¬(w.heap.size+1+1=u):=om;have n3:¬(w=w.heap.size+1+1):=om;have n4:¬(w+1=w.heap.size+1+1):=om;have RT:=hH (rt.below hB);have RL:=hH (rl.below hB);have RS:=hH (rs.below hB);rw[hk];have h3b:decide ((k:Int)<0)=false:=by simp
 have h3c:¬((k:Int)<0):=om;clear hk hd h3 rt rl rs i2 i3;by_cases h4:c.kind=4
 ·have HV:=hH (U.out.trans (if_pos h4));have e4:(c.kind==4)=true:=by simpa using h4
  clear h4 U;go_wp2_with fail
  go_region_held3 (fun J=>J.cell? ⟨w.heap.size,1,none⟩=some j/\J.cell? ⟨u,o1,none⟩=some (.string d.name)/\J.cell? ⟨u,o1+1,none⟩=some (.int .i64 d.from_)/\J.cell? ⟨u,o1+2,none⟩=some v_t/\J.cell? ⟨u,o1+3,none⟩=some v_l/\J.cell? ⟨u,o1+4,none⟩=some v_s) (first|(go_keep;done)|(simp[go_sem,xaa, *];done))
   (first|(go_at_call 115;refine(qay d _ _ _ _ nn (RT.out.below blw) (RL.out.below blw) (RS.out.below blw)).mono ?_;rintro e' N ⟨vh,fh,rfl,q,kh,Q⟩;obtain⟨av,cv,rfl⟩:=q.isS;have R:Below p p N:=(show Below p p _ from blw).trans (Q.mono om);have HT:Hid (Xad p N N (.slice av (Kad d).length cv) (Kad d)):=hH ⟨fh,q,kh.mono om,Live.lt q.live⟩;obtain⟨z02,x02,x12,x22,x32⟩:=(HX.out.at R).o4;obtain⟨p0,p1,p2,p3,p4⟩:=mv5 R l1 q0 q1 q2 q3 q4;obtain⟨z22,r02,r12,r22,r32,g02,g12,g22,g32⟩:=(HR.out.at R).q4;have s2:=R.size;clear q kh Q)|(go_at_call 60;refine(jac d _ _ _ _ (RL.out.below blw) om om).mono ?_;rintro e' w3 ⟨rfl,hb3⟩;have B3:Below p p w3:=(show Below p p _ from blw).trans (hb3.mono om);(try(have X3:Below N N w3:=(show Below N N _ from blw).trans (hb3.mono om)));obtain⟨z03,x03,x13,x23,x33⟩:=(HX.out.at B3).o4;obtain⟨p03,p13,p23,p33,p43⟩:=mv5 B3 l1 q0 q1 q2 q3 q4;obtain⟨z23,r03,r13,r23,r33,g03,g13,g23,g33⟩:=(HR.out.at B3).q4;have s3:=B3.size;clear hb3))
  all_goals
   go_wp2;exact bodyPost_ret (v:= .agg #[zI,(yaa d),.slice av (Kad d).length cv,zN]) (by simp[results,Tryz.results55,go_sem,xaa, *]) rfl (by rw[HV.out];exact Xad.ans_t (C:=p) (D:=N) (by repeat'(first|(with_reducible exact HT.out)|(with_reducible refine Xad.setCell ?_ ?_ _)|(with_reducible refine Xad.drew ?_)|(with_reducible exact HT.out.below X3)|omega)) HB.out.size blw)
 ·have HV:=hH (U.out.trans (if_neg h4));have e4:(c.kind==4)=false:=by simpa using h4
  clear h4 U;go_wp2_with fail
  go_region_held3 (fun J=>J.cell? ⟨w.heap.size,1,none⟩=some j/\J.cell? ⟨w.heap.size+1,4,none⟩=some (.int .i64 c.n)/\J.cell? ⟨u,o1,none⟩=some (.string d.name)/\J.cell? ⟨u,o1+1,none⟩=some (.int .i64 d.from_)/\J.cell? ⟨u,o1+2,none⟩=some v_t/\J.cell? ⟨u,o1+3,none⟩=some v_l/\J.cell? ⟨u,o1+4,none⟩=some v_s) (first|(go_keep;done)|(simp[go_sem,xaa, *];done))
   (first|(go_at_call 127;refine(qa1 d _ _ _ c.n _ nn (RT.out.below blw) (RL.out.below blw) (RS.out.below blw)).mono ?_;rintro e' N ⟨vh,fh,rfl,q,kh,Q⟩;obtain⟨av,cv,rfl⟩:=q.isS;have R:Below p p N:=(show Below p p _ from blw).trans (Q.mono om);have HT:Hid (Xad p N N (.slice av (zar d c.n).1.length cv) (zar d c.n).1):=hH ⟨fh,q,kh.mono om,Live.lt q.live⟩;obtain⟨z02,x02,x12,x22,x32⟩:=(HX.out.at R).o4;obtain⟨z12,y02,y12,y22,y32,y42,y52,y62⟩:=(HY.out.at R).o7;obtain⟨p0,p1,p2,p3,p4⟩:=mv5 R l1 q0 q1 q2 q3 q4;obtain⟨z22,r02,r12,r22,r32,g02,g12,g22,g32⟩:=(HR.out.at R).q4;have s2:=R.size;clear q kh Q))
  all_goals
   go_wp2;exact bodyPost_ret (v:= .agg #[(zar d c.n).2,zI,zN,.slice av (zar d c.n).1.length cv]) (by simp[results,Tryz.results55,go_sem,xaa, *]) rfl (by rw[HV.out];exact Xad.ans_l (C:=p) (D:=N) (by repeat'(first|(with_reducible exact HT.out)|(with_reducible refine Xad.setCell ?_ ?_ _)|(with_reducible refine Xad.drew ?_)|omega)) HB.out.size blw)
