/- What is asked of a document. -/
import Derived.Test.YtbonkabfmlajnaaGreatQrak
set_option maxHeartbeats 64000000
set_option maxRecDepth 100000
set_option linter.defProp false
set_option linter.unusedSimpArgs false
namespace Go.Proofs.YtbonkabfmlajnaaGreat
open Go.RowKit
attribute [local go_sem ↓] Go.wp_at_zero Go.wp_at_succ
theorem yam {α:Type}{p:Nat->α->Bool}{l:List α}{k:Nat}{x:α}(z:l[k]? =some x)(u:p k x=true)(n:∀j<k,∀y,l[j]? =some y->p j y=true):∀j<k+1,∀y,l[j]? =some y->p j y=true:=by
 intro j q y hy;by_cases e:j=k
 ·subst e;rw[z]at hy;cases hy;exact u
 ·exact n j om y hy
theorem xaS {d:Xac}(h:Kaj d.name=false):Qad d=false:=by simp[Qad,h]
theorem yaQ {d:Xac}(h:within d.from_ 0 999999000=false):Qad d=false:=by simp[Qad,h]
theorem vaQ {d:Xac}(h:jae d.text=false):Qad d=false:=by simp[Qad,h]
theorem KaY {d:Xac}(h:¬d.list.length<=8):Qad d=false:=by simp[Qad,h]
theorem xa0 {d:Xac}{k:Nat}{e:yab}(j:d.list[k]? =some e)(h:Jac e=false):Qad d=false:=by simp only[Qad];rw[JaL j h];simp
theorem vaZ {d:Xac}(h:vai (xaq d.list) d.text=none):Qad d=false:=by simp[Qad,h]
theorem jak {d:Xac}(h:qas (yaa d) d.seen=false):Qad d=false:=by simp[Qad,h]
theorem ZaY {d:Xac}{t:List Int}(n:Kaj d.name=true)(p:within d.from_ 0 999999000=true)(q:jae d.text=true)(u:d.list.length<=8)(z:∀j<d.list.length,∀y,d.list[j]? =some y->Jac y=true)(B:vai (xaq d.list) d.text=some t)(D:∀j<d.seen.length,∀y,d.seen[j]? =some y->Zan (yaa d) d.seen j y=true):Qad d=true:=by
 simp[Qad,n,p,q,u,B,Xa6 D,jax z]
theorem xaK {u:Nat}(z:u=100\/u=30)(d:Xac)(q n p:Value)(w:World)(j:RdS w n d.list)(D: -9000000000000000000<=d.from_)(I:d.from_<=9000000000000000000):
 Calls Tryz.prog u #[.agg #[d.name,d.from_,q,n,p]] w (yae w (.int .i64 (yaa d))):=by
 rcases z with rfl|rfl
 go_enter Tryz.func100,Tryz.ntmps100
 rotate_left;go_enter Tryz.func30,Tryz.ntmps30
 all_goals
  have M:=fun B ty=>j.len Tryz.underlying34 B ty
  have J:=j.le;go_wp2;go_ret;exact⟨rfl,blw⟩
def Jab:=@xaK 100 (.inl rfl)
def zac:=@xaK 30 (.inr rfl)
theorem yaC {z:Nat}(B:z=100\/z=30)(d:Xac)(u p q:Value)(w:World)(j:RdS w p d.list):
 Calls Tryz.prog z #[.agg #[d.name,d.from_,u,p,q]] w (fun e D=>∃n:Int,yae w (.int .i64 n) e D):=by
 rcases B with rfl|rfl
 go_enter Tryz.func100,Tryz.ntmps100
 rotate_left;go_enter Tryz.func30,Tryz.ntmps30
 all_goals
  have M:=fun I ty=>j.len Tryz.underlying34 I ty
  have J:=j.le;go_wp2;go_ret;exact⟨_,rfl,blw⟩
def zaI:=@yaC 100 (.inl rfl)
def uaI:=@yaC 30 (.inr rfl)
theorem kal (d:Xac)(v_text v_list a2:Value)(w:World)(I:d.name.size<=BIG)(h_text:RdS w v_text d.text)(h_list:RdS w v_list d.list)(h_seen:RdS w a2 d.seen):Calls Tryz.prog 122 #[.agg #[d.name,d.from_,v_text,v_list,a2]] w (yae w (.bool (Qad d))):=by
 have hll:=fun w1 ty=>h_list.len Tryz.underlying34 w1 ty
 have hls:=fun w1 ty=>h_seen.len Tryz.underlying65 w1 ty
 have bl:=h_list.le;have bs:=h_seen.le;have I:=QaR I;have bt:=h_text.le;obtain⟨W,hW⟩:∃W:World,W=w.alloc (.cells #[d.name,d.from_,v_text,v_list,a2] 67):=⟨_,rfl⟩;have hWB:Below w w W:=by rw[hW];exact blw
 have sW:=hWB.size;have zd:w<W.heap.size:=by rw[hW];first|(simp;done)|(simp;omega)
 have M:W.cell? ⟨w.heap.size,0,none⟩=some (.string d.name):=by rw[hW];simp[go_sem]
 have N:W.cell? ⟨w.heap.size,1,none⟩=some (.int .i64 d.from_):=by rw[hW];simp[go_sem]
 have Q:W.cell? ⟨w.heap.size,2,none⟩=some (v_text):=by rw[hW];simp[go_sem]
 have R:W.cell? ⟨w.heap.size,3,none⟩=some (v_list):=by rw[hW];simp[go_sem]
 have U:W.cell? ⟨w.heap.size,4,none⟩=some (a2):=by rw[hW];simp[go_sem]
 have HXT:=hH (h_text.below hWB);have HXL:=hH (h_list.below hWB);have HXS:=hH (h_seen.below hWB);clear h_text h_list h_seen;by_cases h1:Kaj d.name=true
 rotate_left
 ·have h1:Kaj d.name=false:=by simpa using h1
  have HV:=hH (xaS h1);go_enter Tryz.func122,Tryz.ntmps122
  go_wp2_with fail
  rw[<-hW];clear hW;go_wp2_with fail
  refine(kan d.name _ I).mono ?_;rintro e' w1 ⟨rfl,a1⟩;rw[h1];have B1:Below W W w1:=(show Below W W _ from blw).trans (a1.mono om);have s1:=B1.size;have z1d:w<w1.heap.size:=lq zd s1;obtain⟨y1d0,y1d1,y1d2,y1d3,y1d4⟩:=mv5 B1 zd M N Q R U;clear a1;go_wp2;go_ret;exact⟨jaa HV.out.symm,blw⟩
 by_cases h2:within d.from_ 0 999999000=true
 rotate_left
 ·have h2:within d.from_ 0 999999000=false:=by simpa using h2
  have HV:=hH (yaQ h2);go_enter Tryz.func122,Tryz.ntmps122
  go_wp2_with fail
  rw[<-hW];clear hW;go_wp2_with fail
  refine(kan d.name _ I).mono ?_;rintro e' w1 ⟨rfl,a1⟩;rw[h1];have B1:Below W W w1:=(show Below W W _ from blw).trans (a1.mono om);have s1:=B1.size;have z1d:w<w1.heap.size:=lq zd s1;obtain⟨y1d0,y1d1,y1d2,y1d3,y1d4⟩:=mv5 B1 zd M N Q R U;clear a1;go_wp2_with fail
  refine(Zaa _ _ _ _).mono ?_;rintro e' w2 ⟨rfl,hb2⟩;rw[h2];have B2:Below W W w2:=(show Below W W _ from blw).trans (hb2.mono om);have s2:=B2.size;have z2d:w<w2.heap.size:=lq zd s2;obtain⟨y2d0,y2d1,y2d2,y2d3,y2d4⟩:=mv5 B2 zd M N Q R U;clear hb2;go_wp2;go_ret;exact⟨jaa HV.out.symm,blw⟩
 by_cases h3:jae d.text=true
 rotate_left
 ·have h3:jae d.text=false:=by simpa using h3
  have HV:=hH (vaQ h3);go_enter Tryz.func122,Tryz.ntmps122
  go_wp2_with fail
  rw[<-hW];clear hW;go_wp2_with fail
  refine(kan d.name _ I).mono ?_;rintro e' w1 ⟨rfl,a1⟩;rw[h1];have B1:Below W W w1:=(show Below W W _ from blw).trans (a1.mono om);have s1:=B1.size;have z1d:w<w1.heap.size:=lq zd s1;obtain⟨y1d0,y1d1,y1d2,y1d3,y1d4⟩:=mv5 B1 zd M N Q R U;clear a1;go_wp2_with fail
  refine(Zaa _ _ _ _).mono ?_;rintro e' w2 ⟨rfl,hb2⟩;rw[h2];have B2:Below W W w2:=(show Below W W _ from blw).trans (hb2.mono om);have s2:=B2.size;have z2d:w<w2.heap.size:=lq zd s2;obtain⟨y2d0,y2d1,y2d2,y2d3,y2d4⟩:=mv5 B2 zd M N Q R U;clear hb2;go_wp2_with fail
  refine(Xaj _ d.text _ (HXT.out.below blw)).mono ?_;rintro e' w3 ⟨rfl,hb3⟩;rw[h3];have B3:Below W W w3:=(show Below W W _ from blw).trans (hb3.mono om);have s3:=B3.size;have z3d:w<w3.heap.size:=lq zd s3;obtain⟨y3d0,y3d1,y3d2,y3d3,y3d4⟩:=mv5 B3 zd M N Q R U;clear hb3;go_wp2;go_ret;exact⟨jaa HV.out.symm,blw⟩
 by_cases h4:d.list.length<=8
 rotate_left
 ·have HV:=hH (KaY h4);go_enter Tryz.func122,Tryz.ntmps122
  go_wp2_with fail
  rw[<-hW];clear hW;go_wp2_with fail
  refine(kan d.name _ I).mono ?_;rintro e' w1 ⟨rfl,a1⟩;rw[h1];have B1:Below W W w1:=(show Below W W _ from blw).trans (a1.mono om);have s1:=B1.size;have z1d:w<w1.heap.size:=lq zd s1;obtain⟨y1d0,y1d1,y1d2,y1d3,y1d4⟩:=mv5 B1 zd M N Q R U;clear a1;go_wp2_with fail
  refine(Zaa _ _ _ _).mono ?_;rintro e' w2 ⟨rfl,hb2⟩;rw[h2];have B2:Below W W w2:=(show Below W W _ from blw).trans (hb2.mono om);have s2:=B2.size;have z2d:w<w2.heap.size:=lq zd s2;obtain⟨y2d0,y2d1,y2d2,y2d3,y2d4⟩:=mv5 B2 zd M N Q R U;clear hb2;go_wp2_with fail
  refine(Xaj _ d.text _ (HXT.out.below blw)).mono ?_;rintro e' w3 ⟨rfl,hb3⟩;rw[h3];have B3:Below W W w3:=(show Below W W _ from blw).trans (hb3.mono om);have s3:=B3.size;have z3d:w<w3.heap.size:=lq zd s3;obtain⟨y3d0,y3d1,y3d2,y3d3,y3d4⟩:=mv5 B3 zd M N Q R U;clear hb3;go_wp2;go_ret;exact⟨jaa HV.out.symm,blw⟩
 have H1:=hH h1;have H2:=hH h2;have H3:=hH h3;have hfr:=within_iff.1 h2;go_enter Tryz.func122,Tryz.ntmps122
 go_wp2_with fail
 rw[<-hW];clear hW;go_wp2_with fail
 refine(kan d.name _ I).mono ?_;rintro e' w1 ⟨rfl,a1⟩;rw[h1];have B1:Below W W w1:=(show Below W W _ from blw).trans (a1.mono om);have s1:=B1.size;have z1d:w<w1.heap.size:=lq zd s1;obtain⟨y1d0,y1d1,y1d2,y1d3,y1d4⟩:=mv5 B1 zd M N Q R U;clear a1;go_wp2_with fail
 refine(Zaa _ _ _ _).mono ?_;rintro e' w2 ⟨rfl,hb2⟩;rw[h2];have B2:Below W W w2:=(show Below W W _ from blw).trans (hb2.mono om);have s2:=B2.size;have z2d:w<w2.heap.size:=lq zd s2;obtain⟨y2d0,y2d1,y2d2,y2d3,y2d4⟩:=mv5 B2 zd M N Q R U;clear hb2;go_wp2_with fail
 refine(Xaj _ d.text _ (HXT.out.below blw)).mono ?_;rintro e' w3 ⟨rfl,hb3⟩;rw[h3];have B3:Below W W w3:=(show Below W W _ from blw).trans (hb3.mono om);have s3:=B3.size;have z3d:w<w3.heap.size:=lq zd s3;obtain⟨y3d0,y3d1,y3d2,y3d3,y3d4⟩:=mv5 B3 zd M N Q R U;clear hb3;clear h1 h2 h3;go_wp2;go_loopw [3,37] (fun z i wr=>∃(k:Nat) (u:Value) (x:List Int),u=z/\k<=d.list.length/\i= .int .i64 k/\vai ((xaq d.list).take k) d.text=some x/\jae x=true/\(∀j<k,∀y,d.list[j]? =some y->Jac y=true)/\RdS wr u x/\Below W W wr) (fun _ i _=>d.list.length-(intOf i).toNat)
 case atStart=>exact⟨0,_,d.text,rfl,lz _,rfl,rfl,H3.out,fun _ h=>absurd h (Nat.not_lt_zero _),HXT.out.below blw,blw⟩
 case round=>
  obtain⟨k,u,x,rfl,hk,rfl,hap,htx,hj,hu,hbr⟩:=hrel;have hsz:=hbr.size;have HJ:=hH hj;have HAP:=hH hap;have HTX:=hH htx;clear hj hap htx;by_cases hlt:k<d.list.length
  ·obtain⟨x1,hx⟩:=Jaa hlt;obtain⟨b1,o1,cs,g1,g2,g3⟩:=(HXL.out.below hbr).idx Tryz.underlying34 Kab k hx;obtain⟨v_o,rfl,r_o⟩:=qag g3;have q0:=g2.zero;have q1:=g2 1 _ rfl;have q2:=g2 2 _ rfl;obtain⟨aa,ca,rfl⟩:=r_o.isSlice;have HST:=hH (QaE (jaU hx) HAP.out);have HX:=hH hx;have HRO:=hH r_o;have HU:=hH hu;clear hx g2 g3 r_o hu;have su:=hbr.size;obtain⟨ud0,ud1,ud2,ud3,ud4⟩:=mv5 hbr zd M N Q R U;by_cases hy:(zab x1.o x).2=true
   rotate_left
   ·have hy:(zab x1.o x).2=false:=by simpa using hy
    have HV:=hH (vaZ (yax (k:=k+1) (by rw[HST.out,hy];rfl)))
    go_wp2_with fail
    refine(jal x1.o x _ _ _ (HRO.out.below blw) (HU.out.below blw)).mono ?_;rintro e' Y ⟨v4,f4,rfl,S4,F4,q⟩;rw[hy];have B4:Below W W Y:=(show Below W W _ from blw).trans (q.mono om);have R4:Below wr wr Y:=(show Below wr wr _ from blw).trans (q.mono om);have s4:=B4.size;have r4:=R4.size;have z4:wr<Y.heap.size:=lq sm q.size;have y40:Y.cell? ⟨wr.heap.size,0,none⟩=some (.int .i64 x1.client):=(q.cell (p:=⟨wr,0,none⟩) sm).trans sm;have y41:Y.cell? ⟨wr.heap.size,1,none⟩=some (.int .i64 x1.seq):=(q.cell (p:=⟨wr,1,none⟩) sm).trans sm;have y42:Y.cell? ⟨wr.heap.size,2,none⟩=some (.slice aa x1.o.length ca):=(q.cell (p:=⟨wr,2,none⟩) sm).trans sm;clear q S4 F4;go_wp2;go_ret;exact⟨jaa HV.out.symm,blw⟩
   have HS2:Hid (vai ((xaq d.list).take (k+1)) d.text=some (zab x1.o x).1):=hH (by rw[HST.out,if_pos hy])
   have HTN:=hH (xas hy).1;have hne:=(xas hy).1;by_cases he:Jac x1=true
   rotate_left
   ·have he:Jac x1=false:=by simpa using he
    have HV:=hH (xa0 HX.out he);go_wp2_with fail
    refine(jal x1.o x _ _ _ (HRO.out.below blw) (HU.out.below blw)).mono ?_;rintro e' Y ⟨v4,f4,rfl,S4,F4,q⟩;rw[hy];have B4:Below W W Y:=(show Below W W _ from blw).trans (q.mono om);have R4:Below wr wr Y:=(show Below wr wr _ from blw).trans (q.mono om);have s4:=B4.size;have r4:=R4.size;have z4:wr<Y.heap.size:=lq sm q.size;have y40:Y.cell? ⟨wr.heap.size,0,none⟩=some (.int .i64 x1.client):=(q.cell (p:=⟨wr,0,none⟩) sm).trans sm;have y41:Y.cell? ⟨wr.heap.size,1,none⟩=some (.int .i64 x1.seq):=(q.cell (p:=⟨wr,1,none⟩) sm).trans sm;have y42:Y.cell? ⟨wr.heap.size,2,none⟩=some (.slice aa x1.o.length ca):=(q.cell (p:=⟨wr,2,none⟩) sm).trans sm;have HR4:Hid (RdS Y v4 (zab x1.o x).1):=hH ⟨f4,S4⟩;clear q S4 F4;go_wp2_with fail
    refine(Qah x1 _ _ (HRO.out.below blw)).mono ?_;rintro e' w5 ⟨rfl,hb5⟩;rw[he];have B5:Below W W w5:=(show Below W W _ from blw).trans (hb5.mono om);have s5:=B5.size;have R5:Below wr wr w5:=(show Below wr wr _ from blw).trans (hb5.mono om);have r5:=R5.size;have C5:Below Y Y w5:=(show Below Y Y _ from blw).trans (hb5.mono om);clear hb5;go_wp2;go_ret;exact⟨jaa HV.out.symm,blw⟩
   have HE:=hH he;go_wp2_with fail
   refine(jal x1.o x _ _ _ (HRO.out.below blw) (HU.out.below blw)).mono ?_;rintro e' Y ⟨v4,f4,rfl,S4,F4,q⟩;rw[hy];have B4:Below W W Y:=(show Below W W _ from blw).trans (q.mono om);have R4:Below wr wr Y:=(show Below wr wr _ from blw).trans (q.mono om);have s4:=B4.size;have r4:=R4.size;have z4:wr<Y.heap.size:=lq sm q.size;have y40:Y.cell? ⟨wr.heap.size,0,none⟩=some (.int .i64 x1.client):=(q.cell (p:=⟨wr,0,none⟩) sm).trans sm;have y41:Y.cell? ⟨wr.heap.size,1,none⟩=some (.int .i64 x1.seq):=(q.cell (p:=⟨wr,1,none⟩) sm).trans sm;have y42:Y.cell? ⟨wr.heap.size,2,none⟩=some (.slice aa x1.o.length ca):=(q.cell (p:=⟨wr,2,none⟩) sm).trans sm;have HR4:Hid (RdS Y v4 (zab x1.o x).1):=hH ⟨f4,S4⟩;clear q S4 F4;go_wp2_with fail
   refine(Qah x1 _ _ (HRO.out.below blw)).mono ?_;rintro e' w5 ⟨rfl,hb5⟩;rw[he];have B5:Below W W w5:=(show Below W W _ from blw).trans (hb5.mono om);have s5:=B5.size;have R5:Below wr wr w5:=(show Below wr wr _ from blw).trans (hb5.mono om);have r5:=R5.size;have C5:Below Y Y w5:=(show Below Y Y _ from blw).trans (hb5.mono om);clear hb5;go_wp2_with fail
   refine(Xaj _ (zab x1.o x).1 _ (HR4.out.below blw)).mono ?_;rintro e' w6 ⟨rfl,hb6⟩;rw[hne];have B6:Below W W w6:=(show Below W W _ from blw).trans (hb6.mono om);have s6:=B6.size;have C6:Below Y Y w6:=C5.trans (hb6.mono C5.size);clear hb6;go_wp2;go_roundw
   case rel=>exact⟨k+1,_,_,rfl,by omega,by go_num,HS2.out,HTN.out,qav HX.out HE.out HJ.out,HR4.out.below C6,blw⟩
   case measure=>simp[intOf];omega
  ·obtain rfl:k=d.list.length:=om;have HAPP:Hid (vai (xaq d.list) d.text=some x):=hH (by have:=HAP.out;rwa[List.take_of_length_le (by simp[xaq])]at this)
   have HENTS:Hid (∀j<d.list.length,∀y,d.list[j]? =some y->Jac y=true):=HJ;clear HJ HAP hu;have su:=hbr.size;obtain⟨ud0,ud1,ud2,ud3,ud4⟩:=mv5 hbr zd M N Q R U;go_wp2;obtain⟨wo,rfl⟩:∃wo:World,wo=wr:=⟨_,rfl⟩;go_loopw [65] (fun i wr=>∃k:Nat,k<=d.seen.length/\i= .int .i64 k/\(∀j<k,∀y,d.seen[j]? =some y->Zan (yaa d) d.seen j y=true)/\Below W W wr) (fun i _=>d.seen.length-(intOf i).toNat)
   case atStart=>exact⟨0,lz _,rfl,fun _ h=>absurd h (Nat.not_lt_zero _),hbr⟩
   case round=>
    obtain⟨k,hk,rfl,hj,hbq⟩:=hrel;have hsz:=hbq.size;have HJ:=hH hj;clear hj;by_cases hlt:k<d.seen.length
    rotate_left
    ·obtain rfl:k=d.seen.length:=om;have HV:=hH (ZaY H1.out H2.out H3.out h4 HENTS.out HAPP.out HJ.out);go_wp2;go_ret;exact⟨jaa HV.out.symm,blw⟩
    obtain⟨s,hx⟩:=Jaa hlt;obtain⟨b1,o1,cs,g1,g2,g3⟩:=(HXS.out.below hbq).idx Tryz.underlying65 Jak k hx;obtain rfl:=xam g3;have q0:=g2.zero;have q1:=g2 1 _ rfl;have q2:=g2 2 _ rfl;have HX:=hH hx;clear hx g2 g3;have su:=hbq.size;obtain⟨ud0,ud1,ud2,ud3,ud4⟩:=mv5 hbq zd M N Q R U;obtain⟨V,hV⟩:∃V:World,V=wr.alloc (.cells #[s.client,s.seq,s.rev] 119):=⟨_,rfl⟩;have a0:Below W W V:=by rw[hV];exact blw
    have sV:=a0.size;have ze:w<V.heap.size:=om;have zs:wr<V.heap.size:=by rw[hV];simp
    obtain⟨ke0,ke1,ke2,ke3,ke4⟩:=mv5 a0 zd M N Q R U;have ks0:V.cell? ⟨wr.heap.size,0,none⟩=some (.int .i64 s.client):=by rw[hV];simp
    have ks1:V.cell? ⟨wr.heap.size,1,none⟩=some (.int .i64 s.seq):=by rw[hV];simp
    have ks2:V.cell? ⟨wr.heap.size,2,none⟩=some (.int .i64 s.rev):=by rw[hV];simp
    have hVq:Below wr wr V:=by rw[hV];exact(lf _ _).alloc (lr _) _
    by_cases e1:within s.client 1 8=true
    rotate_left
    ·have e1:within s.client 1 8=false:=by simpa using e1
     have HV:=hH (jak (jam HX.out (JaZ e1)));go_wp2;rw[<-hV];clear hV q0 q1 q2 ud0 ud1 ud2 ud3 ud4;obtain⟨X,hX,F,hF,J⟩:=zae V;obtain⟨ce0,ce1,ce2,ce3,ce4⟩:=mx5 hF ze ke0 ke1 ke2 ke3 ke4;obtain⟨cs0,cs1,cs2⟩:=mx3 hF zs ks0 ks1 ks2;have D:=hH hF;have n:=hH J;clear hF J;refine uaa (F:=F) (by kernel_rfl) (by kernel_rfl) (n.out _ (lf _ _).drew) ?_
     have He1:=hH (fun Z:World=>tb (Zaa s.client 1 8 Z) e1)
     repeat(go_big_quiet_step ((first|(go_at_call 106;(first|(with_reducible exact Calls.fam_tells D.out n.out (He1.out _))))|(go_at_call 100;exact Calls.fam_tells D.out n.out (Jab d _ _ _ _ (HXL.out.below (a0.trans ((D.out _).mono sV))) om om)))))
     refine wpQuiet_nil ?_;intro x;obtain⟨wx,B⟩:∃wx:World,F x=wx:=⟨_,rfl⟩;have B7:Below W W wx:=by rw[<-B];exact a0.trans ((D.out _).mono sV)
     rw[B];clear B ce0 ce1 ce2 ce3 ce4 cs0 cs1 cs2 D n;go_wp2;go_ret;exact⟨jaa HV.out.symm,blw⟩
    by_cases e3:within s.seq 1 1000000000=true
    rotate_left
    ·have e3:within s.seq 1 1000000000=false:=by simpa using e3
     have HV:=hH (jak (jam HX.out (yaO e3)));go_wp2;rw[<-hV];clear hV q0 q1 q2 ud0 ud1 ud2 ud3 ud4;obtain⟨X,hX,F,hF,J⟩:=zae V;obtain⟨ce0,ce1,ce2,ce3,ce4⟩:=mx5 hF ze ke0 ke1 ke2 ke3 ke4;obtain⟨cs0,cs1,cs2⟩:=mx3 hF zs ks0 ks1 ks2;have D:=hH hF;have n:=hH J;clear hF J;refine uaa (F:=F) (by kernel_rfl) (by kernel_rfl) (n.out _ (lf _ _).drew) ?_
     have He1:=hH (fun Z:World=>tb (Zaa s.client 1 8 Z) e1)
     have He3:=hH (fun Z:World=>tb (Zaa s.seq 1 1000000000 Z) e3)
     repeat(go_big_quiet_step ((first|(go_at_call 106;(first|(with_reducible exact Calls.fam_tells D.out n.out (He1.out _))|(with_reducible exact Calls.fam_tells D.out n.out (He3.out _))))|(go_at_call 100;exact Calls.fam_tells D.out n.out (Jab d _ _ _ _ (HXL.out.below (a0.trans ((D.out _).mono sV))) om om)))))
     refine wpQuiet_nil ?_;intro x;obtain⟨wx,B⟩:∃wx:World,F x=wx:=⟨_,rfl⟩;have B7:Below W W wx:=by rw[<-B];exact a0.trans ((D.out _).mono sV)
     rw[B];clear B ce0 ce1 ce2 ce3 ce4 cs0 cs1 cs2 D n;go_wp2;go_ret;exact⟨jaa HV.out.symm,blw⟩
    by_cases e4:within s.rev 1 (yaa d)=true
    rotate_left
    ·have e4:within s.rev 1 (yaa d)=false:=by simpa using e4
     have HV:=hH (jak (jam HX.out (yaL e4)));go_wp2;rw[<-hV];clear hV q0 q1 q2 ud0 ud1 ud2 ud3 ud4;obtain⟨X,hX,F,hF,J⟩:=zae V;obtain⟨ce0,ce1,ce2,ce3,ce4⟩:=mx5 hF ze ke0 ke1 ke2 ke3 ke4;obtain⟨cs0,cs1,cs2⟩:=mx3 hF zs ks0 ks1 ks2;have D:=hH hF;have n:=hH J;clear hF J;refine uaa (F:=F) (by kernel_rfl) (by kernel_rfl) (n.out _ (lf _ _).drew) ?_
     have He1:=hH (fun Z:World=>tb (Zaa s.client 1 8 Z) e1)
     have He3:=hH (fun Z:World=>tb (Zaa s.seq 1 1000000000 Z) e3)
     have He4:=hH (fun Z:World=>tb (Zaa s.rev 1 (yaa d) Z) e4)
     repeat(go_big_quiet_step ((first|(go_at_call 106;(first|(with_reducible exact Calls.fam_tells D.out n.out (He1.out _))|(with_reducible exact Calls.fam_tells D.out n.out (He3.out _))|(with_reducible exact Calls.fam_tells D.out n.out (He4.out _))))|(go_at_call 100;exact Calls.fam_tells D.out n.out (Jab d _ _ _ _ (HXL.out.below (a0.trans ((D.out _).mono sV))) om om)))))
     refine wpQuiet_nil ?_;intro x;obtain⟨wx,B⟩:∃wx:World,F x=wx:=⟨_,rfl⟩;have B7:Below W W wx:=by rw[<-B];exact a0.trans ((D.out _).mono sV)
     rw[B];clear B ce0 ce1 ce2 ce3 ce4 cs0 cs1 cs2 D n;go_wp2;go_ret;exact⟨jaa HV.out.symm,blw⟩
    rcases k with _|j
    ·have HS:=hH (XaF (l:=d.seen) e1 e3 e4);have g1:∀w1,(Instr.indexAt 65 a2 (.int .i64 0)).run Tryz.prog w1= .ok (.pointer (some ⟨b1,o1,none⟩)) w1:=g1;go_wp2;rw[<-hV];clear hV q0 q1 q2 ud0 ud1 ud2 ud3 ud4;obtain⟨X,hX,F,hF,J⟩:=zae V;obtain⟨ce0,ce1,ce2,ce3,ce4⟩:=mx5 hF ze ke0 ke1 ke2 ke3 ke4;obtain⟨cs0,cs1,cs2⟩:=mx3 hF zs ks0 ks1 ks2;have D:=hH hF;have n:=hH J;clear hF J;refine uaa (F:=F) (by kernel_rfl) (by kernel_rfl) (n.out _ (lf _ _).drew) ?_
     have He1:=hH (fun Z:World=>tb (Zaa s.client 1 8 Z) e1)
     have He3:=hH (fun Z:World=>tb (Zaa s.seq 1 1000000000 Z) e3)
     have He4:=hH (fun Z:World=>tb (Zaa s.rev 1 (yaa d) Z) e4)
     repeat(go_big_quiet_step ((first|(go_at_call 106;(first|(with_reducible exact Calls.fam_tells D.out n.out (He1.out _))|(with_reducible exact Calls.fam_tells D.out n.out (He3.out _))|(with_reducible exact Calls.fam_tells D.out n.out (He4.out _))))|(go_at_call 100;exact Calls.fam_tells D.out n.out (Jab d _ _ _ _ (HXL.out.below (a0.trans ((D.out _).mono sV))) om om)))))
     refine wpQuiet_nil ?_;intro x;obtain⟨wx,B⟩:∃wx:World,F x=wx:=⟨_,rfl⟩;have B7:Below W W wx:=by rw[<-B];exact a0.trans ((D.out _).mono sV)
     rw[B];clear B ce0 ce1 ce2 ce3 ce4 cs0 cs1 cs2 D n;go_wp2;go_roundw
     case rel=>exact⟨1,by omega,by go_num,yam (p:=Zan (yaa d) d.seen) (k:=0) HX.out HS.out HJ.out,blw⟩
     case measure=>simp[intOf];omega
    ·
     obtain⟨p,hp⟩:=Jaa (l:=d.seen) (k:=j) om;obtain⟨b0,o0,cs0,j1,j2,j3⟩:=(HXS.out.below hbq).idx Tryz.underlying65 Jak j hp;obtain rfl:=xam j3;have c0:=j2.zero;have HP:=hH hp;have zq:=lk (w:=wr) (a:=⟨b0,o0,none⟩) c0;have zp:b0<V.heap.size:=lq zq hVq.size;have kp:V.cell? ⟨b0,o0,none⟩=some (.int .i64 p.client):=(hVq.cell (p:=⟨b0,o0,none⟩) zq).trans c0;have hi0:decide ((0:Int)<(j:Int)+1)=true:=by rw[decide_eq_true_eq];omega
     have hj0:IntKind.i64.wrap (j:Int)=(j:Int):=IntWalk.i64_in _ om;have hj1:IntKind.i64.wrap ((j:Int)+1-1)=(j:Int):=by rw[show(j:Int)+1-1=j by omega];exact hj0
     clear hp j2 j3;simp only[Int.natCast_add,Int.cast_ofNat_Int]at g1;by_cases elt:p.client<s.client
     ·have HS:=hH (JaF HP.out e1 e3 e4 elt);have hpc:decide (s.client<=p.client)=false:=by rw[decide_eq_false_iff_not];omega
      have hpc2:¬s.client<=p.client:=om;clear elt;go_wp2;rw[<-hV];clear hV q0 q1 q2 ud0 ud1 ud2 ud3 ud4 c0;obtain⟨X,hX,F,hF,J⟩:=zae V;obtain⟨ce0,ce1,ce2,ce3,ce4⟩:=mx5 hF ze ke0 ke1 ke2 ke3 ke4;obtain⟨cs0,cs1,cs2⟩:=mx3 hF zs ks0 ks1 ks2;have cp0:∀x,(F x).cell? ⟨b0,o0,none⟩=some (.int .i64 p.client):=fun x=>((hF x).cell (p:=⟨b0,o0,none⟩) zp).trans kp
      have D:=hH hF;have n:=hH J;clear hF J;refine uaa (F:=F) (by kernel_rfl) (by kernel_rfl) (n.out _ (lf _ _).drew) ?_
      have He1:=hH (fun Z:World=>tb (Zaa s.client 1 8 Z) e1)
      have He3:=hH (fun Z:World=>tb (Zaa s.seq 1 1000000000 Z) e3)
      have He4:=hH (fun Z:World=>tb (Zaa s.rev 1 (yaa d) Z) e4)
      repeat(go_big_quiet_step ((first|(go_at_call 106;(first|(with_reducible exact Calls.fam_tells D.out n.out (He1.out _))|(with_reducible exact Calls.fam_tells D.out n.out (He3.out _))|(with_reducible exact Calls.fam_tells D.out n.out (He4.out _))))|(go_at_call 100;exact Calls.fam_tells D.out n.out (Jab d _ _ _ _ (HXL.out.below (a0.trans ((D.out _).mono sV))) om om)))))
      refine wpQuiet_nil ?_;intro x;obtain⟨wx,B⟩:∃wx:World,F x=wx:=⟨_,rfl⟩;have B7:Below W W wx:=by rw[<-B];exact a0.trans ((D.out _).mono sV)
      rw[B];clear B ce0 ce1 ce2 ce3 ce4 cs0 cs1 cs2 cp0 D n;go_wp2;go_roundw
      case rel=>exact⟨j+1+1,by omega,by go_num,yam (p:=Zan (yaa d) d.seen) (k:=j+1) HX.out HS.out HJ.out,blw⟩
      case measure=>simp[intOf];omega
     ·
      have HV:=hH (jak (jam HX.out (yaZ HP.out elt)));have hpc:decide (s.client<=p.client)=true:=by rw[decide_eq_true_eq];omega
      clear elt;go_wp2;rw[<-hV];clear hV q0 q1 q2 ud0 ud1 ud2 ud3 ud4 c0;obtain⟨X,hX,F,hF,J⟩:=zae V;obtain⟨ce0,ce1,ce2,ce3,ce4⟩:=mx5 hF ze ke0 ke1 ke2 ke3 ke4;obtain⟨cs0,cs1,cs2⟩:=mx3 hF zs ks0 ks1 ks2;have cp0:∀x,(F x).cell? ⟨b0,o0,none⟩=some (.int .i64 p.client):=fun x=>((hF x).cell (p:=⟨b0,o0,none⟩) zp).trans kp
      have D:=hH hF;have n:=hH J;clear hF J;refine uaa (F:=F) (by kernel_rfl) (by kernel_rfl) (n.out _ (lf _ _).drew) ?_
      have He1:=hH (fun Z:World=>tb (Zaa s.client 1 8 Z) e1)
      have He3:=hH (fun Z:World=>tb (Zaa s.seq 1 1000000000 Z) e3)
      have He4:=hH (fun Z:World=>tb (Zaa s.rev 1 (yaa d) Z) e4)
      repeat(go_big_quiet_step ((first|(go_at_call 106;(first|(with_reducible exact Calls.fam_tells D.out n.out (He1.out _))|(with_reducible exact Calls.fam_tells D.out n.out (He3.out _))|(with_reducible exact Calls.fam_tells D.out n.out (He4.out _))))|(go_at_call 100;exact Calls.fam_tells D.out n.out (Jab d _ _ _ _ (HXL.out.below (a0.trans ((D.out _).mono sV))) om om)))))
      refine wpQuiet_nil ?_;intro x;obtain⟨wx,B⟩:∃wx:World,F x=wx:=⟨_,rfl⟩;have B7:Below W W wx:=by rw[<-B];exact a0.trans ((D.out _).mono sV)
      rw[B];clear B ce0 ce1 ce2 ce3 ce4 cs0 cs1 cs2 cp0 D n;go_wp2;go_ret;exact⟨jaa HV.out.symm,blw⟩
theorem zal (d:Xac)(a0 Z R:Value)(w:World)(Q:d.name.size<=BIG)(h_text:RdS w a0 d.text)(h_list:RdS w Z d.list)(h_seen:RdS w R d.seen):Calls Tryz.prog 27 #[.agg #[d.name,d.from_,a0,Z,R]] w (yae w (.bool (Qad d))):=by
 have hll:=fun w1 ty=>h_list.len Tryz.underlying34 w1 ty
 have hls:=fun w1 ty=>h_seen.len Tryz.underlying65 w1 ty
 have bl:=h_list.le;have bs:=h_seen.le;have Q:=QaR Q;have bt:=h_text.le;obtain⟨W,hW⟩:∃W:World,W=w.alloc (.cells #[d.name,d.from_,a0,Z,R] 67):=⟨_,rfl⟩;have hWB:Below w w W:=by rw[hW];exact blw
 have sW:=hWB.size;have z:w<W.heap.size:=by rw[hW];first|(simp;done)|(simp;omega)
 have D:W.cell? ⟨w.heap.size,0,none⟩=some (.string d.name):=by rw[hW];simp[go_sem]
 have I:W.cell? ⟨w.heap.size,1,none⟩=some (.int .i64 d.from_):=by rw[hW];simp[go_sem]
 have J:W.cell? ⟨w.heap.size,2,none⟩=some (a0):=by rw[hW];simp[go_sem]
 have M:W.cell? ⟨w.heap.size,3,none⟩=some (Z):=by rw[hW];simp[go_sem]
 have N:W.cell? ⟨w.heap.size,4,none⟩=some (R):=by rw[hW];simp[go_sem]
 have HXT:=hH (h_text.below hWB);have HXL:=hH (h_list.below hWB);have HXS:=hH (h_seen.below hWB);clear h_text h_list h_seen;by_cases h1:Kaj d.name=true
 rotate_left
 ·have h1:Kaj d.name=false:=by simpa using h1
  have HV:=hH (xaS h1);go_enter Tryz.func27,Tryz.ntmps27
  go_wp2_with fail
  rw[<-hW];clear hW;go_wp2_with fail
  refine(qaj d.name _ Q).mono ?_;rintro e' w1 ⟨rfl,hb1⟩;rw[h1];have B1:Below W W w1:=(show Below W W _ from blw).trans (hb1.mono om);have s1:=B1.size;have z1d:w<w1.heap.size:=lq z s1;obtain⟨y1d0,y1d1,y1d2,y1d3,y1d4⟩:=mv5 B1 z D I J M N;clear hb1;go_wp2;go_ret;exact⟨jaa HV.out.symm,blw⟩
 by_cases h2:within d.from_ 0 999999000=true
 rotate_left
 ·have h2:within d.from_ 0 999999000=false:=by simpa using h2
  have HV:=hH (yaQ h2);go_enter Tryz.func27,Tryz.ntmps27
  go_wp2_with fail
  rw[<-hW];clear hW;go_wp2_with fail
  refine(qaj d.name _ Q).mono ?_;rintro e' w1 ⟨rfl,hb1⟩;rw[h1];have B1:Below W W w1:=(show Below W W _ from blw).trans (hb1.mono om);have s1:=B1.size;have z1d:w<w1.heap.size:=lq z s1;obtain⟨y1d0,y1d1,y1d2,y1d3,y1d4⟩:=mv5 B1 z D I J M N;clear hb1;go_wp2_with fail
  refine(vaa _ _ _ _).mono ?_;rintro e' w2 ⟨rfl,hb2⟩;rw[h2];have B2:Below W W w2:=(show Below W W _ from blw).trans (hb2.mono om);have s2:=B2.size;have z2d:w<w2.heap.size:=lq z s2;obtain⟨y2d0,y2d1,y2d2,y2d3,y2d4⟩:=mv5 B2 z D I J M N;clear hb2;go_wp2;go_ret;exact⟨jaa HV.out.symm,blw⟩
 by_cases h3:jae d.text=true
 rotate_left
 ·have h3:jae d.text=false:=by simpa using h3
  have HV:=hH (vaQ h3);go_enter Tryz.func27,Tryz.ntmps27
  go_wp2_with fail
  rw[<-hW];clear hW;go_wp2_with fail
  refine(qaj d.name _ Q).mono ?_;rintro e' w1 ⟨rfl,hb1⟩;rw[h1];have B1:Below W W w1:=(show Below W W _ from blw).trans (hb1.mono om);have s1:=B1.size;have z1d:w<w1.heap.size:=lq z s1;obtain⟨y1d0,y1d1,y1d2,y1d3,y1d4⟩:=mv5 B1 z D I J M N;clear hb1;go_wp2_with fail
  refine(vaa _ _ _ _).mono ?_;rintro e' w2 ⟨rfl,hb2⟩;rw[h2];have B2:Below W W w2:=(show Below W W _ from blw).trans (hb2.mono om);have s2:=B2.size;have z2d:w<w2.heap.size:=lq z s2;obtain⟨y2d0,y2d1,y2d2,y2d3,y2d4⟩:=mv5 B2 z D I J M N;clear hb2;go_wp2_with fail
  refine(Qaf _ d.text _ (HXT.out.below blw)).mono ?_;rintro e' w3 ⟨rfl,hb3⟩;rw[h3];have B3:Below W W w3:=(show Below W W _ from blw).trans (hb3.mono om);have s3:=B3.size;have z3d:w<w3.heap.size:=lq z s3;obtain⟨y3d0,y3d1,y3d2,y3d3,y3d4⟩:=mv5 B3 z D I J M N;clear hb3;go_wp2;go_ret;exact⟨jaa HV.out.symm,blw⟩
 by_cases h4:d.list.length<=8
 rotate_left
 ·have HV:=hH (KaY h4);go_enter Tryz.func27,Tryz.ntmps27
  go_wp2_with fail
  rw[<-hW];clear hW;go_wp2_with fail
  refine(qaj d.name _ Q).mono ?_;rintro e' w1 ⟨rfl,hb1⟩;rw[h1];have B1:Below W W w1:=(show Below W W _ from blw).trans (hb1.mono om);have s1:=B1.size;have z1d:w<w1.heap.size:=lq z s1;obtain⟨y1d0,y1d1,y1d2,y1d3,y1d4⟩:=mv5 B1 z D I J M N;clear hb1;go_wp2_with fail
  refine(vaa _ _ _ _).mono ?_;rintro e' w2 ⟨rfl,hb2⟩;rw[h2];have B2:Below W W w2:=(show Below W W _ from blw).trans (hb2.mono om);have s2:=B2.size;have z2d:w<w2.heap.size:=lq z s2;obtain⟨y2d0,y2d1,y2d2,y2d3,y2d4⟩:=mv5 B2 z D I J M N;clear hb2;go_wp2_with fail
  refine(Qaf _ d.text _ (HXT.out.below blw)).mono ?_;rintro e' w3 ⟨rfl,hb3⟩;rw[h3];have B3:Below W W w3:=(show Below W W _ from blw).trans (hb3.mono om);have s3:=B3.size;have z3d:w<w3.heap.size:=lq z s3;obtain⟨y3d0,y3d1,y3d2,y3d3,y3d4⟩:=mv5 B3 z D I J M N;clear hb3;go_wp2;go_ret;exact⟨jaa HV.out.symm,blw⟩
 have H1:=hH h1;have H2:=hH h2;have H3:=hH h3;have hfr:=within_iff.1 h2;go_enter Tryz.func27,Tryz.ntmps27
 go_wp2_with fail
 rw[<-hW];clear hW;go_wp2_with fail
 refine(qaj d.name _ Q).mono ?_;rintro e' w1 ⟨rfl,hb1⟩;rw[h1];have B1:Below W W w1:=(show Below W W _ from blw).trans (hb1.mono om);have s1:=B1.size;have z1d:w<w1.heap.size:=lq z s1;obtain⟨y1d0,y1d1,y1d2,y1d3,y1d4⟩:=mv5 B1 z D I J M N;clear hb1;go_wp2_with fail
 refine(vaa _ _ _ _).mono ?_;rintro e' w2 ⟨rfl,hb2⟩;rw[h2];have B2:Below W W w2:=(show Below W W _ from blw).trans (hb2.mono om);have s2:=B2.size;have z2d:w<w2.heap.size:=lq z s2;obtain⟨y2d0,y2d1,y2d2,y2d3,y2d4⟩:=mv5 B2 z D I J M N;clear hb2;go_wp2_with fail
 refine(Qaf _ d.text _ (HXT.out.below blw)).mono ?_;rintro e' w3 ⟨rfl,hb3⟩;rw[h3];have B3:Below W W w3:=(show Below W W _ from blw).trans (hb3.mono om);have s3:=B3.size;have z3d:w<w3.heap.size:=lq z s3;obtain⟨y3d0,y3d1,y3d2,y3d3,y3d4⟩:=mv5 B3 z D I J M N;clear hb3;clear h1 h2 h3;go_wp2;go_loopw [34] (fun i wr=>∃(k:Nat),k<=d.list.length/\i= .int .i64 k/\(∀j<k,∀y,d.list[j]? =some y->Jac y=true)/\Below W W wr) (fun i _=>d.list.length-(intOf i).toNat)
 case atStart=>exact⟨0,lz _,rfl,fun _ h=>absurd h (Nat.not_lt_zero _),blw⟩
 case round=>
  obtain⟨k,hk,rfl,hj,hbr⟩:=hrel;have hsz:=hbr.size;have HJ:=hH hj;clear hj;by_cases hlt:k<d.list.length
  ·obtain⟨x1,hx⟩:=Jaa hlt;obtain⟨b1,o1,cs,g1,g2,g3⟩:=(HXL.out.below hbr).idx Tryz.underlying34 Kab k hx;obtain⟨v_o,rfl,r_o⟩:=qag g3;have q0:=g2.zero;have q1:=g2 1 _ rfl;have q2:=g2 2 _ rfl;obtain⟨aa,ca,rfl⟩:=r_o.isSlice;have HX:=hH hx;have HRO:=hH r_o;clear hx g2 g3 r_o;by_cases he:Jac x1=true
   rotate_left
   ·have he:Jac x1=false:=by simpa using he
    have HV:=hH (xa0 HX.out he);go_wp2_with fail
    refine(vah x1 _ _ (HRO.out.below blw)).mono ?_;rintro e' w5 ⟨rfl,hb5⟩;rw[he];have B5:Below W W w5:=(show Below W W _ from blw).trans (hb5.mono om);clear hb5;go_wp2;go_ret;exact⟨jaa HV.out.symm,blw⟩
   have HE:=hH he;go_wp2_with fail
   refine(vah x1 _ _ (HRO.out.below blw)).mono ?_;rintro e' w5 ⟨rfl,hb5⟩;rw[he];have B5:Below W W w5:=(show Below W W _ from blw).trans (hb5.mono om);clear hb5;go_wp2;go_roundw
   case rel=>exact⟨k+1,by omega,by go_num,qav HX.out HE.out HJ.out,blw⟩
   case measure=>simp[intOf];omega
  ·obtain rfl:k=d.list.length:=om;have HENTS:Hid (∀j<d.list.length,∀y,d.list[j]? =some y->Jac y=true):=HJ;have hszl:szL d.list<=4000000:=by have:=JaT (l:=d.list) (jax HENTS.out);omega
   clear HJ;have su:=hbr.size;obtain⟨ud0,ud1,ud2,ud3,ud4⟩:=mv5 hbr z D I J M N;go_wp2;have HTL:d.text.length<=200:=(zan.1 H3.out).1;cases hap:vai (xaq d.list) d.text with
   |none=>
    have HV:=hH (vaZ hap);have HALL:yao (xaq d.list) d.text=([],false):=by rw[Jaq H3.out,hap];rfl
    clear hap;go_region_held3 (fun w'=>w'.cell? ⟨w.heap.size,0,none⟩=some (.string d.name)/\w'.cell? ⟨w.heap.size,1,none⟩=some (.int .i64 d.from_)/\w'.cell? ⟨w.heap.size,2,none⟩=some (a0)/\w'.cell? ⟨w.heap.size,3,none⟩=some (Z)/\w'.cell? ⟨w.heap.size,4,none⟩=some R) (go_keep)
     (first|(go_at_call 68;refine(zat _ d.list _ (HXL.out.below blw) hszl).mono ?_;rintro e' w6 ⟨v6,rfl,ho6,hb6⟩;have HO6:Hid (RdS w6 v6 (xaq d.list)):=hH ho6.rd;have B6:Below W W w6:=(show Below W W _ from blw).trans (hb6.mono om);have s6:=B6.size;have z6d:w<w6.heap.size:=lq z s6;have y6d0:=(B6.cell (p:=⟨w,0,none⟩) z).trans D;have y6d1:=(B6.cell (p:=⟨w,1,none⟩) z).trans I;have y6d2:=(B6.cell (p:=⟨w,2,none⟩) z).trans J;have y6d3:=(B6.cell (p:=⟨w,3,none⟩) z).trans M;have y6d4:=(B6.cell (p:=⟨w,4,none⟩) z).trans N;clear hb6 ho6)|(go_at_call 67;refine(uas (xaq d.list) d.text _ _ _ (HO6.out.below blw) (HXT.out.below blw) om).mono ?_;rintro e' w7 ⟨v7,f7,rfl,S7,F7,hb7⟩;rw[HALL];have B7:Below W W w7:=(show Below W W _ from blw).trans (hb7.mono om);have s7:=B7.size;have z7d:w<w7.heap.size:=lq z s7;have y7d0:=(B7.cell (p:=⟨w,0,none⟩) z).trans D;have y7d1:=(B7.cell (p:=⟨w,1,none⟩) z).trans I;have y7d2:=(B7.cell (p:=⟨w,2,none⟩) z).trans J;have y7d3:=(B7.cell (p:=⟨w,3,none⟩) z).trans M;have y7d4:=(B7.cell (p:=⟨w,4,none⟩) z).trans N;clear hb7 S7 F7))
    all_goals
     go_wp2;go_ret;exact⟨jaa HV.out.symm,blw⟩
   |some tx=>
    have HAPP:=hH hap;have HALL:yao (xaq d.list) d.text=(tx,true):=by rw[Jaq H3.out,hap];rfl
    clear hap;go_region_held3 (fun w'=>w'.cell? ⟨w.heap.size,0,none⟩=some (.string d.name)/\w'.cell? ⟨w.heap.size,1,none⟩=some (.int .i64 d.from_)/\w'.cell? ⟨w.heap.size,2,none⟩=some (a0)/\w'.cell? ⟨w.heap.size,3,none⟩=some (Z)/\w'.cell? ⟨w.heap.size,4,none⟩=some R) (go_keep)
     (first|(go_at_call 68;refine(zat _ d.list _ (HXL.out.below blw) hszl).mono ?_;rintro e' w6 ⟨v6,rfl,ho6,hb6⟩;have HO6:Hid (RdS w6 v6 (xaq d.list)):=hH ho6.rd;have B6:Below W W w6:=(show Below W W _ from blw).trans (hb6.mono om);have s6:=B6.size;have z6d:w<w6.heap.size:=lq z s6;have y6d0:=(B6.cell (p:=⟨w,0,none⟩) z).trans D;have y6d1:=(B6.cell (p:=⟨w,1,none⟩) z).trans I;have y6d2:=(B6.cell (p:=⟨w,2,none⟩) z).trans J;have y6d3:=(B6.cell (p:=⟨w,3,none⟩) z).trans M;have y6d4:=(B6.cell (p:=⟨w,4,none⟩) z).trans N;clear hb6 ho6)|(go_at_call 67;refine(uas (xaq d.list) d.text _ _ _ (HO6.out.below blw) (HXT.out.below blw) om).mono ?_;rintro e' w7 ⟨v7,f7,rfl,S7,F7,hb7⟩;rw[HALL];have B7:Below W W w7:=(show Below W W _ from blw).trans (hb7.mono om);have s7:=B7.size;have z7d:w<w7.heap.size:=lq z s7;have y7d0:=(B7.cell (p:=⟨w,0,none⟩) z).trans D;have y7d1:=(B7.cell (p:=⟨w,1,none⟩) z).trans I;have y7d2:=(B7.cell (p:=⟨w,2,none⟩) z).trans J;have y7d3:=(B7.cell (p:=⟨w,3,none⟩) z).trans M;have y7d4:=(B7.cell (p:=⟨w,4,none⟩) z).trans N;clear hb7 S7 F7))
    all_goals
     go_wp2;skip
     go_loopw [56] (fun i wr=>∃k:Nat,k<=d.seen.length/\i= .int .i64 k/\(∀j<k,∀y,d.seen[j]? =some y->Zan (yaa d) d.seen j y=true)/\Below W W wr) (fun i _=>d.seen.length-(intOf i).toNat)
     case atStart=>exact⟨0,lz _,rfl,fun _ h=>absurd h (Nat.not_lt_zero _),blw⟩
     case round=>
      obtain⟨k,hk,rfl,hj,hbq⟩:=hrel;have hsz:=hbq.size;have HJ:=hH hj;clear hj;by_cases hlt:k<d.seen.length
      rotate_left
      ·obtain rfl:k=d.seen.length:=om;have HV:=hH (ZaY H1.out H2.out H3.out h4 HENTS.out HAPP.out HJ.out);go_wp2;go_ret;exact⟨jaa HV.out.symm,blw⟩
      obtain⟨s,hx⟩:=Jaa hlt;obtain⟨b1,o1,cs,g1,g2,g3⟩:=(HXS.out.below hbq).idx Tryz.underlying65 Jak k hx;obtain rfl:=xam g3;have q0:=g2.zero;have q1:=g2 1 _ rfl;have q2:=g2 2 _ rfl;have HX:=hH hx;clear hx g2 g3;have su:=hbq.size;obtain⟨ud0,ud1,ud2,ud3,ud4⟩:=mv5 hbq z D I J M N;obtain⟨V,hV⟩:∃V:World,V=wr.alloc (.cells #[s.client,s.seq,s.rev] 119):=⟨_,rfl⟩;have U:Below W W V:=by rw[hV];exact blw
      have sV:=U.size;have ze:w<V.heap.size:=om;have zs:wr<V.heap.size:=by rw[hV];simp
      obtain⟨ke0,ke1,ke2,ke3,ke4⟩:=mv5 U z D I J M N;have ks0:V.cell? ⟨wr.heap.size,0,none⟩=some (.int .i64 s.client):=by rw[hV];simp
      have ks1:V.cell? ⟨wr.heap.size,1,none⟩=some (.int .i64 s.seq):=by rw[hV];simp
      have ks2:V.cell? ⟨wr.heap.size,2,none⟩=some (.int .i64 s.rev):=by rw[hV];simp
      have hVq:Below wr wr V:=by rw[hV];exact(lf _ _).alloc (lr _) _
      by_cases e1:within s.client 1 8=true
      rotate_left
      ·have e1:within s.client 1 8=false:=by simpa using e1
       have HV:=hH (jak (jam HX.out (JaZ e1)));go_wp2;rw[<-hV];clear hV q0 q1 q2 ud0 ud1 ud2 ud3 ud4;obtain⟨X,hX,F,hF,B⟩:=zae V;obtain⟨a3,a4,a5,a6,a7⟩:=mx5 hF ze ke0 ke1 ke2 ke3 ke4;obtain⟨a1,a8,a9⟩:=mx3 hF zs ks0 ks1 ks2;have u:=hH hF;have n:=hH B;clear hF B;refine uaa (F:=F) (by kernel_rfl) (by kernel_rfl) (n.out _ (lf _ _).drew) ?_
       have a2:=hH (fun Y:World=>tb (vaa s.client 1 8 Y) e1)
       repeat(go_big_quiet_step ((first|(go_at_call 26;(first|(with_reducible exact Calls.fam_tells u.out n.out (a2.out _))))|(go_at_call 30;exact Calls.fam_tells u.out n.out (zac d _ _ _ _ (HXL.out.below (U.trans ((u.out _).mono sV))) om om)))))
       refine wpQuiet_nil ?_;intro x;obtain⟨wx,q⟩:∃wx:World,F x=wx:=⟨_,rfl⟩;have B7:Below W W wx:=by rw[<-q];exact U.trans ((u.out _).mono sV)
       rw[q];clear q a3 a4 a5 a6 a7 a1 a8 a9 u n;go_wp2;go_ret;exact⟨jaa HV.out.symm,blw⟩
      rcases k with _|j
      ·
       have g1:∀w1,(Instr.indexAt 65 R (.int .i64 0)).run Tryz.prog w1= .ok (.pointer (some ⟨b1,o1,none⟩)) w1:=g1;by_cases e3:within s.seq 1 1000000000=true
       rotate_left
       ·have e3:within s.seq 1 1000000000=false:=by simpa using e3
        have HV:=hH (jak (jam HX.out (yaO e3)));go_wp2;rw[<-hV];clear hV q0 q1 q2 ud0 ud1 ud2 ud3 ud4;obtain⟨X,hX,F,hF,B⟩:=zae V;obtain⟨a3,a4,a5,a6,a7⟩:=mx5 hF ze ke0 ke1 ke2 ke3 ke4;obtain⟨a1,a8,a9⟩:=mx3 hF zs ks0 ks1 ks2;have u:=hH hF;have n:=hH B;clear hF B;refine uaa (F:=F) (by kernel_rfl) (by kernel_rfl) (n.out _ (lf _ _).drew) ?_
        have a2:=hH (fun Y:World=>tb (vaa s.client 1 8 Y) e1)
        have He3:=hH (fun Y:World=>tb (vaa s.seq 1 1000000000 Y) e3)
        repeat(go_big_quiet_step ((first|(go_at_call 26;(first|(with_reducible exact Calls.fam_tells u.out n.out (a2.out _))|(with_reducible exact Calls.fam_tells u.out n.out (He3.out _))))|(go_at_call 30;exact Calls.fam_tells u.out n.out (zac d _ _ _ _ (HXL.out.below (U.trans ((u.out _).mono sV))) om om)))))
        refine wpQuiet_nil ?_;intro x;obtain⟨wx,q⟩:∃wx:World,F x=wx:=⟨_,rfl⟩;have B7:Below W W wx:=by rw[<-q];exact U.trans ((u.out _).mono sV)
        rw[q];clear q a3 a4 a5 a6 a7 a1 a8 a9 u n;go_wp2;go_ret;exact⟨jaa HV.out.symm,blw⟩
       by_cases e4:within s.rev 1 (yaa d)=true
       rotate_left
       ·have e4:within s.rev 1 (yaa d)=false:=by simpa using e4
        have HV:=hH (jak (jam HX.out (yaL e4)));go_wp2;rw[<-hV];clear hV q0 q1 q2 ud0 ud1 ud2 ud3 ud4;obtain⟨X,hX,F,hF,B⟩:=zae V;obtain⟨a3,a4,a5,a6,a7⟩:=mx5 hF ze ke0 ke1 ke2 ke3 ke4;obtain⟨a1,a8,a9⟩:=mx3 hF zs ks0 ks1 ks2;have u:=hH hF;have n:=hH B;clear hF B;refine uaa (F:=F) (by kernel_rfl) (by kernel_rfl) (n.out _ (lf _ _).drew) ?_
        have a2:=hH (fun Y:World=>tb (vaa s.client 1 8 Y) e1)
        have He3:=hH (fun Y:World=>tb (vaa s.seq 1 1000000000 Y) e3)
        have He4:=hH (fun Y:World=>tb (vaa s.rev 1 (yaa d) Y) e4)
        repeat(go_big_quiet_step ((first|(go_at_call 26;(first|(with_reducible exact Calls.fam_tells u.out n.out (a2.out _))|(with_reducible exact Calls.fam_tells u.out n.out (He3.out _))|(with_reducible exact Calls.fam_tells u.out n.out (He4.out _))))|(go_at_call 30;exact Calls.fam_tells u.out n.out (zac d _ _ _ _ (HXL.out.below (U.trans ((u.out _).mono sV))) om om)))))
        refine wpQuiet_nil ?_;intro x;obtain⟨wx,q⟩:∃wx:World,F x=wx:=⟨_,rfl⟩;have B7:Below W W wx:=by rw[<-q];exact U.trans ((u.out _).mono sV)
        rw[q];clear q a3 a4 a5 a6 a7 a1 a8 a9 u n;go_wp2;go_ret;exact⟨jaa HV.out.symm,blw⟩
       have HS:=hH (XaF (l:=d.seen) e1 e3 e4);go_wp2;rw[<-hV];clear hV q0 q1 q2 ud0 ud1 ud2 ud3 ud4;obtain⟨X,hX,F,hF,B⟩:=zae V;obtain⟨a3,a4,a5,a6,a7⟩:=mx5 hF ze ke0 ke1 ke2 ke3 ke4;obtain⟨a1,a8,a9⟩:=mx3 hF zs ks0 ks1 ks2;have u:=hH hF;have n:=hH B;clear hF B;refine uaa (F:=F) (by kernel_rfl) (by kernel_rfl) (n.out _ (lf _ _).drew) ?_
       have a2:=hH (fun Y:World=>tb (vaa s.client 1 8 Y) e1)
       have He3:=hH (fun Y:World=>tb (vaa s.seq 1 1000000000 Y) e3)
       have He4:=hH (fun Y:World=>tb (vaa s.rev 1 (yaa d) Y) e4)
       repeat(go_big_quiet_step ((first|(go_at_call 26;(first|(with_reducible exact Calls.fam_tells u.out n.out (a2.out _))|(with_reducible exact Calls.fam_tells u.out n.out (He3.out _))|(with_reducible exact Calls.fam_tells u.out n.out (He4.out _))))|(go_at_call 30;exact Calls.fam_tells u.out n.out (zac d _ _ _ _ (HXL.out.below (U.trans ((u.out _).mono sV))) om om)))))
       refine wpQuiet_nil ?_;intro x;obtain⟨wx,q⟩:∃wx:World,F x=wx:=⟨_,rfl⟩;have B7:Below W W wx:=by rw[<-q];exact U.trans ((u.out _).mono sV)
       rw[q];clear q a3 a4 a5 a6 a7 a1 a8 a9 u n;go_wp2;go_roundw
       case rel=>exact⟨1,by omega,by go_num,yam (p:=Zan (yaa d) d.seen) (k:=0) HX.out HS.out HJ.out,blw⟩
       case measure=>simp[intOf];omega
      ·
       obtain⟨p,hp⟩:=Jaa (l:=d.seen) (k:=j) om;obtain⟨b0,o0,a1,j1,j2,j3⟩:=(HXS.out.below hbq).idx Tryz.underlying65 Jak j hp;obtain rfl:=xam j3;have c0:=j2.zero;have HP:=hH hp;have zq:=lk (w:=wr) (a:=⟨b0,o0,none⟩) c0;have zp:b0<V.heap.size:=lq zq hVq.size;have kp:V.cell? ⟨b0,o0,none⟩=some (.int .i64 p.client):=(hVq.cell (p:=⟨b0,o0,none⟩) zq).trans c0;have hi0:decide ((0:Int)<(j:Int)+1)=true:=by rw[decide_eq_true_eq];omega
       have hj0:IntKind.i64.wrap (j:Int)=(j:Int):=IntWalk.i64_in _ om;have hj1:IntKind.i64.wrap ((j:Int)+1-1)=(j:Int):=by rw[show(j:Int)+1-1=j by omega];exact hj0
       clear hp j2 j3;simp only[Int.natCast_add,Int.cast_ofNat_Int]at g1;by_cases elt:p.client<s.client
       rotate_left
       ·
        have HV:=hH (jak (jam HX.out (yaZ HP.out elt)));have hpc:decide (s.client<=p.client)=true:=by rw[decide_eq_true_eq];omega
        clear elt;go_wp2;rw[<-hV];clear hV q0 q1 q2 ud0 ud1 ud2 ud3 ud4 c0;obtain⟨X,hX,F,hF,B⟩:=zae V;obtain⟨a3,a4,a5,a6,a7⟩:=mx5 hF ze ke0 ke1 ke2 ke3 ke4;obtain⟨a1,a8,a9⟩:=mx3 hF zs ks0 ks1 ks2;have cp0:∀x,(F x).cell? ⟨b0,o0,none⟩=some (.int .i64 p.client):=fun x=>((hF x).cell (p:=⟨b0,o0,none⟩) zp).trans kp
        have u:=hH hF;have n:=hH B;clear hF B;refine uaa (F:=F) (by kernel_rfl) (by kernel_rfl) (n.out _ (lf _ _).drew) ?_
        have a2:=hH (fun Y:World=>tb (vaa s.client 1 8 Y) e1)
        repeat(go_big_quiet_step ((first|(go_at_call 26;(first|(with_reducible exact Calls.fam_tells u.out n.out (a2.out _))))|(go_at_call 30;exact Calls.fam_tells u.out n.out (zac d _ _ _ _ (HXL.out.below (U.trans ((u.out _).mono sV))) om om)))))
        refine wpQuiet_nil ?_;intro x;obtain⟨wx,q⟩:∃wx:World,F x=wx:=⟨_,rfl⟩;have B7:Below W W wx:=by rw[<-q];exact U.trans ((u.out _).mono sV)
        rw[q];clear q a3 a4 a5 a6 a7 a1 a8 a9 cp0 u n;go_wp2;go_ret;exact⟨jaa HV.out.symm,blw⟩
       have hpc:decide (s.client<=p.client)=false:=by rw[decide_eq_false_iff_not];omega
       have hpc2:¬s.client<=p.client:=om;by_cases e3:within s.seq 1 1000000000=true
       rotate_left
       ·have e3:within s.seq 1 1000000000=false:=by simpa using e3
        have HV:=hH (jak (jam HX.out (yaO e3)));go_wp2;rw[<-hV];clear hV q0 q1 q2 ud0 ud1 ud2 ud3 ud4 c0;obtain⟨X,hX,F,hF,B⟩:=zae V;obtain⟨a3,a4,a5,a6,a7⟩:=mx5 hF ze ke0 ke1 ke2 ke3 ke4;obtain⟨a1,a8,a9⟩:=mx3 hF zs ks0 ks1 ks2;have cp0:∀x,(F x).cell? ⟨b0,o0,none⟩=some (.int .i64 p.client):=fun x=>((hF x).cell (p:=⟨b0,o0,none⟩) zp).trans kp
        have u:=hH hF;have n:=hH B;clear hF B;refine uaa (F:=F) (by kernel_rfl) (by kernel_rfl) (n.out _ (lf _ _).drew) ?_
        have a2:=hH (fun Y:World=>tb (vaa s.client 1 8 Y) e1)
        have He3:=hH (fun Y:World=>tb (vaa s.seq 1 1000000000 Y) e3)
        repeat(go_big_quiet_step ((first|(go_at_call 26;(first|(with_reducible exact Calls.fam_tells u.out n.out (a2.out _))|(with_reducible exact Calls.fam_tells u.out n.out (He3.out _))))|(go_at_call 30;exact Calls.fam_tells u.out n.out (zac d _ _ _ _ (HXL.out.below (U.trans ((u.out _).mono sV))) om om)))))
        refine wpQuiet_nil ?_;intro x;obtain⟨wx,q⟩:∃wx:World,F x=wx:=⟨_,rfl⟩;have B7:Below W W wx:=by rw[<-q];exact U.trans ((u.out _).mono sV)
        rw[q];clear q a3 a4 a5 a6 a7 a1 a8 a9 cp0 u n;go_wp2;go_ret;exact⟨jaa HV.out.symm,blw⟩
       by_cases e4:within s.rev 1 (yaa d)=true
       rotate_left
       ·have e4:within s.rev 1 (yaa d)=false:=by simpa using e4
        have HV:=hH (jak (jam HX.out (yaL e4)));go_wp2;rw[<-hV];clear hV q0 q1 q2 ud0 ud1 ud2 ud3 ud4 c0;obtain⟨X,hX,F,hF,B⟩:=zae V;obtain⟨a3,a4,a5,a6,a7⟩:=mx5 hF ze ke0 ke1 ke2 ke3 ke4;obtain⟨a1,a8,a9⟩:=mx3 hF zs ks0 ks1 ks2;have cp0:∀x,(F x).cell? ⟨b0,o0,none⟩=some (.int .i64 p.client):=fun x=>((hF x).cell (p:=⟨b0,o0,none⟩) zp).trans kp
        have u:=hH hF;have n:=hH B;clear hF B;refine uaa (F:=F) (by kernel_rfl) (by kernel_rfl) (n.out _ (lf _ _).drew) ?_
        have a2:=hH (fun Y:World=>tb (vaa s.client 1 8 Y) e1)
        have He3:=hH (fun Y:World=>tb (vaa s.seq 1 1000000000 Y) e3)
        have He4:=hH (fun Y:World=>tb (vaa s.rev 1 (yaa d) Y) e4)
        repeat(go_big_quiet_step ((first|(go_at_call 26;(first|(with_reducible exact Calls.fam_tells u.out n.out (a2.out _))|(with_reducible exact Calls.fam_tells u.out n.out (He3.out _))|(with_reducible exact Calls.fam_tells u.out n.out (He4.out _))))|(go_at_call 30;exact Calls.fam_tells u.out n.out (zac d _ _ _ _ (HXL.out.below (U.trans ((u.out _).mono sV))) om om)))))
        refine wpQuiet_nil ?_;intro x;obtain⟨wx,q⟩:∃wx:World,F x=wx:=⟨_,rfl⟩;have B7:Below W W wx:=by rw[<-q];exact U.trans ((u.out _).mono sV)
        rw[q];clear q a3 a4 a5 a6 a7 a1 a8 a9 cp0 u n;go_wp2;go_ret;exact⟨jaa HV.out.symm,blw⟩
       have HS:=hH (JaF HP.out e1 e3 e4 elt);go_wp2;rw[<-hV];clear hV q0 q1 q2 ud0 ud1 ud2 ud3 ud4 c0;obtain⟨X,hX,F,hF,B⟩:=zae V;obtain⟨a3,a4,a5,a6,a7⟩:=mx5 hF ze ke0 ke1 ke2 ke3 ke4;obtain⟨a1,a8,a9⟩:=mx3 hF zs ks0 ks1 ks2;have cp0:∀x,(F x).cell? ⟨b0,o0,none⟩=some (.int .i64 p.client):=fun x=>((hF x).cell (p:=⟨b0,o0,none⟩) zp).trans kp
       have u:=hH hF;have n:=hH B;clear hF B;refine uaa (F:=F) (by kernel_rfl) (by kernel_rfl) (n.out _ (lf _ _).drew) ?_
       have a2:=hH (fun Y:World=>tb (vaa s.client 1 8 Y) e1)
       have He3:=hH (fun Y:World=>tb (vaa s.seq 1 1000000000 Y) e3)
       have He4:=hH (fun Y:World=>tb (vaa s.rev 1 (yaa d) Y) e4)
       repeat(go_big_quiet_step ((first|(go_at_call 26;(first|(with_reducible exact Calls.fam_tells u.out n.out (a2.out _))|(with_reducible exact Calls.fam_tells u.out n.out (He3.out _))|(with_reducible exact Calls.fam_tells u.out n.out (He4.out _))))|(go_at_call 30;exact Calls.fam_tells u.out n.out (zac d _ _ _ _ (HXL.out.below (U.trans ((u.out _).mono sV))) om om)))))
       refine wpQuiet_nil ?_;intro x;obtain⟨wx,q⟩:∃wx:World,F x=wx:=⟨_,rfl⟩;have B7:Below W W wx:=by rw[<-q];exact U.trans ((u.out _).mono sV)
       rw[q];clear q a3 a4 a5 a6 a7 a1 a8 a9 cp0 u n;go_wp2;go_roundw
       case rel=>exact⟨j+1+1,by omega,by go_num,yam (p:=Zan (yaa d) d.seen) (k:=j+1) HX.out HS.out HJ.out,blw⟩
       case measure=>simp[intOf];omega
