/- What is asked of a hub. -/
import Derived.Test.YtbonkabfmlajnaaGreatQrav
import Derived.Test.YtbonkabfmlajnaaGreatQrar
import Derived.Laws.Cover1
set_option maxHeartbeats 16000000
set_option maxRecDepth 100000
set_option linter.defProp false
set_option linter.unusedSimpArgs false
namespace Go.Proofs.YtbonkabfmlajnaaGreat
open Go.RowKit
attribute [local go_sem ↓] Go.wp_at_zero Go.wp_at_succ
theorem ZaZ {N_:Nat}(h_:N_=90\/N_=9)(z:qae)(v_docs v_subs:Value)(w:World)(h_docs:RdS w v_docs z.docs)(h_subs:RdS w v_subs z.subs):Calls Tryz.prog N_ #[.agg #[z.shut,v_docs,v_subs,z.last]] w (yae w (.bool (Qac z))):=by
 rcases h_ with rfl|rfl
 have k_0:Unit:=();have k_1:=hH @Zaa;have k_2:=hH @kal;have k_3:=hH @vaj;have k_4:=hH @uad;have k_5:=hH @Jab;go_enter Tryz.func90,Tryz.ntmps90;rotate_left;have k_0:Bool:=true;have k_1:=hH @vaa;have k_2:=hH @zal;have k_3:=hH @Xal;have k_4:=hH @qad;have k_5:=hH @zac;go_enter Tryz.func9,Tryz.ntmps9;all_goals
  have hld:=fun w1 ty=>h_docs.len Tryz.underlying23 w1 ty
  have hls:=fun w1 ty=>h_subs.len Tryz.underlying24 w1 ty
  have bd:=h_docs.le;have bs:=h_subs.le;obtain⟨W,hW⟩:∃W:World,W=w.alloc (.cells #[z.shut,v_docs,v_subs,z.last] 26):=⟨_,rfl⟩;have hWB:Below w w W:=by rw[hW];exact blw
  have sW:=hWB.size;have zz:w<W.heap.size:=by rw[hW];first|(simp;done)|(simp;omega)
  have kz0:W.cell? ⟨w.heap.size,0,none⟩=some (.bool z.shut):=by rw[hW];simp[go_sem]
  have kz1:W.cell? ⟨w.heap.size,1,none⟩=some (v_docs):=by rw[hW];simp[go_sem]
  have kz2:W.cell? ⟨w.heap.size,2,none⟩=some (v_subs):=by rw[hW];simp[go_sem]
  have kz3:W.cell? ⟨w.heap.size,3,none⟩=some (.int .i64 z.last):=by rw[hW];simp[go_sem]
  have HXD:=hH (h_docs.below hWB);have HXS:=hH (h_subs.below hWB);clear h_docs h_subs;by_cases h1:z.docs.length<=5
  rotate_left
  ·have HV:=hH (qa8 h1);go_wp2_with fail
   rw[<-hW];clear hW;go_wp2;go_ret;exact⟨jaa HV.out.symm,blw⟩
  by_cases h2:z.subs.length<=6
  rotate_left
  ·have HV:=hH (ka8 h2);go_wp2_with fail
   rw[<-hW];clear hW;go_wp2;go_ret;exact⟨jaa HV.out.symm,blw⟩
  by_cases h3:within z.last 0 1000000000=true
  rotate_left
  ·have h3:within z.last 0 1000000000=false:=by simpa using h3
   have HV:=hH (Qa8 h3);go_wp2_with fail
   rw[<-hW];clear hW;go_wp2_with fail
   refine(k_1.out _ _ _ _).mono ?_;rintro e' w1 ⟨rfl,hb1⟩;rw[h3];have B1:Below W W w1:=(show Below W W _ from blw).trans (hb1.mono om);have s1:=B1.size;have z1z:w<w1.heap.size:=lq zz s1;obtain⟨y1z0,y1z1,y1z2,y1z3⟩:=mv4 B1 zz kz0 kz1 kz2 kz3;clear hb1;go_wp2;go_ret;exact⟨jaa HV.out.symm,blw⟩
  have H3:=hH h3;go_wp2_with fail
  rw[<-hW];clear hW;go_wp2_with fail
  refine(k_1.out _ _ _ _).mono ?_;rintro e' w1 ⟨rfl,hb1⟩;rw[h3];have B1:Below W W w1:=(show Below W W _ from blw).trans (hb1.mono om);have s1:=B1.size;have z1z:w<w1.heap.size:=lq zz s1;obtain⟨y1z0,y1z1,y1z2,y1z3⟩:=mv4 B1 zz kz0 kz1 kz2 kz3;clear hb1;clear h3;go_wp2;go_loopw [27] (fun i wr=>∃k:Nat,k<=z.docs.length/\i= .int .i64 k/\(∀j<k,∀y,z.docs[j]? =some y->hdI z.docs j y=true)/\Below W W wr) (fun i _=>z.docs.length-(intOf i).toNat)
  case atStart=>exact⟨0,lz _,rfl,fun _ h=>absurd h (Nat.not_lt_zero _),blw⟩
  case round=>
   obtain⟨k,hk,rfl,hj,hbr⟩:=hrel;have hsz:=hbr.size;have HJ:=hH hj;clear hj;by_cases hlt:k<z.docs.length
   ·obtain⟨d,hx⟩:=Jaa hlt;obtain⟨b1,o1,cs,g1,g2,g3⟩:=(HXD.out.below hbr).idx Tryz.underlying23 uag k hx;obtain⟨d_text,d_list,d_seen,rfl,nn,r_text,M,r_seen⟩:=Kai g3;have q0:=g2.zero;have q1:=g2 1 _ rfl;have q2:=g2 2 _ rfl;have q3:=g2 3 _ rfl;have q4:=g2 4 _ rfl;obtain⟨at_,ct,rfl⟩:=r_text.isSlice
    obtain⟨al,cl,rfl⟩:=M.isSlice;obtain⟨as_,cs_,rfl⟩:=r_seen.isSlice;have HX:=hH hx;have HRT:=hH r_text;have HRL:=hH M;have HRS:=hH r_seen;clear hx g2 g3 r_text M r_seen;have su:=hbr.size;obtain⟨uz0,uz1,uz2,uz3⟩:=mv4 hbr zz kz0 kz1 kz2 kz3;obtain⟨V,hV⟩:∃V:World,V=wr.alloc (.cells #[d.name,d.from_,.slice at_ d.text.length ct,.slice al d.list.length cl,.slice as_ d.seen.length cs_] 67):=⟨_,rfl⟩
    have hVB:Below W W V:=by rw[hV];exact blw
    have I:Below wr wr V:=by rw[hV];exact(lf _ _).alloc (lr _) _
    have sV:=hVB.size;have zvz:w<V.heap.size:=om;have zvd:wr<V.heap.size:=by rw[hV];simp
    obtain⟨kvz0,kvz1,kvz2,kvz3⟩:=mv4 hVB zz kz0 kz1 kz2 kz3;have kvd0:V.cell? ⟨wr.heap.size,0,none⟩=some (.string d.name):=by rw[hV];simp
    have kvd1:V.cell? ⟨wr.heap.size,1,none⟩=some (.int .i64 d.from_):=by rw[hV];simp
    have kvd2:V.cell? ⟨wr.heap.size,2,none⟩=some (.slice at_ d.text.length ct):=by rw[hV];simp
    have kvd3:V.cell? ⟨wr.heap.size,3,none⟩=some (.slice al d.list.length cl):=by rw[hV];simp
    have kvd4:V.cell? ⟨wr.heap.size,4,none⟩=some (.slice as_ d.seen.length cs_):=by rw[hV];simp
    by_cases e1:Qad d=true
    rotate_left
    ·have e1:Qad d=false:=by simpa using e1
     have HV:=hH (va6 HX.out (qbf e1));go_wp2_with fail
     rw[<-hV];clear hV q0 q1 q2 q3 q4 uz0 uz1 uz2 uz3;obtain⟨X,hX,F,hF,B⟩:=zae V;obtain⟨Z,a0,a1,a2⟩:=mx4 hF zvz kvz0 kvz1 kvz2 kvz3;obtain⟨N,Q,R,U,Y⟩:=mx5 hF zvd kvd0 kvd1 kvd2 kvd3 kvd4;have D:=hH hF;have n:=hH B;clear hF B;have Hd:=hH (fun(J:World) (hb:Below V V J)=>tb (k_2.out d _ _ _ J nn (HRT.out.below (I.trans (hb.mono I.size))) (HRL.out.below (I.trans (hb.mono I.size))) (HRS.out.below (I.trans (hb.mono I.size)))) e1)
     refine uaa (F:=F) (by kernel_rfl) (by kernel_rfl) (n.out _ blw) ?_
     repeat(go_big_quiet_step (((first|go_at_call 122|go_at_call 27);(with_reducible exact Calls.fam_tells D.out n.out (Hd.out _ (D.out _))))))
     refine wpQuiet_nil ?_;intro x;obtain⟨w2,u⟩:∃wx:World,F x=wx:=⟨_,rfl⟩;have B2:Below V V w2:=by rw[<-u];exact D.out x
     rw[u];clear u Z a0 a1 a2 N Q R U Y D n Hd;have s2:=B2.size;have Q2:Below W W w2:=hVB.trans (B2.mono sV);go_wp2;go_ret;exact⟨jaa HV.out.symm,blw⟩
    rcases k with _|j
    ·have HS:=hH (xa6 (l:=z.docs) e1);have g1:∀w1,(Instr.indexAt 23 v_docs (.int .i64 0)).run Tryz.prog w1= .ok (.pointer (some ⟨b1,o1,none⟩)) w1:=g1;go_wp2_with fail
     rw[<-hV];clear hV q0 q1 q2 q3 q4 uz0 uz1 uz2 uz3;obtain⟨X,hX,F,hF,B⟩:=zae V;obtain⟨Z,a0,a1,a2⟩:=mx4 hF zvz kvz0 kvz1 kvz2 kvz3;obtain⟨N,Q,R,U,Y⟩:=mx5 hF zvd kvd0 kvd1 kvd2 kvd3 kvd4;have D:=hH hF;have n:=hH B;clear hF B;have Hd:=hH (fun(J:World) (hb:Below V V J)=>tb (k_2.out d _ _ _ J nn (HRT.out.below (I.trans (hb.mono I.size))) (HRL.out.below (I.trans (hb.mono I.size))) (HRS.out.below (I.trans (hb.mono I.size)))) e1)
     refine uaa (F:=F) (by kernel_rfl) (by kernel_rfl) (n.out _ blw) ?_
     repeat(go_big_quiet_step (((first|go_at_call 122|go_at_call 27);(with_reducible exact Calls.fam_tells D.out n.out (Hd.out _ (D.out _))))))
     refine wpQuiet_nil ?_;intro x;obtain⟨w2,u⟩:∃wx:World,F x=wx:=⟨_,rfl⟩;have B2:Below V V w2:=by rw[<-u];exact D.out x
     rw[u];clear u Z a0 a1 a2 N Q R U Y D n Hd;have s2:=B2.size;have Q2:Below W W w2:=hVB.trans (B2.mono sV);go_wp2;go_roundw
     case rel=>exact⟨1,by omega,by go_num,yam (p:=hdI z.docs) (k:=0) HX.out HS.out HJ.out,blw⟩
     case measure=>simp[intOf];omega
    ·obtain⟨p,hp⟩:=Jaa (l:=z.docs) (k:=j) om;obtain⟨b0,o0,cs0,j1,j2,j3⟩:=(HXD.out.below hbr).idx Tryz.underlying23 uag j hp;obtain⟨p_text,p_list,p_seen,rfl,_,_,_,_⟩:=Kai j3;have c0:=j2.zero;have zq:=lk (w:=wr) (a:=⟨b0,o0,none⟩) c0;have zp:b0<V.heap.size:=lq zq I.size;have kp:V.cell? ⟨b0,o0,none⟩=some (.string p.name):=(I.cell (p:=⟨b0,o0,none⟩) zq).trans c0;have hi0:decide ((0:Int)<(j:Int)+1)=true:=by rw[decide_eq_true_eq];omega
     have hj0:IntKind.i64.wrap (j:Int)=(j:Int):=IntWalk.i64_in _ om;have hj1:IntKind.i64.wrap ((j:Int)+1-1)=(j:Int):=by rw[show(j:Int)+1-1=j by omega];exact hj0
     have HP:=hH hp;clear hp j2 j3;simp only[Int.natCast_add,Int.cast_ofNat_Int]at g1;by_cases e2:slt p.name d.name=true
     rotate_left
     ·have e2:slt p.name d.name=false:=by simpa using e2
      have HV:=hH (va6 HX.out (ubf HP.out e2));have e3:Op.bytesLess p.name.toList d.name.toList=false:=e2;clear e2;go_wp2_with fail
      rw[<-hV];clear hV q0 q1 q2 q3 q4 c0 uz0 uz1 uz2 uz3;obtain⟨X,hX,F,hF,B⟩:=zae V;obtain⟨Z,a0,a1,a2⟩:=mx4 hF zvz kvz0 kvz1 kvz2 kvz3;obtain⟨N,Q,R,U,Y⟩:=mx5 hF zvd kvd0 kvd1 kvd2 kvd3 kvd4;have cp0:∀x,(F x).cell? ⟨b0,o0,none⟩=some (.string p.name):=fun x=>((hF x).cell (p:=⟨b0,o0,none⟩) zp).trans kp
      have D:=hH hF;have n:=hH B;clear hF B;have Hd:=hH (fun(J:World) (hb:Below V V J)=>tb (k_2.out d _ _ _ J nn (HRT.out.below (I.trans (hb.mono I.size))) (HRL.out.below (I.trans (hb.mono I.size))) (HRS.out.below (I.trans (hb.mono I.size)))) e1)
      refine uaa (F:=F) (by kernel_rfl) (by kernel_rfl) (n.out _ blw) ?_
      repeat(go_big_quiet_step (((first|go_at_call 122|go_at_call 27);(with_reducible exact Calls.fam_tells D.out n.out (Hd.out _ (D.out _))))))
      refine wpQuiet_nil ?_;intro x;obtain⟨w2,u⟩:∃wx:World,F x=wx:=⟨_,rfl⟩;have B2:Below V V w2:=by rw[<-u];exact D.out x
      rw[u];clear u Z a0 a1 a2 N Q R U Y cp0 D n Hd;have s2:=B2.size;have Q2:Below W W w2:=hVB.trans (B2.mono sV);go_wp2;go_ret;exact⟨jaa HV.out.symm,blw⟩
     have HS:=hH (Qa3 HP.out e1 e2);have e3:Op.bytesLess p.name.toList d.name.toList=true:=e2;clear e2;go_wp2_with fail
     rw[<-hV];clear hV q0 q1 q2 q3 q4 c0 uz0 uz1 uz2 uz3;obtain⟨X,hX,F,hF,B⟩:=zae V;obtain⟨Z,a0,a1,a2⟩:=mx4 hF zvz kvz0 kvz1 kvz2 kvz3;obtain⟨N,Q,R,U,Y⟩:=mx5 hF zvd kvd0 kvd1 kvd2 kvd3 kvd4;have cp0:∀x,(F x).cell? ⟨b0,o0,none⟩=some (.string p.name):=fun x=>((hF x).cell (p:=⟨b0,o0,none⟩) zp).trans kp
     have D:=hH hF;have n:=hH B;clear hF B;have Hd:=hH (fun(J:World) (hb:Below V V J)=>tb (k_2.out d _ _ _ J nn (HRT.out.below (I.trans (hb.mono I.size))) (HRL.out.below (I.trans (hb.mono I.size))) (HRS.out.below (I.trans (hb.mono I.size)))) e1)
     refine uaa (F:=F) (by kernel_rfl) (by kernel_rfl) (n.out _ blw) ?_
     repeat(go_big_quiet_step (((first|go_at_call 122|go_at_call 27);(with_reducible exact Calls.fam_tells D.out n.out (Hd.out _ (D.out _))))))
     refine wpQuiet_nil ?_;intro x;obtain⟨w2,u⟩:∃wx:World,F x=wx:=⟨_,rfl⟩;have B2:Below V V w2:=by rw[<-u];exact D.out x
     rw[u];clear u Z a0 a1 a2 N Q R U Y cp0 D n Hd;have s2:=B2.size;have Q2:Below W W w2:=hVB.trans (B2.mono sV);go_wp2;go_roundw
     case rel=>exact⟨j+1+1,by omega,by go_num,yam (p:=hdI z.docs) (k:=j+1) HX.out HS.out HJ.out,blw⟩
     case measure=>simp[intOf];omega
   ·obtain rfl:k=z.docs.length:=om;have HD:Hid (∀j<z.docs.length,∀y,z.docs[j]? =some y->hdI z.docs j y=true):=HJ;clear HJ;have su:=hbr.size;obtain⟨uz0,uz1,uz2,uz3⟩:=mv4 hbr zz kz0 kz1 kz2 kz3;go_wp2;obtain⟨wo,rfl⟩:∃wo:World,wo=wr:=⟨_,rfl⟩;go_loopw [55] (fun i wr=>∃k:Nat,k<=z.subs.length/\i= .int .i64 k/\(∀j<k,∀y,z.subs[j]? =some y->hsI z j y=true)/\Below W W wr) (fun i _=>z.subs.length-(intOf i).toNat)
    case atStart=>exact⟨0,lz _,rfl,fun _ h=>absurd h (Nat.not_lt_zero _),hbr⟩
    case round=>
     obtain⟨k,hk,rfl,hj,hbq⟩:=hrel;have hsq:=hbq.size;have HJ:=hH hj;clear hj;by_cases hlt:k<z.subs.length
     rotate_left
     ·obtain rfl:k=z.subs.length:=om;have HV:=hH (uaW h1 h2 H3.out HD.out HJ.out);go_wp2;go_ret;exact⟨jaa HV.out.symm,blw⟩
     obtain⟨s,hx⟩:=Jaa hlt;obtain⟨b1,o1,cs,g1,g2,g3⟩:=(HXS.out.below hbq).idx Tryz.underlying24 ual k hx;obtain⟨s_list,rfl,nn,M⟩:=xap g3;have q0:=g2.zero;have q1:=g2 1 _ rfl;have q2:=g2 2 _ rfl;have q3:=g2 3 _ rfl;have q4:=g2 4 _ rfl;have q5:=g2 5 _ rfl;have hll:=fun w1 ty=>M.len Tryz.underlying34 w1 ty
     obtain⟨al,cl,rfl⟩:=M.isSlice;have HX:=hH hx;have HRL:=hH M;have bll:=M.le;have HXDq:=hH (HXD.out.below hbq);have HXSq:=hH (HXS.out.below hbq);clear hx g2 g3 M;have suq:=hbq.size;obtain⟨uz0,uz1,uz2,uz3⟩:=mv4 hbq zz kz0 kz1 kz2 kz3;have zwr:w<wr.heap.size:=om;go_wp2_with fail
     refine(k_3.out z _ _ s.doc _ (HXDq.out.below blw)).mono ?_;rintro e' V ⟨rfl,hb2⟩;have I:Below wr wr V:=(show Below wr wr _ from blw).trans (hb2.mono om);have hVB:Below W W V:=hbq.trans (I.mono hsq);have sV:=hVB.size;have zvz:w<V.heap.size:=om;have zvd:wr<V.heap.size:=lq sm hb2.size;obtain⟨kvz0,kvz1,kvz2,kvz3⟩:=mv4 hVB zz kz0 kz1 kz2 kz3;have kvd0:V.cell? ⟨wr.heap.size,0,none⟩=some (.int .i64 s.id):=(hb2.cell (p:=⟨wr,0,none⟩) sm).trans sm;have kvd1:V.cell? ⟨wr.heap.size,1,none⟩=some (.string s.doc):=(hb2.cell (p:=⟨wr,1,none⟩) sm).trans sm;have kvd2:V.cell? ⟨wr.heap.size,2,none⟩=some (.int .i64 s.r.cap):=(hb2.cell (p:=⟨wr,2,none⟩) sm).trans sm;have kvd3:V.cell? ⟨wr.heap.size,3,none⟩=some (.int .i64 s.r.next):=(hb2.cell (p:=⟨wr,3,none⟩) sm).trans sm;have kvd4:V.cell? ⟨wr.heap.size,4,none⟩=some (.bool s.r.out):=(hb2.cell (p:=⟨wr,4,none⟩) sm).trans sm;have kvd5:V.cell? ⟨wr.heap.size,5,none⟩=some (.slice al s.r.list.length cl):=(hb2.cell (p:=⟨wr,5,none⟩) sm).trans sm;clear hb2 q0 q1 q2 q3 q4 q5 g1 uz0 uz1 uz2 uz3;generalize hkd:zad z s.doc=K;by_cases e3:within s.id 1 z.last=true
     rotate_left
     ·have e3:within s.id 1 z.last=false:=by simpa using e3
      have HV:=hH (Xan HX.out (Qbf e3));go_wp2_with fail
      obtain⟨X,hX,F,hF,B⟩:=zae V;obtain⟨Z,a0,a1,a2⟩:=mx4 hF zvz kvz0 kvz1 kvz2 kvz3;obtain⟨N,Q,R,U,Y,a3⟩:=mx6 hF zvd kvd0 kvd1 kvd2 kvd3 kvd4 kvd5;have D:=hH hF;have n:=hH B;clear hF B;have Hi:=hH (fun(J:World) (hb:Below V V J)=>tb (k_1.out s.id 1 z.last J) e3)
      refine uaa (F:=F) (by kernel_rfl) (by kernel_rfl) (n.out _ blw) ?_
      repeat(go_big_quiet_step (((first|go_at_call 106|go_at_call 26);(with_reducible exact Calls.fam_tells D.out n.out (Hi.out _ (D.out _))))))
      refine wpQuiet_nil ?_;intro x;obtain⟨w3,u⟩:∃wx:World,F x=wx:=⟨_,rfl⟩;have B3:Below V V w3:=by rw[<-u];exact D.out x
      rw[u];clear u Z a0 a1 a2 N Q R U Y a3 D n Hi;have s3:=B3.size;have Q3:Below W W w3:=hVB.trans (B3.mono sV);go_wp2;go_ret;exact⟨jaa HV.out.symm,blw⟩
     first
     |have:Unit:=k_0
      clear this;by_cases e4:uac s.r=true
      rotate_left
      ·have e4:uac s.r=false:=by simpa using e4
       have HV:=hH (Xan HX.out (ya1 e4));go_wp2_with fail
       obtain⟨X,hX,F,hF,B⟩:=zae V;obtain⟨Z,a0,a1,a2⟩:=mx4 hF zvz kvz0 kvz1 kvz2 kvz3;obtain⟨N,Q,R,U,Y,a3⟩:=mx6 hF zvd kvd0 kvd1 kvd2 kvd3 kvd4 kvd5;have D:=hH hF;have n:=hH B;clear hF B;have Hi:=hH (fun(J:World) (hb:Below V V J)=>tb (Zaa s.id 1 z.last J) e3)
       have Hr:=hH (fun(J:World) (hb:Below V V J)=>tb (uad s.r _ J (HRL.out.below (I.trans (hb.mono I.size)))) e4)
       refine uaa (F:=F) (by kernel_rfl) (by kernel_rfl) (n.out _ blw) ?_
       repeat(go_big_quiet_step (((first|(go_at_call 106;(with_reducible exact Calls.fam_tells D.out n.out (Hi.out _ (D.out _))))|(go_at_call 123;(with_reducible exact Calls.fam_tells D.out n.out (Hr.out _ (D.out _))))))))
       refine wpQuiet_nil ?_;intro x;obtain⟨w3,u⟩:∃wx:World,F x=wx:=⟨_,rfl⟩;have B3:Below V V w3:=by rw[<-u];exact D.out x
       rw[u];clear u Z a0 a1 a2 N Q R U Y a3 D n Hi Hr;have s3:=B3.size;have Q3:Below W W w3:=hVB.trans (B3.mono sV);go_wp2;go_ret;exact⟨jaa HV.out.symm,blw⟩
      by_cases e5:K<0
      ·have HV:=hH (Xan HX.out (Qa2 (by rw[hkd];exact e5)))
       have e5d:decide (K<0)=true:=decide_eq_true e5;go_wp2_with fail
       obtain⟨X,hX,F,hF,B⟩:=zae V;obtain⟨Z,a0,a1,a2⟩:=mx4 hF zvz kvz0 kvz1 kvz2 kvz3;obtain⟨N,Q,R,U,Y,a3⟩:=mx6 hF zvd kvd0 kvd1 kvd2 kvd3 kvd4 kvd5;have D:=hH hF;have n:=hH B;clear hF B;have Hi:=hH (fun(J:World) (hb:Below V V J)=>tb (Zaa s.id 1 z.last J) e3)
       have Hr:=hH (fun(J:World) (hb:Below V V J)=>tb (uad s.r _ J (HRL.out.below (I.trans (hb.mono I.size)))) e4)
       refine uaa (F:=F) (by kernel_rfl) (by kernel_rfl) (n.out _ blw) ?_
       repeat(go_big_quiet_step (((first|(go_at_call 106;(with_reducible exact Calls.fam_tells D.out n.out (Hi.out _ (D.out _))))|(go_at_call 123;(with_reducible exact Calls.fam_tells D.out n.out (Hr.out _ (D.out _))))))))
       refine wpQuiet_nil ?_;intro x;obtain⟨w3,u⟩:∃wx:World,F x=wx:=⟨_,rfl⟩;have B3:Below V V w3:=by rw[<-u];exact D.out x
       rw[u];clear u Z a0 a1 a2 N Q R U Y a3 D n Hi Hr;have s3:=B3.size;have Q3:Below W W w3:=hVB.trans (B3.mono sV);go_wp2;go_ret;exact⟨jaa HV.out.symm,blw⟩
      have e5d:decide (K<0)=false:=decide_eq_false e5
     |skip
     rcases k with _|j
     ·
      first
      |have:Unit:=k_0
       clear this
      |by_cases e4:uac s.r=true
       rotate_left
       ·have e4:uac s.r=false:=by simpa using e4
        have HV:=hH (Xan HX.out (ya1 e4));go_wp2_with fail
        obtain⟨X,hX,F,hF,B⟩:=zae V;obtain⟨Z,a0,a1,a2⟩:=mx4 hF zvz kvz0 kvz1 kvz2 kvz3;obtain⟨N,Q,R,U,Y,a3⟩:=mx6 hF zvd kvd0 kvd1 kvd2 kvd3 kvd4 kvd5;have D:=hH hF;have n:=hH B;clear hF B;have Hi:=hH (fun(J:World) (hb:Below V V J)=>tb (vaa s.id 1 z.last J) e3)
        have Hr:=hH (fun(J:World) (hb:Below V V J)=>tb (qad s.r _ J (HRL.out.below (I.trans (hb.mono I.size)))) e4)
        refine uaa (F:=F) (by kernel_rfl) (by kernel_rfl) (n.out _ blw) ?_
        repeat(go_big_quiet_step (((first|(go_at_call 26;(with_reducible exact Calls.fam_tells D.out n.out (Hi.out _ (D.out _))))|(go_at_call 29;(with_reducible exact Calls.fam_tells D.out n.out (Hr.out _ (D.out _))))))))
        refine wpQuiet_nil ?_;intro x;obtain⟨w3,u⟩:∃wx:World,F x=wx:=⟨_,rfl⟩;have B3:Below V V w3:=by rw[<-u];exact D.out x
        rw[u];clear u Z a0 a1 a2 N Q R U Y a3 D n Hi Hr;have s3:=B3.size;have Q3:Below W W w3:=hVB.trans (B3.mono sV);go_wp2;go_ret;exact⟨jaa HV.out.symm,blw⟩
       by_cases e5:K<0
       ·have HV:=hH (Xan HX.out (Qa2 (by rw[hkd];exact e5)))
        have e5d:decide (K<0)=true:=decide_eq_true e5;go_wp2_with fail
        obtain⟨X,hX,F,hF,B⟩:=zae V;obtain⟨Z,a0,a1,a2⟩:=mx4 hF zvz kvz0 kvz1 kvz2 kvz3;obtain⟨N,Q,R,U,Y,a3⟩:=mx6 hF zvd kvd0 kvd1 kvd2 kvd3 kvd4 kvd5;have D:=hH hF;have n:=hH B;clear hF B;have Hi:=hH (fun(J:World) (hb:Below V V J)=>tb (vaa s.id 1 z.last J) e3)
        have Hr:=hH (fun(J:World) (hb:Below V V J)=>tb (qad s.r _ J (HRL.out.below (I.trans (hb.mono I.size)))) e4)
        refine uaa (F:=F) (by kernel_rfl) (by kernel_rfl) (n.out _ blw) ?_
        repeat(go_big_quiet_step (((first|(go_at_call 26;(with_reducible exact Calls.fam_tells D.out n.out (Hi.out _ (D.out _))))|(go_at_call 29;(with_reducible exact Calls.fam_tells D.out n.out (Hr.out _ (D.out _))))))))
        refine wpQuiet_nil ?_;intro x;obtain⟨w3,u⟩:∃wx:World,F x=wx:=⟨_,rfl⟩;have B3:Below V V w3:=by rw[<-u];exact D.out x
        rw[u];clear u Z a0 a1 a2 N Q R U Y a3 D n Hi Hr;have s3:=B3.size;have Q3:Below W W w3:=hVB.trans (B3.mono sV);go_wp2;go_ret;exact⟨jaa HV.out.symm,blw⟩
       have e5d:decide (K<0)=false:=decide_eq_false e5
      go_wp2_with fail
      obtain⟨X,hX,F,hF,B⟩:=zae V;obtain⟨Z,a0,a1,a2⟩:=mx4 hF zvz kvz0 kvz1 kvz2 kvz3;obtain⟨N,Q,R,U,Y,a3⟩:=mx6 hF zvd kvd0 kvd1 kvd2 kvd3 kvd4 kvd5;have D:=hH hF;have n:=hH B;clear hF B;have Hi:=hH (fun(J:World) (hb:Below V V J)=>tb (k_1.out s.id 1 z.last J) e3)
      have Hr:=hH (fun(J:World) (hb:Below V V J)=>tb (k_4.out s.r _ J (HRL.out.below (I.trans (hb.mono I.size)))) e4)
      refine uaa (F:=F) (by kernel_rfl) (by kernel_rfl) (n.out _ blw) ?_
      repeat(go_big_quiet_step (((first|((first|go_at_call 106|go_at_call 26);(with_reducible exact Calls.fam_tells D.out n.out (Hi.out _ (D.out _))))|((first|go_at_call 123|go_at_call 29);(with_reducible exact Calls.fam_tells D.out n.out (Hr.out _ (D.out _))))))))
      refine wpQuiet_nil ?_;intro x;obtain⟨w3,u⟩:∃wx:World,F x=wx:=⟨_,rfl⟩;have B3:Below V V w3:=by rw[<-u];exact D.out x
      rw[u];clear u Z a0 a1 a2 N Q R U Y a3 D n Hi Hr;have s3:=B3.size;have Q3:Below W W w3:=hVB.trans (B3.mono sV);obtain⟨K2,d,hkd2,hd⟩:=qan (h:=z) (s:=s.doc) (by rw[hkd];omega)
      obtain rfl:K=(K2:Int):=by rw[<-hkd];exact hkd2
      have hda:=uav.1 (uav.2 fun j y hy=>HD.out j (lg.1 hy).1 y hy) K2 d hd
      have hdd:Qad d=true:=by simp only[hdI,Bool.and_eq_true]at hda;exact hda.1
      have hbd:=yaf hdd;have hrg:=kaj e4;have hk2:K2<z.docs.length:=(lg.1 hd).1;obtain⟨b5,o5,cs5,i1,i2,i3⟩:=HXDq.out.idx Tryz.underlying23 uag K2 hd;obtain⟨d_text,d_list,d_seen,rfl,nd,r_text,M,r_seen⟩:=Kai i3;have x0:=i2.zero;have x1:=i2 1 _ rfl;have x2:=i2 2 _ rfl;have x3:=i2 3 _ rfl;have x4:=i2 4 _ rfl;have zx:=lk (w:=wr) (a:=⟨b5,o5,none⟩) x0;have z5:b5<w3.heap.size:=lq zx (Nat.le_trans I.size s3);have R3:Below wr wr w3:=I.trans (B3.mono I.size);have y0:=(R3.cell (p:=⟨b5,o5,none⟩) zx).trans x0;obtain⟨y1,y2,y3,y4⟩:=mv4 R3 zx x1 x2 x3 x4;obtain⟨yz0,yz1,yz2,yz3⟩:=mv4 Q3 zz kz0 kz1 kz2 kz3;obtain⟨yd0,yd1,yd2,yd3,yd4,yd5⟩:=mv6 B3 zvd kvd0 kvd1 kvd2 kvd3 kvd4 kvd5;have zw3z:w<w3.heap.size:=om;have zw3d:wr<w3.heap.size:=om;obtain⟨at_,ct,rfl⟩:=r_text.isSlice
      obtain⟨al5,cl5,rfl⟩:=M.isSlice;obtain⟨as_,cs_,rfl⟩:=r_seen.isSlice;have HR5:=hH (M.below R3);clear r_text M r_seen i2 i3 x0 x1 x2 x3 x4 hda;have wa1:IntKind.i64.wrap (s.r.next+(s.r.list.length:Int))=s.r.next+(s.r.list.length:Int):=IntWalk.i64_in _ om;have wa2:IntKind.i64.wrap (yaa d+1)=yaa d+1:=IntWalk.i64_in _ om;by_cases eo:s.r.out=true
      ·have HS:=hH (yaM (i:=0) e3 e4 hkd2 hd (fun j p h=>by omega) (.inl eo))
       rw[eo]at yd4;go_wp2_with fail
       obtain⟨X,hX,F,hF,B⟩:=zae w3;obtain⟨Z,a0,a1,a2⟩:=mx4 hF zw3z yz0 yz1 yz2 yz3;obtain⟨N,Q,R,U,Y,a3⟩:=mx6 hF zw3d yd0 yd1 yd2 yd3 yd4 yd5;have ce0:∀x,(F x).cell? ⟨b5,o5,none⟩=some (.string d.name):=fun x=>((hF x).cell (p:=⟨b5,o5,none⟩) z5).trans y0
       obtain⟨ce1,ce2,ce3,ce4⟩:=mx4 hF z5 y1 y2 y3 y4;have D:=hH hF;have n:=hH B;clear hF B;refine uaa (F:=F) (by kernel_rfl) (by kernel_rfl) (n.out _ blw) ?_
       repeat(go_big_quiet_step (fail))
       refine wpQuiet_nil ?_;intro x;obtain⟨w4,u⟩:∃wx:World,F x=wx:=⟨_,rfl⟩;have B4:Below w3 w3 w4:=by rw[<-u];exact D.out x
       rw[u];clear u Z a0 a1 a2 N Q R U Y a3 ce0 ce1 ce2 ce3 ce4 D n;have Q4:Below W W w4:=Q3.trans (B4.mono Q3.size);have s4:=Q4.size;go_wp2;go_roundw
       case rel=>exact⟨0+1,by omega,by go_num,yam (p:=hsI z) (k:=0) HX.out HS.out HJ.out,blw⟩
       case measure=>simp[intOf];omega
      have eo:s.r.out=false:=by simpa using eo
      rw[eo]at yd4;by_cases e6:s.r.next+s.r.list.length=yaa d+1
      ·have HS:=hH (yaM (i:=0) e3 e4 hkd2 hd (fun j p h=>by omega) (.inr e6))
       have e7:(s.r.next+(s.r.list.length:Int)==yaa d+1)=true:=by rw[beq_iff_eq];exact e6
       go_wp2_with fail
       obtain⟨X,hX,F,hF,B⟩:=zae w3;obtain⟨Z,a0,a1,a2⟩:=mx4 hF zw3z yz0 yz1 yz2 yz3;obtain⟨N,Q,R,U,Y,a3⟩:=mx6 hF zw3d yd0 yd1 yd2 yd3 yd4 yd5;have ce0:∀x,(F x).cell? ⟨b5,o5,none⟩=some (.string d.name):=fun x=>((hF x).cell (p:=⟨b5,o5,none⟩) z5).trans y0
       obtain⟨ce1,ce2,ce3,ce4⟩:=mx4 hF z5 y1 y2 y3 y4;have D:=hH hF;have n:=hH B;clear hF B;have Hh:=hH (fun(J:World) (hb:Below w3 w3 J)=>(k_5.out d _ _ _ J (HR5.out.below hb) om om:Calls Tryz.prog _ #[.agg #[d.name,d.from_,.slice at_ d.text.length ct,.slice al5 d.list.length cl5,.slice as_ d.seen.length cs_]] J (yae J (.int .i64 (yaa d)))))
       refine uaa (F:=F) (by kernel_rfl) (by kernel_rfl) (n.out _ blw) ?_
       repeat(go_big_quiet_step (((first|go_at_call 100|go_at_call 30);(with_reducible exact Calls.fam_tells D.out n.out (Hh.out _ (D.out _))))))
       refine wpQuiet_nil ?_;intro x;obtain⟨w4,u⟩:∃wx:World,F x=wx:=⟨_,rfl⟩;have B4:Below w3 w3 w4:=by rw[<-u];exact D.out x
       rw[u];clear u Z a0 a1 a2 N Q R U Y a3 ce0 ce1 ce2 ce3 ce4 D n Hh;have Q4:Below W W w4:=Q3.trans (B4.mono Q3.size);have s4:=Q4.size;go_wp2;go_roundw
       case rel=>exact⟨0+1,by omega,by go_num,yam (p:=hsI z) (k:=0) HX.out HS.out HJ.out,blw⟩
       case measure=>simp[intOf];omega
      ·have HV:=hH (Xan HX.out (Qba (i:=0) hkd2 hd eo e6));have e7:(s.r.next+(s.r.list.length:Int)==yaa d+1)=false:=by rw[beq_eq_false_iff_ne];exact e6
       go_wp2_with fail
       obtain⟨X,hX,F,hF,B⟩:=zae w3;obtain⟨Z,a0,a1,a2⟩:=mx4 hF zw3z yz0 yz1 yz2 yz3;obtain⟨N,Q,R,U,Y,a3⟩:=mx6 hF zw3d yd0 yd1 yd2 yd3 yd4 yd5;have ce0:∀x,(F x).cell? ⟨b5,o5,none⟩=some (.string d.name):=fun x=>((hF x).cell (p:=⟨b5,o5,none⟩) z5).trans y0
       obtain⟨ce1,ce2,ce3,ce4⟩:=mx4 hF z5 y1 y2 y3 y4;have D:=hH hF;have n:=hH B;clear hF B;have Hh:=hH (fun(J:World) (hb:Below w3 w3 J)=>(k_5.out d _ _ _ J (HR5.out.below hb) om om:Calls Tryz.prog _ #[.agg #[d.name,d.from_,.slice at_ d.text.length ct,.slice al5 d.list.length cl5,.slice as_ d.seen.length cs_]] J (yae J (.int .i64 (yaa d)))))
       refine uaa (F:=F) (by kernel_rfl) (by kernel_rfl) (n.out _ blw) ?_
       repeat(go_big_quiet_step (((first|go_at_call 100|go_at_call 30);(with_reducible exact Calls.fam_tells D.out n.out (Hh.out _ (D.out _))))))
       refine wpQuiet_nil ?_;intro x;obtain⟨w4,u⟩:∃wx:World,F x=wx:=⟨_,rfl⟩;have B4:Below w3 w3 w4:=by rw[<-u];exact D.out x
       rw[u];clear u Z a0 a1 a2 N Q R U Y a3 ce0 ce1 ce2 ce3 ce4 D n Hh;have Q4:Below W W w4:=Q3.trans (B4.mono Q3.size);have s4:=Q4.size;go_wp2;go_ret;exact⟨jaa HV.out.symm,blw⟩
     ·
      obtain⟨p,hp⟩:=Jaa (l:=z.subs) (k:=j) om;obtain⟨b0,o0,cs0,j1,j2,j3⟩:=HXSq.out.idx Tryz.underlying24 ual j hp;obtain⟨p_list,rfl,_,_⟩:=xap j3;have c0:=j2.zero;have zq:=lk (w:=wr) (a:=⟨b0,o0,none⟩) c0;have zp:b0<V.heap.size:=lq zq I.size;have kp:V.cell? ⟨b0,o0,none⟩=some (.int .i64 p.id):=(I.cell (p:=⟨b0,o0,none⟩) zq).trans c0;have hi0:decide ((0:Int)<(j:Int)+1)=true:=by rw[decide_eq_true_eq];omega
      have hj0:IntKind.i64.wrap (j:Int)=(j:Int):=IntWalk.i64_in _ om;have hj1:IntKind.i64.wrap ((j:Int)+1-1)=(j:Int):=by rw[show(j:Int)+1-1=j by omega];exact hj0
      have HP:=hH hp;clear hp j2 j3 c0;by_cases e8:p.id<s.id
      rotate_left;first
      |have:Unit:=k_0
       clear this
       ·have HV:=hH (Xan HX.out (yba HP.out e8));have hpc:decide (s.id<=p.id)=true:=by rw[decide_eq_true_eq];omega
        go_wp2_with fail
        obtain⟨X,hX,F,hF,B⟩:=zae V;obtain⟨Z,a0,a1,a2⟩:=mx4 hF zvz kvz0 kvz1 kvz2 kvz3;obtain⟨N,Q,R,U,Y,a3⟩:=mx6 hF zvd kvd0 kvd1 kvd2 kvd3 kvd4 kvd5;have cp0:∀x,(F x).cell? ⟨b0,o0,none⟩=some (.int .i64 p.id):=fun x=>((hF x).cell (p:=⟨b0,o0,none⟩) zp).trans kp
        have D:=hH hF;have n:=hH B;clear hF B;have Hi:=hH (fun(J:World) (hb:Below V V J)=>tb (Zaa s.id 1 z.last J) e3)
        have Hr:=hH (fun(J:World) (hb:Below V V J)=>tb (uad s.r _ J (HRL.out.below (I.trans (hb.mono I.size)))) e4)
        refine uaa (F:=F) (by kernel_rfl) (by kernel_rfl) (n.out _ blw) ?_
        repeat(go_big_quiet_step (((first|(go_at_call 106;(with_reducible exact Calls.fam_tells D.out n.out (Hi.out _ (D.out _))))|(go_at_call 123;(with_reducible exact Calls.fam_tells D.out n.out (Hr.out _ (D.out _))))))))
        refine wpQuiet_nil ?_;intro x;obtain⟨w3,u⟩:∃wx:World,F x=wx:=⟨_,rfl⟩;have B3:Below V V w3:=by rw[<-u];exact D.out x
        rw[u];clear u Z a0 a1 a2 N Q R U Y a3 cp0 D n Hi Hr;have s3:=B3.size;have Q3:Below W W w3:=hVB.trans (B3.mono sV);go_wp2;go_ret;exact⟨jaa HV.out.symm,blw⟩
      |skip
       ·have HV:=hH (Xan HX.out (yba HP.out e8));have hpc:decide (s.id<=p.id)=true:=by rw[decide_eq_true_eq];omega
        go_wp2_with fail
        obtain⟨X,hX,F,hF,B⟩:=zae V;obtain⟨Z,a0,a1,a2⟩:=mx4 hF zvz kvz0 kvz1 kvz2 kvz3;obtain⟨N,Q,R,U,Y,a3⟩:=mx6 hF zvd kvd0 kvd1 kvd2 kvd3 kvd4 kvd5;have cp0:∀x,(F x).cell? ⟨b0,o0,none⟩=some (.int .i64 p.id):=fun x=>((hF x).cell (p:=⟨b0,o0,none⟩) zp).trans kp
        have D:=hH hF;have n:=hH B;clear hF B;have Hi:=hH (fun(J:World) (hb:Below V V J)=>tb (vaa s.id 1 z.last J) e3)
        refine uaa (F:=F) (by kernel_rfl) (by kernel_rfl) (n.out _ blw) ?_
        repeat(go_big_quiet_step ((go_at_call 26;(with_reducible exact Calls.fam_tells D.out n.out (Hi.out _ (D.out _))))))
        refine wpQuiet_nil ?_;intro x;obtain⟨w3,u⟩:∃wx:World,F x=wx:=⟨_,rfl⟩;have B3:Below V V w3:=by rw[<-u];exact D.out x
        rw[u];clear u Z a0 a1 a2 N Q R U Y a3 cp0 D n Hi;have s3:=B3.size;have Q3:Below W W w3:=hVB.trans (B3.mono sV);go_wp2;go_ret;exact⟨jaa HV.out.symm,blw⟩
       have HORD:Hid (∀i q,j+1=i+1->z.subs[i]? =some q->q.id<s.id):=hH (by
        intro i q h hq;obtain rfl:i=j:=om;rw[HP.out]at hq;cases hq;exact e8)
       have hpc:decide (s.id<=p.id)=false:=by rw[decide_eq_false_iff_not];omega
       have hpc2:¬s.id<=p.id:=om;by_cases e4:uac s.r=true
       rotate_left
       ·have e4:uac s.r=false:=by simpa using e4
        have HV:=hH (Xan HX.out (ya1 e4));go_wp2_with fail
        obtain⟨X,hX,F,hF,B⟩:=zae V;obtain⟨Z,a0,a1,a2⟩:=mx4 hF zvz kvz0 kvz1 kvz2 kvz3;obtain⟨N,Q,R,U,Y,a3⟩:=mx6 hF zvd kvd0 kvd1 kvd2 kvd3 kvd4 kvd5;have cp0:∀x,(F x).cell? ⟨b0,o0,none⟩=some (.int .i64 p.id):=fun x=>((hF x).cell (p:=⟨b0,o0,none⟩) zp).trans kp
        have D:=hH hF;have n:=hH B;clear hF B;have Hi:=hH (fun(J:World) (hb:Below V V J)=>tb (vaa s.id 1 z.last J) e3)
        have Hr:=hH (fun(J:World) (hb:Below V V J)=>tb (qad s.r _ J (HRL.out.below (I.trans (hb.mono I.size)))) e4)
        refine uaa (F:=F) (by kernel_rfl) (by kernel_rfl) (n.out _ blw) ?_
        repeat(go_big_quiet_step (((first|(go_at_call 26;(with_reducible exact Calls.fam_tells D.out n.out (Hi.out _ (D.out _))))|(go_at_call 29;(with_reducible exact Calls.fam_tells D.out n.out (Hr.out _ (D.out _))))))))
        refine wpQuiet_nil ?_;intro x;obtain⟨w3,u⟩:∃wx:World,F x=wx:=⟨_,rfl⟩;have B3:Below V V w3:=by rw[<-u];exact D.out x
        rw[u];clear u Z a0 a1 a2 N Q R U Y a3 cp0 D n Hi Hr;have s3:=B3.size;have Q3:Below W W w3:=hVB.trans (B3.mono sV);go_wp2;go_ret;exact⟨jaa HV.out.symm,blw⟩
      first
      |have:Unit:=k_0
       clear this;have HORD:Hid (∀i q,j+1=i+1->z.subs[i]? =some q->q.id<s.id):=hH (by
        intro i q h hq;obtain rfl:i=j:=om;rw[HP.out]at hq;cases hq;exact e8)
       have hpc:decide (s.id<=p.id)=false:=by rw[decide_eq_false_iff_not];omega
       have hpc2:¬s.id<=p.id:=om
      |by_cases e5:K<0
       ·have HV:=hH (Xan HX.out (Qa2 (by rw[hkd];exact e5)))
        have e5d:decide (K<0)=true:=decide_eq_true e5;go_wp2_with fail
        obtain⟨X,hX,F,hF,B⟩:=zae V;obtain⟨Z,a0,a1,a2⟩:=mx4 hF zvz kvz0 kvz1 kvz2 kvz3;obtain⟨N,Q,R,U,Y,a3⟩:=mx6 hF zvd kvd0 kvd1 kvd2 kvd3 kvd4 kvd5;have cp0:∀x,(F x).cell? ⟨b0,o0,none⟩=some (.int .i64 p.id):=fun x=>((hF x).cell (p:=⟨b0,o0,none⟩) zp).trans kp
        have D:=hH hF;have n:=hH B;clear hF B;have Hi:=hH (fun(J:World) (hb:Below V V J)=>tb (vaa s.id 1 z.last J) e3)
        have Hr:=hH (fun(J:World) (hb:Below V V J)=>tb (qad s.r _ J (HRL.out.below (I.trans (hb.mono I.size)))) e4)
        refine uaa (F:=F) (by kernel_rfl) (by kernel_rfl) (n.out _ blw) ?_
        repeat(go_big_quiet_step (((first|(go_at_call 26;(with_reducible exact Calls.fam_tells D.out n.out (Hi.out _ (D.out _))))|(go_at_call 29;(with_reducible exact Calls.fam_tells D.out n.out (Hr.out _ (D.out _))))))))
        refine wpQuiet_nil ?_;intro x;obtain⟨w3,u⟩:∃wx:World,F x=wx:=⟨_,rfl⟩;have B3:Below V V w3:=by rw[<-u];exact D.out x
        rw[u];clear u Z a0 a1 a2 N Q R U Y a3 cp0 D n Hi Hr;have s3:=B3.size;have Q3:Below W W w3:=hVB.trans (B3.mono sV);go_wp2;go_ret;exact⟨jaa HV.out.symm,blw⟩
       have e5d:decide (K<0)=false:=decide_eq_false e5
      go_wp2_with fail
      obtain⟨X,hX,F,hF,B⟩:=zae V;obtain⟨Z,a0,a1,a2⟩:=mx4 hF zvz kvz0 kvz1 kvz2 kvz3;obtain⟨N,Q,R,U,Y,a3⟩:=mx6 hF zvd kvd0 kvd1 kvd2 kvd3 kvd4 kvd5;have cp0:∀x,(F x).cell? ⟨b0,o0,none⟩=some (.int .i64 p.id):=fun x=>((hF x).cell (p:=⟨b0,o0,none⟩) zp).trans kp
      have D:=hH hF;have n:=hH B;clear hF B;have Hi:=hH (fun(J:World) (hb:Below V V J)=>tb (k_1.out s.id 1 z.last J) e3)
      have Hr:=hH (fun(J:World) (hb:Below V V J)=>tb (k_4.out s.r _ J (HRL.out.below (I.trans (hb.mono I.size)))) e4)
      refine uaa (F:=F) (by kernel_rfl) (by kernel_rfl) (n.out _ blw) ?_
      repeat(go_big_quiet_step (((first|((first|go_at_call 106|go_at_call 26);(with_reducible exact Calls.fam_tells D.out n.out (Hi.out _ (D.out _))))|((first|go_at_call 123|go_at_call 29);(with_reducible exact Calls.fam_tells D.out n.out (Hr.out _ (D.out _))))))))
      refine wpQuiet_nil ?_;intro x;obtain⟨w3,u⟩:∃wx:World,F x=wx:=⟨_,rfl⟩;have B3:Below V V w3:=by rw[<-u];exact D.out x
      rw[u];clear u Z a0 a1 a2 N Q R U Y a3 cp0 D n Hi Hr;have s3:=B3.size;have Q3:Below W W w3:=hVB.trans (B3.mono sV);obtain⟨K2,d,hkd2,hd⟩:=qan (h:=z) (s:=s.doc) (by rw[hkd];omega)
      obtain rfl:K=(K2:Int):=by rw[<-hkd];exact hkd2
      have hda:=uav.1 (uav.2 fun j y hy=>HD.out j (lg.1 hy).1 y hy) K2 d hd
      have hdd:Qad d=true:=by simp only[hdI,Bool.and_eq_true]at hda;exact hda.1
      have hbd:=yaf hdd;have hrg:=kaj e4;have hk2:K2<z.docs.length:=(lg.1 hd).1;obtain⟨b5,o5,cs5,i1,i2,i3⟩:=HXDq.out.idx Tryz.underlying23 uag K2 hd;obtain⟨d_text,d_list,d_seen,rfl,nd,r_text,M,r_seen⟩:=Kai i3;have x0:=i2.zero;have x1:=i2 1 _ rfl;have x2:=i2 2 _ rfl;have x3:=i2 3 _ rfl;have x4:=i2 4 _ rfl;have zx:=lk (w:=wr) (a:=⟨b5,o5,none⟩) x0;have z5:b5<w3.heap.size:=lq zx (Nat.le_trans I.size s3);have R3:Below wr wr w3:=I.trans (B3.mono I.size);have y0:=(R3.cell (p:=⟨b5,o5,none⟩) zx).trans x0;obtain⟨y1,y2,y3,y4⟩:=mv4 R3 zx x1 x2 x3 x4;obtain⟨yz0,yz1,yz2,yz3⟩:=mv4 Q3 zz kz0 kz1 kz2 kz3;obtain⟨yd0,yd1,yd2,yd3,yd4,yd5⟩:=mv6 B3 zvd kvd0 kvd1 kvd2 kvd3 kvd4 kvd5;have zw3z:w<w3.heap.size:=om;have zw3d:wr<w3.heap.size:=om;obtain⟨at_,ct,rfl⟩:=r_text.isSlice
      obtain⟨al5,cl5,rfl⟩:=M.isSlice;obtain⟨as_,cs_,rfl⟩:=r_seen.isSlice;have HR5:=hH (M.below R3);clear r_text M r_seen i2 i3 x0 x1 x2 x3 x4 hda;have wa1:IntKind.i64.wrap (s.r.next+(s.r.list.length:Int))=s.r.next+(s.r.list.length:Int):=IntWalk.i64_in _ om;have wa2:IntKind.i64.wrap (yaa d+1)=yaa d+1:=IntWalk.i64_in _ om;by_cases eo:s.r.out=true
      ·have HS:=hH (yaM (i:=(j+1)) e3 e4 hkd2 hd HORD.out (.inl eo));rw[eo]at yd4;go_wp2_with fail
       obtain⟨X,hX,F,hF,B⟩:=zae w3;obtain⟨Z,a0,a1,a2⟩:=mx4 hF zw3z yz0 yz1 yz2 yz3;obtain⟨N,Q,R,U,Y,a3⟩:=mx6 hF zw3d yd0 yd1 yd2 yd3 yd4 yd5;have ce0:∀x,(F x).cell? ⟨b5,o5,none⟩=some (.string d.name):=fun x=>((hF x).cell (p:=⟨b5,o5,none⟩) z5).trans y0
       obtain⟨ce1,ce2,ce3,ce4⟩:=mx4 hF z5 y1 y2 y3 y4;have D:=hH hF;have n:=hH B;clear hF B;refine uaa (F:=F) (by kernel_rfl) (by kernel_rfl) (n.out _ blw) ?_
       repeat(go_big_quiet_step (fail))
       refine wpQuiet_nil ?_;intro x;obtain⟨w4,u⟩:∃wx:World,F x=wx:=⟨_,rfl⟩;have B4:Below w3 w3 w4:=by rw[<-u];exact D.out x
       rw[u];clear u Z a0 a1 a2 N Q R U Y a3 ce0 ce1 ce2 ce3 ce4 D n;have Q4:Below W W w4:=Q3.trans (B4.mono Q3.size);have s4:=Q4.size;go_wp2;go_roundw
       case rel=>exact⟨(j+1)+1,by omega,by go_num,yam (p:=hsI z) (k:=(j+1)) HX.out HS.out HJ.out,blw⟩
       case measure=>simp[intOf];omega
      have eo:s.r.out=false:=by simpa using eo
      rw[eo]at yd4;by_cases e6:s.r.next+s.r.list.length=yaa d+1
      ·have HS:=hH (yaM (i:=(j+1)) e3 e4 hkd2 hd HORD.out (.inr e6));have e7:(s.r.next+(s.r.list.length:Int)==yaa d+1)=true:=by rw[beq_iff_eq];exact e6
       go_wp2_with fail
       obtain⟨X,hX,F,hF,B⟩:=zae w3;obtain⟨Z,a0,a1,a2⟩:=mx4 hF zw3z yz0 yz1 yz2 yz3;obtain⟨N,Q,R,U,Y,a3⟩:=mx6 hF zw3d yd0 yd1 yd2 yd3 yd4 yd5;have ce0:∀x,(F x).cell? ⟨b5,o5,none⟩=some (.string d.name):=fun x=>((hF x).cell (p:=⟨b5,o5,none⟩) z5).trans y0
       obtain⟨ce1,ce2,ce3,ce4⟩:=mx4 hF z5 y1 y2 y3 y4;have D:=hH hF;have n:=hH B;clear hF B;have Hh:=hH (fun(J:World) (hb:Below w3 w3 J)=>(k_5.out d _ _ _ J (HR5.out.below hb) om om:Calls Tryz.prog _ #[.agg #[d.name,d.from_,.slice at_ d.text.length ct,.slice al5 d.list.length cl5,.slice as_ d.seen.length cs_]] J (yae J (.int .i64 (yaa d)))))
       refine uaa (F:=F) (by kernel_rfl) (by kernel_rfl) (n.out _ blw) ?_
       repeat(go_big_quiet_step (((first|go_at_call 100|go_at_call 30);(with_reducible exact Calls.fam_tells D.out n.out (Hh.out _ (D.out _))))))
       refine wpQuiet_nil ?_;intro x;obtain⟨w4,u⟩:∃wx:World,F x=wx:=⟨_,rfl⟩;have B4:Below w3 w3 w4:=by rw[<-u];exact D.out x
       rw[u];clear u Z a0 a1 a2 N Q R U Y a3 ce0 ce1 ce2 ce3 ce4 D n Hh;have Q4:Below W W w4:=Q3.trans (B4.mono Q3.size);have s4:=Q4.size;go_wp2;go_roundw
       case rel=>exact⟨(j+1)+1,by omega,by go_num,yam (p:=hsI z) (k:=(j+1)) HX.out HS.out HJ.out,blw⟩
       case measure=>simp[intOf];omega
      ·have HV:=hH (Xan HX.out (Qba (i:=(j+1)) hkd2 hd eo e6));have e7:(s.r.next+(s.r.list.length:Int)==yaa d+1)=false:=by rw[beq_eq_false_iff_ne];exact e6
       go_wp2_with fail
       obtain⟨X,hX,F,hF,B⟩:=zae w3;obtain⟨Z,a0,a1,a2⟩:=mx4 hF zw3z yz0 yz1 yz2 yz3;obtain⟨N,Q,R,U,Y,a3⟩:=mx6 hF zw3d yd0 yd1 yd2 yd3 yd4 yd5;have ce0:∀x,(F x).cell? ⟨b5,o5,none⟩=some (.string d.name):=fun x=>((hF x).cell (p:=⟨b5,o5,none⟩) z5).trans y0
       obtain⟨ce1,ce2,ce3,ce4⟩:=mx4 hF z5 y1 y2 y3 y4;have D:=hH hF;have n:=hH B;clear hF B;have Hh:=hH (fun(J:World) (hb:Below w3 w3 J)=>(k_5.out d _ _ _ J (HR5.out.below hb) om om:Calls Tryz.prog _ #[.agg #[d.name,d.from_,.slice at_ d.text.length ct,.slice al5 d.list.length cl5,.slice as_ d.seen.length cs_]] J (yae J (.int .i64 (yaa d)))))
       refine uaa (F:=F) (by kernel_rfl) (by kernel_rfl) (n.out _ blw) ?_
       repeat(go_big_quiet_step (((first|go_at_call 100|go_at_call 30);(with_reducible exact Calls.fam_tells D.out n.out (Hh.out _ (D.out _))))))
       refine wpQuiet_nil ?_;intro x;obtain⟨w4,u⟩:∃wx:World,F x=wx:=⟨_,rfl⟩;have B4:Below w3 w3 w4:=by rw[<-u];exact D.out x
       rw[u];clear u Z a0 a1 a2 N Q R U Y a3 ce0 ce1 ce2 ce3 ce4 D n Hh;have Q4:Below W W w4:=Q3.trans (B4.mono Q3.size);have s4:=Q4.size;go_wp2;go_ret;exact⟨jaa HV.out.symm,blw⟩
def yal:=@ZaZ 90 (.inl rfl)
def uah:=@ZaZ 9 (.inr rfl)
