/- Documents: their operations since a revision, new ones, what is forgotten, who wrote. -/
import Derived.Test.YtocdogemgojgaaaGreatDfn
import Derived.Test.YtocdogemgojgaaaGreatWri
set_option maxHeartbeats 16000000
set_option maxRecDepth 100000
namespace Go.Proofs.YtocdogemgojgaaaGreat
open Go.RowKit
attribute [local go_sem ↓] Go.wp_at_zero Go.wp_at_succ
theorem spec_OpsSince_c (d:DDoc)(n p j:Value)(rev:Int)(w:World)(N:d.name.size<=BIG)(Y:RdS w n d.text)(M:RdS w p d.list)(U:RdS w j d.seen):Calls Tryz.prog 207 #[.agg #[.string d.name,.int .i64 d.from_,n,p,j],.int .i64 rev] w (Out_PartSS_b w (opsSince d rev).1 (opsSince d rev).2):=by
 obtain⟨W,hW⟩:∃W:World,W=w.alloc (.cells #[.string d.name,.int .i64 d.from_,n,p,j] 99):=⟨_,rfl⟩;have hWB:Below w.heap.size w W:=by rw[hW];exact blw
 have sW:=hWB.size;have zd:w.heap.size<W.heap.size:=by rw[hW];first|(simp;done)|(simp;omega)
 have kd0:W.cell? ⟨w.heap.size,0,none⟩=some (.string d.name):=by rw[hW];simp[go_sem]
 have kd1:W.cell? ⟨w.heap.size,1,none⟩=some (.int .i64 d.from_):=by rw[hW];simp[go_sem]
 have kd2:W.cell? ⟨w.heap.size,2,none⟩=some (n):=by rw[hW];simp[go_sem]
 have kd3:W.cell? ⟨w.heap.size,3,none⟩=some (p):=by rw[hW];simp[go_sem]
 have kd4:W.cell? ⟨w.heap.size,4,none⟩=some (j):=by rw[hW];simp[go_sem]
 have HXT:=hH (Y.below hWB);have Z:=hH (M.below hWB);have HXS:=hH (U.below hWB);have hll:=fun w1 ty=>M.len Tryz.underlying34 w1 ty
 clear Y M U;by_cases hd:docOk d=true
 rotate_left
 ·have hd:docOk d=false:=by simpa using hd
  have HV:=hH (opsSince_no (rev:=rev) (d:=d) (fun h=>by have h1:=h.1;rw[hd]at h1;cases h1))
  go_enter Tryz.func207,Tryz.ntmps207
  go_wp2;rw[<-hW];clear hW;obtain⟨X,hX,F,hF,Q⟩:=fam_of W;obtain⟨cd0,cd1,cd2,cd3,cd4⟩:=mx5 hF zd kd0 kd1 kd2 kd3 kd4;have J:=hH hF;have D:=hH Q;clear hF Q;have HD:=hH (fun(B:World) (hb:Below W.heap.size W B)=>(by have:=spec_DocOk_c d _ _ _ B N (HXT.out.below hb) (Z.out.below hb) (HXS.out.below hb);rw[hd]at this;exact this:Calls Tryz.prog 145 #[.agg #[.string d.name,.int .i64 d.from_,n,p,j]] B (Tells B (.bool false))))
  refine wp_region_fam (F:=F) (by kernel_rfl) (by kernel_rfl) (D.out _ blw) ?_
  repeat(go_big_quiet_step ((go_at_call 145;(with_reducible exact Calls.fam_tells J.out D.out (HD.out _ (J.out _))))))
  refine wpQuiet_nil ?_;intro x;obtain⟨w1,I⟩:∃wx:World,F x=wx:=⟨_,rfl⟩;have B1:Below W.heap.size W w1:=by rw[<-I];exact J.out x
  rw[I];clear I cd0 cd1 cd2 cd3 cd4 J D HD;have s1:=B1.size;have z1d:w.heap.size<w1.heap.size:=lq zd s1;obtain⟨y1d0,y1d1,y1d2,y1d3,y1d4⟩:=mv5 B1 zd kd0 kd1 kd2 kd3 kd4;go_wp2;go_ret2
  rw[HV.out];exact⟨_,_,rfl,Sl.nil,Fresh.nil _ _,blw⟩
 have hbd:=headRev_bd hd;by_cases hr:atRev d rev
 rotate_left
 ·
  have HV:=hH (opsSince_no hr);have hw0:within rev d.from_ (headRev d)=false:=by rw[within_rev hd];simpa using hr
  go_enter Tryz.func207,Tryz.ntmps207
  go_wp2;rw[<-hW];clear hW;obtain⟨X,hX,F,hF,Q⟩:=fam_of W;obtain⟨cd0,cd1,cd2,cd3,cd4⟩:=mx5 hF zd kd0 kd1 kd2 kd3 kd4;have J:=hH hF;have D:=hH Q;clear hF Q;have HD:=hH (fun(B:World) (hb:Below W.heap.size W B)=>(by have:=spec_DocOk_c d _ _ _ B N (HXT.out.below hb) (Z.out.below hb) (HXS.out.below hb);rw[hd]at this;exact this:Calls Tryz.prog 145 #[.agg #[.string d.name,.int .i64 d.from_,n,p,j]] B (Tells B (.bool true))))
  have HH:=hH (fun(B:World) (hb:Below W.heap.size W B)=>(by have:=spec_HeadRev_c d n _ j B (Z.out.below hb) (by omega) (by omega);exact this:Calls Tryz.prog 105 #[.agg #[.string d.name,.int .i64 d.from_,n,p,j]] B (Tells B (.int .i64 (headRev d)))))
  have HI:=hH (fun(B:World) (hb:Below W.heap.size W B)=>(by have:=spec_within_c rev d.from_ (headRev d) B;rw[hw0]at this;exact this:Calls Tryz.prog 144 #[.int .i64 rev,.int .i64 d.from_,.int .i64 (headRev d)] B (Tells B (.bool false))))
  refine wp_region_fam (F:=F) (by kernel_rfl) (by kernel_rfl) (D.out _ blw) ?_
  repeat(go_big_quiet_step ((first|(go_at_call 145;(with_reducible exact Calls.fam_tells J.out D.out (HD.out _ (J.out _))))|(go_at_call 105;(with_reducible exact Calls.fam_tells J.out D.out (HH.out _ (J.out _))))|(go_at_call 144;(with_reducible exact Calls.fam_tells J.out D.out (HI.out _ (J.out _)))))))
  refine wpQuiet_nil ?_;intro x;obtain⟨w1,I⟩:∃wx:World,F x=wx:=⟨_,rfl⟩;have B1:Below W.heap.size W w1:=by rw[<-I];exact J.out x
  rw[I];clear I cd0 cd1 cd2 cd3 cd4 J D HD HH HI;have s1:=B1.size;have z1d:w.heap.size<w1.heap.size:=lq zd s1;obtain⟨y1d0,y1d1,y1d2,y1d3,y1d4⟩:=mv5 B1 zd kd0 kd1 kd2 kd3 kd4;go_wp2;go_ret2
  rw[HV.out];exact⟨_,_,rfl,Sl.nil,Fresh.nil _ _,blw⟩
 have hw0:within rev d.from_ (headRev d)=true:=by rw[within_rev hd];simpa using hr
 have hp:=docOk_iff.1 hd;have hl8:=hp.len;have ht2:=hp.tlen;have hsz:=hp.sz;have HP:=hH hp;clear hp;obtain⟨K,hK,hrev,hkk⟩:=atRev_split hr;have hval:=opsSince_yes hr;rw[hkk]at hval;have HV:=hH hval;obtain⟨vc,hcut,hcr⟩:=Z.out.cutl Tryz.underlying34 szi_DEntry hK;have HCR:=hH hcr;have hlc:=fun w1 ty=>hcr.len Tryz.underlying34 w1 ty
 have hszc:szL (d.list.drop K)<=4000000:=Nat.le_trans (szL_drop _ _) (by omega)
 clear hkk hcr hval;subst hrev;obtain⟨i0,hi,hz0,hz1,hz2⟩:=info_parts info_ops;have hlen8:(d.list.drop K).length<=8:=by simp;omega
 generalize d.list.drop K=L at *;go_enter Tryz.func207,Tryz.ntmps207
 go_wp2;rw[<-hW];clear hW;obtain⟨X,hX,F,hF,Q⟩:=fam_of W;obtain⟨cd0,cd1,cd2,cd3,cd4⟩:=mx5 hF zd kd0 kd1 kd2 kd3 kd4;have J:=hH hF;have D:=hH Q;clear hF Q;have HD:=hH (fun(B:World) (hb:Below W.heap.size W B)=>(by have:=spec_DocOk_c d _ _ _ B N (HXT.out.below hb) (Z.out.below hb) (HXS.out.below hb);rw[hd]at this;exact this:Calls Tryz.prog 145 #[.agg #[.string d.name,.int .i64 d.from_,n,p,j]] B (Tells B (.bool true))))
 have HH:=hH (fun(B:World) (hb:Below W.heap.size W B)=>(by have:=spec_HeadRev_c d n _ j B (Z.out.below hb) (by omega) (by omega);exact this:Calls Tryz.prog 105 #[.agg #[.string d.name,.int .i64 d.from_,n,p,j]] B (Tells B (.int .i64 (headRev d)))))
 have HI:=hH (fun(B:World) (hb:Below W.heap.size W B)=>(by have:=spec_within_c (d.from_+(K:Int)) d.from_ (headRev d) B;rw[hw0]at this;exact this:Calls Tryz.prog 144 #[.int .i64 (d.from_+(K:Int)),.int .i64 d.from_,.int .i64 (headRev d)] B (Tells B (.bool true))))
 refine wp_region_fam (F:=F) (by kernel_rfl) (by kernel_rfl) (D.out _ blw) ?_
 repeat(go_big_quiet_step ((first|(go_at_call 145;(with_reducible exact Calls.fam_tells J.out D.out (HD.out _ (J.out _))))|(go_at_call 105;(with_reducible exact Calls.fam_tells J.out D.out (HH.out _ (J.out _))))|(go_at_call 144;(with_reducible exact Calls.fam_tells J.out D.out (HI.out _ (J.out _)))))))
 refine wpQuiet_nil ?_;intro x;obtain⟨w1,I⟩:∃wx:World,F x=wx:=⟨_,rfl⟩;have B1:Below W.heap.size W w1:=by rw[<-I];exact J.out x
 rw[I];clear I cd0 cd1 cd2 cd3 cd4 J D HD HH HI;have s1:=B1.size;have z1d:w.heap.size<w1.heap.size:=lq zd s1;obtain⟨y1d0,y1d1,y1d2,y1d3,y1d4⟩:=mv5 B1 zd kd0 kd1 kd2 kd3 kd4;have hs0:d.from_+(K:Int)-d.from_=(K:Int):=by omega
 have hs1:IntKind.i64.wrap (d.from_+(K:Int)-d.from_)=(K:Int):=by rw[hs0];exact IntWalk.i64_in _ (by omega)
 have hs2:IntKind.i64.wrap (K:Int)=(K:Int):=IntWalk.i64_in _ (by omega)
 go_wp2;clear hs0 hs1 hs2;have H2:Hid (∀e∈L,szL e.o<=4000000):=hH fun e he=>by have:=szL_mem he;simp only[GoS.sz]at this;omega
 go_loopw [6,30] (fun z i wr=>∃(k:Nat) (u:Value),u=z/\k<=L.length/\i= .int .i64 k/\OwnS W.heap.size wr u ((opsL L).take k)/\Below W.heap.size W wr) (fun _ i _=>L.length-(intOf i).toNat)
 case atStart=>exact⟨0,_,rfl,lz _,rfl,OwnS.empty _ _ _,blw⟩
 case round=>
  obtain⟨k,u,rfl,hk,rfl,hu,hbr⟩:=hrel;have hsr:=hbr.size;by_cases hlt:k<L.length
  ·obtain⟨x1,hx⟩:=get_some hlt;obtain⟨b1,o1,cs,g1,g2,g3⟩:=(HCR.out.below hbr).idx Tryz.underlying34 szi_DEntry k hx;obtain⟨v_o,rfl,r_o⟩:=inv_DEntry g3;have q0:=g2.zero;have q1:=g2 1 _ rfl;have q2:=g2 2 _ rfl;obtain⟨aa,ca,rfl⟩:=r_o.isSlice;have HT:Hid ((opsL L).take (k+1)=(opsL L).take k++[x1.o]):=hH (take_snoc (opsL_get hx));have hps:=H2.out x1 (List.mem_of_getElem? hx);have hkl:((opsL L).take k).length<=8:=by simp[opsL];omega
   have HRO:=hH r_o;clear hx g2 g3 r_o;obtain⟨fs,hrow,hfs⟩:=hu.row;have R:=hH hrow;have HFS:=hH hfs;clear hrow hfs hu;go_wp2_with fail
   refine(spec_l02Copy_c _ x1.o _ (HRO.out.below blw) hps).mono ?_;rintro e w4 ⟨v4,rfl,ho,hb4⟩;obtain⟨f,hrd,hfr⟩:=ho;obtain⟨a4,c4,rfl⟩:=RdS.isSlice ⟨_,hrd⟩;have hb4':Below wr.heap.size wr w4:=(show Below wr.heap.size wr _ from blw).trans (hb4.mono om);have HB4:=hH hb4';have s4:=hb4'.size;have HFR:=hH (hfr.mono (B':=wr.heap.size) (by simp))
   have HSV:=hH hrd;clear hb4 hfr hrd;go_wp2_with (at_builtin;refine wpList_append_row rfl _ _ 164 rfl Tryz.underlying164 hi hz0 hz1 hz2 rfl rfl rfl ((R.out.below HB4.out).below ((lf _ _).alloc (lr _) _)) (src_built (x:=x1.o) 30 ⟨_,rfl,HSV.out⟩) (fun q hq hm=>by have e1:=HFR.out.ge q hq;have e2:=Live.lt (Live.append.1 R.out.1.live).1 q hm;omega) ?c1 ?c2 ?c3 ?_)
   case c1=>simp at hkl⊢;exact le_BIG (by omega)
   case c2=>simp at hkl⊢;omega
   case c3=>simp;omega
   intro v' w5 hr5 hw5 _;have HO:Hid (OwnS W.heap.size w5 v' ((opsL L).take (k+1))):=hH (by
    rw[HT.out];exact Row.grown R.out HFS.out (HB4.out.alloc (by omega) _) (HFR.out.belowL ((lf _ _).alloc (lr _) _) (Live.lt HSV.out.live)) (HSV.out.belowW ((lf _ _).alloc (lr _) _)).live hsr hr5 hw5)
   have HBX:Hid (Below W.heap.size W w5):=hH (hbr.trans (wrb (C:=W.heap.size) hw5 (HB4.out.alloc (by omega) _) hsr (fun q hq=>R.out.2.1.ge q hq)))
   clear hr5 hw5;go_wp2;go_roundw
   case rel=>exact⟨k+1,_,rfl,by omega,by go_num,HO.out,HBX.out⟩
   case measure=>simp[intOf];omega
  ·obtain rfl:k=L.length:=by omega
   rw[List.take_of_length_le (by simp[opsL])]at hu
   obtain⟨f,hs,hf⟩:=hu;go_wp2;go_ret2
   rw[HV.out];exact⟨_,_,rfl,hs,hf.mono (by omega),blw⟩
theorem impl_OpsSince_c (d:DDoc)(n p j:Value)(rev:Int)(w:World)(I:d.name.size<=BIG)(Z:RdS w n d.text)(D:RdS w p d.list)(Y:RdS w j d.seen):Calls Tryz.prog 214 #[.agg #[.string d.name,.int .i64 d.from_,n,p,j],.int .i64 rev] w (Out_PartSS_b w (opsSince d rev).1 (opsSince d rev).2):=by
 obtain⟨W,hW⟩:∃W:World,W=w.alloc (.cells #[.string d.name,.int .i64 d.from_,n,p,j] 99):=⟨_,rfl⟩;have hWB:Below w.heap.size w W:=by rw[hW];exact blw
 have sW:=hWB.size;have zd:w.heap.size<W.heap.size:=by rw[hW];first|(simp;done)|(simp;omega)
 have M:W.cell? ⟨w.heap.size,0,none⟩=some (.string d.name):=by rw[hW];simp[go_sem]
 have N:W.cell? ⟨w.heap.size,1,none⟩=some (.int .i64 d.from_):=by rw[hW];simp[go_sem]
 have Q:W.cell? ⟨w.heap.size,2,none⟩=some (n):=by rw[hW];simp[go_sem]
 have R:W.cell? ⟨w.heap.size,3,none⟩=some (p):=by rw[hW];simp[go_sem]
 have U:W.cell? ⟨w.heap.size,4,none⟩=some (j):=by rw[hW];simp[go_sem]
 have HXT:=hH (Z.below hWB);have a0:=hH (D.below hWB);have HXS:=hH (Y.below hWB);have hll:=fun w1 ty=>D.len Tryz.underlying34 w1 ty
 clear Z D Y;by_cases hd:docOk d=true
 rotate_left
 ·have hd:docOk d=false:=by simpa using hd
  have HV:=hH (opsSince_no (rev:=rev) (d:=d) (fun h=>by have h1:=h.1;rw[hd]at h1;cases h1))
  go_enter Tryz.func214,Tryz.ntmps214
  go_wp2;rw[<-hW];clear hW;obtain⟨X,hX,F,hF,J⟩:=fam_of W;obtain⟨cd0,cd1,cd2,cd3,cd4⟩:=mx5 hF zd M N Q R U;have B:=hH hF;have u:=hH J;clear hF J;have HD:=hH (fun(q:World) (hb:Below W.heap.size W q)=>(by have:=impl_DocOk_c d _ _ _ q I (HXT.out.below hb) (a0.out.below hb) (HXS.out.below hb);rw[hd]at this;exact this:Calls Tryz.prog 57 #[.agg #[.string d.name,.int .i64 d.from_,n,p,j]] q (Tells q (.bool false))))
  refine wp_region_fam (F:=F) (by kernel_rfl) (by kernel_rfl) (u.out _ blw) ?_
  repeat(go_big_quiet_step ((go_at_call 57;(with_reducible exact Calls.fam_tells B.out u.out (HD.out _ (B.out _))))))
  refine wpQuiet_nil ?_;intro x;obtain⟨w1,z⟩:∃wx:World,F x=wx:=⟨_,rfl⟩;have B1:Below W.heap.size W w1:=by rw[<-z];exact B.out x
  rw[z];clear z cd0 cd1 cd2 cd3 cd4 B u HD;have s1:=B1.size;have z1d:w.heap.size<w1.heap.size:=lq zd s1;obtain⟨y1d0,y1d1,y1d2,y1d3,y1d4⟩:=mv5 B1 zd M N Q R U;go_wp2;go_ret2
  rw[HV.out];exact⟨_,_,rfl,Sl.nil,Fresh.nil _ _,blw⟩
 have hbd:=headRev_bd hd;by_cases hr:atRev d rev
 rotate_left
 ·
  have HV:=hH (opsSince_no hr);have hw0:within rev d.from_ (headRev d)=false:=by rw[within_rev hd];simpa using hr
  go_enter Tryz.func214,Tryz.ntmps214
  go_wp2;rw[<-hW];clear hW;obtain⟨X,hX,F,hF,J⟩:=fam_of W;obtain⟨cd0,cd1,cd2,cd3,cd4⟩:=mx5 hF zd M N Q R U;have B:=hH hF;have u:=hH J;clear hF J;have HD:=hH (fun(q:World) (hb:Below W.heap.size W q)=>(by have:=impl_DocOk_c d _ _ _ q I (HXT.out.below hb) (a0.out.below hb) (HXS.out.below hb);rw[hd]at this;exact this:Calls Tryz.prog 57 #[.agg #[.string d.name,.int .i64 d.from_,n,p,j]] q (Tells q (.bool true))))
  have HH:=hH (fun(q:World) (hb:Below W.heap.size W q)=>(by have:=impl_HeadRev_c d n _ j q (a0.out.below hb) (by omega) (by omega);exact this:Calls Tryz.prog 60 #[.agg #[.string d.name,.int .i64 d.from_,n,p,j]] q (Tells q (.int .i64 (headRev d)))))
  have HI:=hH (fun(q:World) (hb:Below W.heap.size W q)=>(by have:=impl_within_c rev d.from_ (headRev d) q;rw[hw0]at this;exact this:Calls Tryz.prog 56 #[.int .i64 rev,.int .i64 d.from_,.int .i64 (headRev d)] q (Tells q (.bool false))))
  refine wp_region_fam (F:=F) (by kernel_rfl) (by kernel_rfl) (u.out _ blw) ?_
  repeat(go_big_quiet_step ((first|(go_at_call 57;(with_reducible exact Calls.fam_tells B.out u.out (HD.out _ (B.out _))))|(go_at_call 60;(with_reducible exact Calls.fam_tells B.out u.out (HH.out _ (B.out _))))|(go_at_call 56;(with_reducible exact Calls.fam_tells B.out u.out (HI.out _ (B.out _)))))))
  refine wpQuiet_nil ?_;intro x;obtain⟨w1,z⟩:∃wx:World,F x=wx:=⟨_,rfl⟩;have B1:Below W.heap.size W w1:=by rw[<-z];exact B.out x
  rw[z];clear z cd0 cd1 cd2 cd3 cd4 B u HD HH HI;have s1:=B1.size;have z1d:w.heap.size<w1.heap.size:=lq zd s1;obtain⟨y1d0,y1d1,y1d2,y1d3,y1d4⟩:=mv5 B1 zd M N Q R U;go_wp2;go_ret2
  rw[HV.out];exact⟨_,_,rfl,Sl.nil,Fresh.nil _ _,blw⟩
 have hw0:within rev d.from_ (headRev d)=true:=by rw[within_rev hd];simpa using hr
 have hp:=docOk_iff.1 hd;have hl8:=hp.len;have ht2:=hp.tlen;have hsz:=hp.sz;have HP:=hH hp;clear hp;obtain⟨K,hK,hrev,hkk⟩:=atRev_split hr;have hval:=opsSince_yes hr;rw[hkk]at hval;have HV:=hH hval;obtain⟨vc,hcut,hcr⟩:=a0.out.cutl Tryz.underlying34 szi_DEntry hK;have HCR:=hH hcr;have hlc:=fun w1 ty=>hcr.len Tryz.underlying34 w1 ty
 have hszc:szL (d.list.drop K)<=4000000:=Nat.le_trans (szL_drop _ _) (by omega)
 clear hkk hcr hval;subst hrev;go_enter Tryz.func214,Tryz.ntmps214
 go_wp2;rw[<-hW];clear hW;obtain⟨X,hX,F,hF,J⟩:=fam_of W;obtain⟨cd0,cd1,cd2,cd3,cd4⟩:=mx5 hF zd M N Q R U;have B:=hH hF;have u:=hH J;clear hF J;have HD:=hH (fun(q:World) (hb:Below W.heap.size W q)=>(by have:=impl_DocOk_c d _ _ _ q I (HXT.out.below hb) (a0.out.below hb) (HXS.out.below hb);rw[hd]at this;exact this:Calls Tryz.prog 57 #[.agg #[.string d.name,.int .i64 d.from_,n,p,j]] q (Tells q (.bool true))))
 have HH:=hH (fun(q:World) (hb:Below W.heap.size W q)=>(by have:=impl_HeadRev_c d n _ j q (a0.out.below hb) (by omega) (by omega);exact this:Calls Tryz.prog 60 #[.agg #[.string d.name,.int .i64 d.from_,n,p,j]] q (Tells q (.int .i64 (headRev d)))))
 have HI:=hH (fun(q:World) (hb:Below W.heap.size W q)=>(by have:=impl_within_c (d.from_+(K:Int)) d.from_ (headRev d) q;rw[hw0]at this;exact this:Calls Tryz.prog 56 #[.int .i64 (d.from_+(K:Int)),.int .i64 d.from_,.int .i64 (headRev d)] q (Tells q (.bool true))))
 refine wp_region_fam (F:=F) (by kernel_rfl) (by kernel_rfl) (u.out _ blw) ?_
 repeat(go_big_quiet_step ((first|(go_at_call 57;(with_reducible exact Calls.fam_tells B.out u.out (HD.out _ (B.out _))))|(go_at_call 60;(with_reducible exact Calls.fam_tells B.out u.out (HH.out _ (B.out _))))|(go_at_call 56;(with_reducible exact Calls.fam_tells B.out u.out (HI.out _ (B.out _)))))))
 refine wpQuiet_nil ?_;intro x;obtain⟨w1,z⟩:∃wx:World,F x=wx:=⟨_,rfl⟩;have B1:Below W.heap.size W w1:=by rw[<-z];exact B.out x
 rw[z];clear z cd0 cd1 cd2 cd3 cd4 B u HD HH HI;have s1:=B1.size;have z1d:w.heap.size<w1.heap.size:=lq zd s1;obtain⟨y1d0,y1d1,y1d2,y1d3,y1d4⟩:=mv5 B1 zd M N Q R U;have hs0:d.from_+(K:Int)-d.from_=(K:Int):=by omega
 have hs1:IntKind.i64.wrap (d.from_+(K:Int)-d.from_)=(K:Int):=by rw[hs0];exact IntWalk.i64_in _ (by omega)
 have hs2:IntKind.i64.wrap (K:Int)=(K:Int):=IntWalk.i64_in _ (by omega)
 go_wp2_with fail
 refine(impl_opsOf_c _ (d.list.drop K) _ (HCR.out.below blw) hszc).mono ?_;rintro e' w3 ⟨v3,rfl,⟨f3,S3,F3⟩,hb3⟩;have HS3:=hH S3;have HF3:Hid (Fresh w.heap.size w3 f3):=hH (F3.mono (by first|omega|(simp;omega)))
 have B3:Below W.heap.size W w3:=(show Below W.heap.size W _ from blw).trans (hb3.mono om);have s3:=B3.size;have z3d:w.heap.size<w3.heap.size:=lq zd s3;obtain⟨y3d0,y3d1,y3d2,y3d3,y3d4⟩:=mv5 B3 zd M N Q R U;clear hb3 S3 F3;go_wp2;go_ret2
 rw[HV.out];exact⟨_,_,rfl,HS3.out,HF3.out,blw⟩
