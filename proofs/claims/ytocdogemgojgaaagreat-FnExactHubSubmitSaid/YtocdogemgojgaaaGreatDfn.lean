/- Documents: their texts, their operations, their entries. -/
import Derived.Test.YtocdogemgojgaaaGreatDok
import Derived.Test.YtocdogemgojgaaaGreatRo
set_option maxHeartbeats 16000000
set_option maxRecDepth 100000
namespace Go.Proofs.YtocdogemgojgaaaGreat
open Go.RowKit
attribute [local go_sem ↓] Go.wp_at_zero Go.wp_at_succ
theorem atRev_split {d:DDoc}{rev:Int}(h:atRev d rev):∃K:Nat,K<=d.list.length/\rev=d.from_+K/\revK d rev=K:=⟨revK d rev,(atRev_k h).1,(atRev_k h).2,rfl⟩
theorem within_rev {d:DDoc}{rev:Int}(h:docOk d=true):within rev d.from_ (headRev d)=decide (atRev d rev):=by
 simp[within,atRev,h]
theorem szL_drop {α:Type}[GoT α][GoS α](l:List α)(k:Nat):szL (l.drop k)<=szL l:=(szL_sub l k).2
theorem szL_take {α:Type}[GoT α][GoS α](l:List α)(k:Nat):szL (l.take k)<=szL l:=(szL_sub l k).1
theorem spec_TextAt_c (d:DDoc)(n p j:Value)(rev:Int)(w:World)(M:d.name.size<=BIG)(a2:RdS w n d.text)(J:RdS w p d.list)(a1:RdS w j d.seen):Calls Tryz.prog 199 #[.agg #[.string d.name,.int .i64 d.from_,n,p,j],.int .i64 rev] w (Out_IntS_b w (textAt d rev).1 (textAt d rev).2):=by
 obtain⟨W,hW⟩:∃W:World,W=w.alloc (.cells #[.string d.name,.int .i64 d.from_,n,p,j] 99):=⟨_,rfl⟩;have hWB:Below w.heap.size w W:=by rw[hW];exact blw
 have sW:=hWB.size;have zd:w.heap.size<W.heap.size:=by rw[hW];first|(simp;done)|(simp;omega)
 have R:W.cell? ⟨w.heap.size,0,none⟩=some (.string d.name):=by rw[hW];simp[go_sem]
 have U:W.cell? ⟨w.heap.size,1,none⟩=some (.int .i64 d.from_):=by rw[hW];simp[go_sem]
 have Y:W.cell? ⟨w.heap.size,2,none⟩=some (n):=by rw[hW];simp[go_sem]
 have Z:W.cell? ⟨w.heap.size,3,none⟩=some (p):=by rw[hW];simp[go_sem]
 have a0:W.cell? ⟨w.heap.size,4,none⟩=some (j):=by rw[hW];simp[go_sem]
 have HXT:=hH (a2.below hWB);have a3:=hH (J.below hWB);have HXS:=hH (a1.below hWB);have hll:=fun N ty=>J.len Tryz.underlying34 N ty
 clear a2 J a1;by_cases hd:docOk d=true
 rotate_left
 ·have hd:docOk d=false:=by simpa using hd
  have HV:=hH (textAt_no (rev:=rev) (d:=d) (fun h=>by have h1:=h.1;rw[hd]at h1;cases h1))
  go_enter Tryz.func199,Tryz.ntmps199
  go_wp2;rw[<-hW];clear hW;obtain⟨X,hX,F,hF,Q⟩:=fam_of W;obtain⟨cd0,cd1,cd2,cd3,cd4⟩:=mx5 hF zd R U Y Z a0;have I:=hH hF;have q:=hH Q;clear hF Q;have HD:=hH (fun(B:World) (hb:Below W.heap.size W B)=>tb (spec_DocOk_c d _ _ _ B M (HXT.out.below hb) (a3.out.below hb) (HXS.out.below hb)) hd)
  refine wp_region_fam (F:=F) (by kernel_rfl) (by kernel_rfl) (q.out _ blw) ?_
  repeat(go_big_quiet_step ((go_at_call 145;(with_reducible exact Calls.fam_tells I.out q.out (HD.out _ (I.out _))))))
  refine wpQuiet_nil ?_;intro x;obtain⟨N,D⟩:∃wx:World,F x=wx:=⟨_,rfl⟩;have B1:Below W.heap.size W N:=by rw[<-D];exact I.out x
  rw[D];clear D cd0 cd1 cd2 cd3 cd4 I q HD;have s1:=B1.size;have z1d:w.heap.size<N.heap.size:=lq zd s1;obtain⟨y1d0,y1d1,y1d2,y1d3,y1d4⟩:=mv5 B1 zd R U Y Z a0;go_wp2;go_ret2
  rw[HV.out];exact⟨_,_,rfl,Sl.nil,Fresh.nil _ _,blw⟩
 have hbd:=headRev_bd hd;by_cases hr:atRev d rev
 rotate_left
 ·
  have HV:=hH (textAt_no hr);have hw0:within rev d.from_ (headRev d)=false:=by rw[within_rev hd];simpa using hr
  go_enter Tryz.func199,Tryz.ntmps199
  go_wp2;rw[<-hW];clear hW;obtain⟨X,hX,F,hF,Q⟩:=fam_of W;obtain⟨cd0,cd1,cd2,cd3,cd4⟩:=mx5 hF zd R U Y Z a0;have I:=hH hF;have q:=hH Q;clear hF Q;have HD:=hH (fun(B:World) (hb:Below W.heap.size W B)=>tb (spec_DocOk_c d _ _ _ B M (HXT.out.below hb) (a3.out.below hb) (HXS.out.below hb)) hd)
  have HH:=hH (fun(B:World) (hb:Below W.heap.size W B)=>(by have:=spec_HeadRev_c d n _ j B (a3.out.below hb) (by omega) (by omega);exact this:Calls Tryz.prog 105 #[.agg #[.string d.name,.int .i64 d.from_,n,p,j]] B (Tells B (.int .i64 (headRev d)))))
  have HI:=hH (fun(B:World) (hb:Below W.heap.size W B)=>tb (spec_within_c rev d.from_ (headRev d) B) hw0)
  refine wp_region_fam (F:=F) (by kernel_rfl) (by kernel_rfl) (q.out _ blw) ?_
  repeat(go_big_quiet_step ((first|(go_at_call 145;(with_reducible exact Calls.fam_tells I.out q.out (HD.out _ (I.out _))))|(go_at_call 105;(with_reducible exact Calls.fam_tells I.out q.out (HH.out _ (I.out _))))|(go_at_call 144;(with_reducible exact Calls.fam_tells I.out q.out (HI.out _ (I.out _)))))))
  refine wpQuiet_nil ?_;intro x;obtain⟨N,D⟩:∃wx:World,F x=wx:=⟨_,rfl⟩;have B1:Below W.heap.size W N:=by rw[<-D];exact I.out x
  rw[D];clear D cd0 cd1 cd2 cd3 cd4 I q HD HH HI;have s1:=B1.size;have z1d:w.heap.size<N.heap.size:=lq zd s1;obtain⟨y1d0,y1d1,y1d2,y1d3,y1d4⟩:=mv5 B1 zd R U Y Z a0;go_wp2;go_ret2
  rw[HV.out];exact⟨_,_,rfl,Sl.nil,Fresh.nil _ _,blw⟩
 have hw0:within rev d.from_ (headRev d)=true:=by rw[within_rev hd];simpa using hr
 have hp:=docOk_iff.1 hd;have hl8:=hp.len;have ht2:=hp.tlen;have hsz:=hp.sz;have HP:=hH hp;clear hp;obtain⟨K,hK,hrev,hkk⟩:=atRev_split hr;obtain⟨tx,htx,hte,htt⟩:=textAt_yes hr;rw[hkk]at htx;have HV:=hH hte;have HTX:=hH htx;obtain⟨vc,hcut,hcr⟩:=a3.out.cuth Tryz.underlying34 szi_DEntry hK;have HCR:=hH hcr;have hlc:=fun N ty=>hcr.len Tryz.underlying34 N ty
 have hmin:(d.list.take K).length=K:=by simp;omega
 rw[hmin]at hlc;clear hkk htx hte hcr htt hmin;obtain⟨i0,hi,hz0,hz1,hz2⟩:=info_parts info_int1;subst hrev;go_enter Tryz.func199,Tryz.ntmps199
 go_wp2;rw[<-hW];clear hW;obtain⟨X,hX,F,hF,Q⟩:=fam_of W;obtain⟨cd0,cd1,cd2,cd3,cd4⟩:=mx5 hF zd R U Y Z a0;have I:=hH hF;have q:=hH Q;clear hF Q;have HD:=hH (fun(B:World) (hb:Below W.heap.size W B)=>tb (spec_DocOk_c d _ _ _ B M (HXT.out.below hb) (a3.out.below hb) (HXS.out.below hb)) hd)
 have HH:=hH (fun(B:World) (hb:Below W.heap.size W B)=>(by have:=spec_HeadRev_c d n _ j B (a3.out.below hb) (by omega) (by omega);exact this:Calls Tryz.prog 105 #[.agg #[.string d.name,.int .i64 d.from_,n,p,j]] B (Tells B (.int .i64 (headRev d)))))
 have HI:=hH (fun(B:World) (hb:Below W.heap.size W B)=>tb (spec_within_c (d.from_+(K:Int)) d.from_ (headRev d) B) hw0)
 refine wp_region_fam (F:=F) (by kernel_rfl) (by kernel_rfl) (q.out _ blw) ?_
 repeat(go_big_quiet_step ((first|(go_at_call 145;(with_reducible exact Calls.fam_tells I.out q.out (HD.out _ (I.out _))))|(go_at_call 105;(with_reducible exact Calls.fam_tells I.out q.out (HH.out _ (I.out _))))|(go_at_call 144;(with_reducible exact Calls.fam_tells I.out q.out (HI.out _ (I.out _)))))))
 refine wpQuiet_nil ?_;intro x;obtain⟨N,D⟩:∃wx:World,F x=wx:=⟨_,rfl⟩;have B1:Below W.heap.size W N:=by rw[<-D];exact I.out x
 rw[D];clear D cd0 cd1 cd2 cd3 cd4 I q HD HH HI;have s1:=B1.size;have z1d:w.heap.size<N.heap.size:=lq zd s1;obtain⟨y1d0,y1d1,y1d2,y1d3,y1d4⟩:=mv5 B1 zd R U Y Z a0;have hs0:d.from_+(K:Int)-d.from_=(K:Int):=by omega
 have hs1:IntKind.i64.wrap (d.from_+(K:Int)-d.from_)=(K:Int):=by rw[hs0];exact IntWalk.i64_in _ (by omega)
 have hs2:IntKind.i64.wrap (K:Int)=(K:Int):=IntWalk.i64_in _ (by omega)
 go_wp2_with (at_builtin;refine wpList_append_row rfl _ _ 31 rfl Tryz.underlying31 hi hz0 hz1 hz2 rfl rfl rfl (Row.empty N.heap.size _ _) (Src.ints2 (HXT.out.below blw)) (fun _ h=>by cases h) ?c1 ?c2 ?c3 ?_)
 case c1=>simp;exact le_BIG (by omega)
 case c2=>simp;omega
 case c3=>simp
 intro v2 w2 hr2 hw2 hn2;have hb2:Below N.heap.size N w2:=(show Below N.heap.size N _ from blw).trans (hw2.nilBelow.mono om);replace hr2:Row N.heap.size w2 v2 d.text []:=hr2;have HO2:Hid (OwnS w.heap.size w2 v2 d.text):=hH ((hr2.owns (Fresh.nil _ _)).mono (by omega))
 have B2:Below W.heap.size W w2:=B1.trans (hb2.mono s1);clear hr2 hw2 hn2;have s2:=B2.size;have z2d:w.heap.size<w2.heap.size:=lq zd s2;obtain⟨y2d0,y2d1,y2d2,y2d3,y2d4⟩:=mv5 B2 zd R U Y Z a0;go_wp2;clear hs0 hs1 hs2;go_loopw [6,33] (fun z i wr=>∃(k:Nat) (u:Value) (x:List Int),u=z/\k<=K/\i= .int .i64 k/\appTo ((opsL d.list).take k) d.text=some x/\OwnS w.heap.size wr u x/\Below W.heap.size W wr) (fun _ i _=>K-(intOf i).toNat)
 case atStart=>exact⟨0,_,d.text,rfl,lz _,rfl,rfl,HO2.out,blw⟩
 case round=>
  obtain⟨k,u,x,rfl,hk,rfl,hap,hu,hbr⟩:=hrel;have hsr:=hbr.size;have HAP:=hH hap;have HU:=hH hu;clear hap hu;by_cases hlt:k<K
  ·obtain⟨x1,hx⟩:=get_some (l:=d.list) (k:=k) (by omega)
   obtain⟨b1,o1,cs,g1,g2,g3⟩:=(HCR.out.below hbr).idx Tryz.underlying34 szi_DEntry k (by rw[List.getElem?_take,if_pos hlt];exact hx)
   obtain⟨v_o,rfl,r_o⟩:=inv_DEntry g3;have q0:=g2.zero;have q1:=g2 1 _ rfl;have q2:=g2 2 _ rfl;obtain⟨aa,ca,rfl⟩:=r_o.isSlice;have HST:=hH (appTo_succ (opsL_get hx) HAP.out);have hy:(applyP x1.o x).2=true:=by
    obtain⟨v,hv,_⟩:=appTo_take (l:=(opsL d.list).take K) HTX.out (k+1);rw[List.take_take,Nat.min_eq_left (by omega),HST.out]at hv
    by_cases hy:(applyP x1.o x).2=true
    ·exact hy
    ·rw[if_neg hy]at hv;cases hv
   have HS2:Hid (appTo ((opsL d.list).take (k+1)) d.text=some (applyP x1.o x).1):=hH (by rw[HST.out,if_pos hy])
   have HRO:=hH r_o;clear hx g2 g3 r_o hy;go_wp2_with fail
   refine(spec_Apply_c x1.o x _ _ _ (HRO.out.below blw) (HU.out.rd.below blw)).mono ?_;rintro e' w4 ⟨v4,f4,rfl,S4,F4,hb4⟩;have R4:Below wr.heap.size wr w4:=(show Below wr.heap.size wr _ from blw).trans (hb4.mono om);have r4:=R4.size;have HO4:Hid (OwnS w.heap.size w4 v4 (applyP x1.o x).1):=hH ⟨f4,S4,F4.mono (by simp;omega)⟩
   have HB4:Hid (Below W.heap.size W w4):=hH (hbr.trans (R4.mono hsr));clear hb4 S4 F4;go_wp2;go_roundw
   case rel=>exact⟨k+1,_,_,rfl,by omega,by go_num,HS2.out,HO4.out,HB4.out⟩
   case measure=>simp[intOf];omega
  ·obtain rfl:k=K:=by omega
   have HX:Hid (x=tx):=hH (Option.some.inj (HAP.out.symm.trans HTX.out));obtain⟨fp,hs,hf⟩:=HU.out;go_wp2;go_ret2
   rw[HV.out];exact⟨_,_,rfl,by rw[<-HX.out];exact hs,hf,blw⟩
theorem impl_TextAt_c (d:DDoc)(n q j:Value)(rev:Int)(w:World)(M:d.name.size<=BIG)(a1:RdS w n d.text)(J:RdS w q d.list)(a0:RdS w j d.seen):Calls Tryz.prog 179 #[.agg #[.string d.name,.int .i64 d.from_,n,q,j],.int .i64 rev] w (Out_IntS_b w (textAt d rev).1 (textAt d rev).2):=by
 obtain⟨W,hW⟩:∃W:World,W=w.alloc (.cells #[.string d.name,.int .i64 d.from_,n,q,j] 99):=⟨_,rfl⟩;have hWB:Below w.heap.size w W:=by rw[hW];exact blw
 have sW:=hWB.size;have I:w.heap.size<W.heap.size:=by rw[hW];first|(simp;done)|(simp;omega)
 have Q:W.cell? ⟨w.heap.size,0,none⟩=some (.string d.name):=by rw[hW];simp[go_sem]
 have R:W.cell? ⟨w.heap.size,1,none⟩=some (.int .i64 d.from_):=by rw[hW];simp[go_sem]
 have U:W.cell? ⟨w.heap.size,2,none⟩=some (n):=by rw[hW];simp[go_sem]
 have Y:W.cell? ⟨w.heap.size,3,none⟩=some (q):=by rw[hW];simp[go_sem]
 have Z:W.cell? ⟨w.heap.size,4,none⟩=some (j):=by rw[hW];simp[go_sem]
 have HXT:=hH (a1.below hWB);have a2:=hH (J.below hWB);have HXS:=hH (a0.below hWB);have hll:=fun w1 ty=>J.len Tryz.underlying34 w1 ty
 clear a1 J a0;by_cases hd:docOk d=true
 rotate_left
 ·have hd:docOk d=false:=by simpa using hd
  have HV:=hH (textAt_no (rev:=rev) (d:=d) (fun h=>by have h1:=h.1;rw[hd]at h1;cases h1))
  go_enter Tryz.func179,Tryz.ntmps179
  go_wp2;rw[<-hW];clear hW;obtain⟨X,hX,F,hF,N⟩:=fam_of W;obtain⟨cd0,cd1,cd2,cd3,cd4⟩:=mx5 hF I Q R U Y Z;have D:=hH hF;have u:=hH N;clear hF N;have HD:=hH (fun(z:World) (hb:Below W.heap.size W z)=>tb (impl_DocOk_c d _ _ _ z M (HXT.out.below hb) (a2.out.below hb) (HXS.out.below hb)) hd)
  refine wp_region_fam (F:=F) (by kernel_rfl) (by kernel_rfl) (u.out _ blw) ?_
  repeat(go_big_quiet_step ((go_at_call 57;(with_reducible exact Calls.fam_tells D.out u.out (HD.out _ (D.out _))))))
  refine wpQuiet_nil ?_;intro x;obtain⟨w1,B⟩:∃wx:World,F x=wx:=⟨_,rfl⟩;have B1:Below W.heap.size W w1:=by rw[<-B];exact D.out x
  rw[B];clear B cd0 cd1 cd2 cd3 cd4 D u HD;have s1:=B1.size;have z1d:w.heap.size<w1.heap.size:=lq I s1;obtain⟨y1d0,y1d1,y1d2,y1d3,y1d4⟩:=mv5 B1 I Q R U Y Z;go_wp2;go_ret2
  rw[HV.out];exact⟨_,_,rfl,Sl.nil,Fresh.nil _ _,blw⟩
 have hbd:=headRev_bd hd;by_cases hr:atRev d rev
 rotate_left
 ·
  have HV:=hH (textAt_no hr);have hw0:within rev d.from_ (headRev d)=false:=by rw[within_rev hd];simpa using hr
  go_enter Tryz.func179,Tryz.ntmps179
  go_wp2;rw[<-hW];clear hW;obtain⟨X,hX,F,hF,N⟩:=fam_of W;obtain⟨cd0,cd1,cd2,cd3,cd4⟩:=mx5 hF I Q R U Y Z;have D:=hH hF;have u:=hH N;clear hF N;have HD:=hH (fun(z:World) (hb:Below W.heap.size W z)=>tb (impl_DocOk_c d _ _ _ z M (HXT.out.below hb) (a2.out.below hb) (HXS.out.below hb)) hd)
  have HH:=hH (fun(z:World) (hb:Below W.heap.size W z)=>(by have:=impl_HeadRev_c d n _ j z (a2.out.below hb) (by omega) (by omega);exact this:Calls Tryz.prog 60 #[.agg #[.string d.name,.int .i64 d.from_,n,q,j]] z (Tells z (.int .i64 (headRev d)))))
  have HI:=hH (fun(z:World) (hb:Below W.heap.size W z)=>tb (impl_within_c rev d.from_ (headRev d) z) hw0)
  refine wp_region_fam (F:=F) (by kernel_rfl) (by kernel_rfl) (u.out _ blw) ?_
  repeat(go_big_quiet_step ((first|(go_at_call 57;(with_reducible exact Calls.fam_tells D.out u.out (HD.out _ (D.out _))))|(go_at_call 60;(with_reducible exact Calls.fam_tells D.out u.out (HH.out _ (D.out _))))|(go_at_call 56;(with_reducible exact Calls.fam_tells D.out u.out (HI.out _ (D.out _)))))))
  refine wpQuiet_nil ?_;intro x;obtain⟨w1,B⟩:∃wx:World,F x=wx:=⟨_,rfl⟩;have B1:Below W.heap.size W w1:=by rw[<-B];exact D.out x
  rw[B];clear B cd0 cd1 cd2 cd3 cd4 D u HD HH HI;have s1:=B1.size;have z1d:w.heap.size<w1.heap.size:=lq I s1;obtain⟨y1d0,y1d1,y1d2,y1d3,y1d4⟩:=mv5 B1 I Q R U Y Z;go_wp2;go_ret2
  rw[HV.out];exact⟨_,_,rfl,Sl.nil,Fresh.nil _ _,blw⟩
 have hw0:within rev d.from_ (headRev d)=true:=by rw[within_rev hd];simpa using hr
 have hp:=docOk_iff.1 hd;have hl8:=hp.len;have ht2:=hp.tlen;have hsz:=hp.sz;have HP:=hH hp;clear hp;obtain⟨K,hK,hrev,hkk⟩:=atRev_split hr;obtain⟨tx,htx,hte,htt⟩:=textAt_yes hr;rw[hkk]at htx;have HV:=hH hte;have HTX:=hH htx;obtain⟨vc,hcut,hcr⟩:=a2.out.cuth Tryz.underlying34 szi_DEntry hK;have HCR:=hH hcr;have hlc:=fun w1 ty=>hcr.len Tryz.underlying34 w1 ty
 have hmin:(d.list.take K).length=K:=by simp;omega
 rw[hmin]at hlc;clear hkk htx hte hcr htt hmin;subst hrev;go_enter Tryz.func179,Tryz.ntmps179
 go_wp2;rw[<-hW];clear hW;obtain⟨X,hX,F,hF,N⟩:=fam_of W;obtain⟨cd0,cd1,cd2,cd3,cd4⟩:=mx5 hF I Q R U Y Z;have D:=hH hF;have u:=hH N;clear hF N;have HD:=hH (fun(z:World) (hb:Below W.heap.size W z)=>tb (impl_DocOk_c d _ _ _ z M (HXT.out.below hb) (a2.out.below hb) (HXS.out.below hb)) hd)
 have HH:=hH (fun(z:World) (hb:Below W.heap.size W z)=>(by have:=impl_HeadRev_c d n _ j z (a2.out.below hb) (by omega) (by omega);exact this:Calls Tryz.prog 60 #[.agg #[.string d.name,.int .i64 d.from_,n,q,j]] z (Tells z (.int .i64 (headRev d)))))
 have HI:=hH (fun(z:World) (hb:Below W.heap.size W z)=>tb (impl_within_c (d.from_+(K:Int)) d.from_ (headRev d) z) hw0)
 refine wp_region_fam (F:=F) (by kernel_rfl) (by kernel_rfl) (u.out _ blw) ?_
 repeat(go_big_quiet_step ((first|(go_at_call 57;(with_reducible exact Calls.fam_tells D.out u.out (HD.out _ (D.out _))))|(go_at_call 60;(with_reducible exact Calls.fam_tells D.out u.out (HH.out _ (D.out _))))|(go_at_call 56;(with_reducible exact Calls.fam_tells D.out u.out (HI.out _ (D.out _)))))))
 refine wpQuiet_nil ?_;intro x;obtain⟨w1,B⟩:∃wx:World,F x=wx:=⟨_,rfl⟩;have B1:Below W.heap.size W w1:=by rw[<-B];exact D.out x
 rw[B];clear B cd0 cd1 cd2 cd3 cd4 D u HD HH HI;have s1:=B1.size;have z1d:w.heap.size<w1.heap.size:=lq I s1;obtain⟨y1d0,y1d1,y1d2,y1d3,y1d4⟩:=mv5 B1 I Q R U Y Z;have hs0:d.from_+(K:Int)-d.from_=(K:Int):=by omega
 have hs1:IntKind.i64.wrap (d.from_+(K:Int)-d.from_)=(K:Int):=by rw[hs0];exact IntWalk.i64_in _ (by omega)
 have hs2:IntKind.i64.wrap (K:Int)=(K:Int):=IntWalk.i64_in _ (by omega)
 have HALL:applyAllP ((opsL d.list).take K) d.text=(tx,true):=by rw[applyAllP_yes HP.out.text,HTX.out];rfl
 go_wp2;go_region_held3 (fun w'=>w'.cell? ⟨w.heap.size,0,none⟩=some (.string d.name)/\w'.cell? ⟨w.heap.size,1,none⟩=some (.int .i64 d.from_)/\w'.cell? ⟨w.heap.size,2,none⟩=some (n)/\w'.cell? ⟨w.heap.size,3,none⟩=some (q)/\w'.cell? ⟨w.heap.size,4,none⟩=some (j)) (go_keep)
  (first|(go_at_call 130;refine(impl_opsOf_c _ (d.list.take K) _ (HCR.out.below blw) (Nat.le_trans (szL_take _ _) (by omega))).mono ?_;rintro e' w6 ⟨v6,rfl,ho6,hb6⟩;have HO6:Hid (RdS w6 v6 ((opsL d.list).take K)):=hH (by rw[<-opsL_take];exact ho6.rd);have B6:Below W.heap.size W w6:=(show Below W.heap.size W _ from blw).trans (hb6.mono om);have s6:=B6.size;have z6d:w.heap.size<w6.heap.size:=lq I s6;have y6d0:=(B6.cell (p:=⟨w.heap.size,0,none⟩) I).trans Q;have y6d1:=(B6.cell (p:=⟨w.heap.size,1,none⟩) I).trans R;have y6d2:=(B6.cell (p:=⟨w.heap.size,2,none⟩) I).trans U;have y6d3:=(B6.cell (p:=⟨w.heap.size,3,none⟩) I).trans Y;have y6d4:=(B6.cell (p:=⟨w.heap.size,4,none⟩) I).trans Z;clear hb6 ho6)|(go_at_call 129;refine(impl_ApplyAll_c ((opsL d.list).take K) d.text _ _ _ (HO6.out.below blw) (HXT.out.below blw) (by omega)).mono ?_;rintro e' w7 ⟨v7,f7,rfl,S7,F7,hb7⟩;rw[HALL]at S7;rw[HALL];have HS7:=hH S7;have HF7:Hid (Fresh w.heap.size w7 f7):=hH (F7.mono (by first|omega|(simp;omega)));have B7:Below W.heap.size W w7:=(show Below W.heap.size W _ from blw).trans (hb7.mono om);have s7:=B7.size;have z7d:w.heap.size<w7.heap.size:=lq I s7;have y7d0:=(B7.cell (p:=⟨w.heap.size,0,none⟩) I).trans Q;have y7d1:=(B7.cell (p:=⟨w.heap.size,1,none⟩) I).trans R;have y7d2:=(B7.cell (p:=⟨w.heap.size,2,none⟩) I).trans U;have y7d3:=(B7.cell (p:=⟨w.heap.size,3,none⟩) I).trans Y;have y7d4:=(B7.cell (p:=⟨w.heap.size,4,none⟩) I).trans Z;clear hb7 S7 F7))
 all_goals
  go_wp2;go_ret2
  rw[HV.out];exact⟨_,_,rfl,HS7.out,HF7.out,blw⟩
theorem spec_HeadText_c (d:DDoc)(q u j:Value)(w:World)(J:d.name.size<=BIG)(I:RdS w q d.text)(B:RdS w u d.list)(D:RdS w j d.seen):Calls Tryz.prog 150 #[.agg #[.string d.name,.int .i64 d.from_,q,u,j]] w (Out_IntS w (headText d)):=by
 obtain⟨W,Q⟩:∃W:World,W=w.alloc (.cells #[.string d.name,.int .i64 d.from_,q,u,j] 99):=⟨_,rfl⟩;have a0:Below w.heap.size w W:=by rw[Q];exact blw
 have sW:=a0.size;have z:w.heap.size<W.heap.size:=by rw[Q];first|(simp;done)|(simp;omega)
 have a1:W.cell? ⟨w.heap.size,0,none⟩=some (.string d.name):=by rw[Q];simp[go_sem]
 have a2:W.cell? ⟨w.heap.size,1,none⟩=some (.int .i64 d.from_):=by rw[Q];simp[go_sem]
 have a3:W.cell? ⟨w.heap.size,2,none⟩=some (q):=by rw[Q];simp[go_sem]
 have a4:W.cell? ⟨w.heap.size,3,none⟩=some (u):=by rw[Q];simp[go_sem]
 have a5:W.cell? ⟨w.heap.size,4,none⟩=some (j):=by rw[Q];simp[go_sem]
 have HXT:=hH (I.below a0);have Z:=hH (B.below a0);have HXS:=hH (D.below a0);have hll:=fun w1 ty=>B.len Tryz.underlying34 w1 ty
 clear I B D;by_cases hd:docOk d=true
 ·
  have hbd:=headRev_bd hd;have HV:Hid (headText d=(textAt d (headRev d)).1):=hH rfl;go_enter Tryz.func150,Tryz.ntmps150
  go_wp2;rw[<-Q];clear Q;go_region_held3 (fun Y=>Y.cell? ⟨w.heap.size,0,none⟩=some (.string d.name)/\Y.cell? ⟨w.heap.size,1,none⟩=some (.int .i64 d.from_)/\Y.cell? ⟨w.heap.size,2,none⟩=some (q)/\Y.cell? ⟨w.heap.size,3,none⟩=some (u)/\Y.cell? ⟨w.heap.size,4,none⟩=some (j)) (go_keep)
   (first|(go_at_call 105;refine(spec_HeadRev_c d q _ j _ (Z.out.below blw) (by omega) (by omega)).mono ?_;rintro e' w6 ⟨rfl,R⟩;have M:Below W.heap.size W w6:=(show Below W.heap.size W _ from blw).trans (R.mono om);have s6:=M.size;have z6d:w.heap.size<w6.heap.size:=lq z s6;have y6d0:=(M.cell (p:=⟨w.heap.size,0,none⟩) z).trans a1;have y6d1:=(M.cell (p:=⟨w.heap.size,1,none⟩) z).trans a2;have y6d2:=(M.cell (p:=⟨w.heap.size,2,none⟩) z).trans a3;have y6d3:=(M.cell (p:=⟨w.heap.size,3,none⟩) z).trans a4;have y6d4:=(M.cell (p:=⟨w.heap.size,4,none⟩) z).trans a5;clear R)|(go_at_call 199;refine(spec_TextAt_c d _ _ _ (headRev d) _ J (HXT.out.below blw) (Z.out.below blw) (HXS.out.below blw)).mono ?_;rintro e' w7 ⟨v7,f7,rfl,S7,F7,U⟩;skip;have a7:=hH S7;have a6:Hid (Fresh w.heap.size w7 f7):=hH (F7.mono (by first|omega|(simp;omega)));have N:Below W.heap.size W w7:=(show Below W.heap.size W _ from blw).trans (U.mono om);have s7:=N.size;have z7d:w.heap.size<w7.heap.size:=lq z s7;have y7d0:=(N.cell (p:=⟨w.heap.size,0,none⟩) z).trans a1;have y7d1:=(N.cell (p:=⟨w.heap.size,1,none⟩) z).trans a2;have y7d2:=(N.cell (p:=⟨w.heap.size,2,none⟩) z).trans a3;have y7d3:=(N.cell (p:=⟨w.heap.size,3,none⟩) z).trans a4;have y7d4:=(N.cell (p:=⟨w.heap.size,4,none⟩) z).trans a5;clear U S7 F7))
  all_goals
   go_wp2;go_ret;rw[HV.out];exact⟨_,_,rfl,a7.out,a6.out,blw⟩
 ·
  have a8:=fun n=>textAt_no (d:=d) (rev:=n) (fun h=>hd h.1)
  have HNO:=hH a8;have HV:Hid (headText d=[]):=hH (by unfold headText;rw[a8])
  clear a8;go_enter Tryz.func150,Tryz.ntmps150
  go_wp2;rw[<-Q];clear Q;go_region_held3 (fun Y=>Y.cell? ⟨w.heap.size,0,none⟩=some (.string d.name)/\Y.cell? ⟨w.heap.size,1,none⟩=some (.int .i64 d.from_)/\Y.cell? ⟨w.heap.size,2,none⟩=some (q)/\Y.cell? ⟨w.heap.size,3,none⟩=some (u)/\Y.cell? ⟨w.heap.size,4,none⟩=some (j)) (go_keep)
   (first|(go_at_call 105;refine(spec_HeadRev_any d q _ j _ (Z.out.below blw)).mono ?_;rintro e' w6 ⟨n,rfl,R⟩;have M:Below W.heap.size W w6:=(show Below W.heap.size W _ from blw).trans (R.mono om);have s6:=M.size;have z6d:w.heap.size<w6.heap.size:=lq z s6;have y6d0:=(M.cell (p:=⟨w.heap.size,0,none⟩) z).trans a1;have y6d1:=(M.cell (p:=⟨w.heap.size,1,none⟩) z).trans a2;have y6d2:=(M.cell (p:=⟨w.heap.size,2,none⟩) z).trans a3;have y6d3:=(M.cell (p:=⟨w.heap.size,3,none⟩) z).trans a4;have y6d4:=(M.cell (p:=⟨w.heap.size,4,none⟩) z).trans a5;clear R)|(go_at_call 199;refine(spec_TextAt_c d _ _ _ n _ J (HXT.out.below blw) (Z.out.below blw) (HXS.out.below blw)).mono ?_;rintro e' w7 ⟨v7,f7,rfl,S7,F7,U⟩;rw[HNO.out]at S7;rw[HNO.out];have a7:=hH S7;have a6:Hid (Fresh w.heap.size w7 f7):=hH (F7.mono (by first|omega|(simp;omega)));have N:Below W.heap.size W w7:=(show Below W.heap.size W _ from blw).trans (U.mono om);have s7:=N.size;have z7d:w.heap.size<w7.heap.size:=lq z s7;have y7d0:=(N.cell (p:=⟨w.heap.size,0,none⟩) z).trans a1;have y7d1:=(N.cell (p:=⟨w.heap.size,1,none⟩) z).trans a2;have y7d2:=(N.cell (p:=⟨w.heap.size,2,none⟩) z).trans a3;have y7d3:=(N.cell (p:=⟨w.heap.size,3,none⟩) z).trans a4;have y7d4:=(N.cell (p:=⟨w.heap.size,4,none⟩) z).trans a5;clear U S7 F7))
  all_goals
   go_wp2;go_ret;rw[HV.out];exact⟨_,_,rfl,a7.out,a6.out,blw⟩
theorem impl_atBase_c (d:DDoc)(n p j:Value)(rev:Int)(w:World)(u:RdS w p d.list)(b1: -9000000000000000000<=d.from_)(b2:d.from_<=9000000000000000000):
 Calls Tryz.prog 187 #[.agg #[.string d.name,.int .i64 d.from_,n,p,j],.int .i64 rev] w (Tells w (.int .i64 (atBase d rev))):=by
 obtain⟨W,z⟩:∃W:World,W=w.alloc (.cells #[.string d.name,.int .i64 d.from_,n,p,j] 99):=⟨_,rfl⟩;have hWB:Below w.heap.size w W:=by rw[z];exact blw
 have sW:=hWB.size;have zd:w.heap.size<W.heap.size:=by rw[z];first|(simp;done)|(simp;omega)
 have U:W.cell? ⟨w.heap.size,0,none⟩=some (.string d.name):=by rw[z];simp[go_sem]
 have Y:W.cell? ⟨w.heap.size,1,none⟩=some (.int .i64 d.from_):=by rw[z];simp[go_sem]
 have Z:W.cell? ⟨w.heap.size,2,none⟩=some (n):=by rw[z];simp[go_sem]
 have a0:W.cell? ⟨w.heap.size,3,none⟩=some (p):=by rw[z];simp[go_sem]
 have a1:W.cell? ⟨w.heap.size,4,none⟩=some (j):=by rw[z];simp[go_sem]
 have R:=hH (u.below hWB);clear u;by_cases h2:headRev d<rev
 ·have HV:Hid (atBase d rev=2):=hH (if_pos h2);go_enter Tryz.func187,Tryz.ntmps187
  go_wp2_with fail
  rw[<-z];clear z;go_wp2_with fail
  refine(impl_HeadRev_c d n _ j _ (R.out.below blw) b1 b2).mono ?_;rintro e' D ⟨rfl,q⟩;have B:Below W.heap.size W D:=(show Below W.heap.size W _ from blw).trans (q.mono om);have s1:=B.size;have z1d:w.heap.size<D.heap.size:=lq zd s1;obtain⟨I,J,M,N,Q⟩:=mv5 B zd U Y Z a0 a1;clear q;go_wp2;go_ret;exact⟨ret_int HV.out.symm,blw⟩
 ·by_cases h3:rev<d.from_
  ·have HV:Hid (atBase d rev=3):=hH (by unfold atBase;rw[if_neg h2,if_pos h3])
   go_enter Tryz.func187,Tryz.ntmps187
   go_wp2_with fail
   rw[<-z];clear z;go_wp2_with fail
   refine(impl_HeadRev_c d n _ j _ (R.out.below blw) b1 b2).mono ?_;rintro e' D ⟨rfl,q⟩;have B:Below W.heap.size W D:=(show Below W.heap.size W _ from blw).trans (q.mono om);have s1:=B.size;have z1d:w.heap.size<D.heap.size:=lq zd s1;obtain⟨I,J,M,N,Q⟩:=mv5 B zd U Y Z a0 a1;clear q;go_wp2;go_ret;exact⟨ret_int HV.out.symm,blw⟩
  ·have HV:Hid (atBase d rev=0):=hH (by unfold atBase;rw[if_neg h2,if_neg h3])
   go_enter Tryz.func187,Tryz.ntmps187
   go_wp2_with fail
   rw[<-z];clear z;go_wp2_with fail
   refine(impl_HeadRev_c d n _ j _ (R.out.below blw) b1 b2).mono ?_;rintro e' D ⟨rfl,q⟩;have B:Below W.heap.size W D:=(show Below W.heap.size W _ from blw).trans (q.mono om);have s1:=B.size;have z1d:w.heap.size<D.heap.size:=lq zd s1;obtain⟨I,J,M,N,Q⟩:=mv5 B zd U Y Z a0 a1;clear q;go_wp2;go_ret;exact⟨ret_int HV.out.symm,blw⟩
