/- Submit: the walk of the program. -/
import Derived.Test.YtocdogemgojgaaaGreatSbh
import Derived.Deep.CutRange
import Derived.Deep.RegionHeld3
import Derived.Deep.Cut
import Derived.Deep.CutBlock
set_option maxHeartbeats 40000000
set_option maxRecDepth 100000
namespace Go.Proofs.YtocdogemgojgaaaGreat
open Go.RowKit
attribute [local go_sem ↓] Go.wp_at_zero Go.wp_at_succ
theorem impl_Submit_c (d:DDoc)(M I J:Value)(client seq base:Int)(vo:Value)(o:List DPart)(w:World)(n_name:d.name.size<=BIG)(h_text:RdS w M d.text)(h_list:RdS w I d.list)(h_seen:RdS w J d.seen)(ho:RdS w vo o):
 Calls Tryz.prog 108 #[.agg #[.string d.name,.int .i64 d.from_,M,I,J],.int .i64 client,.int .i64 seq,.int .i64 base,vo] w (Out_Doc_i_i w (submit d client seq base o).1 (submit d client seq base o).2.1 (submit d client seq base o).2.2):=by
 go_enter Tryz.func108,Tryz.ntmps108
 go_wp2_with fail
 refine(impl_DocOk_c d _ _ _ _ n_name (h_text.below (((lf w.heap.size w).alloc om _).alloc om _)) (h_list.below (((lf w.heap.size w).alloc om _).alloc om _)) (h_seen.below (((lf w.heap.size w).alloc om _).alloc om _))).mono ?_;rintro e' w1 ⟨rfl,hb1⟩;have s1:w.heap.size+2<=w1.heap.size:=by have:=hb1.size;(try simp at this);omega
 have u:=hH ((((lf w.heap.size w).alloc om _).alloc om _).trans (hb1.mono om));have n:Hid (Bx w1 (w.heap.size) [.string d.name,.int .i64 d.from_,M,I,J]):=hH (((Bx.new (by first|rfl|simp|omega)).alloc _).at hb1)
 have Kd:=n.out.o5;have q:Hid (Bx w1 (w.heap.size+1) [.string ⟨#[]⟩,.int .i64 0,.slice none 0 0,.slice none 0 0,.slice none 0 0]):=hH ((Bx.new (by first|rfl|simp|omega)).at hb1)
 have Kr:=q.out.q5;clear hb1;by_cases h1:docOk d=true
 rotate_left
 ·have h1:docOk d=false:=by simpa using h1
  rw[h1];have HV:=hH (submit_no (d:=d) (client:=client) (seq:=seq) (base:=base) (o:=o) fun h=>by have e:=h.1;rw[h1]at e;cases e)
  go_wp2;rw[HV.out];exact bodyPost_ret (v:= .tuple #[.agg #[.string ⟨#[]⟩,.int .i64 0,.slice none 0 0,.slice none 0 0,.slice none 0 0],.int .i64 0,.int .i64 1]) (by simp[results,Tryz.results108,go_sem,cell_setCell, *]) rfl (out_doc0 (bset5 u.out om))
 rw[h1];go_wp2_with fail
 refine(impl_within_c client 1 8 _).mono ?_;rintro e' w2 ⟨rfl,hb2⟩;have s2:w1.heap.size<=w2.heap.size:=by have:=hb2.size;(try simp at this);omega
 replace u:=hH (u.out.trans (hb2.mono om));replace n:=hH (n.out.at hb2);replace Kd:=n.out.o5;replace q:=hH (q.out.at hb2);replace Kr:=q.out.q5;clear hb2;by_cases h2:within client 1 8=true
 rotate_left
 ·have h2:within client 1 8=false:=by simpa using h2
  rw[h2];have HV:=hH (submit_no (d:=d) (client:=client) (seq:=seq) (base:=base) (o:=o) fun h=>by have e:=h.2.1;rw[h2]at e;cases e)
  go_wp2;rw[HV.out];exact bodyPost_ret (v:= .tuple #[.agg #[.string ⟨#[]⟩,.int .i64 0,.slice none 0 0,.slice none 0 0,.slice none 0 0],.int .i64 0,.int .i64 1]) (by simp[results,Tryz.results108,go_sem,cell_setCell, *]) rfl (out_doc0 (bset5 u.out om))
 rw[h2];go_wp2_with fail
 refine(impl_within_c seq 1 1000000000 _).mono ?_;rintro e' w3 ⟨rfl,hb3⟩;have s3:w2.heap.size<=w3.heap.size:=by have:=hb3.size;(try simp at this);omega
 replace u:=hH (u.out.trans (hb3.mono om));replace n:=hH (n.out.at hb3);replace Kd:=n.out.o5;replace q:=hH (q.out.at hb3);replace Kr:=q.out.q5;clear hb3;by_cases h3:within seq 1 1000000000=true
 rotate_left
 ·have h3:within seq 1 1000000000=false:=by simpa using h3
  rw[h3];have HV:=hH (submit_no (d:=d) (client:=client) (seq:=seq) (base:=base) (o:=o) fun h=>by have e:=h.2.2.1;rw[h3]at e;cases e)
  go_wp2;rw[HV.out];exact bodyPost_ret (v:= .tuple #[.agg #[.string ⟨#[]⟩,.int .i64 0,.slice none 0 0,.slice none 0 0,.slice none 0 0],.int .i64 0,.int .i64 1]) (by simp[results,Tryz.results108,go_sem,cell_setCell, *]) rfl (out_doc0 (bset5 u.out om))
 rw[h3];go_wp2_with fail
 refine(impl_OpOk_c _ o _ (ho.below u.out)).mono ?_;rintro e' w4 ⟨rfl,hb4⟩;have s4:w3.heap.size<=w4.heap.size:=by have:=hb4.size;(try simp at this);omega
 replace u:=hH (u.out.trans (hb4.mono om));replace n:=hH (n.out.at hb4);replace Kd:=n.out.o5;replace q:=hH (q.out.at hb4);replace Kr:=q.out.q5;clear hb4;by_cases h4:opOk o=true
 rotate_left
 ·have h4:opOk o=false:=by simpa using h4
  rw[h4];have HV:=hH (submit_no (d:=d) (client:=client) (seq:=seq) (base:=base) (o:=o) fun h=>by have e:=h.2.2.2;rw[h4]at e;cases e)
  go_wp2;rw[HV.out];exact bodyPost_ret (v:= .tuple #[.agg #[.string ⟨#[]⟩,.int .i64 0,.slice none 0 0,.slice none 0 0,.slice none 0 0],.int .i64 0,.int .i64 1]) (by simp[results,Tryz.results108,go_sem,cell_setCell, *]) rfl (out_doc0 (bset5 u.out om))
 rw[h4];obtain⟨bh0,bh1,bf0,bf1⟩:=headRev_bd h1;obtain⟨bs0,bs1,bs2⟩:=seenOf_bd h1 client;obtain⟨bz0,bz1,bz2⟩:=docOk_szs h1;have bq:=within_iff.1 h3;have bc:=within_iff.1 h2;have H4:=hH (And.intro h1 (And.intro h2 (And.intro h3 h4)));have BS2:=hH bs2;have bl:=(docOk_iff.1 h1).len;have bsl:=(docOk_iff.1 h1).slen;clear bs2;go_wp2_with fail
 refine(impl_SeenOf_c d _ _ _ client _ (h_seen.below u.out)).mono ?_;rintro e' w5 ⟨rfl,hb5⟩;have s5:w4.heap.size<=w5.heap.size:=by have:=hb5.size;(try simp at this);omega
 replace u:=hH (u.out.trans (hb5.mono om));replace n:=hH (n.out.at hb5);replace Kd:=n.out.o5;replace q:=hH (q.out.at hb5);replace Kr:=q.out.q5;clear hb5;by_cases h5:(seenOf d client).1.seq=seq
 ·have HV:=hH (submit_same (base:=base) H4.out h5);have h5b:((seenOf d client).1.seq==seq)=true:=by simpa using h5
  clear h5;go_upto_region 5 with(fail)
  obtain⟨V,hV⟩:∃V:World,V=(w5.alloc (.cells #[.int .i64 (seenOf d client).1.client,.int .i64 (seenOf d client).1.seq,.int .i64 (seenOf d client).1.rev] 167)):=⟨_,rfl⟩;have sV:w5.heap.size+1<=V.heap.size:=by rw[hV];first|(simp;done)|(simp;omega)
  replace u:Hid (Below w.heap.size w V):=hH (by rw[hV];exact(u.out.alloc om _))
  replace n:Hid (Bx V (w.heap.size) [.string d.name,.int .i64 d.from_,M,I,J]):=hH (by rw[hV];exact(n.out.alloc _))
  replace Kd:=n.out.o5;replace q:Hid (Bx V (w.heap.size+1) [.string ⟨#[]⟩,.int .i64 0,.slice none 0 0,.slice none 0 0,.slice none 0 0]):=hH (by rw[hV];exact(q.out.alloc _))
  replace Kr:=q.out.q5;have HXs:Hid (Bx V (w5.heap.size) [.int .i64 (seenOf d client).1.client,.int .i64 (seenOf d client).1.seq,.int .i64 (seenOf d client).1.rev]):=hH (by rw[hV];exact(Bx.new (by first|rfl|simp|omega)))
  have Ks:=HXs.out.q3;rw[<-hV];clear hV;have n9:¬(w5.heap.size=w.heap.size+1):=by omega
  go_region_held3 (fun w'=>w'.cell? ⟨w.heap.size,0,none⟩=some (.string d.name)/\w'.cell? ⟨w.heap.size,1,none⟩=some (.int .i64 d.from_)/\w'.cell? ⟨w.heap.size,2,none⟩=some (M)/\w'.cell? ⟨w.heap.size,3,none⟩=some (I)/\w'.cell? ⟨w.heap.size,4,none⟩=some (J)/\w'.cell? ⟨w5.heap.size,0,none⟩=some (.int .i64 (seenOf d client).1.client)/\w'.cell? ⟨w5.heap.size,1,none⟩=some (.int .i64 (seenOf d client).1.seq)/\w'.cell? ⟨w5.heap.size,2,none⟩=some (.int .i64 (seenOf d client).1.rev)) (first|(go_keep;done)|(simp[cell_setCell, *];done))
   ((go_at_call 125;refine(impl_copyDoc_c d _ _ _ _ n_name (h_text.below (u.out.trans (show Below w.heap.size V _ from blw))) (h_list.below (u.out.trans (show Below w.heap.size V _ from blw))) (h_seen.below (u.out.trans (show Below w.heap.size V _ from blw))) bz0 bz1 bz2).mono ?_;rintro e' w9 ⟨cs,rfl,ho,hb9⟩;obtain⟨vt,vl,vs,rfl,htn⟩:=TriN.of_own ho (lr _);obtain⟨at_,ct,rfl⟩:=htn.rdT.isSlice;obtain⟨al,cl,rfl⟩:=htn.rdL.isSlice;obtain⟨a0,a1,rfl⟩:=htn.rdS.isSlice;have HTN:=hH htn;clear ho htn;have B9:Below V.heap.size V w9:=(show Below V.heap.size V _ from blw).trans (hb9.mono om);have s9:=B9.size;obtain⟨Zd_9,Kd_9_0,Kd_9_1,Kd_9_2,Kd_9_3,Kd_9_4⟩:=(n.out.at B9).o5;obtain⟨Zs_9,Ks_9_0,Ks_9_1,Ks_9_2,Gs_9_0,Gs_9_1,Gs_9_2⟩:=(HXs.out.at B9).q3;obtain⟨Zr_9,Kr_9_0,Kr_9_1,Kr_9_2,Kr_9_3,Kr_9_4,Gr_9_0,Gr_9_1,Gr_9_2,Gr_9_3,Gr_9_4⟩:=(q.out.at B9).q5;clear hb9))
  have HB:Hid (Below w.heap.size w (((((w9.setCell ⟨w.heap.size+1,0,none⟩ (.string d.name)).setCell ⟨w.heap.size+1,1,none⟩ (.int .i64 d.from_)).setCell ⟨w.heap.size+1,2,none⟩ (.slice at_ d.text.length ct)).setCell ⟨w.heap.size+1,3,none⟩ (.slice al d.list.length cl)).setCell ⟨w.heap.size+1,4,none⟩ (.slice a0 d.seen.length a1))):=hH ((((((u.out.trans (B9.mono (by omega))).setCell (p:=⟨w.heap.size+1,0,none⟩) om _).setCell (p:=⟨w.heap.size+1,1,none⟩) om _).setCell (p:=⟨w.heap.size+1,2,none⟩) om _).setCell (p:=⟨w.heap.size+1,3,none⟩) om _).setCell (p:=⟨w.heap.size+1,4,none⟩) om _)
  have HT:=hH ((((((HTN.out.mono (C':=w.heap.size+2) (by first|omega|(simp;omega))).setCell (b:=w.heap.size+1) (o:=0) (.inl (by omega)) (.string d.name)).setCell (b:=w.heap.size+1) (o:=1) (.inl (by omega)) (.int .i64 d.from_)).setCell (b:=w.heap.size+1) (o:=2) (.inl (by omega)) (.slice at_ d.text.length ct)).setCell (b:=w.heap.size+1) (o:=3) (.inl (by omega)) (.slice al d.list.length cl)).setCell (b:=w.heap.size+1) (o:=4) (.inl (by omega)) (.slice a0 d.seen.length a1))
  all_goals
   go_wp2;rw[HV.out];exact bodyPost_ret (v:= .tuple #[.agg #[.string d.name,.int .i64 d.from_,.slice at_ d.text.length ct,.slice al d.list.length cl,.slice a0 d.seen.length a1],.int .i64 (seenOf d client).1.rev,.int .i64 0]) (by simp[results,Tryz.results108,go_sem,cell_setCell, *]) rfl (TriN.out HT.out n_name (by omega) HB.out)
 have HN5:=hH h5;have h5b:((seenOf d client).1.seq==seq)=false:=by simpa using h5
 clear h5;by_cases h6:(seenOf d client).1.seq+1=seq
 rotate_left
 ·have HV:=hH (submit_seq (base:=base) H4.out HN5.out h6);have h6b:((seenOf d client).1.seq+1==seq)=false:=by simpa using h6
  have h6c:(seq==(seenOf d client).1.seq+1)=false:=by simp;omega
  have h6d:¬seq=(seenOf d client).1.seq+1:=by omega
  go_wp2;have HB:Hid (Below w.heap.size w ((((((w5.setCell ⟨w.heap.size+1,0,none⟩ (.string ⟨#[]⟩)).setCell ⟨w.heap.size+1,1,none⟩ (.int .i64 0)).setCell ⟨w.heap.size+1,2,none⟩ (.slice none 0 0)).setCell ⟨w.heap.size+1,3,none⟩ (.slice none 0 0)).setCell ⟨w.heap.size+1,4,none⟩ (.slice none 0 0)).alloc (.cells #[.int .i64 (seenOf d client).1.client,.int .i64 (seenOf d client).1.seq,.int .i64 (seenOf d client).1.rev] 167))):=hH ((((((u.out.setCell (p:=⟨w.heap.size+1,0,none⟩) om _).setCell (p:=⟨w.heap.size+1,1,none⟩) om _).setCell (p:=⟨w.heap.size+1,2,none⟩) om _).setCell (p:=⟨w.heap.size+1,3,none⟩) om _).setCell (p:=⟨w.heap.size+1,4,none⟩) om _).alloc om _);rw[HV.out];exact bodyPost_ret (v:= .tuple #[.agg #[.string ⟨#[]⟩,.int .i64 0,.slice none 0 0,.slice none 0 0,.slice none 0 0],.int .i64 0,.int .i64 4]) (by simp[results,Tryz.results108,go_sem,cell_setCell, *]) rfl (out_doc0 HB.out)
 have HN6:=hH h6;have h6b:((seenOf d client).1.seq+1==seq)=true:=by simpa using h6
 have h6c:(seq==(seenOf d client).1.seq+1)=true:=by simp;omega
 clear h6;go_wp2_with fail
 refine(impl_Rebase_c d _ _ _ base _ o _ n_name (h_text.below (u.out.alloc om _)) (h_list.below (u.out.alloc om _)) (h_seen.below (u.out.alloc om _)) (ho.below (u.out.alloc om _))).mono ?_;rintro e' w6 ⟨vx,fx,rfl,sx,kx,hb6⟩;obtain⟨ax,cx,rfl⟩:=sx.isS;have HXX:Hid (OwnB (w5.heap.size+1) w6.heap.size w6 (.slice ax (rebase d base o).1.length cx) (rebase d base o).1):=hH ⟨fx,sx,kx.mono (by first|exact lr _|(simp;done)|(simp;omega)),Live.lt sx.live⟩
 clear sx kx;have s6:w5.heap.size+1<=w6.heap.size:=by have:=hb6.size;(try simp at this);omega
 replace u:=hH ((u.out.alloc om _).trans (hb6.mono om));replace n:=hH ((n.out.alloc _).at hb6);replace Kd:=n.out.o5;replace q:=hH ((q.out.alloc _).at hb6);replace Kr:=q.out.q5;have HXs:Hid (Bx w6 (w5.heap.size) [.int .i64 (seenOf d client).1.client,.int .i64 (seenOf d client).1.seq,.int .i64 (seenOf d client).1.rev]):=hH ((Bx.new (by first|rfl|simp|omega)).at hb6)
 have Ks:=HXs.out.q3;clear hb6;by_cases h7:(rebase d base o).2=0
 rotate_left
 ·have HV:=hH (submit_code H4.out HN5.out HN6.out h7);have h7b:((rebase d base o).2==0)=false:=by simpa using h7
  go_wp2;rw[HV.out];exact bodyPost_ret (v:= .tuple #[.agg #[.string ⟨#[]⟩,.int .i64 0,.slice none 0 0,.slice none 0 0,.slice none 0 0],.int .i64 0,.int .i64 (rebase d base o).2]) (by simp[results,Tryz.results108,go_sem,cell_setCell, *]) rfl (out_doc0 (bset5 u.out om))
 have HN7:=hH h7;have HOX:=hH (rebase_ok h7);clear h7;rw[HN7.out];go_wp2_with fail
 refine(impl_HeadRev_c d _ _ _ _ (h_list.below u.out) (by omega) (by omega)).mono ?_
 rintro e' w7 ⟨rfl,hb7⟩;have s7:w6.heap.size<=w7.heap.size:=by have:=hb7.size;(try simp at this);omega
 replace u:=hH (u.out.trans (hb7.mono om));replace HXX:Hid (OwnB (w5.heap.size+1) (w6.heap.size) w7 (.slice ax (rebase d base o).1.length cx) ((rebase d base o).1)):=hH ((HXX.out.below hb7));replace n:=hH (n.out.at hb7);replace Kd:=n.out.o5;replace q:=hH (q.out.at hb7);replace Kr:=q.out.q5;replace HXs:=hH (HXs.out.at hb7);replace Ks:=HXs.out.q3;clear hb7;by_cases h8:headRev d<999999000
 rotate_left
 ·have HV:=hH (submit_large H4.out HN5.out HN6.out HN7.out h8);have h8b:decide (999999000<=headRev d)=true:=by simp;omega
  go_wp2;rw[HV.out];exact bodyPost_ret (v:= .tuple #[.agg #[.string ⟨#[]⟩,.int .i64 0,.slice none 0 0,.slice none 0 0,.slice none 0 0],.int .i64 0,.int .i64 5]) (by simp[results,Tryz.results108,go_sem,cell_setCell, *]) rfl (out_doc0 (bset5 u.out om))
 have HV:=hH (submit_yes (base:=base) H4.out HN5.out HN6.out HN7.out h8);clear h5b h6b h6c;go_wp2_with fail
 refine(impl_copyDoc_c d _ _ _ _ n_name (h_text.below u.out) (h_list.below u.out) (h_seen.below u.out) bz0 bz1 bz2).mono ?_;rintro e' R ⟨cs,rfl,ho8,hb8⟩;obtain⟨vt,vl,vs,rfl,htn⟩:=TriN.of_own ho8 (lr _);obtain⟨at_,ct,rfl⟩:=htn.rdT.isSlice
 obtain⟨al,cl,rfl⟩:=htn.rdL.isSlice;obtain⟨a0,a1,rfl⟩:=htn.rdS.isSlice;have HTN:=hH htn;clear ho8 htn;have s8:w7.heap.size<=R.heap.size:=by have:=hb8.size;(try simp at this);omega
 replace u:=hH (u.out.trans (hb8.mono om));replace HXX:Hid (OwnB (w5.heap.size+1) (w6.heap.size) R (.slice ax (rebase d base o).1.length cx) ((rebase d base o).1)):=hH ((HXX.out.below hb8));replace n:=hH (n.out.at hb8);replace Kd:=n.out.o5;replace q:=hH (q.out.at hb8);replace Kr:=q.out.q5;replace HXs:=hH (HXs.out.at hb8);replace Ks:=HXs.out.q3;clear hb8;have HTN0:=HTN;clear HTN;have HTN:Hid (TriN (R.heap.size) (w7.heap.size) R (.slice at_ d.text.length ct) (.slice al d.list.length cl) (.slice a0 d.seen.length a1) d.text d.list d.seen):=hH (HTN0.out.mono (by first|exact lr _|omega|(simp;omega)))
 clear HTN0;go_upto_region 14 with(fail)
 obtain⟨U,hU⟩:∃U:World,U=(R.alloc (.cells #[.string d.name,.int .i64 d.from_,.slice at_ d.text.length ct,.slice al d.list.length cl,.slice a0 d.seen.length a1] 99)):=⟨_,rfl⟩
 have sU:R.heap.size+1<=U.heap.size:=by rw[hU];first|(simp;done)|(simp;omega)
 replace u:Hid (Below w.heap.size w U):=hH (by rw[hU];exact(u.out.alloc om _))
 replace HXX:Hid (OwnB (w5.heap.size+1) (w6.heap.size) U (.slice ax (rebase d base o).1.length cx) ((rebase d base o).1)):=hH (by rw[hU];exact(HXX.out.alloc _))
 replace HTN:Hid (TriN (R.heap.size) (w7.heap.size) U (.slice at_ d.text.length ct) (.slice al d.list.length cl) (.slice a0 d.seen.length a1) d.text d.list d.seen):=hH (by rw[hU];exact(HTN.out.alloc _))
 replace n:Hid (Bx U (w.heap.size) [.string d.name,.int .i64 d.from_,M,I,J]):=hH (by rw[hU];exact(n.out.alloc _))
 replace Kd:=n.out.o5;replace q:Hid (Bx U (w.heap.size+1) [.string ⟨#[]⟩,.int .i64 0,.slice none 0 0,.slice none 0 0,.slice none 0 0]):=hH (by rw[hU];exact(q.out.alloc _))
 replace Kr:=q.out.q5;replace HXs:Hid (Bx U (w5.heap.size) [.int .i64 (seenOf d client).1.client,.int .i64 (seenOf d client).1.seq,.int .i64 (seenOf d client).1.rev]):=hH (by rw[hU];exact(HXs.out.alloc _))
 replace Ks:=HXs.out.q3;have D:Hid (Bx U (R.heap.size) [.string d.name,.int .i64 d.from_,.slice at_ d.text.length ct,.slice al d.list.length cl,.slice a0 d.seen.length a1]):=hH (by rw[hU];exact(Bx.new (by first|rfl|simp|omega)))
 have Ko:=D.out.q5;rw[<-hU];clear hU;obtain⟨i0,hi,hz0,hz1,hz2⟩:=info_parts info_DEntry;obtain⟨fx,sx,kx,lx⟩:=HXX.out;have HSXU:=hH sx;have HKXU:Hid (Fresh (w.heap.size+2) U fx):=hH (kx.mono (by omega))
 have HLX:Hid (∀p∈fx,p.1<w7.heap.size):=hH fun p hp=>by have:=lx p hp;omega
 clear sx kx lx;have hrd:GoT.rd BIG U [.int .i64 client,.int .i64 seq,.slice ax (rebase d base o).1.length cx] (entry1 client seq (rebase d base o).1) fx:=⟨_,fx,rfl,HSXU.out,rfl⟩;obtain⟨gl,j1,j2,j3,j4,j5,j6⟩:=HTN.out.app (C:=w.heap.size+2) 118 (lf _ _) (by omega) (by omega) (by omega) hrd HKXU.out HLX.out
 have J1:=hH j1;have J2:=hH j2;have J3:=hH j3;have J5:=hH j5;have J6:=hH j6;clear hrd j1 j2 j3 j4 j5 j6;go_wp2_with (at_builtin;go_must (refine wpList_append_row rfl _ _ 34 rfl Tryz.underlying34 hi hz0 hz1 hz2 rfl rfl rfl J1.out J2.out J3.out ?c1 ?c2 ?c3 ?_))
 case c1=>exact le_BIG (by simp;omega)
 case c2=>simp;omega
 case c3=>simp;omega
 intro v20 w20 hr hw hn;obtain⟨N,Q,e20⟩:=hr.rd.isSlice;rw[List.length_append,List.length_singleton]at e20;subst e20;have HT2:Hid (TriN (R.heap.size) (w.heap.size+2) w20 (.slice at_ d.text.length ct) (.slice N (d.list.length+1) Q) (.slice a0 d.seen.length a1) d.text (d.list++[entry1 client seq (rebase d base o).1]) d.seen):=hH (J6.out _ _ hr hw (fun p hp=>(hn p.1 p.2 hp).imp_right fun h=>by simp at h⊢;omega))
 have s20:U.heap.size+1<=w20.heap.size:=by have:=hw.size;(try simp at this);omega
 replace u:Hid (Below w.heap.size w w20):=hH ((u.out.alloc om _).trans (hw.below (by simp;omega) (fun p hp=>by have:=(J5.out p hp).1;omega)))
 replace n:Hid (Bx w20 (w.heap.size) [.string d.name,.int .i64 d.from_,M,I,J]):=hH ((n.out.alloc _).wr hw (fun p hp e=>by have:=J5.out p hp;omega))
 replace Kd:=n.out.o5;replace q:Hid (Bx w20 (w.heap.size+1) [.string ⟨#[]⟩,.int .i64 0,.slice none 0 0,.slice none 0 0,.slice none 0 0]):=hH ((q.out.alloc _).wr hw (fun p hp e=>by have:=J5.out p hp;omega))
 replace Kr:=q.out.q5;replace HXs:Hid (Bx w20 (w5.heap.size) [.int .i64 (seenOf d client).1.client,.int .i64 (seenOf d client).1.seq,.int .i64 (seenOf d client).1.rev]):=hH ((HXs.out.alloc _).wr hw (fun p hp e=>by have:=J5.out p hp;omega))
 replace Ks:=HXs.out.q3;replace D:Hid (Bx w20 (R.heap.size) [.string d.name,.int .i64 d.from_,.slice at_ d.text.length ct,.slice al d.list.length cl,.slice a0 d.seen.length a1]):=hH ((D.out.alloc _).wr hw (fun p hp e=>by have:=J5.out p hp;omega))
 replace Ko:=D.out.q5;clear hr hw hn J1 J2 J3 J5 J6 HSXU HKXU HLX HTN HXX;go_wp2_with fail
 refine(impl_HeadRev_c (⟨d.name,d.from_,d.text,d.list++[entry1 client seq (rebase d base o).1],d.seen⟩:DDoc) _ _ _ _ ((HT2.out.setCell (by omega) _)).rdL (by first|exact bf0'|(show _<=d.from_;omega)) (by show d.from_<=_;omega)).mono ?_
 rintro e' w21 ⟨rfl,hb21⟩;have hhr:headRev (⟨d.name,d.from_,d.text,d.list++[entry1 client seq (rebase d base o).1],d.seen⟩:DDoc)=headRev d+1:=by simp[headRev];omega
 rw[hhr];clear hhr;have s21:w20.heap.size<=w21.heap.size:=by have:=hb21.size;(try simp at this);omega
 replace u:=hH ((u.out.setCell (p:=⟨R.heap.size,3,none⟩) om _).trans (hb21.mono om));replace HT2:Hid (TriN (R.heap.size) (w.heap.size+2) w21 (.slice at_ d.text.length ct) (.slice N (d.list.length+1) Q) (.slice a0 d.seen.length a1) d.text (d.list++[entry1 client seq (rebase d base o).1]) d.seen):=hH (((HT2.out.setCell (by omega) _).below hb21))
 replace n:=hH ((n.out.setO om).at hb21);replace Kd:=n.out.o5;replace q:=hH ((q.out.setO om).at hb21);replace Kr:=q.out.q5;replace HXs:=hH ((HXs.out.setO om).at hb21);replace Ks:=HXs.out.q3;replace D:=hH ((D.out.set 3 (.slice N (d.list.length+1) Q)).at hb21);replace Ko:=D.out.q5;clear hb21;have hrs:RdS w21 (.slice a0 d.seen.length a1) d.seen:=HT2.out.rdS;have hls:=fun w1 ty=>hrs.len Tryz.underlying97 w1 ty
 have HRS:=hH hrs;clear hrs;go_upto_region 16 with(fail)
 obtain⟨V,hV⟩:∃V:World,V=w21:=⟨_,rfl⟩;have sV:w21.heap.size<=V.heap.size:=by rw[hV];first|(simp;done)|(simp;omega)
 replace u:Hid (Below w.heap.size w V):=hH (by rw[hV];exact u.out)
 replace HT2:Hid (TriN (R.heap.size) (w.heap.size+2) V (.slice at_ d.text.length ct) (.slice N (d.list.length+1) Q) (.slice a0 d.seen.length a1) d.text (d.list++[entry1 client seq (rebase d base o).1]) d.seen):=hH (by rw[hV];exact HT2.out)
 replace n:Hid (Bx V (w.heap.size) [.string d.name,.int .i64 d.from_,M,I,J]):=hH (by rw[hV];exact n.out)
 replace Kd:=n.out.o5;replace q:Hid (Bx V (w.heap.size+1) [.string ⟨#[]⟩,.int .i64 0,.slice none 0 0,.slice none 0 0,.slice none 0 0]):=hH (by rw[hV];exact q.out)
 replace Kr:=q.out.q5;replace D:Hid (Bx V (R.heap.size) [.string d.name,.int .i64 d.from_,.slice at_ d.text.length ct,.slice N (d.list.length+1) Q,.slice a0 d.seen.length a1]):=hH (by rw[hV];exact D.out)
 replace Ko:=D.out.q5;rw[<-hV];clear hV;replace HRS:Hid (RdS V (.slice a0 d.seen.length a1) d.seen):=hH HT2.out.rdS;go_upto_block 2 with(fail)
 go_cut [19]from 92 (fun z wx=>∃k:Nat,z= .int .i64 k/\V=wx/\k<=d.seen.length/\(∀j<k,∀s,d.seen[j]? =some s->s.client<client)/\(∀s,d.seen[k]? =some s->¬s.client<client))
 case first=>
  go_wp2_with fail
  go_loop [19] (fun i=>∃k:Nat,k<=d.seen.length/\i= .int .i64 k/\∀j<k,∀s,d.seen[j]? =some s->s.client<client) (fun i=>d.seen.length-(intOf i).toNat)
  case atStart=>exact⟨0,lz _,rfl,fun j h=>absurd h (Nat.not_lt_zero j)⟩
  case round=>
   obtain⟨k,hk,rfl,hlow⟩:=hrel;have HLOW:=hH hlow;clear hlow;by_cases hlt:k<d.seen.length
   ·obtain⟨y,hy⟩:=get_some hlt;obtain⟨b1,o1,cs,g1,g2,g3⟩:=HRS.out.idx Tryz.underlying97 szi_DSeen k hy;obtain rfl:=inv_DSeen g3;have q0:=g2.zero;have HY:=hH hy;have hl2:(k:Int)<(d.seen.length:Int):=by omega
    clear g2 g3 hy;by_cases e2:y.client<client
    ·go_wp2;go_round
     case rel=>
      refine⟨k+1,by omega,by go_num,fun j hj d' hd'=> ?_⟩
      by_cases hjk:j<k
      ·exact HLOW.out j hjk d' hd'
      ·obtain rfl:j=k:=by omega
       rw[HY.out]at hd';cases hd';exact e2
     case measure=>simp[intOf];omega
    ·go_wp2_with fail
     go_meet
     exact⟨k,rfl,rfl,hk,HLOW.out,fun s hs=>by rw[HY.out]at hs;cases hs;exact e2⟩
   ·have hl2:¬(k:Int)<(d.seen.length:Int):=by omega
    go_wp2_with fail
    go_meet
    exact⟨k,rfl,rfl,hk,HLOW.out,fun s hs=>by have:=(lg.1 hs).1;omega⟩
 case rest=>
  obtain⟨k,rfl,hwc,hk,hlow,hnl⟩:=hcut;subst hwc;have HLOW:=hH hlow;have HNL:=hH hnl;clear hlow hnl;by_cases hlt:k<d.seen.length
  ·obtain⟨y,hy⟩:=get_some hlt;obtain⟨b1,o1,cs,g1,g2,g3⟩:=HRS.out.idx Tryz.underlying97 szi_DSeen k hy;obtain rfl:=inv_DSeen g3;have q0:=g2.zero;have HY:=hH hy;have hl2:(k:Int)<(d.seen.length:Int):=by omega
   clear g2 g3 hy;by_cases e3:y.client=client
   ·have e3b:(y.client==client)=true:=by simpa using e3
    have HE3:=hH e3;clear e3;have HSE:Hid ((seenSet d.seen ⟨client,seq,headRev d+1⟩)=d.seen.set k ⟨client,seq,headRev d+1⟩):=hH (seenSet_at (seenK_eq HLOW.out hk HNL.out) HY.out HE3.out);go_upto_region 20 with(fail)
    obtain⟨bS,oS,y1,y2,y3,y4,y5,y6,y7,y8,y9,y10,y11⟩:=HT2.out.seenEl Tryz.underlying97 szi_DSeen HY.out (by omega) ⟨client,seq,headRev d+1⟩
    rw[<-HSE.out]at y11;have a4:=hH y11;clear y11 q0 g1 HT2 HRS hls;have ny:¬(bS=R.heap.size):=y8;go_upto_region 22 with(fail)
    obtain⟨V2,hV2⟩:∃V2:World,V2=(((V.setCell ⟨bS,oS,none⟩ (.int .i64 client)).setCell ⟨bS,oS+1,none⟩ (.int .i64 seq)).setCell ⟨bS,oS+2,none⟩ (.int .i64 (headRev d+1))):=⟨_,rfl⟩;have sV2:V.heap.size<=V2.heap.size:=by rw[hV2];first|(simp;done)|(simp;omega)
    replace u:Hid (Below w.heap.size w V2):=hH (by rw[hV2];exact(((u.out.setCell (p:=⟨bS,oS,none⟩) om _).setCell (p:=⟨bS,oS+1,none⟩) om _).setCell (p:=⟨bS,oS+2,none⟩) om _))
    replace n:Hid (Bx V2 (w.heap.size) [.string d.name,.int .i64 d.from_,M,I,J]):=hH (by rw[hV2];exact(((n.out.setO om).setO om).setO om))
    replace Kd:=n.out.o5;replace q:Hid (Bx V2 (w.heap.size+1) [.string ⟨#[]⟩,.int .i64 0,.slice none 0 0,.slice none 0 0,.slice none 0 0]):=hH (by rw[hV2];exact(((q.out.setO om).setO om).setO om))
    replace Kr:=q.out.q5;replace D:Hid (Bx V2 (R.heap.size) [.string d.name,.int .i64 d.from_,.slice at_ d.text.length ct,.slice N (d.list.length+1) Q,.slice a0 d.seen.length a1]):=hH (by rw[hV2];exact(((D.out.setO om).setO om).setO om))
    replace Ko:=D.out.q5;replace a4:Hid (TriN (R.heap.size) (w.heap.size+2) V2 (.slice at_ d.text.length ct) (.slice N (d.list.length+1) Q) (.slice a0 d.seen.length a1) (d.text) ((d.list++[entry1 client seq (rebase d base o).1])) ((seenSet d.seen ⟨client,seq,headRev d+1⟩))):=hH (by rw[hV2];exact a4.out)
    rw[<-hV2];clear hV2;clear y1 y2 y3 y4 y5 y6 y7 y9 y10;by_cases hw8:d.list.length=8
    rotate_left
    ·have hl8:¬(8:Int)<(d.list.length:Int)+1:=by omega
     have HCM:Hid (commit d client seq (rebase d base o).1=⟨d.name,d.from_,d.text,(d.list++[entry1 client seq (rebase d base o).1]),(seenSet d.seen ⟨client,seq,headRev d+1⟩)⟩):=hH (by unfold commit;rw[if_neg (by simp;omega)])
     go_upto_region 27 with(fail)
     obtain⟨Y,hY⟩:∃Y:World,Y=V2:=⟨_,rfl⟩;have sY:V2.heap.size<=Y.heap.size:=by rw[hY];first|(simp;done)|(simp;omega)
     replace u:Hid (Below w.heap.size w Y):=hH (by rw[hY];exact u.out)
     replace a4:Hid (TriN (R.heap.size) (w.heap.size+2) Y (.slice at_ d.text.length ct) (.slice N (d.list.length+1) Q) (.slice a0 d.seen.length a1) (d.text) ((d.list++[entry1 client seq (rebase d base o).1])) ((seenSet d.seen ⟨client,seq,headRev d+1⟩))):=hH (by rw[hY];exact a4.out)
     replace n:Hid (Bx Y (w.heap.size) [.string d.name,.int .i64 d.from_,M,I,J]):=hH (by rw[hY];exact n.out)
     replace Kd:=n.out.o5;replace q:Hid (Bx Y (w.heap.size+1) [.string ⟨#[]⟩,.int .i64 0,.slice none 0 0,.slice none 0 0,.slice none 0 0]):=hH (by rw[hY];exact q.out)
     replace Kr:=q.out.q5;replace D:Hid (Bx Y (R.heap.size) [.string d.name,.int .i64 d.from_,.slice at_ d.text.length ct,.slice N (d.list.length+1) Q,.slice a0 d.seen.length a1]):=hH (by rw[hY];exact D.out)
     replace Ko:=D.out.q5;rw[<-hY];clear hY;repeat go_step
     rw[HV.out,HCM.out];exact bodyPost_ret (v:= .tuple #[.agg #[.string d.name,.int .i64 d.from_,.slice at_ d.text.length ct,.slice N (d.list.length+1) Q,.slice a0 d.seen.length a1],.int .i64 (headRev d+1),.int .i64 0]) (by simp[results,Tryz.results108,go_sem,cell_setCell, *]) rfl (TriN.out (y:=⟨d.name,d.from_,d.text,(d.list++[entry1 client seq (rebase d base o).1]),(seenSet d.seen ⟨client,seq,headRev d+1⟩)⟩) (a4.out.set5 (by omega)) n_name (by omega) (bset5 u.out om))
    have hl8:(8:Int)<(d.list.length:Int)+1:=by omega
    obtain⟨e0,he0⟩:∃e0,(d.list++[entry1 client seq (rebase d base o).1])[0]? =some e0:=get_some (by simp)
    have HCM:Hid (commit d client seq (rebase d base o).1=⟨d.name,d.from_+1,(applyP e0.o d.text).1,(d.list++[entry1 client seq (rebase d base o).1]).drop 1,(seenSet d.seen ⟨client,seq,headRev d+1⟩)⟩):=hH (by unfold commit;rw[if_pos (by simp;omega)];have e:(d.list++[entry1 client seq (rebase d base o).1]).headD ⟨0,0,[]⟩=e0:=(by rw[List.headD_eq_head?_getD,List.head?_eq_getElem?,he0];rfl);rw[e])
    have HW8:=hH hw8;clear hw8;go_upto_region 23 with(fail)
    obtain⟨Z,hZ⟩:∃Z:World,Z=V2:=⟨_,rfl⟩;have sZ:V2.heap.size<=Z.heap.size:=by rw[hZ];first|(simp;done)|(simp;omega)
    replace u:Hid (Below w.heap.size w Z):=hH (by rw[hZ];exact u.out)
    replace a4:Hid (TriN (R.heap.size) (w.heap.size+2) Z (.slice at_ d.text.length ct) (.slice N (d.list.length+1) Q) (.slice a0 d.seen.length a1) (d.text) ((d.list++[entry1 client seq (rebase d base o).1])) ((seenSet d.seen ⟨client,seq,headRev d+1⟩))):=hH (by rw[hZ];exact a4.out)
    replace n:Hid (Bx Z (w.heap.size) [.string d.name,.int .i64 d.from_,M,I,J]):=hH (by rw[hZ];exact n.out)
    replace Kd:=n.out.o5;replace q:Hid (Bx Z (w.heap.size+1) [.string ⟨#[]⟩,.int .i64 0,.slice none 0 0,.slice none 0 0,.slice none 0 0]):=hH (by rw[hZ];exact q.out)
    replace Kr:=q.out.q5;replace D:Hid (Bx Z (R.heap.size) [.string d.name,.int .i64 d.from_,.slice at_ d.text.length ct,.slice N (d.list.length+1) Q,.slice a0 d.seen.length a1]):=hH (by rw[hZ];exact D.out)
    replace Ko:=D.out.q5;rw[<-hZ];clear hZ;obtain⟨b1,o1,ces,x1,x2,x3⟩:=(a4.out.rdL).idx Tryz.underlying34 szi_DEntry 0 he0;obtain⟨v_eo,rfl,r_eo⟩:=inv_DEntry x3;have q0:=x2.zero;have q1:=x2 1 _ rfl;have q2:=x2 2 _ rfl;have l1:b1<Z.heap.size:=lk (w:=Z) (a:=⟨b1,o1,none⟩) q0;obtain⟨aeo,ceo,rfl⟩:=r_eo.isSlice;have HREO:=hH r_eo;replace x1:∀w1,(Instr.indexAt 34 (.slice N (d.list.length+1) Q) (.int .i64 0)).run Tryz.prog w1= .ok (.pointer (some ⟨b1,o1,none⟩)) w1:=x1;clear x2 x3 r_eo he0;go_wp2_with fail
    refine(impl_Apply_c e0.o d.text _ _ _ (HREO.out.below ((lf Z.heap.size Z).alloc om _)) ((a4.out.alloc _)).rdT).mono ?_;rintro e' w22 ⟨vn,fn,rfl,sn,kn,hb22⟩;obtain⟨an,cn,rfl⟩:=sn.isS;have HTX2:Hid (TriN (R.heap.size) (w.heap.size+2) w22 (.slice an (applyP e0.o d.text).1.length cn) (.slice N (d.list.length+1) Q) (.slice a0 d.seen.length a1) ((applyP e0.o d.text).1) ((d.list++[entry1 client seq (rebase d base o).1])) ((seenSet d.seen ⟨client,seq,headRev d+1⟩))):=hH (((a4.out.alloc _)).textBelow hb22 sn (kn.mono (by first|omega|(simp;omega))) kn.ge (by first|omega|(simp;omega)))
    clear sn kn a4;have s22:Z.heap.size+1<=w22.heap.size:=by have:=hb22.size;(try simp at this);omega
    replace u:=hH ((u.out.alloc om _).trans (hb22.mono om));replace n:=hH ((n.out.alloc _).at hb22);replace Kd:=n.out.o5;replace q:=hH ((q.out.alloc _).at hb22);replace Kr:=q.out.q5;replace D:=hH ((D.out.alloc _).at hb22);replace Ko:=D.out.q5;have HXg:Hid (Bx w22 (Z.heap.size) [.int .i64 e0.client,.int .i64 e0.seq,.slice aeo e0.o.length ceo]):=hH ((Bx.new (by first|rfl|simp|omega)).at hb22)
    have Kg:=HXg.out.q3;clear hb22;clear q0 q1 q2 l1 x1;go_upto_region 26 with(fail)
    obtain⟨Y,hY⟩:∃Y:World,Y=((w22.setCell ⟨R.heap.size,2,none⟩ (.slice an (applyP e0.o d.text).1.length cn)).setCell ⟨R.heap.size,1,none⟩ (.int .i64 (d.from_+1))):=⟨_,rfl⟩;have sY:w22.heap.size<=Y.heap.size:=by rw[hY];first|(simp;done)|(simp;omega)
    replace u:Hid (Below w.heap.size w Y):=hH (by rw[hY];exact((u.out.setCell (p:=⟨R.heap.size,2,none⟩) om _).setCell (p:=⟨R.heap.size,1,none⟩) om _))
    replace HTX2:Hid (TriN (R.heap.size) (w.heap.size+2) Y (.slice an (applyP e0.o d.text).1.length cn) (.slice N (d.list.length+1) Q) (.slice a0 d.seen.length a1) ((applyP e0.o d.text).1) ((d.list++[entry1 client seq (rebase d base o).1])) ((seenSet d.seen ⟨client,seq,headRev d+1⟩))):=hH (by rw[hY];exact((HTX2.out.setCell (by omega) _).setCell (by omega) _))
    replace n:Hid (Bx Y (w.heap.size) [.string d.name,.int .i64 d.from_,M,I,J]):=hH (by rw[hY];exact((n.out.setO om).setO om))
    replace Kd:=n.out.o5;replace q:Hid (Bx Y (w.heap.size+1) [.string ⟨#[]⟩,.int .i64 0,.slice none 0 0,.slice none 0 0,.slice none 0 0]):=hH (by rw[hY];exact((q.out.setO om).setO om))
    replace Kr:=q.out.q5;replace D:Hid (Bx Y (R.heap.size) [.string d.name,.int .i64 (d.from_+1),.slice an (applyP e0.o d.text).1.length cn,.slice N (d.list.length+1) Q,.slice a0 d.seen.length a1]):=hH (by rw[hY];exact((D.out.set 2 (.slice an (applyP e0.o d.text).1.length cn)).set 1 (.int .i64 (d.from_+1))))
    replace Ko:=D.out.q5;rw[<-hY];clear hY;obtain⟨aq,cq,hcq,htq⟩:=HTX2.out.cutTail Tryz.underlying34 szi_DEntry (by simp)
    have hxl:(d.list++[entry1 client seq (rebase d base o).1]).length-1=d.list.length:=by simp
    rw[hxl]at htq;simp only[hxl]at hcq;have HTQ:=hH htq;clear htq hxl HTX2;go_upto_region 27 with(fail)
    obtain⟨X2,hX2⟩:∃X2:World,X2=(Y.setCell ⟨R.heap.size,3,none⟩ (.slice aq d.list.length cq)):=⟨_,rfl⟩;have sX2:Y.heap.size<=X2.heap.size:=by rw[hX2];first|(simp;done)|(simp;omega)
    replace u:Hid (Below w.heap.size w X2):=hH (by rw[hX2];exact(u.out.setCell (p:=⟨R.heap.size,3,none⟩) om _))
    replace HTQ:Hid (TriN (R.heap.size) (w.heap.size+2) X2 (.slice an (applyP e0.o d.text).1.length cn) (.slice aq d.list.length cq) (.slice a0 d.seen.length a1) ((applyP e0.o d.text).1) ((d.list++[entry1 client seq (rebase d base o).1]).drop 1) ((seenSet d.seen ⟨client,seq,headRev d+1⟩))):=hH (by rw[hX2];exact(HTQ.out.setCell (by omega) _))
    replace n:Hid (Bx X2 (w.heap.size) [.string d.name,.int .i64 d.from_,M,I,J]):=hH (by rw[hX2];exact(n.out.setO om))
    replace Kd:=n.out.o5;replace q:Hid (Bx X2 (w.heap.size+1) [.string ⟨#[]⟩,.int .i64 0,.slice none 0 0,.slice none 0 0,.slice none 0 0]):=hH (by rw[hX2];exact(q.out.setO om))
    replace Kr:=q.out.q5;replace D:Hid (Bx X2 (R.heap.size) [.string d.name,.int .i64 (d.from_+1),.slice an (applyP e0.o d.text).1.length cn,.slice aq d.list.length cq,.slice a0 d.seen.length a1]):=hH (by rw[hX2];exact(D.out.set 3 (.slice aq d.list.length cq)))
    replace Ko:=D.out.q5;rw[<-hX2];clear hX2;repeat go_step
    rw[HV.out,HCM.out];exact bodyPost_ret (v:= .tuple #[.agg #[.string d.name,.int .i64 (d.from_+1),.slice an (applyP e0.o d.text).1.length cn,.slice aq d.list.length cq,.slice a0 d.seen.length a1],.int .i64 (headRev d+1),.int .i64 0]) (by simp[results,Tryz.results108,go_sem,cell_setCell, *]) rfl (TriN.out (y:=⟨d.name,d.from_+1,(applyP e0.o d.text).1,(d.list++[entry1 client seq (rebase d base o).1]).drop 1,(seenSet d.seen ⟨client,seq,headRev d+1⟩)⟩) (HTQ.out.set5 (by omega)) n_name (by omega) (bset5 u.out om))
   have e3b:(y.client==client)=false:=by simpa using e3
   have HSE:Hid ((seenSet d.seen ⟨client,seq,headRev d+1⟩)=d.seen.take k++⟨client,seq,headRev d+1⟩::d.seen.drop k):=hH (seenSet_ins (seenK_eq HLOW.out hk HNL.out) (fun z hz=>by rw[HY.out]at hz;cases hz;exact e3))
   go_upto_region 21 with(fail)
   obtain⟨fs,sfs,ffs,nfs,put⟩:=HT2.out.seenPut;have hfe:=sfs.flat (α:=DSeen) rdSeen_fp3;have hrow:Row (w.heap.size+2) V (.slice a0 d.seen.length a1) d.seen []:=⟨by rw[List.append_nil,<-hfe];exact sfs,by rw[<-hfe];exact ffs,fun _ h=>(by cases h)⟩
   have HINS:=hH (Insert_Seen_c (B:=w.heap.size+2) (.slice a0 d.seen.length a1) d.seen [] k ⟨client,seq,headRev d+1⟩ [.int .i64 client,.int .i64 seq,.int .i64 (headRev d+1)] [] V hrow hk ⟨rfl,rfl⟩ (fun _ h=>by cases h) (by omega) (by omega))
   have HPUT:=hH put;have HFE:=hH hfe;have HLF:Hid (∀p∈fs,w.heap.size+2<=p.1/\p.1≠R.heap.size):=hH fun p hp=>⟨ffs.ge p hp,nfs p hp⟩
   clear sfs ffs nfs put hrow hfe;go_wp2_with fail
   refine HINS.out.mono ?_;rintro e' w30 hins;have hba:Below V.heap.size V (V.alloc (.cells #[.int .i64 client,.int .i64 seq,.int .i64 (headRev d+1)] 167)):=(lf _ _).alloc (lr _) _;obtain⟨v30,fp,rfl,sp,kp,wp,mp⟩:=hins.owns (Fresh.nil _ _) (Live.nil _);obtain⟨a2,a3,e30⟩:=sp.isS;subst e30;rw[<-HFE.out]at wp mp;have a4:Hid (TriN (R.heap.size) (w.heap.size+2) w30 (.slice at_ d.text.length ct) (.slice N (d.list.length+1) Q) (.slice a2 (seenSet d.seen ⟨client,seq,headRev d+1⟩).length a3) d.text (d.list++[entry1 client seq (rebase d base o).1]) (seenSet d.seen ⟨client,seq,headRev d+1⟩)):=hH (by rw[HSE.out];exact HPUT.out _ _ _ _ _ hba wp (by simp;omega) sp kp (fun p hp=>by
    rcases mp p hp with h|h|h
    ·exact .inl h
    ·exact .inr h
    ·cases h))
   rw[<-HSE.out];have s30:V.heap.size+1<=w30.heap.size:=by have:=wp.size;(try simp at this);omega
   replace u:Hid (Below w.heap.size w w30):=hH ((u.out.alloc om _).trans (wp.below (by simp;omega) (fun p hp=>by have:=HLF.out p hp;omega)))
   replace n:Hid (Bx w30 (w.heap.size) [.string d.name,.int .i64 d.from_,M,I,J]):=hH ((n.out.alloc _).wr wp (fun p hp e=>by have:=HLF.out p hp;omega))
   replace Kd:=n.out.o5;replace q:Hid (Bx w30 (w.heap.size+1) [.string ⟨#[]⟩,.int .i64 0,.slice none 0 0,.slice none 0 0,.slice none 0 0]):=hH ((q.out.alloc _).wr wp (fun p hp e=>by have:=HLF.out p hp;omega))
   replace Kr:=q.out.q5;replace D:Hid (Bx w30 (R.heap.size) [.string d.name,.int .i64 d.from_,.slice at_ d.text.length ct,.slice N (d.list.length+1) Q,.slice a0 d.seen.length a1]):=hH ((D.out.alloc _).wr wp (fun p hp e=>by have:=HLF.out p hp;omega))
   replace Ko:=D.out.q5;clear hins sp kp wp mp hba HINS HPUT HFE HT2 HRS hls;by_cases hw8:d.list.length=8
   rotate_left
   ·have hl8:¬(8:Int)<(d.list.length:Int)+1:=by omega
    have HCM:Hid (commit d client seq (rebase d base o).1=⟨d.name,d.from_,d.text,(d.list++[entry1 client seq (rebase d base o).1]),(seenSet d.seen ⟨client,seq,headRev d+1⟩)⟩):=hH (by unfold commit;rw[if_neg (by simp;omega)])
    go_upto_region 27 with(fail)
    obtain⟨Y,hY⟩:∃Y:World,Y=(w30.setCell ⟨R.heap.size,4,none⟩ (.slice a2 (seenSet d.seen ⟨client,seq,headRev d+1⟩).length a3)):=⟨_,rfl⟩;have sY:w30.heap.size<=Y.heap.size:=by rw[hY];first|(simp;done)|(simp;omega)
    replace u:Hid (Below w.heap.size w Y):=hH (by rw[hY];exact(u.out.setCell (p:=⟨R.heap.size,4,none⟩) om _))
    replace a4:Hid (TriN (R.heap.size) (w.heap.size+2) Y (.slice at_ d.text.length ct) (.slice N (d.list.length+1) Q) (.slice a2 (seenSet d.seen ⟨client,seq,headRev d+1⟩).length a3) (d.text) ((d.list++[entry1 client seq (rebase d base o).1])) ((seenSet d.seen ⟨client,seq,headRev d+1⟩))):=hH (by rw[hY];exact(a4.out.setCell (by omega) _))
    replace n:Hid (Bx Y (w.heap.size) [.string d.name,.int .i64 d.from_,M,I,J]):=hH (by rw[hY];exact(n.out.setO om))
    replace Kd:=n.out.o5;replace q:Hid (Bx Y (w.heap.size+1) [.string ⟨#[]⟩,.int .i64 0,.slice none 0 0,.slice none 0 0,.slice none 0 0]):=hH (by rw[hY];exact(q.out.setO om))
    replace Kr:=q.out.q5;replace D:Hid (Bx Y (R.heap.size) [.string d.name,.int .i64 d.from_,.slice at_ d.text.length ct,.slice N (d.list.length+1) Q,.slice a2 (seenSet d.seen ⟨client,seq,headRev d+1⟩).length a3]):=hH (by rw[hY];exact(D.out.set 4 (.slice a2 (seenSet d.seen ⟨client,seq,headRev d+1⟩).length a3)))
    replace Ko:=D.out.q5;rw[<-hY];clear hY;repeat go_step
    rw[HV.out,HCM.out];exact bodyPost_ret (v:= .tuple #[.agg #[.string d.name,.int .i64 d.from_,.slice at_ d.text.length ct,.slice N (d.list.length+1) Q,.slice a2 (seenSet d.seen ⟨client,seq,headRev d+1⟩).length a3],.int .i64 (headRev d+1),.int .i64 0]) (by simp[results,Tryz.results108,go_sem,cell_setCell, *]) rfl (TriN.out (y:=⟨d.name,d.from_,d.text,(d.list++[entry1 client seq (rebase d base o).1]),(seenSet d.seen ⟨client,seq,headRev d+1⟩)⟩) (a4.out.set5 (by omega)) n_name (by omega) (bset5 u.out om))
   have hl8:(8:Int)<(d.list.length:Int)+1:=by omega
   obtain⟨e0,he0⟩:∃e0,(d.list++[entry1 client seq (rebase d base o).1])[0]? =some e0:=get_some (by simp)
   have HCM:Hid (commit d client seq (rebase d base o).1=⟨d.name,d.from_+1,(applyP e0.o d.text).1,(d.list++[entry1 client seq (rebase d base o).1]).drop 1,(seenSet d.seen ⟨client,seq,headRev d+1⟩)⟩):=hH (by unfold commit;rw[if_pos (by simp;omega)];have e:(d.list++[entry1 client seq (rebase d base o).1]).headD ⟨0,0,[]⟩=e0:=(by rw[List.headD_eq_head?_getD,List.head?_eq_getElem?,he0];rfl);rw[e])
   have HW8:=hH hw8;clear hw8;go_upto_region 23 with(fail)
   obtain⟨Z,hZ⟩:∃Z:World,Z=(w30.setCell ⟨R.heap.size,4,none⟩ (.slice a2 (seenSet d.seen ⟨client,seq,headRev d+1⟩).length a3)):=⟨_,rfl⟩;have sZ:w30.heap.size<=Z.heap.size:=by rw[hZ];first|(simp;done)|(simp;omega)
   replace u:Hid (Below w.heap.size w Z):=hH (by rw[hZ];exact(u.out.setCell (p:=⟨R.heap.size,4,none⟩) om _))
   replace a4:Hid (TriN (R.heap.size) (w.heap.size+2) Z (.slice at_ d.text.length ct) (.slice N (d.list.length+1) Q) (.slice a2 (seenSet d.seen ⟨client,seq,headRev d+1⟩).length a3) (d.text) ((d.list++[entry1 client seq (rebase d base o).1])) ((seenSet d.seen ⟨client,seq,headRev d+1⟩))):=hH (by rw[hZ];exact(a4.out.setCell (by omega) _))
   replace n:Hid (Bx Z (w.heap.size) [.string d.name,.int .i64 d.from_,M,I,J]):=hH (by rw[hZ];exact(n.out.setO om))
   replace Kd:=n.out.o5;replace q:Hid (Bx Z (w.heap.size+1) [.string ⟨#[]⟩,.int .i64 0,.slice none 0 0,.slice none 0 0,.slice none 0 0]):=hH (by rw[hZ];exact(q.out.setO om))
   replace Kr:=q.out.q5;replace D:Hid (Bx Z (R.heap.size) [.string d.name,.int .i64 d.from_,.slice at_ d.text.length ct,.slice N (d.list.length+1) Q,.slice a2 (seenSet d.seen ⟨client,seq,headRev d+1⟩).length a3]):=hH (by rw[hZ];exact(D.out.set 4 (.slice a2 (seenSet d.seen ⟨client,seq,headRev d+1⟩).length a3)))
   replace Ko:=D.out.q5;rw[<-hZ];clear hZ;obtain⟨b1,o1,ces,x1,x2,x3⟩:=(a4.out.rdL).idx Tryz.underlying34 szi_DEntry 0 he0;obtain⟨v_eo,rfl,r_eo⟩:=inv_DEntry x3;have q0:=x2.zero;have q1:=x2 1 _ rfl;have q2:=x2 2 _ rfl;have l1:b1<Z.heap.size:=lk (w:=Z) (a:=⟨b1,o1,none⟩) q0;obtain⟨aeo,ceo,rfl⟩:=r_eo.isSlice;have HREO:=hH r_eo;replace x1:∀w1,(Instr.indexAt 34 (.slice N (d.list.length+1) Q) (.int .i64 0)).run Tryz.prog w1= .ok (.pointer (some ⟨b1,o1,none⟩)) w1:=x1;clear x2 x3 r_eo he0;go_wp2_with fail
   refine(impl_Apply_c e0.o d.text _ _ _ (HREO.out.below ((lf Z.heap.size Z).alloc om _)) ((a4.out.alloc _)).rdT).mono ?_;rintro e' w31 ⟨vn,fn,rfl,sn,kn,hb31⟩;obtain⟨an,cn,rfl⟩:=sn.isS;have HTX2:Hid (TriN (R.heap.size) (w.heap.size+2) w31 (.slice an (applyP e0.o d.text).1.length cn) (.slice N (d.list.length+1) Q) (.slice a2 (seenSet d.seen ⟨client,seq,headRev d+1⟩).length a3) ((applyP e0.o d.text).1) ((d.list++[entry1 client seq (rebase d base o).1])) ((seenSet d.seen ⟨client,seq,headRev d+1⟩))):=hH (((a4.out.alloc _)).textBelow hb31 sn (kn.mono (by first|omega|(simp;omega))) kn.ge (by first|omega|(simp;omega)))
   clear sn kn a4;have s31:Z.heap.size+1<=w31.heap.size:=by have:=hb31.size;(try simp at this);omega
   replace u:=hH ((u.out.alloc om _).trans (hb31.mono om));replace n:=hH ((n.out.alloc _).at hb31);replace Kd:=n.out.o5;replace q:=hH ((q.out.alloc _).at hb31);replace Kr:=q.out.q5;replace D:=hH ((D.out.alloc _).at hb31);replace Ko:=D.out.q5;have HXg:Hid (Bx w31 (Z.heap.size) [.int .i64 e0.client,.int .i64 e0.seq,.slice aeo e0.o.length ceo]):=hH ((Bx.new (by first|rfl|simp|omega)).at hb31)
   have Kg:=HXg.out.q3;clear hb31;clear q0 q1 q2 l1 x1;go_upto_region 26 with(fail)
   obtain⟨Y,hY⟩:∃Y:World,Y=((w31.setCell ⟨R.heap.size,2,none⟩ (.slice an (applyP e0.o d.text).1.length cn)).setCell ⟨R.heap.size,1,none⟩ (.int .i64 (d.from_+1))):=⟨_,rfl⟩;have sY:w31.heap.size<=Y.heap.size:=by rw[hY];first|(simp;done)|(simp;omega)
   replace u:Hid (Below w.heap.size w Y):=hH (by rw[hY];exact((u.out.setCell (p:=⟨R.heap.size,2,none⟩) om _).setCell (p:=⟨R.heap.size,1,none⟩) om _))
   replace HTX2:Hid (TriN (R.heap.size) (w.heap.size+2) Y (.slice an (applyP e0.o d.text).1.length cn) (.slice N (d.list.length+1) Q) (.slice a2 (seenSet d.seen ⟨client,seq,headRev d+1⟩).length a3) ((applyP e0.o d.text).1) ((d.list++[entry1 client seq (rebase d base o).1])) ((seenSet d.seen ⟨client,seq,headRev d+1⟩))):=hH (by rw[hY];exact((HTX2.out.setCell (by omega) _).setCell (by omega) _))
   replace n:Hid (Bx Y (w.heap.size) [.string d.name,.int .i64 d.from_,M,I,J]):=hH (by rw[hY];exact((n.out.setO om).setO om))
   replace Kd:=n.out.o5;replace q:Hid (Bx Y (w.heap.size+1) [.string ⟨#[]⟩,.int .i64 0,.slice none 0 0,.slice none 0 0,.slice none 0 0]):=hH (by rw[hY];exact((q.out.setO om).setO om))
   replace Kr:=q.out.q5;replace D:Hid (Bx Y (R.heap.size) [.string d.name,.int .i64 (d.from_+1),.slice an (applyP e0.o d.text).1.length cn,.slice N (d.list.length+1) Q,.slice a2 (seenSet d.seen ⟨client,seq,headRev d+1⟩).length a3]):=hH (by rw[hY];exact((D.out.set 2 (.slice an (applyP e0.o d.text).1.length cn)).set 1 (.int .i64 (d.from_+1))))
   replace Ko:=D.out.q5;rw[<-hY];clear hY;obtain⟨aq,cq,hcq,htq⟩:=HTX2.out.cutTail Tryz.underlying34 szi_DEntry (by simp)
   have hxl:(d.list++[entry1 client seq (rebase d base o).1]).length-1=d.list.length:=by simp
   rw[hxl]at htq;simp only[hxl]at hcq;have HTQ:=hH htq;clear htq hxl HTX2;go_upto_region 27 with(fail)
   obtain⟨X2,hX2⟩:∃X2:World,X2=(Y.setCell ⟨R.heap.size,3,none⟩ (.slice aq d.list.length cq)):=⟨_,rfl⟩;have sX2:Y.heap.size<=X2.heap.size:=by rw[hX2];first|(simp;done)|(simp;omega)
   replace u:Hid (Below w.heap.size w X2):=hH (by rw[hX2];exact(u.out.setCell (p:=⟨R.heap.size,3,none⟩) om _))
   replace HTQ:Hid (TriN (R.heap.size) (w.heap.size+2) X2 (.slice an (applyP e0.o d.text).1.length cn) (.slice aq d.list.length cq) (.slice a2 (seenSet d.seen ⟨client,seq,headRev d+1⟩).length a3) ((applyP e0.o d.text).1) ((d.list++[entry1 client seq (rebase d base o).1]).drop 1) ((seenSet d.seen ⟨client,seq,headRev d+1⟩))):=hH (by rw[hX2];exact(HTQ.out.setCell (by omega) _))
   replace n:Hid (Bx X2 (w.heap.size) [.string d.name,.int .i64 d.from_,M,I,J]):=hH (by rw[hX2];exact(n.out.setO om))
   replace Kd:=n.out.o5;replace q:Hid (Bx X2 (w.heap.size+1) [.string ⟨#[]⟩,.int .i64 0,.slice none 0 0,.slice none 0 0,.slice none 0 0]):=hH (by rw[hX2];exact(q.out.setO om))
   replace Kr:=q.out.q5;replace D:Hid (Bx X2 (R.heap.size) [.string d.name,.int .i64 (d.from_+1),.slice an (applyP e0.o d.text).1.length cn,.slice aq d.list.length cq,.slice a2 (seenSet d.seen ⟨client,seq,headRev d+1⟩).length a3]):=hH (by rw[hX2];exact(D.out.set 3 (.slice aq d.list.length cq)))
   replace Ko:=D.out.q5;rw[<-hX2];clear hX2;repeat go_step
   rw[HV.out,HCM.out];exact bodyPost_ret (v:= .tuple #[.agg #[.string d.name,.int .i64 (d.from_+1),.slice an (applyP e0.o d.text).1.length cn,.slice aq d.list.length cq,.slice a2 (seenSet d.seen ⟨client,seq,headRev d+1⟩).length a3],.int .i64 (headRev d+1),.int .i64 0]) (by simp[results,Tryz.results108,go_sem,cell_setCell, *]) rfl (TriN.out (y:=⟨d.name,d.from_+1,(applyP e0.o d.text).1,(d.list++[entry1 client seq (rebase d base o).1]).drop 1,(seenSet d.seen ⟨client,seq,headRev d+1⟩)⟩) (HTQ.out.set5 (by omega)) n_name (by omega) (bset5 u.out om))
  have hl2:¬(k:Int)<(d.seen.length:Int):=by omega
  have HNO:Hid (∀z,d.seen[k]? =some z->False):=hH fun z hz=>by have:=(lg.1 hz).1;omega
  have HSE:Hid ((seenSet d.seen ⟨client,seq,headRev d+1⟩)=d.seen.take k++⟨client,seq,headRev d+1⟩::d.seen.drop k):=hH (seenSet_ins (seenK_eq HLOW.out hk HNL.out) (fun z hz=>(HNO.out z hz).elim))
  go_upto_region 21 with(fail)
  obtain⟨fs,sfs,ffs,nfs,put⟩:=HT2.out.seenPut;have hfe:=sfs.flat (α:=DSeen) rdSeen_fp3;have hrow:Row (w.heap.size+2) V (.slice a0 d.seen.length a1) d.seen []:=⟨by rw[List.append_nil,<-hfe];exact sfs,by rw[<-hfe];exact ffs,fun _ h=>(by cases h)⟩
  have HINS:=hH (Insert_Seen_c (B:=w.heap.size+2) (.slice a0 d.seen.length a1) d.seen [] k ⟨client,seq,headRev d+1⟩ [.int .i64 client,.int .i64 seq,.int .i64 (headRev d+1)] [] V hrow hk ⟨rfl,rfl⟩ (fun _ h=>by cases h) (by omega) (by omega))
  have HPUT:=hH put;have HFE:=hH hfe;have HLF:Hid (∀p∈fs,w.heap.size+2<=p.1/\p.1≠R.heap.size):=hH fun p hp=>⟨ffs.ge p hp,nfs p hp⟩
  clear sfs ffs nfs put hrow hfe;go_wp2_with fail
  refine HINS.out.mono ?_;rintro e' w30 hins;have hba:Below V.heap.size V (V.alloc (.cells #[.int .i64 client,.int .i64 seq,.int .i64 (headRev d+1)] 167)):=(lf _ _).alloc (lr _) _;obtain⟨v30,fp,rfl,sp,kp,wp,mp⟩:=hins.owns (Fresh.nil _ _) (Live.nil _);obtain⟨a2,a3,e30⟩:=sp.isS;subst e30;rw[<-HFE.out]at wp mp;have a4:Hid (TriN (R.heap.size) (w.heap.size+2) w30 (.slice at_ d.text.length ct) (.slice N (d.list.length+1) Q) (.slice a2 (seenSet d.seen ⟨client,seq,headRev d+1⟩).length a3) d.text (d.list++[entry1 client seq (rebase d base o).1]) (seenSet d.seen ⟨client,seq,headRev d+1⟩)):=hH (by rw[HSE.out];exact HPUT.out _ _ _ _ _ hba wp (by simp;omega) sp kp (fun p hp=>by
   rcases mp p hp with h|h|h
   ·exact .inl h
   ·exact .inr h
   ·cases h))
  rw[<-HSE.out];have s30:V.heap.size+1<=w30.heap.size:=by have:=wp.size;(try simp at this);omega
  replace u:Hid (Below w.heap.size w w30):=hH ((u.out.alloc om _).trans (wp.below (by simp;omega) (fun p hp=>by have:=HLF.out p hp;omega)))
  replace n:Hid (Bx w30 (w.heap.size) [.string d.name,.int .i64 d.from_,M,I,J]):=hH ((n.out.alloc _).wr wp (fun p hp e=>by have:=HLF.out p hp;omega))
  replace Kd:=n.out.o5;replace q:Hid (Bx w30 (w.heap.size+1) [.string ⟨#[]⟩,.int .i64 0,.slice none 0 0,.slice none 0 0,.slice none 0 0]):=hH ((q.out.alloc _).wr wp (fun p hp e=>by have:=HLF.out p hp;omega))
  replace Kr:=q.out.q5;replace D:Hid (Bx w30 (R.heap.size) [.string d.name,.int .i64 d.from_,.slice at_ d.text.length ct,.slice N (d.list.length+1) Q,.slice a0 d.seen.length a1]):=hH ((D.out.alloc _).wr wp (fun p hp e=>by have:=HLF.out p hp;omega))
  replace Ko:=D.out.q5;clear hins sp kp wp mp hba HINS HPUT HFE HT2 HRS hls;by_cases hw8:d.list.length=8
  rotate_left
  ·have hl8:¬(8:Int)<(d.list.length:Int)+1:=by omega
   have HCM:Hid (commit d client seq (rebase d base o).1=⟨d.name,d.from_,d.text,(d.list++[entry1 client seq (rebase d base o).1]),(seenSet d.seen ⟨client,seq,headRev d+1⟩)⟩):=hH (by unfold commit;rw[if_neg (by simp;omega)])
   go_upto_region 27 with(fail)
   obtain⟨Y,hY⟩:∃Y:World,Y=(w30.setCell ⟨R.heap.size,4,none⟩ (.slice a2 (seenSet d.seen ⟨client,seq,headRev d+1⟩).length a3)):=⟨_,rfl⟩;have sY:w30.heap.size<=Y.heap.size:=by rw[hY];first|(simp;done)|(simp;omega)
   replace u:Hid (Below w.heap.size w Y):=hH (by rw[hY];exact(u.out.setCell (p:=⟨R.heap.size,4,none⟩) om _))
   replace a4:Hid (TriN (R.heap.size) (w.heap.size+2) Y (.slice at_ d.text.length ct) (.slice N (d.list.length+1) Q) (.slice a2 (seenSet d.seen ⟨client,seq,headRev d+1⟩).length a3) (d.text) ((d.list++[entry1 client seq (rebase d base o).1])) ((seenSet d.seen ⟨client,seq,headRev d+1⟩))):=hH (by rw[hY];exact(a4.out.setCell (by omega) _))
   replace n:Hid (Bx Y (w.heap.size) [.string d.name,.int .i64 d.from_,M,I,J]):=hH (by rw[hY];exact(n.out.setO om))
   replace Kd:=n.out.o5;replace q:Hid (Bx Y (w.heap.size+1) [.string ⟨#[]⟩,.int .i64 0,.slice none 0 0,.slice none 0 0,.slice none 0 0]):=hH (by rw[hY];exact(q.out.setO om))
   replace Kr:=q.out.q5;replace D:Hid (Bx Y (R.heap.size) [.string d.name,.int .i64 d.from_,.slice at_ d.text.length ct,.slice N (d.list.length+1) Q,.slice a2 (seenSet d.seen ⟨client,seq,headRev d+1⟩).length a3]):=hH (by rw[hY];exact(D.out.set 4 (.slice a2 (seenSet d.seen ⟨client,seq,headRev d+1⟩).length a3)))
   replace Ko:=D.out.q5;rw[<-hY];clear hY;repeat go_step
   rw[HV.out,HCM.out];exact bodyPost_ret (v:= .tuple #[.agg #[.string d.name,.int .i64 d.from_,.slice at_ d.text.length ct,.slice N (d.list.length+1) Q,.slice a2 (seenSet d.seen ⟨client,seq,headRev d+1⟩).length a3],.int .i64 (headRev d+1),.int .i64 0]) (by simp[results,Tryz.results108,go_sem,cell_setCell, *]) rfl (TriN.out (y:=⟨d.name,d.from_,d.text,(d.list++[entry1 client seq (rebase d base o).1]),(seenSet d.seen ⟨client,seq,headRev d+1⟩)⟩) (a4.out.set5 (by omega)) n_name (by omega) (bset5 u.out om))
  have hl8:(8:Int)<(d.list.length:Int)+1:=by omega
  obtain⟨e0,he0⟩:∃e0,(d.list++[entry1 client seq (rebase d base o).1])[0]? =some e0:=get_some (by simp)
  have HCM:Hid (commit d client seq (rebase d base o).1=⟨d.name,d.from_+1,(applyP e0.o d.text).1,(d.list++[entry1 client seq (rebase d base o).1]).drop 1,(seenSet d.seen ⟨client,seq,headRev d+1⟩)⟩):=hH (by unfold commit;rw[if_pos (by simp;omega)];have e:(d.list++[entry1 client seq (rebase d base o).1]).headD ⟨0,0,[]⟩=e0:=(by rw[List.headD_eq_head?_getD,List.head?_eq_getElem?,he0];rfl);rw[e])
  have HW8:=hH hw8;clear hw8;go_upto_region 23 with(fail)
  obtain⟨Z,hZ⟩:∃Z:World,Z=(w30.setCell ⟨R.heap.size,4,none⟩ (.slice a2 (seenSet d.seen ⟨client,seq,headRev d+1⟩).length a3)):=⟨_,rfl⟩;have sZ:w30.heap.size<=Z.heap.size:=by rw[hZ];first|(simp;done)|(simp;omega)
  replace u:Hid (Below w.heap.size w Z):=hH (by rw[hZ];exact(u.out.setCell (p:=⟨R.heap.size,4,none⟩) om _))
  replace a4:Hid (TriN (R.heap.size) (w.heap.size+2) Z (.slice at_ d.text.length ct) (.slice N (d.list.length+1) Q) (.slice a2 (seenSet d.seen ⟨client,seq,headRev d+1⟩).length a3) (d.text) ((d.list++[entry1 client seq (rebase d base o).1])) ((seenSet d.seen ⟨client,seq,headRev d+1⟩))):=hH (by rw[hZ];exact(a4.out.setCell (by omega) _))
  replace n:Hid (Bx Z (w.heap.size) [.string d.name,.int .i64 d.from_,M,I,J]):=hH (by rw[hZ];exact(n.out.setO om))
  replace Kd:=n.out.o5;replace q:Hid (Bx Z (w.heap.size+1) [.string ⟨#[]⟩,.int .i64 0,.slice none 0 0,.slice none 0 0,.slice none 0 0]):=hH (by rw[hZ];exact(q.out.setO om))
  replace Kr:=q.out.q5;replace D:Hid (Bx Z (R.heap.size) [.string d.name,.int .i64 d.from_,.slice at_ d.text.length ct,.slice N (d.list.length+1) Q,.slice a2 (seenSet d.seen ⟨client,seq,headRev d+1⟩).length a3]):=hH (by rw[hZ];exact(D.out.set 4 (.slice a2 (seenSet d.seen ⟨client,seq,headRev d+1⟩).length a3)))
  replace Ko:=D.out.q5;rw[<-hZ];clear hZ;obtain⟨b1,o1,ces,x1,x2,x3⟩:=(a4.out.rdL).idx Tryz.underlying34 szi_DEntry 0 he0;obtain⟨v_eo,rfl,r_eo⟩:=inv_DEntry x3;have q0:=x2.zero;have q1:=x2 1 _ rfl;have q2:=x2 2 _ rfl;have l1:b1<Z.heap.size:=lk (w:=Z) (a:=⟨b1,o1,none⟩) q0;obtain⟨aeo,ceo,rfl⟩:=r_eo.isSlice;have HREO:=hH r_eo;replace x1:∀w1,(Instr.indexAt 34 (.slice N (d.list.length+1) Q) (.int .i64 0)).run Tryz.prog w1= .ok (.pointer (some ⟨b1,o1,none⟩)) w1:=x1;clear x2 x3 r_eo he0;go_wp2_with fail
  refine(impl_Apply_c e0.o d.text _ _ _ (HREO.out.below ((lf Z.heap.size Z).alloc om _)) ((a4.out.alloc _)).rdT).mono ?_;rintro e' w31 ⟨vn,fn,rfl,sn,kn,hb31⟩;obtain⟨an,cn,rfl⟩:=sn.isS;have HTX2:Hid (TriN (R.heap.size) (w.heap.size+2) w31 (.slice an (applyP e0.o d.text).1.length cn) (.slice N (d.list.length+1) Q) (.slice a2 (seenSet d.seen ⟨client,seq,headRev d+1⟩).length a3) ((applyP e0.o d.text).1) ((d.list++[entry1 client seq (rebase d base o).1])) ((seenSet d.seen ⟨client,seq,headRev d+1⟩))):=hH (((a4.out.alloc _)).textBelow hb31 sn (kn.mono (by first|omega|(simp;omega))) kn.ge (by first|omega|(simp;omega)))
  clear sn kn a4;have s31:Z.heap.size+1<=w31.heap.size:=by have:=hb31.size;(try simp at this);omega
  replace u:=hH ((u.out.alloc om _).trans (hb31.mono om));replace n:=hH ((n.out.alloc _).at hb31);replace Kd:=n.out.o5;replace q:=hH ((q.out.alloc _).at hb31);replace Kr:=q.out.q5;replace D:=hH ((D.out.alloc _).at hb31);replace Ko:=D.out.q5;have HXg:Hid (Bx w31 (Z.heap.size) [.int .i64 e0.client,.int .i64 e0.seq,.slice aeo e0.o.length ceo]):=hH ((Bx.new (by first|rfl|simp|omega)).at hb31)
  have Kg:=HXg.out.q3;clear hb31;clear q0 q1 q2 l1 x1;go_upto_region 26 with(fail)
  obtain⟨Y,hY⟩:∃Y:World,Y=((w31.setCell ⟨R.heap.size,2,none⟩ (.slice an (applyP e0.o d.text).1.length cn)).setCell ⟨R.heap.size,1,none⟩ (.int .i64 (d.from_+1))):=⟨_,rfl⟩;have sY:w31.heap.size<=Y.heap.size:=by rw[hY];first|(simp;done)|(simp;omega)
  replace u:Hid (Below w.heap.size w Y):=hH (by rw[hY];exact((u.out.setCell (p:=⟨R.heap.size,2,none⟩) om _).setCell (p:=⟨R.heap.size,1,none⟩) om _))
  replace HTX2:Hid (TriN (R.heap.size) (w.heap.size+2) Y (.slice an (applyP e0.o d.text).1.length cn) (.slice N (d.list.length+1) Q) (.slice a2 (seenSet d.seen ⟨client,seq,headRev d+1⟩).length a3) ((applyP e0.o d.text).1) ((d.list++[entry1 client seq (rebase d base o).1])) ((seenSet d.seen ⟨client,seq,headRev d+1⟩))):=hH (by rw[hY];exact((HTX2.out.setCell (by omega) _).setCell (by omega) _))
  replace n:Hid (Bx Y (w.heap.size) [.string d.name,.int .i64 d.from_,M,I,J]):=hH (by rw[hY];exact((n.out.setO om).setO om))
  replace Kd:=n.out.o5;replace q:Hid (Bx Y (w.heap.size+1) [.string ⟨#[]⟩,.int .i64 0,.slice none 0 0,.slice none 0 0,.slice none 0 0]):=hH (by rw[hY];exact((q.out.setO om).setO om))
  replace Kr:=q.out.q5;replace D:Hid (Bx Y (R.heap.size) [.string d.name,.int .i64 (d.from_+1),.slice an (applyP e0.o d.text).1.length cn,.slice N (d.list.length+1) Q,.slice a2 (seenSet d.seen ⟨client,seq,headRev d+1⟩).length a3]):=hH (by rw[hY];exact((D.out.set 2 (.slice an (applyP e0.o d.text).1.length cn)).set 1 (.int .i64 (d.from_+1))))
  replace Ko:=D.out.q5;rw[<-hY];clear hY;obtain⟨aq,cq,hcq,htq⟩:=HTX2.out.cutTail Tryz.underlying34 szi_DEntry (by simp)
  have hxl:(d.list++[entry1 client seq (rebase d base o).1]).length-1=d.list.length:=by simp
  rw[hxl]at htq;simp only[hxl]at hcq;have HTQ:=hH htq;clear htq hxl HTX2;go_upto_region 27 with(fail)
  obtain⟨X2,hX2⟩:∃X2:World,X2=(Y.setCell ⟨R.heap.size,3,none⟩ (.slice aq d.list.length cq)):=⟨_,rfl⟩;have sX2:Y.heap.size<=X2.heap.size:=by rw[hX2];first|(simp;done)|(simp;omega)
  replace u:Hid (Below w.heap.size w X2):=hH (by rw[hX2];exact(u.out.setCell (p:=⟨R.heap.size,3,none⟩) om _))
  replace HTQ:Hid (TriN (R.heap.size) (w.heap.size+2) X2 (.slice an (applyP e0.o d.text).1.length cn) (.slice aq d.list.length cq) (.slice a2 (seenSet d.seen ⟨client,seq,headRev d+1⟩).length a3) ((applyP e0.o d.text).1) ((d.list++[entry1 client seq (rebase d base o).1]).drop 1) ((seenSet d.seen ⟨client,seq,headRev d+1⟩))):=hH (by rw[hX2];exact(HTQ.out.setCell (by omega) _))
  replace n:Hid (Bx X2 (w.heap.size) [.string d.name,.int .i64 d.from_,M,I,J]):=hH (by rw[hX2];exact(n.out.setO om))
  replace Kd:=n.out.o5;replace q:Hid (Bx X2 (w.heap.size+1) [.string ⟨#[]⟩,.int .i64 0,.slice none 0 0,.slice none 0 0,.slice none 0 0]):=hH (by rw[hX2];exact(q.out.setO om))
  replace Kr:=q.out.q5;replace D:Hid (Bx X2 (R.heap.size) [.string d.name,.int .i64 (d.from_+1),.slice an (applyP e0.o d.text).1.length cn,.slice aq d.list.length cq,.slice a2 (seenSet d.seen ⟨client,seq,headRev d+1⟩).length a3]):=hH (by rw[hX2];exact(D.out.set 3 (.slice aq d.list.length cq)))
  replace Ko:=D.out.q5;rw[<-hX2];clear hX2;repeat go_step
  rw[HV.out,HCM.out];exact bodyPost_ret (v:= .tuple #[.agg #[.string d.name,.int .i64 (d.from_+1),.slice an (applyP e0.o d.text).1.length cn,.slice aq d.list.length cq,.slice a2 (seenSet d.seen ⟨client,seq,headRev d+1⟩).length a3],.int .i64 (headRev d+1),.int .i64 0]) (by simp[results,Tryz.results108,go_sem,cell_setCell, *]) rfl (TriN.out (y:=⟨d.name,d.from_+1,(applyP e0.o d.text).1,(d.list++[entry1 client seq (rebase d base o).1]).drop 1,(seenSet d.seen ⟨client,seq,headRev d+1⟩)⟩) (HTQ.out.set5 (by omega)) n_name (by omega) (bset5 u.out om))
