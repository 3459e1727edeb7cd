/- Submit: the walk of the reference. -/
import Derived.Test.YtbonkabfmlajnaaGreatQrbo
import Derived.Deep.CutBlock
set_option maxHeartbeats 40000000
set_option maxRecDepth 100000
namespace Go.Proofs.YtbonkabfmlajnaaGreat
open Go.RowKit
attribute [local go_sem ↓] Go.wp_at_zero Go.wp_at_succ
theorem yaW (d:Xac)(J D I:Value)(client seq base:Int)(vo:Value)(o:List zaa)(w:World)(a2:d.name.size<=BIG)(h_text:RdS w J d.text)(h_list:RdS w D d.list)(h_seen:RdS w I d.seen)(ho:RdS w vo o):
 Calls Tryz.prog 133 #[.agg #[d.name,d.from_,J,D,I],client,seq,base,vo] w (Zar w (Jae d client seq base o).1 (Jae d client seq base o).2.1 (Jae d client seq base o).2.2):=by
 go_enter Tryz.func133,Tryz.ntmps133
 go_wp2_with fail
 refine(kal d _ _ _ _ a2 (h_text.below (((lf w w).alloc om _).alloc om _)) (h_list.below (((lf w w).alloc om _).alloc om _)) (h_seen.below (((lf w w).alloc om _).alloc om _))).mono ?_;rintro e' w1 ⟨rfl,hb1⟩;have s1:w+2<=w1.heap.size:=szl hb1;have B:=hH ((((lf w w).alloc om _).alloc om _).trans (hb1.mono om));have j:Hid (Bx w1 w [d.name,d.from_,J,D,I]):=hH (((Bx.new (by first|rfl|simp|omega)).alloc _).at hb1)
 have Kd:=j.out.o5;have n:Hid (Bx w1 (w+1) [.string ⟨#[]⟩,zI,zN,zN,zN]):=hH ((Bx.new (by first|rfl|simp|omega)).at hb1)
 have Kr:=n.out.q5;clear hb1;by_cases h1:Qad d=true
 rotate_left
 ·have h1:Qad d=false:=by simpa using h1
  rw[h1];have HV:=hH (Qap (d:=d) (client:=client) (seq:=seq) (base:=base) (o:=o) fun h=>by have e:=h.1;rw[h1]at e;cases e)
  go_wp2;rw[HV.out];exact bodyPost_ret (v:= .tuple #[.agg #[.string ⟨#[]⟩,zI,zN,zN,zN],zI,.int .i64 1]) (by simp[results,Tryz.results133,go_sem,xaa, *]) rfl (Xak (kar B.out om))
 rw[h1];go_wp2_with fail
 refine(Zaa client 1 8 _).mono ?_;rintro e' w2 ⟨rfl,hb2⟩;have s2:w1<=w2.heap.size:=szl hb2;replace B:=hH (B.out.trans (hb2.mono om));replace j:=hH (j.out.at hb2);replace Kd:=j.out.o5;replace n:=hH (n.out.at hb2);replace Kr:=n.out.q5;clear hb2;by_cases h2:within client 1 8=true
 rotate_left
 ·have h2:within client 1 8=false:=by simpa using h2
  rw[h2];have HV:=hH (Qap (d:=d) (client:=client) (seq:=seq) (base:=base) (o:=o) fun h=>by have e:=h.2.1;rw[h2]at e;cases e)
  go_wp2;rw[HV.out];exact bodyPost_ret (v:= .tuple #[.agg #[.string ⟨#[]⟩,zI,zN,zN,zN],zI,.int .i64 1]) (by simp[results,Tryz.results133,go_sem,xaa, *]) rfl (Xak (kar B.out om))
 rw[h2];go_wp2_with fail
 refine(Zaa seq 1 1000000000 _).mono ?_;rintro e' w3 ⟨rfl,hb3⟩;have s3:w2<=w3.heap.size:=szl hb3;replace B:=hH (B.out.trans (hb3.mono om));replace j:=hH (j.out.at hb3);replace Kd:=j.out.o5;replace n:=hH (n.out.at hb3);replace Kr:=n.out.q5;clear hb3;by_cases h3:within seq 1 1000000000=true
 rotate_left
 ·have h3:within seq 1 1000000000=false:=by simpa using h3
  rw[h3];have HV:=hH (Qap (d:=d) (client:=client) (seq:=seq) (base:=base) (o:=o) fun h=>by have e:=h.2.2.1;rw[h3]at e;cases e)
  go_wp2;rw[HV.out];exact bodyPost_ret (v:= .tuple #[.agg #[.string ⟨#[]⟩,zI,zN,zN,zN],zI,.int .i64 1]) (by simp[results,Tryz.results133,go_sem,xaa, *]) rfl (Xak (kar B.out om))
 rw[h3];go_wp2_with fail
 refine(Xad _ o _ (ho.below B.out)).mono ?_;rintro e' w4 ⟨rfl,hb4⟩;have s4:w3<=w4.heap.size:=szl hb4;replace B:=hH (B.out.trans (hb4.mono om));replace j:=hH (j.out.at hb4);replace Kd:=j.out.o5;replace n:=hH (n.out.at hb4);replace Kr:=n.out.q5;clear hb4;by_cases h4:yag o=true
 rotate_left
 ·have h4:yag o=false:=by simpa using h4
  rw[h4];have HV:=hH (Qap (d:=d) (client:=client) (seq:=seq) (base:=base) (o:=o) fun h=>by have e:=h.2.2.2;rw[h4]at e;cases e)
  go_wp2;rw[HV.out];exact bodyPost_ret (v:= .tuple #[.agg #[.string ⟨#[]⟩,zI,zN,zN,zN],zI,.int .i64 1]) (by simp[results,Tryz.results133,go_sem,xaa, *]) rfl (Xak (kar B.out om))
 rw[h4];obtain⟨bh0,bh1,bf0,bf1⟩:=yaf h1;obtain⟨bs0,bs1,bs2⟩:=Qau h1 client;obtain⟨bz0,bz1,bz2⟩:=kaZ h1;have bq:=within_iff.1 h3;have bc:=within_iff.1 h2;have H4:=hH (And.intro h1 (And.intro h2 (And.intro h3 h4)));have BS2:=hH bs2;have bl:=(jaf.1 h1).len;have bsl:=(jaf.1 h1).slen;clear bs2;obtain⟨th,hth⟩:∃th:Bool,(uab d client).2=th:=⟨_,rfl⟩;go_wp2_with fail
 refine(Zav d _ _ _ client _ (h_seen.below B.out)).mono ?_;rintro e' w5 ⟨rfl,hb5⟩;rw[hth];have s5:w4<=w5.heap.size:=szl hb5;replace B:=hH (B.out.trans (hb5.mono om));replace j:=hH (j.out.at hb5);replace Kd:=j.out.o5;replace n:=hH (n.out.at hb5);replace Kr:=n.out.q5;clear hb5;by_cases h5:(uab d client).1.seq=seq
 ·have HV:=hH (JaK (base:=base) H4.out h5);have h5b:((uab d client).1.seq==seq)=true:=by simpa using h5
  have htt:th=true:=by
   cases th
   ·have:=BS2.out hth;omega
   ·rfl
  subst htt;clear h5;go_upto_region 5 with(fail)
  obtain⟨V,hV⟩:∃V:World,V=(w5.alloc (.cells #[(uab d client).1.client,(uab d client).1.seq,(uab d client).1.rev] 119)):=⟨_,rfl⟩;have sV:w5+1<=V.heap.size:=by rw[hV];first|(simp;done)|(simp;omega)
  replace B:Hid (Below w w V):=hH (by rw[hV];exact(B.out.alloc om _))
  replace j:Hid (Bx V w [d.name,d.from_,J,D,I]):=hH (by rw[hV];exact(j.out.alloc _))
  replace Kd:=j.out.o5;replace n:Hid (Bx V (w+1) [.string ⟨#[]⟩,zI,zN,zN,zN]):=hH (by rw[hV];exact(n.out.alloc _))
  replace Kr:=n.out.q5;have a5:Hid (Bx V w5 [(uab d client).1.client,(uab d client).1.seq,(uab d client).1.rev]):=hH (by rw[hV];exact(Bx.new (by first|rfl|simp|omega)))
  have Ks:=a5.out.q3;rw[<-hV];clear hV;have n9:¬(w5=w.heap.size+1):=om;go_region_held3 (fun w'=>w'.cell? ⟨w.heap.size,0,none⟩=some (.string d.name)/\w'.cell? ⟨w.heap.size,1,none⟩=some (.int .i64 d.from_)/\w'.cell? ⟨w.heap.size,2,none⟩=some (J)/\w'.cell? ⟨w.heap.size,3,none⟩=some (D)/\w'.cell? ⟨w.heap.size,4,none⟩=some (I)/\w'.cell? ⟨w5.heap.size,0,none⟩=some (.int .i64 (uab d client).1.client)/\w'.cell? ⟨w5.heap.size,1,none⟩=some (.int .i64 (uab d client).1.seq)/\w'.cell? ⟨w5.heap.size,2,none⟩=some (.int .i64 (uab d client).1.rev)) (first|(go_keep;done)|(simp[xaa, *];done))
   ((go_at_call 124;refine(uat d _ _ _ _ a2 (h_text.below (B.out.trans (show Below w V _ from blw))) (h_list.below (B.out.trans (show Below w V _ from blw))) (h_seen.below (B.out.trans (show Below w V _ from blw))) bz0 bz1 bz2).mono ?_;rintro e' w9 ⟨cs,rfl,ho,hb9⟩;obtain⟨vt,vl,vs,rfl,htn⟩:=Kag.of_own ho (lr _);obtain⟨at_,ct,rfl⟩:=htn.rdT.isSlice;obtain⟨al,cl,rfl⟩:=htn.rdL.isSlice;obtain⟨as_,cs_,rfl⟩:=htn.rdS.isSlice;have HTN:=hH htn;clear ho htn;have B9:Below V V w9:=(show Below V V _ from blw).trans (hb9.mono om);have s9:=B9.size;obtain⟨Zd_9,Kd_9_0,Kd_9_1,Kd_9_2,Kd_9_3,Kd_9_4⟩:=(j.out.at B9).o5;obtain⟨Zs_9,Ks_9_0,Ks_9_1,Ks_9_2,Gs_9_0,Gs_9_1,Gs_9_2⟩:=(a5.out.at B9).q3;obtain⟨Zr_9,Kr_9_0,Kr_9_1,Kr_9_2,Kr_9_3,Kr_9_4,Gr_9_0,Gr_9_1,Gr_9_2,Gr_9_3,Gr_9_4⟩:=(n.out.at B9).q5;clear hb9))
  have HB:Hid (Below w w (((((w9.setCell ⟨w+1,0,none⟩ d.name).setCell ⟨w+1,1,none⟩ d.from_).setCell ⟨w+1,2,none⟩ (.slice at_ d.text.length ct)).setCell ⟨w+1,3,none⟩ (.slice al d.list.length cl)).setCell ⟨w+1,4,none⟩ (.slice as_ d.seen.length cs_))):=hH ((((((B.out.trans (B9.mono om)).setCell (p:=⟨w+1,0,none⟩) om _).setCell (p:=⟨w+1,1,none⟩) om _).setCell (p:=⟨w+1,2,none⟩) om _).setCell (p:=⟨w+1,3,none⟩) om _).setCell (p:=⟨w+1,4,none⟩) om _)
  have HT:=hH ((((((HTN.out.mono (C':=w+2) (by first|omega|(simp;omega))).setCell (b:=w+1) (o:=0) (.inl om) (.string d.name)).setCell (b:=w+1) (o:=1) (.inl om) (.int .i64 d.from_)).setCell (b:=w+1) (o:=2) (.inl om) (.slice at_ d.text.length ct)).setCell (b:=w+1) (o:=3) (.inl om) (.slice al d.list.length cl)).setCell (b:=w+1) (o:=4) (.inl om) (.slice as_ d.seen.length cs_))
  all_goals
   go_wp2;rw[HV.out];exact bodyPost_ret (v:= .tuple #[.agg #[d.name,d.from_,.slice at_ d.text.length ct,.slice al d.list.length cl,.slice as_ d.seen.length cs_],(uab d client).1.rev,zI]) (by simp[results,Tryz.results133,go_sem,xaa, *]) rfl (Kag.out HT.out a2 om HB.out)
 have HN5:=hH h5;have h5b:((uab d client).1.seq==seq)=false:=by simpa using h5
 clear h5;go_upto_region 4 with(fail)
 obtain⟨S4,hS4⟩:∃S4:World,S4=(w5.alloc (.cells #[(uab d client).1.client,(uab d client).1.seq,(uab d client).1.rev] 119)):=⟨_,rfl⟩;have sS4:w5+1<=S4.heap.size:=by rw[hS4];first|(simp;done)|(simp;omega)
 replace B:Hid (Below w w S4):=hH (by rw[hS4];exact(B.out.alloc om _))
 replace j:Hid (Bx S4 w [d.name,d.from_,J,D,I]):=hH (by rw[hS4];exact(j.out.alloc _))
 replace Kd:=j.out.o5;replace n:Hid (Bx S4 (w+1) [.string ⟨#[]⟩,zI,zN,zN,zN]):=hH (by rw[hS4];exact(n.out.alloc _))
 replace Kr:=n.out.q5;have a5:Hid (Bx S4 w5 [(uab d client).1.client,(uab d client).1.seq,(uab d client).1.rev]):=hH (by rw[hS4];exact(Bx.new (by first|rfl|simp|omega)))
 have Ks:=a5.out.q3;rw[<-hS4];clear hS4;go_cut [54]from 48 (fun z wx=>z= .bool false/\S4=wx)
 case first=>
  cases th
  ·go_wp2_with fail
   go_meet
   exact⟨rfl,rfl⟩
  ·go_wp2_with fail
   go_meet
   exact⟨rfl,rfl⟩
 case rest=>
  obtain⟨rfl,hwc⟩:=hcut;subst hwc;by_cases h6:(uab d client).1.seq+1=seq
  rotate_left
  ·have HV:=hH (JaR (base:=base) H4.out HN5.out h6);have h6b:((uab d client).1.seq+1==seq)=false:=by simpa using h6
   have h6c:(seq==(uab d client).1.seq+1)=false:=by simp;omega
   have h6d:¬seq=(uab d client).1.seq+1:=om;go_wp2;rw[HV.out];exact bodyPost_ret (v:= .tuple #[.agg #[.string ⟨#[]⟩,zI,zN,zN,zN],zI,.int .i64 4]) (by simp[results,Tryz.results133,go_sem,xaa, *]) rfl (Xak (kar B.out om))
  have HN6:=hH h6;have h6b:((uab d client).1.seq+1==seq)=true:=by simpa using h6
  have h6c:(seq==(uab d client).1.seq+1)=true:=by simp;omega
  clear h6;go_wp2_with fail
  refine(kaU d _ _ _ base _ o _ a2 (h_text.below B.out) (h_list.below B.out) (h_seen.below B.out) (ho.below B.out)).mono ?_;rintro e' w6 ⟨vx,fx,rfl,sx,kx,hb6⟩;obtain⟨ax,cx,rfl⟩:=sx.isS;have HXX:Hid (zag S4 w6 w6 (.slice ax (Xaa d base o).1.length cx) (Xaa d base o).1):=hH ⟨fx,sx,kx.mono (by first|exact lr _|(simp;done)|(simp;omega)),Live.lt sx.live⟩
  clear sx kx;have s6:S4<=w6.heap.size:=szl hb6;replace B:=hH (B.out.trans (hb6.mono om));replace j:=hH (j.out.at hb6);replace Kd:=j.out.o5;replace n:=hH (n.out.at hb6);replace Kr:=n.out.q5;replace a5:=hH (a5.out.at hb6);replace Ks:=a5.out.q3;clear hb6;by_cases h7:(Xaa d base o).2=0
  rotate_left
  ·have HV:=hH (XaM H4.out HN5.out HN6.out h7);have h7b:((Xaa d base o).2==0)=false:=by simpa using h7
   go_wp2;rw[HV.out];exact bodyPost_ret (v:= .tuple #[.agg #[.string ⟨#[]⟩,zI,zN,zN,zN],zI,(Xaa d base o).2]) (by simp[results,Tryz.results133,go_sem,xaa, *]) rfl (Xak (kar B.out om))
  have HN7:=hH h7;have HOX:=hH (kaC h7);clear h7;rw[HN7.out];go_wp2_with fail
  refine(Jab d _ _ _ _ (h_list.below B.out) om om).mono ?_;rintro e' w7 ⟨rfl,hb7⟩;have s7:w6<=w7.heap.size:=szl hb7;replace B:=hH (B.out.trans (hb7.mono om));replace HXX:Hid (zag S4 w6 w7 (.slice ax (Xaa d base o).1.length cx) ((Xaa d base o).1)):=hH ((HXX.out.below hb7));replace j:=hH (j.out.at hb7);replace Kd:=j.out.o5;replace n:=hH (n.out.at hb7);replace Kr:=n.out.q5;replace a5:=hH (a5.out.at hb7);replace Ks:=a5.out.q3;clear hb7;by_cases h8:yaa d<999999000
  rotate_left
  ·have HV:=hH (QaH H4.out HN5.out HN6.out HN7.out h8);have h8b:decide (999999000<=yaa d)=true:=by simp;omega
   go_wp2;rw[HV.out];exact bodyPost_ret (v:= .tuple #[.agg #[.string ⟨#[]⟩,zI,zN,zN,zN],zI,.int .i64 5]) (by simp[results,Tryz.results133,go_sem,xaa, *]) rfl (Xak (kar B.out om))
  have HV:=hH (yaS (base:=base) H4.out HN5.out HN6.out HN7.out h8);clear h5b h6b h6c;go_wp2_with fail
  refine(uat d _ _ _ _ a2 (h_text.below B.out) (h_list.below B.out) (h_seen.below B.out) bz0 bz1 bz2).mono ?_;rintro e' R ⟨cs,rfl,ho8,hb8⟩;obtain⟨vt,vl,vs,rfl,htn⟩:=Kag.of_own ho8 (lr _);obtain⟨at_,ct,rfl⟩:=htn.rdT.isSlice
  obtain⟨al,cl,rfl⟩:=htn.rdL.isSlice;obtain⟨as_,cs_,rfl⟩:=htn.rdS.isSlice;have HTN:=hH htn;clear ho8 htn;have s8:w7<=R.heap.size:=szl hb8;replace B:=hH (B.out.trans (hb8.mono om));replace HXX:Hid (zag S4 w6 R (.slice ax (Xaa d base o).1.length cx) ((Xaa d base o).1)):=hH ((HXX.out.below hb8));replace j:=hH (j.out.at hb8);replace Kd:=j.out.o5;replace n:=hH (n.out.at hb8);replace Kr:=n.out.q5;replace a5:=hH (a5.out.at hb8);replace Ks:=a5.out.q3;clear hb8;have HTN0:=HTN;clear HTN;have HTN:Hid (Kag R w7 R (.slice at_ d.text.length ct) (.slice al d.list.length cl) (.slice as_ d.seen.length cs_) d.text d.list d.seen):=hH (HTN0.out.mono (by first|exact lr _|omega|(simp;omega)))
  clear HTN0;go_upto_region 14 with(fail)
  obtain⟨U,hU⟩:∃U:World,U=(R.alloc (.cells #[d.name,d.from_,.slice at_ d.text.length ct,.slice al d.list.length cl,.slice as_ d.seen.length cs_] 67)):=⟨_,rfl⟩
  have sU:R+1<=U.heap.size:=by rw[hU];first|(simp;done)|(simp;omega)
  replace B:Hid (Below w w U):=hH (by rw[hU];exact(B.out.alloc om _))
  replace HXX:Hid (zag S4 w6 U (.slice ax (Xaa d base o).1.length cx) ((Xaa d base o).1)):=hH (by rw[hU];exact(HXX.out.alloc _))
  replace HTN:Hid (Kag R w7 U (.slice at_ d.text.length ct) (.slice al d.list.length cl) (.slice as_ d.seen.length cs_) d.text d.list d.seen):=hH (by rw[hU];exact(HTN.out.alloc _))
  replace j:Hid (Bx U w [d.name,d.from_,J,D,I]):=hH (by rw[hU];exact(j.out.alloc _))
  replace Kd:=j.out.o5;replace n:Hid (Bx U (w+1) [.string ⟨#[]⟩,zI,zN,zN,zN]):=hH (by rw[hU];exact(n.out.alloc _))
  replace Kr:=n.out.q5;replace a5:Hid (Bx U w5 [(uab d client).1.client,(uab d client).1.seq,(uab d client).1.rev]):=hH (by rw[hU];exact(a5.out.alloc _))
  replace Ks:=a5.out.q3;have M:Hid (Bx U R [d.name,d.from_,.slice at_ d.text.length ct,.slice al d.list.length cl,.slice as_ d.seen.length cs_]):=hH (by rw[hU];exact(Bx.new (by first|rfl|simp|omega)))
  have Ko:=M.out.q5;rw[<-hU];clear hU;obtain⟨i0,hi,hz0,hz1,hz2⟩:=info_parts kao;obtain⟨fx,sx,kx,lx⟩:=HXX.out;have HSXU:=hH sx;have HKXU:Hid (Qaa (w+2) U fx):=hH (kx.mono om);have HLX:Hid (∀p∈fx,p.1<w7):=hH fun p hp=>by have:=lx p hp;omega
  clear sx kx lx;have hrd:GoT.rd BIG U [client,seq,.slice ax (Xaa d base o).1.length cx] (jab client seq (Xaa d base o).1) fx:=⟨_,fx,rfl,HSXU.out,rfl⟩;obtain⟨gl,j1,j2,j3,j4,j5,j6⟩:=HTN.out.app (C:=w+2) 87 (lf _ _) om om om hrd HKXU.out HLX.out;have J1:=hH j1;have J2:=hH j2;have J3:=hH j3;have J5:=hH j5;have J6:=hH j6;clear hrd j1 j2 j3 j4 j5 j6;go_wp2_with (at_builtin;go_must (refine qaa rfl _ _ 34 rfl Tryz.underlying34 hi hz0 hz1 hz2 rfl rfl rfl J1.out J2.out J3.out ?c1 ?c2 ?c3 ?_))
  case c1=>exact Xab (by simp;omega)
  case c2=>simp;omega
  case c3=>simp;omega
  intro v20 w20 hr hw hn;obtain⟨a0,a1,e20⟩:=hr.rd.isSlice;rw[List.length_append,List.length_singleton]at e20;subst e20;have HT2:Hid (Kag R (w+2) w20 (.slice at_ d.text.length ct) (.slice a0 (d.list.length+1) a1) (.slice as_ d.seen.length cs_) d.text (d.list++[jab client seq (Xaa d base o).1]) d.seen):=hH (J6.out _ _ hr hw (fun p hp=>(hn p.1 p.2 hp).imp_right fun h=>by simp at h⊢;omega))
  have s20:U+1<=w20.heap.size:=by have:=hw.size;(try simp at this);omega
  replace B:Hid (Below w w w20):=hH ((B.out.alloc om _).trans (hw.below (by simp;omega) (fun p hp=>by have:=(J5.out p hp).1;omega)))
  replace j:Hid (Bx w20 w [d.name,d.from_,J,D,I]):=hH ((j.out.alloc _).wr hw (fun p hp e=>by have:=J5.out p hp;omega))
  replace Kd:=j.out.o5;replace n:Hid (Bx w20 (w+1) [.string ⟨#[]⟩,zI,zN,zN,zN]):=hH ((n.out.alloc _).wr hw (fun p hp e=>by have:=J5.out p hp;omega))
  replace Kr:=n.out.q5;replace a5:Hid (Bx w20 w5 [(uab d client).1.client,(uab d client).1.seq,(uab d client).1.rev]):=hH ((a5.out.alloc _).wr hw (fun p hp e=>by have:=J5.out p hp;omega))
  replace Ks:=a5.out.q3;replace M:Hid (Bx w20 R [d.name,d.from_,.slice at_ d.text.length ct,.slice al d.list.length cl,.slice as_ d.seen.length cs_]):=hH ((M.out.alloc _).wr hw (fun p hp e=>by have:=J5.out p hp;omega))
  replace Ko:=M.out.q5;clear hr hw hn J1 J2 J3 J5 J6 HSXU HKXU HLX HTN HXX;go_wp2_with fail
  refine(Jab (⟨d.name,d.from_,d.text,d.list++[jab client seq (Xaa d base o).1],d.seen⟩:Xac) _ _ _ _ ((HT2.out.setCell om _)).rdL (by first|exact bf0'|(show _<=d.from_;omega)) (by show d.from_<=_;omega)).mono ?_
  rintro e' w21 ⟨rfl,hb21⟩;have hhr:yaa (⟨d.name,d.from_,d.text,d.list++[jab client seq (Xaa d base o).1],d.seen⟩:Xac)=yaa d+1:=by simp[yaa];omega
  rw[hhr];clear hhr;have s21:w20<=w21.heap.size:=szl hb21;replace B:=hH ((B.out.setCell (p:=⟨R,3,none⟩) om _).trans (hb21.mono om));replace HT2:Hid (Kag R (w+2) w21 (.slice at_ d.text.length ct) (.slice a0 (d.list.length+1) a1) (.slice as_ d.seen.length cs_) d.text (d.list++[jab client seq (Xaa d base o).1]) d.seen):=hH (((HT2.out.setCell om _).below hb21))
  replace j:=hH ((j.out.setO om).at hb21);replace Kd:=j.out.o5;replace n:=hH ((n.out.setO om).at hb21);replace Kr:=n.out.q5;replace a5:=hH ((a5.out.setO om).at hb21);replace Ks:=a5.out.q3;replace M:=hH ((M.out.set 3 (.slice a0 (d.list.length+1) a1)).at hb21);replace Ko:=M.out.q5;clear hb21;go_upto_region 16 with(fail)
  obtain⟨V,hV⟩:∃V:World,V=w21:=⟨_,rfl⟩;have sV:w21<=V.heap.size:=by rw[hV];first|(simp;done)|(simp;omega)
  replace B:Hid (Below w w V):=hH (by rw[hV];exact B.out)
  replace HT2:Hid (Kag R (w+2) V (.slice at_ d.text.length ct) (.slice a0 (d.list.length+1) a1) (.slice as_ d.seen.length cs_) d.text (d.list++[jab client seq (Xaa d base o).1]) d.seen):=hH (by rw[hV];exact HT2.out)
  replace j:Hid (Bx V w [d.name,d.from_,J,D,I]):=hH (by rw[hV];exact j.out)
  replace Kd:=j.out.o5;replace n:Hid (Bx V (w+1) [.string ⟨#[]⟩,zI,zN,zN,zN]):=hH (by rw[hV];exact n.out)
  replace Kr:=n.out.q5;replace M:Hid (Bx V R [d.name,d.from_,.slice at_ d.text.length ct,.slice a0 (d.list.length+1) a1,.slice as_ d.seen.length cs_]):=hH (by rw[hV];exact M.out)
  replace Ko:=M.out.q5;rw[<-hV];clear hV;have hrs:RdS V (.slice as_ d.seen.length cs_) d.seen:=HT2.out.rdS;have HRS:=hH hrs;have HSO:=hH (ya8 (jaf.1 h1).seen ⟨client,seq,yaa d+1⟩);clear hrs;obtain⟨i1,hsi,sz0,sz1,sz2⟩:=info_parts ZaQ;go_wp2_with fail
  go_loopw [19,20,97] (fun u b i wr=>∃(k:Nat) (u':Value),u'=u/\b= .bool (qa0 d.seen ⟨client,seq,yaa d+1⟩ k).2/\k<=d.seen.length/\i= .int .i64 k/\Row V wr u' (qa0 d.seen ⟨client,seq,yaa d+1⟩ k).1 []/\Below V V wr) (fun _ _ i _=>d.seen.length-(intOf i).toNat)
  case atStart=>exact⟨0,_,rfl,rfl,lz _,rfl,Row.empty _ _ _,(lf _ _).alloc (lr _) _⟩
  case round=>
   obtain⟨k,u',rfl,rfl,hk,rfl,hrow,hbw⟩:=hrel;have hsz:=hbw.size;have HROW:=hH hrow;have HBV:=hH hbw;clear hrow hbw;by_cases hlt:k<d.seen.length
   ·obtain⟨y,hy⟩:=Jaa hlt;obtain⟨b1,o1,cs,g1,g2,g3⟩:=(HRS.out.below HBV.out).idx Tryz.underlying65 Jak k hy;obtain rfl:=xam g3;have q0:=g2.zero;have q1:=g2 1 _ rfl;have q2:=g2 2 _ rfl;have HST:=hH (QaZ (s:=⟨client,seq,yaa d+1⟩) hy);have hln:=ZaT d.seen ⟨client,seq,yaa d+1⟩ k hk;have hl2:(k:Int)<(d.seen.length:Int):=om;clear g2 g3 hy;by_cases e1:y.client=client
    ·have e1b:(y.client==client)=true:=by simpa using e1
     have HS2:Hid ((qa0 d.seen ⟨client,seq,yaa d+1⟩ (k+1))=(qa0 d.seen ⟨client,seq,yaa d+1⟩ k)):=hH (by rw[HST.out];exact if_pos e1)
     clear e1;go_wp2;go_roundw
     case rel=>exact⟨k+1,_,rfl,by rw[HS2.out],by omega,by go_num,by rw[HS2.out];exact HROW.out.below ((lf _ _).alloc (lr _) _),HBV.out.alloc hsz _⟩
     case measure=>simp[intOf];omega
    ·rcases hp:(qa0 d.seen ⟨client,seq,yaa d+1⟩ k)with⟨P,dn⟩
     rw[hp]at hln;have a3:Hid (Row V wr u' P []):=hH (by have:=HROW.out;rw[hp]at this;exact this)
     have HP:=hH hp;have hpl:P.length<=2*k:=hln;have e1b:(y.client==client)=false:=by simpa using e1
     have HE1:=hH e1;clear hp hln e1 HROW;cases dn
     ·by_cases e2:client<y.client
      ·have HS2:Hid ((qa0 d.seen ⟨client,seq,yaa d+1⟩ (k+1))=(P++[⟨client,seq,yaa d+1⟩]++[y],true)):=hH (by rw[HST.out,HP.out];unfold Xap;rw[if_neg HE1.out,if_pos ⟨rfl,e2⟩])
       have hs5:=Zac (w:=(wr.alloc (.cells #[y.client,y.seq,y.rev] 119))) (c:=[client,seq,.int .i64 (yaa d+1)]) (x:=(⟨client,seq,yaa d+1⟩:qac)) (f:=[]) 119 (QaO _ (⟨client,seq,yaa d+1⟩:qac));have e5:(wr.alloc (.cells #[y.client,y.seq,y.rev] 119)).heap.size=wr.heap.size+1:=by simp
       rw[e5]at hs5;clear e5;have HS5:=hH hs5;have HRA5:Hid (Row V ((wr.alloc (.cells #[y.client,y.seq,y.rev] 119)).alloc (.cells #[client,seq,.int .i64 (yaa d+1)] 119)) u' P []):=hH (by have h:=a3.out;(try simp only[List.append_nil]at h);exact h.below (((lf _ _).alloc (lr _) _).alloc sm _))
       clear hs5;go_wp2_with (at_builtin;go_must (refine qaa rfl _ _ 65 rfl Tryz.underlying65 hsi sz0 sz1 sz2 rfl rfl rfl HRA5.out HS5.out (fun _ h=>by cases h) ?c1 ?c2 ?c3 ?_))
       case c1=>refine Xab ?_;first|omega|(simp;omega)
       case c2=>first|omega|(simp;omega)
       case c3=>first|omega|(simp;omega)
       intro v5 w5 hr5 hw5 hn5;have HR5:=hH hr5;have s5:=hw5.size;have hx22:Bx w5 wr [y.client,y.seq,y.rev]:=((Bx.new (w:=wr) (c:= #[y.client,y.seq,y.rev]) (t:=119) rfl).alloc _).wr hw5 (fun q hq=>by have:=Live.lt (Live.append.1 a3.out.1.live).1 q hq;omega)
       obtain⟨z22,b220,b221,b222⟩:=hx22.o3;have HB5:Hid (Below V V w5):=hH (((HBV.out.alloc hsz _).alloc (by simp;omega) _).trans (hw5.below (by simp;omega) (fun p hp=>a3.out.2.1.ge p hp)))
       have s5b:=HB5.out.size;clear hx22 hr5 hw5 hn5 HS5 HRA5;have hs6:=Zac (w:=w5) (c:=[y.client,y.seq,y.rev]) (x:=(y:qac)) (f:=[]) 119 (QaO _ (y:qac));have HS6:=hH hs6;have HRA6:Hid (Row V (w5.alloc (.cells #[y.client,y.seq,y.rev] 119)) v5 (P++[⟨client,seq,yaa d+1⟩]) []):=hH (by have h:=HR5.out;(try simp only[List.append_nil]at h);exact h.below ((lf _ _).alloc (lr _) _))
       clear hs6;go_wp2_with (at_builtin;go_must (refine qaa rfl _ _ 65 rfl Tryz.underlying65 hsi sz0 sz1 sz2 rfl rfl rfl HRA6.out HS6.out (fun _ h=>by cases h) ?c1 ?c2 ?c3 ?_))
       case c1=>refine Xab ?_;first|omega|(simp;omega)
       case c2=>first|omega|(simp;omega)
       case c3=>first|omega|(simp;omega)
       intro v6 w6 hr6 hw6 hn6;have HR6:=hH hr6;have s6:=hw6.size;have HB6:Hid (Below V V w6):=hH ((HB5.out.alloc s5b _).trans (hw6.below (by simp;omega) (fun p hp=>HR5.out.2.1.ge p hp)))
       clear hr6 hw6 hn6 HS6 HRA6;go_wp2;go_roundw
       case rel=>exact⟨k+1,_,rfl,by rw[HS2.out],by omega,by go_num,by rw[HS2.out];simpa using HR6.out,HB6.out⟩
       case measure=>simp[intOf];omega
      have HS2:Hid ((qa0 d.seen ⟨client,seq,yaa d+1⟩ (k+1))=(P++[y],false)):=hH (by rw[HST.out,HP.out];unfold Xap;rw[if_neg HE1.out,if_neg (fun h=>e2 h.2)])
      have hs5:=Zac (w:=(wr.alloc (.cells #[y.client,y.seq,y.rev] 119))) (c:=[y.client,y.seq,y.rev]) (x:=(y:qac)) (f:=[]) 119 (QaO _ (y:qac));have e5:(wr.alloc (.cells #[y.client,y.seq,y.rev] 119)).heap.size=wr.heap.size+1:=by simp
      rw[e5]at hs5;clear e5;have HS5:=hH hs5;have HRA5:Hid (Row V ((wr.alloc (.cells #[y.client,y.seq,y.rev] 119)).alloc (.cells #[y.client,y.seq,y.rev] 119)) u' P []):=hH (by have h:=a3.out;(try simp only[List.append_nil]at h);exact h.below (((lf _ _).alloc (lr _) _).alloc sm _))
      clear hs5;go_wp2_with (at_builtin;go_must (refine qaa rfl _ _ 65 rfl Tryz.underlying65 hsi sz0 sz1 sz2 rfl rfl rfl HRA5.out HS5.out (fun _ h=>by cases h) ?c1 ?c2 ?c3 ?_))
      case c1=>refine Xab ?_;first|omega|(simp;omega)
      case c2=>first|omega|(simp;omega)
      case c3=>first|omega|(simp;omega)
      intro v5 w5 hr5 hw5 hn5;have HR5:=hH hr5;have s5:=hw5.size;have HB5:Hid (Below V V w5):=hH (((HBV.out.alloc hsz _).alloc (by simp;omega) _).trans (hw5.below (by simp;omega) (fun p hp=>a3.out.2.1.ge p hp)))
      clear hr5 hw5 hn5 HS5 HRA5;go_wp2;go_roundw
      case rel=>exact⟨k+1,_,rfl,by rw[HS2.out],by omega,by go_num,by rw[HS2.out];simpa using HR5.out,HB5.out⟩
      case measure=>simp[intOf];omega
     ·have HS2:Hid ((qa0 d.seen ⟨client,seq,yaa d+1⟩ (k+1))=(P++[y],true)):=hH (by rw[HST.out,HP.out];unfold Xap;rw[if_neg HE1.out,if_neg (fun h=>by cases h.1)])
      have hs5:=Zac (w:=(wr.alloc (.cells #[y.client,y.seq,y.rev] 119))) (c:=[y.client,y.seq,y.rev]) (x:=(y:qac)) (f:=[]) 119 (QaO _ (y:qac));have e5:(wr.alloc (.cells #[y.client,y.seq,y.rev] 119)).heap.size=wr.heap.size+1:=by simp
      rw[e5]at hs5;clear e5;have HS5:=hH hs5;have HRA5:Hid (Row V ((wr.alloc (.cells #[y.client,y.seq,y.rev] 119)).alloc (.cells #[y.client,y.seq,y.rev] 119)) u' P []):=hH (by have h:=a3.out;(try simp only[List.append_nil]at h);exact h.below (((lf _ _).alloc (lr _) _).alloc sm _))
      clear hs5;go_wp2_with (at_builtin;go_must (refine qaa rfl _ _ 65 rfl Tryz.underlying65 hsi sz0 sz1 sz2 rfl rfl rfl HRA5.out HS5.out (fun _ h=>by cases h) ?c1 ?c2 ?c3 ?_))
      case c1=>refine Xab ?_;first|omega|(simp;omega)
      case c2=>first|omega|(simp;omega)
      case c3=>first|omega|(simp;omega)
      intro v5 w5 hr5 hw5 hn5;have HR5:=hH hr5;have s5:=hw5.size;have HB5:Hid (Below V V w5):=hH (((HBV.out.alloc hsz _).alloc (by simp;omega) _).trans (hw5.below (by simp;omega) (fun p hp=>a3.out.2.1.ge p hp)))
      clear hr5 hw5 hn5 HS5 HRA5;go_wp2;go_roundw
      case rel=>exact⟨k+1,_,rfl,by rw[HS2.out],by omega,by go_num,by rw[HS2.out];simpa using HR5.out,HB5.out⟩
      case measure=>simp[intOf];omega
   ·have hkl:k=d.seen.length:=om;have hl2:¬(k:Int)<(d.seen.length:Int):=om;have hln:=ZaT d.seen ⟨client,seq,yaa d+1⟩ k hk;rcases hp:(qa0 d.seen ⟨client,seq,yaa d+1⟩ k)with⟨P,dn⟩
    rw[hp]at hln;have hpl:P.length<=2*k:=hln;have a3:Hid (Row V wr u' P []):=hH (by have:=HROW.out;rw[hp]at this;exact this)
    have HSS:Hid (ka3 ⟨client,seq,yaa d+1⟩ (P,dn)=(kaa d.seen ⟨client,seq,yaa d+1⟩)):=hH (by have:=HSO.out;rw[<-hkl,hp]at this;exact this)
    clear hp hln HROW HSO;cases dn
    ·have hs7:=Zac (w:=wr) (c:=[client,seq,.int .i64 (yaa d+1)]) (x:=(⟨client,seq,yaa d+1⟩:qac)) (f:=[]) 119 (QaO _ (⟨client,seq,yaa d+1⟩:qac));have HS7:=hH hs7;have HRA7:Hid (Row V (wr.alloc (.cells #[client,seq,.int .i64 (yaa d+1)] 119)) u' P []):=hH (by have h:=a3.out;(try simp only[List.append_nil]at h);exact h.below ((lf _ _).alloc (lr _) _))
     clear hs7;go_wp2_with (at_builtin;go_must (refine qaa rfl _ _ 65 rfl Tryz.underlying65 hsi sz0 sz1 sz2 rfl rfl rfl HRA7.out HS7.out (fun _ h=>by cases h) ?c1 ?c2 ?c3 ?_))
     case c1=>refine Xab ?_;first|omega|(simp;omega)
     case c2=>first|omega|(simp;omega)
     case c3=>first|omega|(simp;omega)
     intro v7 w7 hr7 hw7 hn7;have HR7:=hH hr7;have s7:=hw7.size;have HB7:Hid (Below V V w7):=hH ((HBV.out.alloc hsz _).trans (hw7.below (by simp;omega) (fun p hp=>a3.out.2.1.ge p hp)))
     clear hr7 hw7 hn7 HS7 HRA7;have HSE:Hid ((kaa d.seen ⟨client,seq,yaa d+1⟩)=P++[⟨client,seq,yaa d+1⟩]):=hH (HSS.out.symm.trans (if_pos rfl));have a4:Row V w7 v7 (kaa d.seen ⟨client,seq,yaa d+1⟩) []:=by rw[HSE.out];simpa using HR7.out
     obtain⟨N,Q,e30⟩:=a4.rd.isSlice;subst e30;obtain⟨fs,sfs,ffs,nfs,put⟩:=HT2.out.seenPut;have hs1:=a4.1;rw[List.append_nil]at hs1;have HT3:Hid (Kag R (w+2) w7 (.slice at_ d.text.length ct) (.slice a0 (d.list.length+1) a1) (.slice N (kaa d.seen ⟨client,seq,yaa d+1⟩).length Q) d.text (d.list++[jab client seq (Xaa d base o).1]) (kaa d.seen ⟨client,seq,yaa d+1⟩)):=hH (put V w7 _ _ _ (lf _ _) (Wr.of_below HB7.out) om hs1 (a4.2.1.mono om) (fun p hp=> .inr (a4.2.1.ge p hp)))
     clear sfs ffs nfs put hs1 a4;have s30:V<=w7.heap.size:=by have:=HB7.out.size;(try simp at this);omega
     replace B:Hid (Below w w w7):=hH (B.out.trans (HB7.out.mono om));replace j:Hid (Bx w7 w [d.name,d.from_,J,D,I]):=hH (j.out.at HB7.out);replace Kd:=j.out.o5;replace n:Hid (Bx w7 (w+1) [.string ⟨#[]⟩,zI,zN,zN,zN]):=hH (n.out.at HB7.out);replace Kr:=n.out.q5;replace M:Hid (Bx w7 R [d.name,d.from_,.slice at_ d.text.length ct,.slice a0 (d.list.length+1) a1,.slice as_ d.seen.length cs_]):=hH (M.out.at HB7.out)
     replace Ko:=M.out.q5;clear HT2 HRS;by_cases hw8:d.list.length=8
     rotate_left
     ·have hl8:¬(8:Int)<(d.list.length:Int)+1:=om;have HCM:Hid (xag d client seq (Xaa d base o).1=⟨d.name,d.from_,d.text,(d.list++[jab client seq (Xaa d base o).1]),(kaa d.seen ⟨client,seq,yaa d+1⟩)⟩):=hH (by unfold xag;rw[if_neg (by simp;omega)])
      go_upto_region 34 with(fail)
      obtain⟨Y,hY⟩:∃Y:World,Y=(w7.setCell ⟨R,4,none⟩ (.slice N (kaa d.seen ⟨client,seq,yaa d+1⟩).length Q)):=⟨_,rfl⟩;have sY:w7<=Y.heap.size:=by rw[hY];first|(simp;done)|(simp;omega)
      replace B:Hid (Below w w Y):=hH (by rw[hY];exact(B.out.setCell (p:=⟨R,4,none⟩) om _))
      replace HT3:Hid (Kag R (w+2) Y (.slice at_ d.text.length ct) (.slice a0 (d.list.length+1) a1) (.slice N (kaa d.seen ⟨client,seq,yaa d+1⟩).length Q) (d.text) ((d.list++[jab client seq (Xaa d base o).1])) ((kaa d.seen ⟨client,seq,yaa d+1⟩))):=hH (by rw[hY];exact(HT3.out.setCell om _))
      replace j:Hid (Bx Y w [d.name,d.from_,J,D,I]):=hH (by rw[hY];exact(j.out.setO om))
      replace Kd:=j.out.o5;replace n:Hid (Bx Y (w+1) [.string ⟨#[]⟩,zI,zN,zN,zN]):=hH (by rw[hY];exact(n.out.setO om))
      replace Kr:=n.out.q5;replace M:Hid (Bx Y R [d.name,d.from_,.slice at_ d.text.length ct,.slice a0 (d.list.length+1) a1,.slice N (kaa d.seen ⟨client,seq,yaa d+1⟩).length Q]):=hH (by rw[hY];exact(M.out.set 4 (.slice N (kaa d.seen ⟨client,seq,yaa d+1⟩).length Q)))
      replace Ko:=M.out.q5;rw[<-hY];clear hY;repeat go_step
      rw[HV.out,HCM.out];exact bodyPost_ret (v:= .tuple #[.agg #[d.name,d.from_,.slice at_ d.text.length ct,.slice a0 (d.list.length+1) a1,.slice N (kaa d.seen ⟨client,seq,yaa d+1⟩).length Q],.int .i64 (yaa d+1),zI]) (by simp[results,Tryz.results133,go_sem,xaa, *]) rfl (Kag.out (y:=⟨d.name,d.from_,d.text,(d.list++[jab client seq (Xaa d base o).1]),(kaa d.seen ⟨client,seq,yaa d+1⟩)⟩) (HT3.out.set5 om) a2 om (kar B.out om))
     have hl8:(8:Int)<(d.list.length:Int)+1:=om;obtain⟨e0,he0⟩:∃e0,(d.list++[jab client seq (Xaa d base o).1])[0]? =some e0:=Jaa sm;have HCM:Hid (xag d client seq (Xaa d base o).1=⟨d.name,d.from_+1,(zab e0.o d.text).1,(d.list++[jab client seq (Xaa d base o).1]).drop 1,(kaa d.seen ⟨client,seq,yaa d+1⟩)⟩):=hH (by unfold xag;rw[if_pos (by simp;omega)];have e:(d.list++[jab client seq (Xaa d base o).1]).headD ⟨0,0,[]⟩=e0:=(by rw[List.headD_eq_head?_getD,List.head?_eq_getElem?,he0];rfl);rw[e])
     have HW8:=hH hw8;clear hw8;go_upto_region 31 with(fail)
     obtain⟨Z,hZ⟩:∃Z:World,Z=(w7.setCell ⟨R,4,none⟩ (.slice N (kaa d.seen ⟨client,seq,yaa d+1⟩).length Q)):=⟨_,rfl⟩;have sZ:w7<=Z.heap.size:=by rw[hZ];first|(simp;done)|(simp;omega)
     replace B:Hid (Below w w Z):=hH (by rw[hZ];exact(B.out.setCell (p:=⟨R,4,none⟩) om _))
     replace HT3:Hid (Kag R (w+2) Z (.slice at_ d.text.length ct) (.slice a0 (d.list.length+1) a1) (.slice N (kaa d.seen ⟨client,seq,yaa d+1⟩).length Q) (d.text) ((d.list++[jab client seq (Xaa d base o).1])) ((kaa d.seen ⟨client,seq,yaa d+1⟩))):=hH (by rw[hZ];exact(HT3.out.setCell om _))
     replace j:Hid (Bx Z w [d.name,d.from_,J,D,I]):=hH (by rw[hZ];exact(j.out.setO om))
     replace Kd:=j.out.o5;replace n:Hid (Bx Z (w+1) [.string ⟨#[]⟩,zI,zN,zN,zN]):=hH (by rw[hZ];exact(n.out.setO om))
     replace Kr:=n.out.q5;replace M:Hid (Bx Z R [d.name,d.from_,.slice at_ d.text.length ct,.slice a0 (d.list.length+1) a1,.slice N (kaa d.seen ⟨client,seq,yaa d+1⟩).length Q]):=hH (by rw[hZ];exact(M.out.set 4 (.slice N (kaa d.seen ⟨client,seq,yaa d+1⟩).length Q)))
     replace Ko:=M.out.q5;rw[<-hZ];clear hZ;obtain⟨b1,o1,ces,x1,x2,x3⟩:=(HT3.out.rdL).idx Tryz.underlying34 Kab 0 he0;obtain⟨v_eo,rfl,r_eo⟩:=qag x3;have q0:=x2.zero;have q1:=x2 1 _ rfl;have q2:=x2 2 _ rfl;have l1:b1<Z.heap.size:=lk (w:=Z) (a:=⟨b1,o1,none⟩) q0;obtain⟨aeo,ceo,rfl⟩:=r_eo.isSlice;have HREO:=hH r_eo;replace x1:∀w1,(Instr.indexAt 34 (.slice a0 (d.list.length+1) a1) (.int .i64 0)).run Tryz.prog w1= .ok (.pointer (some ⟨b1,o1,none⟩)) w1:=x1;clear x2 x3 r_eo he0;go_cut []from 23 (fun wx=>∃(an:Option Addr) (cn:Nat) (w9:World),wx=w9.setCell ⟨R,2,none⟩ (.slice an (zab e0.o d.text).1.length cn)/\Below Z Z w9/\Kag R (w+2) w9 (.slice an (zab e0.o d.text).1.length cn) (.slice a0 (d.list.length+1) a1) (.slice N (kaa d.seen ⟨client,seq,yaa d+1⟩).length Q) ((zab e0.o d.text).1) ((d.list++[jab client seq (Xaa d base o).1])) ((kaa d.seen ⟨client,seq,yaa d+1⟩)))
     case first=>
      go_region_law ((go_simp;go_at_call 147;refine(jal e0.o d.text _ _ _ (HREO.out.below (show Below Z Z _ from blw)) (HT3.out.rdT.below (show Below Z Z _ from blw))).mono ?_;rintro e' w9 ⟨vn,fn,rfl,sn,kn,hb9⟩;obtain⟨an,cn,rfl⟩:=sn.isS;have B9:Below Z Z w9:=(show Below Z Z _ from blw).trans (hb9.mono om);have s9:=B9.size;obtain⟨Zo_9,Ko_9_0,Ko_9_1,Ko_9_2,Ko_9_3,Ko_9_4,Go_9_0,Go_9_1,Go_9_2,Go_9_3,Go_9_4⟩:=(M.out.at B9).q5;have HB9:=hH B9;clear hb9 B9;have a6:Hid (Kag R (w+2) w9 (.slice an (zab e0.o d.text).1.length cn) (.slice a0 (d.list.length+1) a1) (.slice N (kaa d.seen ⟨client,seq,yaa d+1⟩).length Q) ((zab e0.o d.text).1) ((d.list++[jab client seq (Xaa d base o).1])) ((kaa d.seen ⟨client,seq,yaa d+1⟩))):=hH (HT3.out.textBelow HB9.out sn (kn.mono (show w+2<=Z.heap.size by omega)) kn.ge om);clear sn kn))
      all_goals
       go_wp2_with fail
       go_meet
       exact⟨an,cn,w9,rfl,HB9.out,a6.out⟩
     case rest=>
      obtain⟨an,cn,w9,hwx,B9,h9⟩:=hcut;subst hwx;have a6:=hH h9;clear h9 HT3 q0 q1 q2 l1 x1;have s9:Z<=w9.heap.size:=by have:=B9.size;(try simp at this);omega
      replace B:=hH (B.out.trans (B9.mono om));replace j:=hH (j.out.at B9);replace Kd:=j.out.o5;replace n:=hH (n.out.at B9);replace Kr:=n.out.q5;replace M:=hH (M.out.at B9);replace Ko:=M.out.q5;clear B9;go_upto_region 32 with(fail)
      obtain⟨Y,hY⟩:∃Y:World,Y=(w9.setCell ⟨R,2,none⟩ (.slice an (zab e0.o d.text).1.length cn)):=⟨_,rfl⟩;have sY:w9<=Y.heap.size:=by rw[hY];first|(simp;done)|(simp;omega)
      replace B:Hid (Below w w Y):=hH (by rw[hY];exact(B.out.setCell (p:=⟨R,2,none⟩) om _))
      replace a6:Hid (Kag R (w+2) Y (.slice an (zab e0.o d.text).1.length cn) (.slice a0 (d.list.length+1) a1) (.slice N (kaa d.seen ⟨client,seq,yaa d+1⟩).length Q) ((zab e0.o d.text).1) ((d.list++[jab client seq (Xaa d base o).1])) ((kaa d.seen ⟨client,seq,yaa d+1⟩))):=hH (by rw[hY];exact(a6.out.setCell om _))
      replace j:Hid (Bx Y w [d.name,d.from_,J,D,I]):=hH (by rw[hY];exact(j.out.setO om))
      replace Kd:=j.out.o5;replace n:Hid (Bx Y (w+1) [.string ⟨#[]⟩,zI,zN,zN,zN]):=hH (by rw[hY];exact(n.out.setO om))
      replace Kr:=n.out.q5;replace M:Hid (Bx Y R [d.name,d.from_,.slice an (zab e0.o d.text).1.length cn,.slice a0 (d.list.length+1) a1,.slice N (kaa d.seen ⟨client,seq,yaa d+1⟩).length Q]):=hH (by rw[hY];exact(M.out.set 2 (.slice an (zab e0.o d.text).1.length cn)))
      replace Ko:=M.out.q5;rw[<-hY];clear hY;obtain⟨aq,cq,hcq,htq⟩:=a6.out.cutTail Tryz.underlying34 Kab sm;have hxl:(d.list++[jab client seq (Xaa d base o).1]).length-1=d.list.length:=by simp
      rw[hxl]at htq;simp only[hxl]at hcq;have HTQ:=hH htq;clear htq hxl a6;go_upto_region 34 with(fail)
      obtain⟨X2,hX2⟩:∃X2:World,X2=((Y.setCell ⟨R,3,none⟩ (.slice aq d.list.length cq)).setCell ⟨R,1,none⟩ (.int .i64 (d.from_+1))):=⟨_,rfl⟩;have sX2:Y<=X2.heap.size:=by rw[hX2];first|(simp;done)|(simp;omega)
      replace B:Hid (Below w w X2):=hH (by rw[hX2];exact((B.out.setCell (p:=⟨R,3,none⟩) om _).setCell (p:=⟨R,1,none⟩) om _))
      replace HTQ:Hid (Kag R (w+2) X2 (.slice an (zab e0.o d.text).1.length cn) (.slice aq d.list.length cq) (.slice N (kaa d.seen ⟨client,seq,yaa d+1⟩).length Q) ((zab e0.o d.text).1) ((d.list++[jab client seq (Xaa d base o).1]).drop 1) ((kaa d.seen ⟨client,seq,yaa d+1⟩))):=hH (by rw[hX2];exact((HTQ.out.setCell om _).setCell om _))
      replace j:Hid (Bx X2 w [d.name,d.from_,J,D,I]):=hH (by rw[hX2];exact((j.out.setO om).setO om))
      replace Kd:=j.out.o5;replace n:Hid (Bx X2 (w+1) [.string ⟨#[]⟩,zI,zN,zN,zN]):=hH (by rw[hX2];exact((n.out.setO om).setO om))
      replace Kr:=n.out.q5;replace M:Hid (Bx X2 R [d.name,.int .i64 (d.from_+1),.slice an (zab e0.o d.text).1.length cn,.slice aq d.list.length cq,.slice N (kaa d.seen ⟨client,seq,yaa d+1⟩).length Q]):=hH (by rw[hX2];exact((M.out.set 3 (.slice aq d.list.length cq)).set 1 (.int .i64 (d.from_+1))))
      replace Ko:=M.out.q5;rw[<-hX2];clear hX2;repeat go_step
      rw[HV.out,HCM.out];exact bodyPost_ret (v:= .tuple #[.agg #[d.name,.int .i64 (d.from_+1),.slice an (zab e0.o d.text).1.length cn,.slice aq d.list.length cq,.slice N (kaa d.seen ⟨client,seq,yaa d+1⟩).length Q],.int .i64 (yaa d+1),zI]) (by simp[results,Tryz.results133,go_sem,xaa, *]) rfl (Kag.out (y:=⟨d.name,d.from_+1,(zab e0.o d.text).1,(d.list++[jab client seq (Xaa d base o).1]).drop 1,(kaa d.seen ⟨client,seq,yaa d+1⟩)⟩) (HTQ.out.set5 om) a2 om (kar B.out om))
    ·have HSE:Hid ((kaa d.seen ⟨client,seq,yaa d+1⟩)=P):=hH (HSS.out.symm.trans (if_neg sm));have a4:Row V wr u' (kaa d.seen ⟨client,seq,yaa d+1⟩) []:=by rw[HSE.out];simpa using a3.out
     obtain⟨N,Q,e30⟩:=a4.rd.isSlice;subst e30;obtain⟨fs,sfs,ffs,nfs,put⟩:=HT2.out.seenPut;have hs1:=a4.1;rw[List.append_nil]at hs1;have HT3:Hid (Kag R (w+2) wr (.slice at_ d.text.length ct) (.slice a0 (d.list.length+1) a1) (.slice N (kaa d.seen ⟨client,seq,yaa d+1⟩).length Q) d.text (d.list++[jab client seq (Xaa d base o).1]) (kaa d.seen ⟨client,seq,yaa d+1⟩)):=hH (put V wr _ _ _ (lf _ _) (Wr.of_below HBV.out) om hs1 (a4.2.1.mono om) (fun p hp=> .inr (a4.2.1.ge p hp)))
     clear sfs ffs nfs put hs1 a4;have s30:V<=wr.heap.size:=by have:=HBV.out.size;(try simp at this);omega
     replace B:Hid (Below w w wr):=hH (B.out.trans (HBV.out.mono om));replace j:Hid (Bx wr w [d.name,d.from_,J,D,I]):=hH (j.out.at HBV.out);replace Kd:=j.out.o5;replace n:Hid (Bx wr (w+1) [.string ⟨#[]⟩,zI,zN,zN,zN]):=hH (n.out.at HBV.out);replace Kr:=n.out.q5;replace M:Hid (Bx wr R [d.name,d.from_,.slice at_ d.text.length ct,.slice a0 (d.list.length+1) a1,.slice as_ d.seen.length cs_]):=hH (M.out.at HBV.out)
     replace Ko:=M.out.q5;clear HT2 HRS;by_cases hw8:d.list.length=8
     rotate_left
     ·have hl8:¬(8:Int)<(d.list.length:Int)+1:=om;have HCM:Hid (xag d client seq (Xaa d base o).1=⟨d.name,d.from_,d.text,(d.list++[jab client seq (Xaa d base o).1]),(kaa d.seen ⟨client,seq,yaa d+1⟩)⟩):=hH (by unfold xag;rw[if_neg (by simp;omega)])
      go_upto_region 34 with(fail)
      obtain⟨Y,hY⟩:∃Y:World,Y=(wr.setCell ⟨R,4,none⟩ (.slice N (kaa d.seen ⟨client,seq,yaa d+1⟩).length Q)):=⟨_,rfl⟩;have sY:wr<=Y.heap.size:=by rw[hY];first|(simp;done)|(simp;omega)
      replace B:Hid (Below w w Y):=hH (by rw[hY];exact(B.out.setCell (p:=⟨R,4,none⟩) om _))
      replace HT3:Hid (Kag R (w+2) Y (.slice at_ d.text.length ct) (.slice a0 (d.list.length+1) a1) (.slice N (kaa d.seen ⟨client,seq,yaa d+1⟩).length Q) (d.text) ((d.list++[jab client seq (Xaa d base o).1])) ((kaa d.seen ⟨client,seq,yaa d+1⟩))):=hH (by rw[hY];exact(HT3.out.setCell om _))
      replace j:Hid (Bx Y w [d.name,d.from_,J,D,I]):=hH (by rw[hY];exact(j.out.setO om))
      replace Kd:=j.out.o5;replace n:Hid (Bx Y (w+1) [.string ⟨#[]⟩,zI,zN,zN,zN]):=hH (by rw[hY];exact(n.out.setO om))
      replace Kr:=n.out.q5;replace M:Hid (Bx Y R [d.name,d.from_,.slice at_ d.text.length ct,.slice a0 (d.list.length+1) a1,.slice N (kaa d.seen ⟨client,seq,yaa d+1⟩).length Q]):=hH (by rw[hY];exact(M.out.set 4 (.slice N (kaa d.seen ⟨client,seq,yaa d+1⟩).length Q)))
      replace Ko:=M.out.q5;rw[<-hY];clear hY;repeat go_step
      rw[HV.out,HCM.out];exact bodyPost_ret (v:= .tuple #[.agg #[d.name,d.from_,.slice at_ d.text.length ct,.slice a0 (d.list.length+1) a1,.slice N (kaa d.seen ⟨client,seq,yaa d+1⟩).length Q],.int .i64 (yaa d+1),zI]) (by simp[results,Tryz.results133,go_sem,xaa, *]) rfl (Kag.out (y:=⟨d.name,d.from_,d.text,(d.list++[jab client seq (Xaa d base o).1]),(kaa d.seen ⟨client,seq,yaa d+1⟩)⟩) (HT3.out.set5 om) a2 om (kar B.out om))
     have hl8:(8:Int)<(d.list.length:Int)+1:=om;obtain⟨e0,he0⟩:∃e0,(d.list++[jab client seq (Xaa d base o).1])[0]? =some e0:=Jaa sm;have HCM:Hid (xag d client seq (Xaa d base o).1=⟨d.name,d.from_+1,(zab e0.o d.text).1,(d.list++[jab client seq (Xaa d base o).1]).drop 1,(kaa d.seen ⟨client,seq,yaa d+1⟩)⟩):=hH (by unfold xag;rw[if_pos (by simp;omega)];have e:(d.list++[jab client seq (Xaa d base o).1]).headD ⟨0,0,[]⟩=e0:=(by rw[List.headD_eq_head?_getD,List.head?_eq_getElem?,he0];rfl);rw[e])
     have HW8:=hH hw8;clear hw8;go_upto_region 31 with(fail)
     obtain⟨Z,hZ⟩:∃Z:World,Z=(wr.setCell ⟨R,4,none⟩ (.slice N (kaa d.seen ⟨client,seq,yaa d+1⟩).length Q)):=⟨_,rfl⟩;have sZ:wr<=Z.heap.size:=by rw[hZ];first|(simp;done)|(simp;omega)
     replace B:Hid (Below w w Z):=hH (by rw[hZ];exact(B.out.setCell (p:=⟨R,4,none⟩) om _))
     replace HT3:Hid (Kag R (w+2) Z (.slice at_ d.text.length ct) (.slice a0 (d.list.length+1) a1) (.slice N (kaa d.seen ⟨client,seq,yaa d+1⟩).length Q) (d.text) ((d.list++[jab client seq (Xaa d base o).1])) ((kaa d.seen ⟨client,seq,yaa d+1⟩))):=hH (by rw[hZ];exact(HT3.out.setCell om _))
     replace j:Hid (Bx Z w [d.name,d.from_,J,D,I]):=hH (by rw[hZ];exact(j.out.setO om))
     replace Kd:=j.out.o5;replace n:Hid (Bx Z (w+1) [.string ⟨#[]⟩,zI,zN,zN,zN]):=hH (by rw[hZ];exact(n.out.setO om))
     replace Kr:=n.out.q5;replace M:Hid (Bx Z R [d.name,d.from_,.slice at_ d.text.length ct,.slice a0 (d.list.length+1) a1,.slice N (kaa d.seen ⟨client,seq,yaa d+1⟩).length Q]):=hH (by rw[hZ];exact(M.out.set 4 (.slice N (kaa d.seen ⟨client,seq,yaa d+1⟩).length Q)))
     replace Ko:=M.out.q5;rw[<-hZ];clear hZ;obtain⟨b1,o1,ces,x1,x2,x3⟩:=(HT3.out.rdL).idx Tryz.underlying34 Kab 0 he0;obtain⟨v_eo,rfl,r_eo⟩:=qag x3;have q0:=x2.zero;have q1:=x2 1 _ rfl;have q2:=x2 2 _ rfl;have l1:b1<Z.heap.size:=lk (w:=Z) (a:=⟨b1,o1,none⟩) q0;obtain⟨aeo,ceo,rfl⟩:=r_eo.isSlice;have HREO:=hH r_eo;replace x1:∀w1,(Instr.indexAt 34 (.slice a0 (d.list.length+1) a1) (.int .i64 0)).run Tryz.prog w1= .ok (.pointer (some ⟨b1,o1,none⟩)) w1:=x1;clear x2 x3 r_eo he0;go_cut []from 23 (fun wx=>∃(an:Option Addr) (cn:Nat) (w9:World),wx=w9.setCell ⟨R,2,none⟩ (.slice an (zab e0.o d.text).1.length cn)/\Below Z Z w9/\Kag R (w+2) w9 (.slice an (zab e0.o d.text).1.length cn) (.slice a0 (d.list.length+1) a1) (.slice N (kaa d.seen ⟨client,seq,yaa d+1⟩).length Q) ((zab e0.o d.text).1) ((d.list++[jab client seq (Xaa d base o).1])) ((kaa d.seen ⟨client,seq,yaa d+1⟩)))
     case first=>
      go_region_law ((go_simp;go_at_call 147;refine(jal e0.o d.text _ _ _ (HREO.out.below (show Below Z Z _ from blw)) (HT3.out.rdT.below (show Below Z Z _ from blw))).mono ?_;rintro e' w9 ⟨vn,fn,rfl,sn,kn,hb9⟩;obtain⟨an,cn,rfl⟩:=sn.isS;have B9:Below Z Z w9:=(show Below Z Z _ from blw).trans (hb9.mono om);have s9:=B9.size;obtain⟨Zo_9,Ko_9_0,Ko_9_1,Ko_9_2,Ko_9_3,Ko_9_4,Go_9_0,Go_9_1,Go_9_2,Go_9_3,Go_9_4⟩:=(M.out.at B9).q5;have HB9:=hH B9;clear hb9 B9;have a6:Hid (Kag R (w+2) w9 (.slice an (zab e0.o d.text).1.length cn) (.slice a0 (d.list.length+1) a1) (.slice N (kaa d.seen ⟨client,seq,yaa d+1⟩).length Q) ((zab e0.o d.text).1) ((d.list++[jab client seq (Xaa d base o).1])) ((kaa d.seen ⟨client,seq,yaa d+1⟩))):=hH (HT3.out.textBelow HB9.out sn (kn.mono (show w+2<=Z.heap.size by omega)) kn.ge om);clear sn kn))
      all_goals
       go_wp2_with fail
       go_meet
       exact⟨an,cn,w9,rfl,HB9.out,a6.out⟩
     case rest=>
      obtain⟨an,cn,w9,hwx,B9,h9⟩:=hcut;subst hwx;have a6:=hH h9;clear h9 HT3 q0 q1 q2 l1 x1;have s9:Z<=w9.heap.size:=by have:=B9.size;(try simp at this);omega
      replace B:=hH (B.out.trans (B9.mono om));replace j:=hH (j.out.at B9);replace Kd:=j.out.o5;replace n:=hH (n.out.at B9);replace Kr:=n.out.q5;replace M:=hH (M.out.at B9);replace Ko:=M.out.q5;clear B9;go_upto_region 32 with(fail)
      obtain⟨Y,hY⟩:∃Y:World,Y=(w9.setCell ⟨R,2,none⟩ (.slice an (zab e0.o d.text).1.length cn)):=⟨_,rfl⟩;have sY:w9<=Y.heap.size:=by rw[hY];first|(simp;done)|(simp;omega)
      replace B:Hid (Below w w Y):=hH (by rw[hY];exact(B.out.setCell (p:=⟨R,2,none⟩) om _))
      replace a6:Hid (Kag R (w+2) Y (.slice an (zab e0.o d.text).1.length cn) (.slice a0 (d.list.length+1) a1) (.slice N (kaa d.seen ⟨client,seq,yaa d+1⟩).length Q) ((zab e0.o d.text).1) ((d.list++[jab client seq (Xaa d base o).1])) ((kaa d.seen ⟨client,seq,yaa d+1⟩))):=hH (by rw[hY];exact(a6.out.setCell om _))
      replace j:Hid (Bx Y w [d.name,d.from_,J,D,I]):=hH (by rw[hY];exact(j.out.setO om))
      replace Kd:=j.out.o5;replace n:Hid (Bx Y (w+1) [.string ⟨#[]⟩,zI,zN,zN,zN]):=hH (by rw[hY];exact(n.out.setO om))
      replace Kr:=n.out.q5;replace M:Hid (Bx Y R [d.name,d.from_,.slice an (zab e0.o d.text).1.length cn,.slice a0 (d.list.length+1) a1,.slice N (kaa d.seen ⟨client,seq,yaa d+1⟩).length Q]):=hH (by rw[hY];exact(M.out.set 2 (.slice an (zab e0.o d.text).1.length cn)))
      replace Ko:=M.out.q5;rw[<-hY];clear hY;obtain⟨aq,cq,hcq,htq⟩:=a6.out.cutTail Tryz.underlying34 Kab sm;have hxl:(d.list++[jab client seq (Xaa d base o).1]).length-1=d.list.length:=by simp
      rw[hxl]at htq;simp only[hxl]at hcq;have HTQ:=hH htq;clear htq hxl a6;go_upto_region 34 with(fail)
      obtain⟨X2,hX2⟩:∃X2:World,X2=((Y.setCell ⟨R,3,none⟩ (.slice aq d.list.length cq)).setCell ⟨R,1,none⟩ (.int .i64 (d.from_+1))):=⟨_,rfl⟩;have sX2:Y<=X2.heap.size:=by rw[hX2];first|(simp;done)|(simp;omega)
      replace B:Hid (Below w w X2):=hH (by rw[hX2];exact((B.out.setCell (p:=⟨R,3,none⟩) om _).setCell (p:=⟨R,1,none⟩) om _))
      replace HTQ:Hid (Kag R (w+2) X2 (.slice an (zab e0.o d.text).1.length cn) (.slice aq d.list.length cq) (.slice N (kaa d.seen ⟨client,seq,yaa d+1⟩).length Q) ((zab e0.o d.text).1) ((d.list++[jab client seq (Xaa d base o).1]).drop 1) ((kaa d.seen ⟨client,seq,yaa d+1⟩))):=hH (by rw[hX2];exact((HTQ.out.setCell om _).setCell om _))
      replace j:Hid (Bx X2 w [d.name,d.from_,J,D,I]):=hH (by rw[hX2];exact((j.out.setO om).setO om))
      replace Kd:=j.out.o5;replace n:Hid (Bx X2 (w+1) [.string ⟨#[]⟩,zI,zN,zN,zN]):=hH (by rw[hX2];exact((n.out.setO om).setO om))
      replace Kr:=n.out.q5;replace M:Hid (Bx X2 R [d.name,.int .i64 (d.from_+1),.slice an (zab e0.o d.text).1.length cn,.slice aq d.list.length cq,.slice N (kaa d.seen ⟨client,seq,yaa d+1⟩).length Q]):=hH (by rw[hX2];exact((M.out.set 3 (.slice aq d.list.length cq)).set 1 (.int .i64 (d.from_+1))))
      replace Ko:=M.out.q5;rw[<-hX2];clear hX2;repeat go_step
      rw[HV.out,HCM.out];exact bodyPost_ret (v:= .tuple #[.agg #[d.name,.int .i64 (d.from_+1),.slice an (zab e0.o d.text).1.length cn,.slice aq d.list.length cq,.slice N (kaa d.seen ⟨client,seq,yaa d+1⟩).length Q],.int .i64 (yaa d+1),zI]) (by simp[results,Tryz.results133,go_sem,xaa, *]) rfl (Kag.out (y:=⟨d.name,d.from_+1,(zab e0.o d.text).1,(d.list++[jab client seq (Xaa d base o).1]).drop 1,(kaa d.seen ⟨client,seq,yaa d+1⟩)⟩) (HTQ.out.set5 om) a2 om (kar B.out om))
