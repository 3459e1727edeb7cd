/- Submit: the walk of the program. -/
import Derived.Test.YtbonkabfmlajnaaGreatQrbo
import Derived.Deep.CutBlock
set_option maxHeartbeats 40000000
set_option maxRecDepth 100000
namespace Go.Proofs.YtbonkabfmlajnaaGreat
open Go.RowKit
attribute [local go_sem ↓] Go.wp_at_zero Go.wp_at_succ
theorem xaV (d:Xac)(M I J:Value)(client seq base:Int)(vo:Value)(o:List zaa)(w:World)(n_name:d.name.size<=BIG)(h_text:RdS w M d.text)(h_list:RdS w I d.list)(h_seen:RdS w J d.seen)(ho:RdS w vo o):
 Calls Tryz.prog 45 #[.agg #[d.name,d.from_,M,I,J],client,seq,base,vo] w (Zar w (Jae d client seq base o).1 (Jae d client seq base o).2.1 (Jae d client seq base o).2.2):=by
 go_enter Tryz.func45,Tryz.ntmps45
 go_wp2_with fail
 refine(zal d _ _ _ _ n_name (h_text.below (((lf w w).alloc om _).alloc om _)) (h_list.below (((lf w w).alloc om _).alloc om _)) (h_seen.below (((lf w w).alloc om _).alloc om _))).mono ?_;rintro e' w1 ⟨rfl,hb1⟩;have s1:w+2<=w1.heap.size:=szl hb1;have u:=hH ((((lf w w).alloc om _).alloc om _).trans (hb1.mono om));have n:Hid (Bx w1 w [d.name,d.from_,M,I,J]):=hH (((Bx.new (by first|rfl|simp|omega)).alloc _).at hb1)
 have Kd:=n.out.o5;have q:Hid (Bx w1 (w+1) [.string ⟨#[]⟩,zI,zN,zN,zN]):=hH ((Bx.new (by first|rfl|simp|omega)).at hb1)
 have Kr:=q.out.q5;clear hb1;by_cases h1:Qad d=true
 rotate_left
 ·have h1:Qad d=false:=by simpa using h1
  rw[h1];have HV:=hH (Qap (d:=d) (client:=client) (seq:=seq) (base:=base) (o:=o) fun h=>by have e:=h.1;rw[h1]at e;cases e)
  go_wp2;rw[HV.out];exact bodyPost_ret (v:= .tuple #[.agg #[.string ⟨#[]⟩,zI,zN,zN,zN],zI,.int .i64 1]) (by simp[results,Tryz.results45,go_sem,xaa, *]) rfl (Xak (kar u.out om))
 rw[h1];go_wp2_with fail
 refine(vaa client 1 8 _).mono ?_;rintro e' w2 ⟨rfl,hb2⟩;have s2:w1<=w2.heap.size:=szl hb2;replace u:=hH (u.out.trans (hb2.mono om));replace n:=hH (n.out.at hb2);replace Kd:=n.out.o5;replace q:=hH (q.out.at hb2);replace Kr:=q.out.q5;clear hb2;by_cases h2:within client 1 8=true
 rotate_left
 ·have h2:within client 1 8=false:=by simpa using h2
  rw[h2];have HV:=hH (Qap (d:=d) (client:=client) (seq:=seq) (base:=base) (o:=o) fun h=>by have e:=h.2.1;rw[h2]at e;cases e)
  go_wp2;rw[HV.out];exact bodyPost_ret (v:= .tuple #[.agg #[.string ⟨#[]⟩,zI,zN,zN,zN],zI,.int .i64 1]) (by simp[results,Tryz.results45,go_sem,xaa, *]) rfl (Xak (kar u.out om))
 rw[h2];go_wp2_with fail
 refine(vaa seq 1 1000000000 _).mono ?_;rintro e' w3 ⟨rfl,hb3⟩;have s3:w2<=w3.heap.size:=szl hb3;replace u:=hH (u.out.trans (hb3.mono om));replace n:=hH (n.out.at hb3);replace Kd:=n.out.o5;replace q:=hH (q.out.at hb3);replace Kr:=q.out.q5;clear hb3;by_cases h3:within seq 1 1000000000=true
 rotate_left
 ·have h3:within seq 1 1000000000=false:=by simpa using h3
  rw[h3];have HV:=hH (Qap (d:=d) (client:=client) (seq:=seq) (base:=base) (o:=o) fun h=>by have e:=h.2.2.1;rw[h3]at e;cases e)
  go_wp2;rw[HV.out];exact bodyPost_ret (v:= .tuple #[.agg #[.string ⟨#[]⟩,zI,zN,zN,zN],zI,.int .i64 1]) (by simp[results,Tryz.results45,go_sem,xaa, *]) rfl (Xak (kar u.out om))
 rw[h3];go_wp2_with fail
 refine(jad _ o _ (ho.below u.out)).mono ?_;rintro e' w4 ⟨rfl,hb4⟩;have s4:w3<=w4.heap.size:=szl hb4;replace u:=hH (u.out.trans (hb4.mono om));replace n:=hH (n.out.at hb4);replace Kd:=n.out.o5;replace q:=hH (q.out.at hb4);replace Kr:=q.out.q5;clear hb4;by_cases h4:yag o=true
 rotate_left
 ·have h4:yag o=false:=by simpa using h4
  rw[h4];have HV:=hH (Qap (d:=d) (client:=client) (seq:=seq) (base:=base) (o:=o) fun h=>by have e:=h.2.2.2;rw[h4]at e;cases e)
  go_wp2;rw[HV.out];exact bodyPost_ret (v:= .tuple #[.agg #[.string ⟨#[]⟩,zI,zN,zN,zN],zI,.int .i64 1]) (by simp[results,Tryz.results45,go_sem,xaa, *]) rfl (Xak (kar u.out om))
 rw[h4];obtain⟨bh0,bh1,bf0,bf1⟩:=yaf h1;obtain⟨bs0,bs1,bs2⟩:=Qau h1 client;obtain⟨bz0,bz1,bz2⟩:=kaZ h1;have bq:=within_iff.1 h3;have bc:=within_iff.1 h2;have H4:=hH (And.intro h1 (And.intro h2 (And.intro h3 h4)));have BS2:=hH bs2;have bl:=(jaf.1 h1).len;have bsl:=(jaf.1 h1).slen;clear bs2;go_wp2_with fail
 refine(JaS d _ _ _ client _ (h_seen.below u.out)).mono ?_;rintro e' w5 ⟨rfl,hb5⟩;have s5:w4<=w5.heap.size:=szl hb5;replace u:=hH (u.out.trans (hb5.mono om));replace n:=hH (n.out.at hb5);replace Kd:=n.out.o5;replace q:=hH (q.out.at hb5);replace Kr:=q.out.q5;clear hb5;by_cases h5:(uab d client).1.seq=seq
 ·have HV:=hH (JaK (base:=base) H4.out h5);have h5b:((uab d client).1.seq==seq)=true:=by simpa using h5
  clear h5;go_upto_region 5 with(fail)
  obtain⟨V,hV⟩:∃V:World,V=(w5.alloc (.cells #[(uab d client).1.client,(uab d client).1.seq,(uab d client).1.rev] 119)):=⟨_,rfl⟩;have sV:w5+1<=V.heap.size:=by rw[hV];first|(simp;done)|(simp;omega)
  replace u:Hid (Below w w V):=hH (by rw[hV];exact(u.out.alloc om _))
  replace n:Hid (Bx V w [d.name,d.from_,M,I,J]):=hH (by rw[hV];exact(n.out.alloc _))
  replace Kd:=n.out.o5;replace q:Hid (Bx V (w+1) [.string ⟨#[]⟩,zI,zN,zN,zN]):=hH (by rw[hV];exact(q.out.alloc _))
  replace Kr:=q.out.q5;have HXs:Hid (Bx V w5 [(uab d client).1.client,(uab d client).1.seq,(uab d client).1.rev]):=hH (by rw[hV];exact(Bx.new (by first|rfl|simp|omega)))
  have Ks:=HXs.out.q3;rw[<-hV];clear hV;have n9:¬(w5=w.heap.size+1):=om;go_region_held3 (fun w'=>w'.cell? ⟨w.heap.size,0,none⟩=some (.string d.name)/\w'.cell? ⟨w.heap.size,1,none⟩=some (.int .i64 d.from_)/\w'.cell? ⟨w.heap.size,2,none⟩=some (M)/\w'.cell? ⟨w.heap.size,3,none⟩=some (I)/\w'.cell? ⟨w.heap.size,4,none⟩=some (J)/\w'.cell? ⟨w5.heap.size,0,none⟩=some (.int .i64 (uab d client).1.client)/\w'.cell? ⟨w5.heap.size,1,none⟩=some (.int .i64 (uab d client).1.seq)/\w'.cell? ⟨w5.heap.size,2,none⟩=some (.int .i64 (uab d client).1.rev)) (first|(go_keep;done)|(simp[xaa, *];done))
   ((go_at_call 63;refine(Jat d _ _ _ _ n_name (h_text.below (u.out.trans (show Below w V _ from blw))) (h_list.below (u.out.trans (show Below w V _ from blw))) (h_seen.below (u.out.trans (show Below w V _ from blw))) bz0 bz1 bz2).mono ?_;rintro e' w9 ⟨cs,rfl,ho,hb9⟩;obtain⟨vt,vl,vs,rfl,htn⟩:=Kag.of_own ho (lr _);obtain⟨at_,ct,rfl⟩:=htn.rdT.isSlice;obtain⟨al,cl,rfl⟩:=htn.rdL.isSlice;obtain⟨a0,a1,rfl⟩:=htn.rdS.isSlice;have HTN:=hH htn;clear ho htn;have B9:Below V V w9:=(show Below V V _ from blw).trans (hb9.mono om);have s9:=B9.size;obtain⟨Zd_9,Kd_9_0,Kd_9_1,Kd_9_2,Kd_9_3,Kd_9_4⟩:=(n.out.at B9).o5;obtain⟨Zs_9,Ks_9_0,Ks_9_1,Ks_9_2,Gs_9_0,Gs_9_1,Gs_9_2⟩:=(HXs.out.at B9).q3;obtain⟨Zr_9,Kr_9_0,Kr_9_1,Kr_9_2,Kr_9_3,Kr_9_4,Gr_9_0,Gr_9_1,Gr_9_2,Gr_9_3,Gr_9_4⟩:=(q.out.at B9).q5;clear hb9))
  have HB:Hid (Below w w (((((w9.setCell ⟨w+1,0,none⟩ d.name).setCell ⟨w+1,1,none⟩ d.from_).setCell ⟨w+1,2,none⟩ (.slice at_ d.text.length ct)).setCell ⟨w+1,3,none⟩ (.slice al d.list.length cl)).setCell ⟨w+1,4,none⟩ (.slice a0 d.seen.length a1))):=hH ((((((u.out.trans (B9.mono om)).setCell (p:=⟨w+1,0,none⟩) om _).setCell (p:=⟨w+1,1,none⟩) om _).setCell (p:=⟨w+1,2,none⟩) om _).setCell (p:=⟨w+1,3,none⟩) om _).setCell (p:=⟨w+1,4,none⟩) om _)
  have HT:=hH ((((((HTN.out.mono (C':=w+2) (by first|omega|(simp;omega))).setCell (b:=w+1) (o:=0) (.inl om) (.string d.name)).setCell (b:=w+1) (o:=1) (.inl om) (.int .i64 d.from_)).setCell (b:=w+1) (o:=2) (.inl om) (.slice at_ d.text.length ct)).setCell (b:=w+1) (o:=3) (.inl om) (.slice al d.list.length cl)).setCell (b:=w+1) (o:=4) (.inl om) (.slice a0 d.seen.length a1))
  all_goals
   go_wp2;rw[HV.out];exact bodyPost_ret (v:= .tuple #[.agg #[d.name,d.from_,.slice at_ d.text.length ct,.slice al d.list.length cl,.slice a0 d.seen.length a1],(uab d client).1.rev,zI]) (by simp[results,Tryz.results45,go_sem,xaa, *]) rfl (Kag.out HT.out n_name om HB.out)
 have HN5:=hH h5;have h5b:((uab d client).1.seq==seq)=false:=by simpa using h5
 clear h5;by_cases h6:(uab d client).1.seq+1=seq
 rotate_left
 ·have HV:=hH (JaR (base:=base) H4.out HN5.out h6);have h6b:((uab d client).1.seq+1==seq)=false:=by simpa using h6
  have h6c:(seq==(uab d client).1.seq+1)=false:=by simp;omega
  have h6d:¬seq=(uab d client).1.seq+1:=om;go_wp2;have HB:Hid (Below w w ((((((w5.setCell ⟨w+1,0,none⟩ (.string ⟨#[]⟩)).setCell ⟨w+1,1,none⟩ zI).setCell ⟨w+1,2,none⟩ zN).setCell ⟨w+1,3,none⟩ zN).setCell ⟨w+1,4,none⟩ zN).alloc (.cells #[(uab d client).1.client,(uab d client).1.seq,(uab d client).1.rev] 119))):=hH ((((((u.out.setCell (p:=⟨w+1,0,none⟩) om _).setCell (p:=⟨w+1,1,none⟩) om _).setCell (p:=⟨w+1,2,none⟩) om _).setCell (p:=⟨w+1,3,none⟩) om _).setCell (p:=⟨w+1,4,none⟩) om _).alloc om _);rw[HV.out];exact bodyPost_ret (v:= .tuple #[.agg #[.string ⟨#[]⟩,zI,zN,zN,zN],zI,.int .i64 4]) (by simp[results,Tryz.results45,go_sem,xaa, *]) rfl (Xak HB.out)
 have HN6:=hH h6;have h6b:((uab d client).1.seq+1==seq)=true:=by simpa using h6
 have h6c:(seq==(uab d client).1.seq+1)=true:=by simp;omega
 clear h6;go_wp2_with fail
 refine(vaU d _ _ _ base _ o _ n_name (h_text.below (u.out.alloc om _)) (h_list.below (u.out.alloc om _)) (h_seen.below (u.out.alloc om _)) (ho.below (u.out.alloc om _))).mono ?_;rintro e' w6 ⟨vx,fx,rfl,sx,kx,hb6⟩;obtain⟨ax,cx,rfl⟩:=sx.isS;have HXX:Hid (zag (w5+1) w6 w6 (.slice ax (Xaa d base o).1.length cx) (Xaa d base o).1):=hH ⟨fx,sx,kx.mono (by first|exact lr _|(simp;done)|(simp;omega)),Live.lt sx.live⟩
 clear sx kx;have s6:w5+1<=w6.heap.size:=szl hb6;replace u:=hH ((u.out.alloc om _).trans (hb6.mono om));replace n:=hH ((n.out.alloc _).at hb6);replace Kd:=n.out.o5;replace q:=hH ((q.out.alloc _).at hb6);replace Kr:=q.out.q5;have HXs:Hid (Bx w6 w5 [(uab d client).1.client,(uab d client).1.seq,(uab d client).1.rev]):=hH ((Bx.new (by first|rfl|simp|omega)).at hb6)
 have Ks:=HXs.out.q3;clear hb6;by_cases h7:(Xaa d base o).2=0
 rotate_left
 ·have HV:=hH (XaM H4.out HN5.out HN6.out h7);have h7b:((Xaa d base o).2==0)=false:=by simpa using h7
  go_wp2;rw[HV.out];exact bodyPost_ret (v:= .tuple #[.agg #[.string ⟨#[]⟩,zI,zN,zN,zN],zI,(Xaa d base o).2]) (by simp[results,Tryz.results45,go_sem,xaa, *]) rfl (Xak (kar u.out om))
 have HN7:=hH h7;have HOX:=hH (kaC h7);clear h7;rw[HN7.out];go_wp2_with fail
 refine(zac d _ _ _ _ (h_list.below u.out) om om).mono ?_;rintro e' w7 ⟨rfl,hb7⟩;have s7:w6<=w7.heap.size:=szl hb7;replace u:=hH (u.out.trans (hb7.mono om));replace HXX:Hid (zag (w5+1) w6 w7 (.slice ax (Xaa d base o).1.length cx) ((Xaa d base o).1)):=hH ((HXX.out.below hb7));replace n:=hH (n.out.at hb7);replace Kd:=n.out.o5;replace q:=hH (q.out.at hb7);replace Kr:=q.out.q5;replace HXs:=hH (HXs.out.at hb7);replace Ks:=HXs.out.q3;clear hb7;by_cases h8:yaa d<999999000
 rotate_left
 ·have HV:=hH (QaH H4.out HN5.out HN6.out HN7.out h8);have h8b:decide (999999000<=yaa d)=true:=by simp;omega
  go_wp2;rw[HV.out];exact bodyPost_ret (v:= .tuple #[.agg #[.string ⟨#[]⟩,zI,zN,zN,zN],zI,.int .i64 5]) (by simp[results,Tryz.results45,go_sem,xaa, *]) rfl (Xak (kar u.out om))
 have HV:=hH (yaS (base:=base) H4.out HN5.out HN6.out HN7.out h8);clear h5b h6b h6c;go_wp2_with fail
 refine(Jat d _ _ _ _ n_name (h_text.below u.out) (h_list.below u.out) (h_seen.below u.out) bz0 bz1 bz2).mono ?_;rintro e' R ⟨cs,rfl,ho8,hb8⟩;obtain⟨vt,vl,vs,rfl,htn⟩:=Kag.of_own ho8 (lr _);obtain⟨at_,ct,rfl⟩:=htn.rdT.isSlice
 obtain⟨al,cl,rfl⟩:=htn.rdL.isSlice;obtain⟨a0,a1,rfl⟩:=htn.rdS.isSlice;have HTN:=hH htn;clear ho8 htn;have s8:w7<=R.heap.size:=szl hb8;replace u:=hH (u.out.trans (hb8.mono om));replace HXX:Hid (zag (w5+1) w6 R (.slice ax (Xaa d base o).1.length cx) ((Xaa d base o).1)):=hH ((HXX.out.below hb8));replace n:=hH (n.out.at hb8);replace Kd:=n.out.o5;replace q:=hH (q.out.at hb8);replace Kr:=q.out.q5;replace HXs:=hH (HXs.out.at hb8);replace Ks:=HXs.out.q3;clear hb8;have HTN0:=HTN;clear HTN;have HTN:Hid (Kag R w7 R (.slice at_ d.text.length ct) (.slice al d.list.length cl) (.slice a0 d.seen.length a1) d.text d.list d.seen):=hH (HTN0.out.mono (by first|exact lr _|omega|(simp;omega)))
 clear HTN0;go_upto_region 14 with(fail)
 obtain⟨U,hU⟩:∃U:World,U=(R.alloc (.cells #[d.name,d.from_,.slice at_ d.text.length ct,.slice al d.list.length cl,.slice a0 d.seen.length a1] 67)):=⟨_,rfl⟩
 have sU:R+1<=U.heap.size:=by rw[hU];first|(simp;done)|(simp;omega)
 replace u:Hid (Below w w U):=hH (by rw[hU];exact(u.out.alloc om _))
 replace HXX:Hid (zag (w5+1) w6 U (.slice ax (Xaa d base o).1.length cx) ((Xaa d base o).1)):=hH (by rw[hU];exact(HXX.out.alloc _))
 replace HTN:Hid (Kag R w7 U (.slice at_ d.text.length ct) (.slice al d.list.length cl) (.slice a0 d.seen.length a1) d.text d.list d.seen):=hH (by rw[hU];exact(HTN.out.alloc _))
 replace n:Hid (Bx U w [d.name,d.from_,M,I,J]):=hH (by rw[hU];exact(n.out.alloc _))
 replace Kd:=n.out.o5;replace q:Hid (Bx U (w+1) [.string ⟨#[]⟩,zI,zN,zN,zN]):=hH (by rw[hU];exact(q.out.alloc _))
 replace Kr:=q.out.q5;replace HXs:Hid (Bx U w5 [(uab d client).1.client,(uab d client).1.seq,(uab d client).1.rev]):=hH (by rw[hU];exact(HXs.out.alloc _))
 replace Ks:=HXs.out.q3;have D:Hid (Bx U R [d.name,d.from_,.slice at_ d.text.length ct,.slice al d.list.length cl,.slice a0 d.seen.length a1]):=hH (by rw[hU];exact(Bx.new (by first|rfl|simp|omega)))
 have Ko:=D.out.q5;rw[<-hU];clear hU;obtain⟨i0,hi,hz0,hz1,hz2⟩:=info_parts kao;obtain⟨fx,sx,kx,lx⟩:=HXX.out;have HSXU:=hH sx;have HKXU:Hid (Qaa (w+2) U fx):=hH (kx.mono om);have HLX:Hid (∀p∈fx,p.1<w7):=hH fun p hp=>by have:=lx p hp;omega
 clear sx kx lx;have hrd:GoT.rd BIG U [client,seq,.slice ax (Xaa d base o).1.length cx] (jab client seq (Xaa d base o).1) fx:=⟨_,fx,rfl,HSXU.out,rfl⟩;obtain⟨gl,j1,j2,j3,j4,j5,j6⟩:=HTN.out.app (C:=w+2) 87 (lf _ _) om om om hrd HKXU.out HLX.out;have J1:=hH j1;have J2:=hH j2;have J3:=hH j3;have J5:=hH j5;have J6:=hH j6;clear hrd j1 j2 j3 j4 j5 j6;go_wp2_with (at_builtin;go_must (refine qaa rfl _ _ 34 rfl Tryz.underlying34 hi hz0 hz1 hz2 rfl rfl rfl J1.out J2.out J3.out ?c1 ?c2 ?c3 ?_))
 case c1=>exact Xab (by simp;omega)
 case c2=>simp;omega
 case c3=>simp;omega
 intro v20 w20 hr hw hn;obtain⟨N,Q,e20⟩:=hr.rd.isSlice;rw[List.length_append,List.length_singleton]at e20;subst e20;have HT2:Hid (Kag R (w+2) w20 (.slice at_ d.text.length ct) (.slice N (d.list.length+1) Q) (.slice a0 d.seen.length a1) d.text (d.list++[jab client seq (Xaa d base o).1]) d.seen):=hH (J6.out _ _ hr hw (fun p hp=>(hn p.1 p.2 hp).imp_right fun h=>by simp at h⊢;omega))
 have s20:U+1<=w20.heap.size:=by have:=hw.size;(try simp at this);omega
 replace u:Hid (Below w w w20):=hH ((u.out.alloc om _).trans (hw.below (by simp;omega) (fun p hp=>by have:=(J5.out p hp).1;omega)))
 replace n:Hid (Bx w20 w [d.name,d.from_,M,I,J]):=hH ((n.out.alloc _).wr hw (fun p hp e=>by have:=J5.out p hp;omega))
 replace Kd:=n.out.o5;replace q:Hid (Bx w20 (w+1) [.string ⟨#[]⟩,zI,zN,zN,zN]):=hH ((q.out.alloc _).wr hw (fun p hp e=>by have:=J5.out p hp;omega))
 replace Kr:=q.out.q5;replace HXs:Hid (Bx w20 w5 [(uab d client).1.client,(uab d client).1.seq,(uab d client).1.rev]):=hH ((HXs.out.alloc _).wr hw (fun p hp e=>by have:=J5.out p hp;omega))
 replace Ks:=HXs.out.q3;replace D:Hid (Bx w20 R [d.name,d.from_,.slice at_ d.text.length ct,.slice al d.list.length cl,.slice a0 d.seen.length a1]):=hH ((D.out.alloc _).wr hw (fun p hp e=>by have:=J5.out p hp;omega))
 replace Ko:=D.out.q5;clear hr hw hn J1 J2 J3 J5 J6 HSXU HKXU HLX HTN HXX;go_wp2_with fail
 refine(zac (⟨d.name,d.from_,d.text,d.list++[jab client seq (Xaa d base o).1],d.seen⟩:Xac) _ _ _ _ ((HT2.out.setCell om _)).rdL (by first|exact bf0'|(show _<=d.from_;omega)) (by show d.from_<=_;omega)).mono ?_
 rintro e' w21 ⟨rfl,hb21⟩;have hhr:yaa (⟨d.name,d.from_,d.text,d.list++[jab client seq (Xaa d base o).1],d.seen⟩:Xac)=yaa d+1:=by simp[yaa];omega
 rw[hhr];clear hhr;have s21:w20<=w21.heap.size:=szl hb21;replace u:=hH ((u.out.setCell (p:=⟨R,3,none⟩) om _).trans (hb21.mono om));replace HT2:Hid (Kag R (w+2) w21 (.slice at_ d.text.length ct) (.slice N (d.list.length+1) Q) (.slice a0 d.seen.length a1) d.text (d.list++[jab client seq (Xaa d base o).1]) d.seen):=hH (((HT2.out.setCell om _).below hb21))
 replace n:=hH ((n.out.setO om).at hb21);replace Kd:=n.out.o5;replace q:=hH ((q.out.setO om).at hb21);replace Kr:=q.out.q5;replace HXs:=hH ((HXs.out.setO om).at hb21);replace Ks:=HXs.out.q3;replace D:=hH ((D.out.set 3 (.slice N (d.list.length+1) Q)).at hb21);replace Ko:=D.out.q5;clear hb21;have hrs:RdS w21 (.slice a0 d.seen.length a1) d.seen:=HT2.out.rdS;have hls:=fun w1 ty=>hrs.len Tryz.underlying65 w1 ty
 have HRS:=hH hrs;clear hrs;go_upto_region 16 with(fail)
 obtain⟨V,hV⟩:∃V:World,V=w21:=⟨_,rfl⟩;have sV:w21<=V.heap.size:=by rw[hV];first|(simp;done)|(simp;omega)
 replace u:Hid (Below w w V):=hH (by rw[hV];exact u.out)
 replace HT2:Hid (Kag R (w+2) V (.slice at_ d.text.length ct) (.slice N (d.list.length+1) Q) (.slice a0 d.seen.length a1) d.text (d.list++[jab client seq (Xaa d base o).1]) d.seen):=hH (by rw[hV];exact HT2.out)
 replace n:Hid (Bx V w [d.name,d.from_,M,I,J]):=hH (by rw[hV];exact n.out)
 replace Kd:=n.out.o5;replace q:Hid (Bx V (w+1) [.string ⟨#[]⟩,zI,zN,zN,zN]):=hH (by rw[hV];exact q.out)
 replace Kr:=q.out.q5;replace D:Hid (Bx V R [d.name,d.from_,.slice at_ d.text.length ct,.slice N (d.list.length+1) Q,.slice a0 d.seen.length a1]):=hH (by rw[hV];exact D.out)
 replace Ko:=D.out.q5;rw[<-hV];clear hV;replace HRS:Hid (RdS V (.slice a0 d.seen.length a1) d.seen):=hH HT2.out.rdS;go_upto_block 2 with(fail)
 go_cut [19]from 92 (fun z wx=>∃k:Nat,z= .int .i64 k/\V=wx/\k<=d.seen.length/\(∀j<k,∀s,d.seen[j]? =some s->s.client<client)/\(∀s,d.seen[k]? =some s->¬s.client<client))
 case first=>
  go_wp2_with fail
  go_loop [19] (fun i=>∃k:Nat,k<=d.seen.length/\i= .int .i64 k/\∀j<k,∀s,d.seen[j]? =some s->s.client<client) (fun i=>d.seen.length-(intOf i).toNat)
  case atStart=>exact⟨0,lz _,rfl,fun j h=>absurd h (Nat.not_lt_zero j)⟩
  case round=>
   obtain⟨k,hk,rfl,hlow⟩:=hrel;have HLOW:=hH hlow;clear hlow;by_cases hlt:k<d.seen.length
   ·obtain⟨y,hy⟩:=Jaa hlt;obtain⟨b1,o1,cs,g1,g2,g3⟩:=HRS.out.idx Tryz.underlying65 Jak k hy;obtain rfl:=xam g3;have q0:=g2.zero;have HY:=hH hy;have hl2:(k:Int)<(d.seen.length:Int):=om;clear g2 g3 hy;by_cases e2:y.client<client
    ·go_wp2;go_round
     case rel=>
      refine⟨k+1,by omega,by go_num,fun j hj d' hd'=> ?_⟩
      by_cases hjk:j<k
      ·exact HLOW.out j hjk d' hd'
      ·obtain rfl:j=k:=om;rw[HY.out]at hd';cases hd';exact e2
     case measure=>simp[intOf];omega
    ·go_wp2_with fail
     go_meet
     exact⟨k,rfl,rfl,hk,HLOW.out,fun s hs=>by rw[HY.out]at hs;cases hs;exact e2⟩
   ·have hl2:¬(k:Int)<(d.seen.length:Int):=om;go_wp2_with fail
    go_meet
    exact⟨k,rfl,rfl,hk,HLOW.out,fun s hs=>by have:=(lg.1 hs).1;omega⟩
 case rest=>
  obtain⟨k,rfl,hwc,hk,hlow,hnl⟩:=hcut;subst hwc;have HLOW:=hH hlow;have HNL:=hH hnl;clear hlow hnl;by_cases hlt:k<d.seen.length
  ·obtain⟨y,hy⟩:=Jaa hlt;obtain⟨b1,o1,cs,g1,g2,g3⟩:=HRS.out.idx Tryz.underlying65 Jak k hy;obtain rfl:=xam g3;have q0:=g2.zero;have HY:=hH hy;have hl2:(k:Int)<(d.seen.length:Int):=om;clear g2 g3 hy;by_cases e3:y.client=client
   ·have e3b:(y.client==client)=true:=by simpa using e3
    have HE3:=hH e3;clear e3;have HSE:Hid ((kaa d.seen ⟨client,seq,yaa d+1⟩)=d.seen.set k ⟨client,seq,yaa d+1⟩):=hH (kaR (QaU HLOW.out hk HNL.out) HY.out HE3.out);go_upto_region 20 with(fail)
    obtain⟨bS,oS,y1,y2,y3,y4,y5,y6,y7,y8,y9,y10,y11⟩:=HT2.out.seenEl Tryz.underlying65 Jak HY.out om ⟨client,seq,yaa d+1⟩;rw[<-HSE.out]at y11;have a4:=hH y11;clear y11 q0 g1 HT2 HRS hls;have ny:¬(bS=R.heap.size):=y8;go_upto_region 22 with(fail)
    obtain⟨V2,hV2⟩:∃V2:World,V2=(((V.setCell ⟨bS,oS,none⟩ client).setCell ⟨bS,oS+1,none⟩ seq).setCell ⟨bS,oS+2,none⟩ (.int .i64 (yaa d+1))):=⟨_,rfl⟩;have sV2:V<=V2.heap.size:=by rw[hV2];first|(simp;done)|(simp;omega)
    replace u:Hid (Below w w V2):=hH (by rw[hV2];exact(((u.out.setCell (p:=⟨bS,oS,none⟩) om _).setCell (p:=⟨bS,oS+1,none⟩) om _).setCell (p:=⟨bS,oS+2,none⟩) om _))
    replace n:Hid (Bx V2 w [d.name,d.from_,M,I,J]):=hH (by rw[hV2];exact(((n.out.setO om).setO om).setO om))
    replace Kd:=n.out.o5;replace q:Hid (Bx V2 (w+1) [.string ⟨#[]⟩,zI,zN,zN,zN]):=hH (by rw[hV2];exact(((q.out.setO om).setO om).setO om))
    replace Kr:=q.out.q5;replace D:Hid (Bx V2 R [d.name,d.from_,.slice at_ d.text.length ct,.slice N (d.list.length+1) Q,.slice a0 d.seen.length a1]):=hH (by rw[hV2];exact(((D.out.setO om).setO om).setO om))
    replace Ko:=D.out.q5;replace a4:Hid (Kag R (w+2) V2 (.slice at_ d.text.length ct) (.slice N (d.list.length+1) Q) (.slice a0 d.seen.length a1) (d.text) ((d.list++[jab client seq (Xaa d base o).1])) ((kaa d.seen ⟨client,seq,yaa d+1⟩))):=hH (by rw[hV2];exact a4.out)
    rw[<-hV2];clear hV2;clear y1 y2 y3 y4 y5 y6 y7 y9 y10;by_cases hw8:d.list.length=8
    rotate_left
    ·have hl8:¬(8:Int)<(d.list.length:Int)+1:=om;have HCM:Hid (xag d client seq (Xaa d base o).1=⟨d.name,d.from_,d.text,(d.list++[jab client seq (Xaa d base o).1]),(kaa d.seen ⟨client,seq,yaa d+1⟩)⟩):=hH (by unfold xag;rw[if_neg (by simp;omega)])
     go_upto_region 27 with(fail)
     obtain⟨Y,hY⟩:∃Y:World,Y=V2:=⟨_,rfl⟩;have sY:V2<=Y.heap.size:=by rw[hY];first|(simp;done)|(simp;omega)
     replace u:Hid (Below w w Y):=hH (by rw[hY];exact u.out)
     replace a4:Hid (Kag R (w+2) Y (.slice at_ d.text.length ct) (.slice N (d.list.length+1) Q) (.slice a0 d.seen.length a1) (d.text) ((d.list++[jab client seq (Xaa d base o).1])) ((kaa d.seen ⟨client,seq,yaa d+1⟩))):=hH (by rw[hY];exact a4.out)
     replace n:Hid (Bx Y w [d.name,d.from_,M,I,J]):=hH (by rw[hY];exact n.out)
     replace Kd:=n.out.o5;replace q:Hid (Bx Y (w+1) [.string ⟨#[]⟩,zI,zN,zN,zN]):=hH (by rw[hY];exact q.out)
     replace Kr:=q.out.q5;replace D:Hid (Bx Y R [d.name,d.from_,.slice at_ d.text.length ct,.slice N (d.list.length+1) Q,.slice a0 d.seen.length a1]):=hH (by rw[hY];exact D.out)
     replace Ko:=D.out.q5;rw[<-hY];clear hY;repeat go_step
     rw[HV.out,HCM.out];exact bodyPost_ret (v:= .tuple #[.agg #[d.name,d.from_,.slice at_ d.text.length ct,.slice N (d.list.length+1) Q,.slice a0 d.seen.length a1],.int .i64 (yaa d+1),zI]) (by simp[results,Tryz.results45,go_sem,xaa, *]) rfl (Kag.out (y:=⟨d.name,d.from_,d.text,(d.list++[jab client seq (Xaa d base o).1]),(kaa d.seen ⟨client,seq,yaa d+1⟩)⟩) (a4.out.set5 om) n_name om (kar u.out om))
    have hl8:(8:Int)<(d.list.length:Int)+1:=om;obtain⟨e0,he0⟩:∃e0,(d.list++[jab client seq (Xaa d base o).1])[0]? =some e0:=Jaa sm;have HCM:Hid (xag d client seq (Xaa d base o).1=⟨d.name,d.from_+1,(zab e0.o d.text).1,(d.list++[jab client seq (Xaa d base o).1]).drop 1,(kaa d.seen ⟨client,seq,yaa d+1⟩)⟩):=hH (by unfold xag;rw[if_pos (by simp;omega)];have e:(d.list++[jab client seq (Xaa d base o).1]).headD ⟨0,0,[]⟩=e0:=(by rw[List.headD_eq_head?_getD,List.head?_eq_getElem?,he0];rfl);rw[e])
    have HW8:=hH hw8;clear hw8;go_upto_region 23 with(fail)
    obtain⟨Z,hZ⟩:∃Z:World,Z=V2:=⟨_,rfl⟩;have sZ:V2<=Z.heap.size:=by rw[hZ];first|(simp;done)|(simp;omega)
    replace u:Hid (Below w w Z):=hH (by rw[hZ];exact u.out)
    replace a4:Hid (Kag R (w+2) Z (.slice at_ d.text.length ct) (.slice N (d.list.length+1) Q) (.slice a0 d.seen.length a1) (d.text) ((d.list++[jab client seq (Xaa d base o).1])) ((kaa d.seen ⟨client,seq,yaa d+1⟩))):=hH (by rw[hZ];exact a4.out)
    replace n:Hid (Bx Z w [d.name,d.from_,M,I,J]):=hH (by rw[hZ];exact n.out)
    replace Kd:=n.out.o5;replace q:Hid (Bx Z (w+1) [.string ⟨#[]⟩,zI,zN,zN,zN]):=hH (by rw[hZ];exact q.out)
    replace Kr:=q.out.q5;replace D:Hid (Bx Z R [d.name,d.from_,.slice at_ d.text.length ct,.slice N (d.list.length+1) Q,.slice a0 d.seen.length a1]):=hH (by rw[hZ];exact D.out)
    replace Ko:=D.out.q5;rw[<-hZ];clear hZ;obtain⟨b1,o1,ces,x1,x2,x3⟩:=(a4.out.rdL).idx Tryz.underlying34 Kab 0 he0;obtain⟨v_eo,rfl,r_eo⟩:=qag x3;have q0:=x2.zero;have q1:=x2 1 _ rfl;have q2:=x2 2 _ rfl;have l1:b1<Z.heap.size:=lk (w:=Z) (a:=⟨b1,o1,none⟩) q0;obtain⟨aeo,ceo,rfl⟩:=r_eo.isSlice;have HREO:=hH r_eo;replace x1:∀w1,(Instr.indexAt 34 (.slice N (d.list.length+1) Q) (.int .i64 0)).run Tryz.prog w1= .ok (.pointer (some ⟨b1,o1,none⟩)) w1:=x1;clear x2 x3 r_eo he0;go_wp2_with fail
    refine(uap e0.o d.text _ _ _ (HREO.out.below ((lf Z Z).alloc om _)) ((a4.out.alloc _)).rdT).mono ?_;rintro e' w22 ⟨vn,fn,rfl,sn,kn,hb22⟩;obtain⟨an,cn,rfl⟩:=sn.isS;have HTX2:Hid (Kag R (w+2) w22 (.slice an (zab e0.o d.text).1.length cn) (.slice N (d.list.length+1) Q) (.slice a0 d.seen.length a1) ((zab e0.o d.text).1) ((d.list++[jab client seq (Xaa d base o).1])) ((kaa d.seen ⟨client,seq,yaa d+1⟩))):=hH (((a4.out.alloc _)).textBelow hb22 sn (kn.mono (by first|omega|(simp;omega))) kn.ge (by first|omega|(simp;omega)))
    clear sn kn a4;have s22:Z+1<=w22.heap.size:=szl hb22;replace u:=hH ((u.out.alloc om _).trans (hb22.mono om));replace n:=hH ((n.out.alloc _).at hb22);replace Kd:=n.out.o5;replace q:=hH ((q.out.alloc _).at hb22);replace Kr:=q.out.q5;replace D:=hH ((D.out.alloc _).at hb22);replace Ko:=D.out.q5;have HXg:Hid (Bx w22 Z [e0.client,e0.seq,.slice aeo e0.o.length ceo]):=hH ((Bx.new (by first|rfl|simp|omega)).at hb22)
    have Kg:=HXg.out.q3;clear hb22;clear q0 q1 q2 l1 x1;go_upto_region 26 with(fail)
    obtain⟨Y,hY⟩:∃Y:World,Y=((w22.setCell ⟨R,2,none⟩ (.slice an (zab e0.o d.text).1.length cn)).setCell ⟨R,1,none⟩ (.int .i64 (d.from_+1))):=⟨_,rfl⟩;have sY:w22<=Y.heap.size:=by rw[hY];first|(simp;done)|(simp;omega)
    replace u:Hid (Below w w Y):=hH (by rw[hY];exact((u.out.setCell (p:=⟨R,2,none⟩) om _).setCell (p:=⟨R,1,none⟩) om _))
    replace HTX2:Hid (Kag R (w+2) Y (.slice an (zab e0.o d.text).1.length cn) (.slice N (d.list.length+1) Q) (.slice a0 d.seen.length a1) ((zab e0.o d.text).1) ((d.list++[jab client seq (Xaa d base o).1])) ((kaa d.seen ⟨client,seq,yaa d+1⟩))):=hH (by rw[hY];exact((HTX2.out.setCell om _).setCell om _))
    replace n:Hid (Bx Y w [d.name,d.from_,M,I,J]):=hH (by rw[hY];exact((n.out.setO om).setO om))
    replace Kd:=n.out.o5;replace q:Hid (Bx Y (w+1) [.string ⟨#[]⟩,zI,zN,zN,zN]):=hH (by rw[hY];exact((q.out.setO om).setO om))
    replace Kr:=q.out.q5;replace D:Hid (Bx Y R [d.name,.int .i64 (d.from_+1),.slice an (zab e0.o d.text).1.length cn,.slice N (d.list.length+1) Q,.slice a0 d.seen.length a1]):=hH (by rw[hY];exact((D.out.set 2 (.slice an (zab e0.o d.text).1.length cn)).set 1 (.int .i64 (d.from_+1))))
    replace Ko:=D.out.q5;rw[<-hY];clear hY;obtain⟨aq,cq,hcq,htq⟩:=HTX2.out.cutTail Tryz.underlying34 Kab sm;have hxl:(d.list++[jab client seq (Xaa d base o).1]).length-1=d.list.length:=by simp
    rw[hxl]at htq;simp only[hxl]at hcq;have HTQ:=hH htq;clear htq hxl HTX2;go_upto_region 27 with(fail)
    obtain⟨X2,hX2⟩:∃X2:World,X2=(Y.setCell ⟨R,3,none⟩ (.slice aq d.list.length cq)):=⟨_,rfl⟩;have sX2:Y<=X2.heap.size:=by rw[hX2];first|(simp;done)|(simp;omega)
    replace u:Hid (Below w w X2):=hH (by rw[hX2];exact(u.out.setCell (p:=⟨R,3,none⟩) om _))
    replace HTQ:Hid (Kag R (w+2) X2 (.slice an (zab e0.o d.text).1.length cn) (.slice aq d.list.length cq) (.slice a0 d.seen.length a1) ((zab e0.o d.text).1) ((d.list++[jab client seq (Xaa d base o).1]).drop 1) ((kaa d.seen ⟨client,seq,yaa d+1⟩))):=hH (by rw[hX2];exact(HTQ.out.setCell om _))
    replace n:Hid (Bx X2 w [d.name,d.from_,M,I,J]):=hH (by rw[hX2];exact(n.out.setO om))
    replace Kd:=n.out.o5;replace q:Hid (Bx X2 (w+1) [.string ⟨#[]⟩,zI,zN,zN,zN]):=hH (by rw[hX2];exact(q.out.setO om))
    replace Kr:=q.out.q5;replace D:Hid (Bx X2 R [d.name,.int .i64 (d.from_+1),.slice an (zab e0.o d.text).1.length cn,.slice aq d.list.length cq,.slice a0 d.seen.length a1]):=hH (by rw[hX2];exact(D.out.set 3 (.slice aq d.list.length cq)))
    replace Ko:=D.out.q5;rw[<-hX2];clear hX2;repeat go_step
    rw[HV.out,HCM.out];exact bodyPost_ret (v:= .tuple #[.agg #[d.name,.int .i64 (d.from_+1),.slice an (zab e0.o d.text).1.length cn,.slice aq d.list.length cq,.slice a0 d.seen.length a1],.int .i64 (yaa d+1),zI]) (by simp[results,Tryz.results45,go_sem,xaa, *]) rfl (Kag.out (y:=⟨d.name,d.from_+1,(zab e0.o d.text).1,(d.list++[jab client seq (Xaa d base o).1]).drop 1,(kaa d.seen ⟨client,seq,yaa d+1⟩)⟩) (HTQ.out.set5 om) n_name om (kar u.out om))
   have e3b:(y.client==client)=false:=by simpa using e3
   have HSE:Hid ((kaa d.seen ⟨client,seq,yaa d+1⟩)=d.seen.take k++⟨client,seq,yaa d+1⟩::d.seen.drop k):=hH (uaA (QaU HLOW.out hk HNL.out) (fun z hz=>by rw[HY.out]at hz;cases hz;exact e3))
   go_upto_region 21 with(fail)
   obtain⟨fs,sfs,ffs,nfs,put⟩:=HT2.out.seenPut;have hfe:=sfs.flat (α:=qac) QaS;have hrow:Row (w+2) V (.slice a0 d.seen.length a1) d.seen []:=⟨by rw[List.append_nil,<-hfe];exact sfs,by rw[<-hfe];exact ffs,fun _ h=>(by cases h)⟩
   have HINS:=hH (KaC (B:=w+2) (.slice a0 d.seen.length a1) d.seen [] k ⟨client,seq,yaa d+1⟩ [client,seq,.int .i64 (yaa d+1)] [] V hrow hk ⟨rfl,rfl⟩ (fun _ h=>by cases h) om om)
   have HPUT:=hH put;have HFE:=hH hfe;have HLF:Hid (∀p∈fs,w+2<=p.1/\p.1≠R):=hH fun p hp=>⟨ffs.ge p hp,nfs p hp⟩
   clear sfs ffs nfs put hrow hfe;go_wp2_with fail
   refine HINS.out.mono ?_;rintro e' w30 hins;have hba:Below V V (V.alloc (.cells #[client,seq,.int .i64 (yaa d+1)] 119)):=(lf _ _).alloc (lr _) _;obtain⟨v30,fp,rfl,sp,kp,wp,mp⟩:=hins.owns (Qaa.nil _ _) (Live.nil _);obtain⟨a2,a3,e30⟩:=sp.isS;subst e30;rw[<-HFE.out]at wp mp;have a4:Hid (Kag R (w+2) w30 (.slice at_ d.text.length ct) (.slice N (d.list.length+1) Q) (.slice a2 (kaa d.seen ⟨client,seq,yaa d+1⟩).length a3) d.text (d.list++[jab client seq (Xaa d base o).1]) (kaa d.seen ⟨client,seq,yaa d+1⟩)):=hH (by rw[HSE.out];exact HPUT.out _ _ _ _ _ hba wp (by simp;omega) sp kp (fun p hp=>by
    rcases mp p hp with h|h|h
    ·exact .inl h
    ·exact .inr h
    ·cases h))
   rw[<-HSE.out];have s30:V+1<=w30.heap.size:=by have:=wp.size;(try simp at this);omega
   replace u:Hid (Below w w w30):=hH ((u.out.alloc om _).trans (wp.below (by simp;omega) (fun p hp=>by have:=HLF.out p hp;omega)))
   replace n:Hid (Bx w30 w [d.name,d.from_,M,I,J]):=hH ((n.out.alloc _).wr wp (fun p hp e=>by have:=HLF.out p hp;omega))
   replace Kd:=n.out.o5;replace q:Hid (Bx w30 (w+1) [.string ⟨#[]⟩,zI,zN,zN,zN]):=hH ((q.out.alloc _).wr wp (fun p hp e=>by have:=HLF.out p hp;omega))
   replace Kr:=q.out.q5;replace D:Hid (Bx w30 R [d.name,d.from_,.slice at_ d.text.length ct,.slice N (d.list.length+1) Q,.slice a0 d.seen.length a1]):=hH ((D.out.alloc _).wr wp (fun p hp e=>by have:=HLF.out p hp;omega))
   replace Ko:=D.out.q5;clear hins sp kp wp mp hba HINS HPUT HFE HT2 HRS hls;by_cases hw8:d.list.length=8
   rotate_left
   ·have hl8:¬(8:Int)<(d.list.length:Int)+1:=om;have HCM:Hid (xag d client seq (Xaa d base o).1=⟨d.name,d.from_,d.text,(d.list++[jab client seq (Xaa d base o).1]),(kaa d.seen ⟨client,seq,yaa d+1⟩)⟩):=hH (by unfold xag;rw[if_neg (by simp;omega)])
    go_upto_region 27 with(fail)
    obtain⟨Y,hY⟩:∃Y:World,Y=(w30.setCell ⟨R,4,none⟩ (.slice a2 (kaa d.seen ⟨client,seq,yaa d+1⟩).length a3)):=⟨_,rfl⟩;have sY:w30<=Y.heap.size:=by rw[hY];first|(simp;done)|(simp;omega)
    replace u:Hid (Below w w Y):=hH (by rw[hY];exact(u.out.setCell (p:=⟨R,4,none⟩) om _))
    replace a4:Hid (Kag R (w+2) Y (.slice at_ d.text.length ct) (.slice N (d.list.length+1) Q) (.slice a2 (kaa d.seen ⟨client,seq,yaa d+1⟩).length a3) (d.text) ((d.list++[jab client seq (Xaa d base o).1])) ((kaa d.seen ⟨client,seq,yaa d+1⟩))):=hH (by rw[hY];exact(a4.out.setCell om _))
    replace n:Hid (Bx Y w [d.name,d.from_,M,I,J]):=hH (by rw[hY];exact(n.out.setO om))
    replace Kd:=n.out.o5;replace q:Hid (Bx Y (w+1) [.string ⟨#[]⟩,zI,zN,zN,zN]):=hH (by rw[hY];exact(q.out.setO om))
    replace Kr:=q.out.q5;replace D:Hid (Bx Y R [d.name,d.from_,.slice at_ d.text.length ct,.slice N (d.list.length+1) Q,.slice a2 (kaa d.seen ⟨client,seq,yaa d+1⟩).length a3]):=hH (by rw[hY];exact(D.out.set 4 (.slice a2 (kaa d.seen ⟨client,seq,yaa d+1⟩).length a3)))
    replace Ko:=D.out.q5;rw[<-hY];clear hY;repeat go_step
    rw[HV.out,HCM.out];exact bodyPost_ret (v:= .tuple #[.agg #[d.name,d.from_,.slice at_ d.text.length ct,.slice N (d.list.length+1) Q,.slice a2 (kaa d.seen ⟨client,seq,yaa d+1⟩).length a3],.int .i64 (yaa d+1),zI]) (by simp[results,Tryz.results45,go_sem,xaa, *]) rfl (Kag.out (y:=⟨d.name,d.from_,d.text,(d.list++[jab client seq (Xaa d base o).1]),(kaa d.seen ⟨client,seq,yaa d+1⟩)⟩) (a4.out.set5 om) n_name om (kar u.out om))
   have hl8:(8:Int)<(d.list.length:Int)+1:=om;obtain⟨e0,he0⟩:∃e0,(d.list++[jab client seq (Xaa d base o).1])[0]? =some e0:=Jaa sm;have HCM:Hid (xag d client seq (Xaa d base o).1=⟨d.name,d.from_+1,(zab e0.o d.text).1,(d.list++[jab client seq (Xaa d base o).1]).drop 1,(kaa d.seen ⟨client,seq,yaa d+1⟩)⟩):=hH (by unfold xag;rw[if_pos (by simp;omega)];have e:(d.list++[jab client seq (Xaa d base o).1]).headD ⟨0,0,[]⟩=e0:=(by rw[List.headD_eq_head?_getD,List.head?_eq_getElem?,he0];rfl);rw[e])
   have HW8:=hH hw8;clear hw8;go_upto_region 23 with(fail)
   obtain⟨Z,hZ⟩:∃Z:World,Z=(w30.setCell ⟨R,4,none⟩ (.slice a2 (kaa d.seen ⟨client,seq,yaa d+1⟩).length a3)):=⟨_,rfl⟩;have sZ:w30<=Z.heap.size:=by rw[hZ];first|(simp;done)|(simp;omega)
   replace u:Hid (Below w w Z):=hH (by rw[hZ];exact(u.out.setCell (p:=⟨R,4,none⟩) om _))
   replace a4:Hid (Kag R (w+2) Z (.slice at_ d.text.length ct) (.slice N (d.list.length+1) Q) (.slice a2 (kaa d.seen ⟨client,seq,yaa d+1⟩).length a3) (d.text) ((d.list++[jab client seq (Xaa d base o).1])) ((kaa d.seen ⟨client,seq,yaa d+1⟩))):=hH (by rw[hZ];exact(a4.out.setCell om _))
   replace n:Hid (Bx Z w [d.name,d.from_,M,I,J]):=hH (by rw[hZ];exact(n.out.setO om))
   replace Kd:=n.out.o5;replace q:Hid (Bx Z (w+1) [.string ⟨#[]⟩,zI,zN,zN,zN]):=hH (by rw[hZ];exact(q.out.setO om))
   replace Kr:=q.out.q5;replace D:Hid (Bx Z R [d.name,d.from_,.slice at_ d.text.length ct,.slice N (d.list.length+1) Q,.slice a2 (kaa d.seen ⟨client,seq,yaa d+1⟩).length a3]):=hH (by rw[hZ];exact(D.out.set 4 (.slice a2 (kaa d.seen ⟨client,seq,yaa d+1⟩).length a3)))
   replace Ko:=D.out.q5;rw[<-hZ];clear hZ;obtain⟨b1,o1,ces,x1,x2,x3⟩:=(a4.out.rdL).idx Tryz.underlying34 Kab 0 he0;obtain⟨v_eo,rfl,r_eo⟩:=qag x3;have q0:=x2.zero;have q1:=x2 1 _ rfl;have q2:=x2 2 _ rfl;have l1:b1<Z.heap.size:=lk (w:=Z) (a:=⟨b1,o1,none⟩) q0;obtain⟨aeo,ceo,rfl⟩:=r_eo.isSlice;have HREO:=hH r_eo;replace x1:∀w1,(Instr.indexAt 34 (.slice N (d.list.length+1) Q) (.int .i64 0)).run Tryz.prog w1= .ok (.pointer (some ⟨b1,o1,none⟩)) w1:=x1;clear x2 x3 r_eo he0;go_wp2_with fail
   refine(uap e0.o d.text _ _ _ (HREO.out.below ((lf Z Z).alloc om _)) ((a4.out.alloc _)).rdT).mono ?_;rintro e' w31 ⟨vn,fn,rfl,sn,kn,hb31⟩;obtain⟨an,cn,rfl⟩:=sn.isS;have HTX2:Hid (Kag R (w+2) w31 (.slice an (zab e0.o d.text).1.length cn) (.slice N (d.list.length+1) Q) (.slice a2 (kaa d.seen ⟨client,seq,yaa d+1⟩).length a3) ((zab e0.o d.text).1) ((d.list++[jab client seq (Xaa d base o).1])) ((kaa d.seen ⟨client,seq,yaa d+1⟩))):=hH (((a4.out.alloc _)).textBelow hb31 sn (kn.mono (by first|omega|(simp;omega))) kn.ge (by first|omega|(simp;omega)))
   clear sn kn a4;have s31:Z+1<=w31.heap.size:=szl hb31;replace u:=hH ((u.out.alloc om _).trans (hb31.mono om));replace n:=hH ((n.out.alloc _).at hb31);replace Kd:=n.out.o5;replace q:=hH ((q.out.alloc _).at hb31);replace Kr:=q.out.q5;replace D:=hH ((D.out.alloc _).at hb31);replace Ko:=D.out.q5;have HXg:Hid (Bx w31 Z [e0.client,e0.seq,.slice aeo e0.o.length ceo]):=hH ((Bx.new (by first|rfl|simp|omega)).at hb31)
   have Kg:=HXg.out.q3;clear hb31;clear q0 q1 q2 l1 x1;go_upto_region 26 with(fail)
   obtain⟨Y,hY⟩:∃Y:World,Y=((w31.setCell ⟨R,2,none⟩ (.slice an (zab e0.o d.text).1.length cn)).setCell ⟨R,1,none⟩ (.int .i64 (d.from_+1))):=⟨_,rfl⟩;have sY:w31<=Y.heap.size:=by rw[hY];first|(simp;done)|(simp;omega)
   replace u:Hid (Below w w Y):=hH (by rw[hY];exact((u.out.setCell (p:=⟨R,2,none⟩) om _).setCell (p:=⟨R,1,none⟩) om _))
   replace HTX2:Hid (Kag R (w+2) Y (.slice an (zab e0.o d.text).1.length cn) (.slice N (d.list.length+1) Q) (.slice a2 (kaa d.seen ⟨client,seq,yaa d+1⟩).length a3) ((zab e0.o d.text).1) ((d.list++[jab client seq (Xaa d base o).1])) ((kaa d.seen ⟨client,seq,yaa d+1⟩))):=hH (by rw[hY];exact((HTX2.out.setCell om _).setCell om _))
   replace n:Hid (Bx Y w [d.name,d.from_,M,I,J]):=hH (by rw[hY];exact((n.out.setO om).setO om))
   replace Kd:=n.out.o5;replace q:Hid (Bx Y (w+1) [.string ⟨#[]⟩,zI,zN,zN,zN]):=hH (by rw[hY];exact((q.out.setO om).setO om))
   replace Kr:=q.out.q5;replace D:Hid (Bx Y R [d.name,.int .i64 (d.from_+1),.slice an (zab e0.o d.text).1.length cn,.slice N (d.list.length+1) Q,.slice a2 (kaa d.seen ⟨client,seq,yaa d+1⟩).length a3]):=hH (by rw[hY];exact((D.out.set 2 (.slice an (zab e0.o d.text).1.length cn)).set 1 (.int .i64 (d.from_+1))))
   replace Ko:=D.out.q5;rw[<-hY];clear hY;obtain⟨aq,cq,hcq,htq⟩:=HTX2.out.cutTail Tryz.underlying34 Kab sm;have hxl:(d.list++[jab client seq (Xaa d base o).1]).length-1=d.list.length:=by simp
   rw[hxl]at htq;simp only[hxl]at hcq;have HTQ:=hH htq;clear htq hxl HTX2;go_upto_region 27 with(fail)
   obtain⟨X2,hX2⟩:∃X2:World,X2=(Y.setCell ⟨R,3,none⟩ (.slice aq d.list.length cq)):=⟨_,rfl⟩;have sX2:Y<=X2.heap.size:=by rw[hX2];first|(simp;done)|(simp;omega)
   replace u:Hid (Below w w X2):=hH (by rw[hX2];exact(u.out.setCell (p:=⟨R,3,none⟩) om _))
   replace HTQ:Hid (Kag R (w+2) X2 (.slice an (zab e0.o d.text).1.length cn) (.slice aq d.list.length cq) (.slice a2 (kaa d.seen ⟨client,seq,yaa d+1⟩).length a3) ((zab e0.o d.text).1) ((d.list++[jab client seq (Xaa d base o).1]).drop 1) ((kaa d.seen ⟨client,seq,yaa d+1⟩))):=hH (by rw[hX2];exact(HTQ.out.setCell om _))
   replace n:Hid (Bx X2 w [d.name,d.from_,M,I,J]):=hH (by rw[hX2];exact(n.out.setO om))
   replace Kd:=n.out.o5;replace q:Hid (Bx X2 (w+1) [.string ⟨#[]⟩,zI,zN,zN,zN]):=hH (by rw[hX2];exact(q.out.setO om))
   replace Kr:=q.out.q5;replace D:Hid (Bx X2 R [d.name,.int .i64 (d.from_+1),.slice an (zab e0.o d.text).1.length cn,.slice aq d.list.length cq,.slice a2 (kaa d.seen ⟨client,seq,yaa d+1⟩).length a3]):=hH (by rw[hX2];exact(D.out.set 3 (.slice aq d.list.length cq)))
   replace Ko:=D.out.q5;rw[<-hX2];clear hX2;repeat go_step
   rw[HV.out,HCM.out];exact bodyPost_ret (v:= .tuple #[.agg #[d.name,.int .i64 (d.from_+1),.slice an (zab e0.o d.text).1.length cn,.slice aq d.list.length cq,.slice a2 (kaa d.seen ⟨client,seq,yaa d+1⟩).length a3],.int .i64 (yaa d+1),zI]) (by simp[results,Tryz.results45,go_sem,xaa, *]) rfl (Kag.out (y:=⟨d.name,d.from_+1,(zab e0.o d.text).1,(d.list++[jab client seq (Xaa d base o).1]).drop 1,(kaa d.seen ⟨client,seq,yaa d+1⟩)⟩) (HTQ.out.set5 om) n_name om (kar u.out om))
  have hl2:¬(k:Int)<(d.seen.length:Int):=om;have HNO:Hid (∀z,d.seen[k]? =some z->False):=hH fun z hz=>by have:=(lg.1 hz).1;omega
  have HSE:Hid ((kaa d.seen ⟨client,seq,yaa d+1⟩)=d.seen.take k++⟨client,seq,yaa d+1⟩::d.seen.drop k):=hH (uaA (QaU HLOW.out hk HNL.out) (fun z hz=>(HNO.out z hz).elim))
  go_upto_region 21 with(fail)
  obtain⟨fs,sfs,ffs,nfs,put⟩:=HT2.out.seenPut;have hfe:=sfs.flat (α:=qac) QaS;have hrow:Row (w+2) V (.slice a0 d.seen.length a1) d.seen []:=⟨by rw[List.append_nil,<-hfe];exact sfs,by rw[<-hfe];exact ffs,fun _ h=>(by cases h)⟩
  have HINS:=hH (KaC (B:=w+2) (.slice a0 d.seen.length a1) d.seen [] k ⟨client,seq,yaa d+1⟩ [client,seq,.int .i64 (yaa d+1)] [] V hrow hk ⟨rfl,rfl⟩ (fun _ h=>by cases h) om om)
  have HPUT:=hH put;have HFE:=hH hfe;have HLF:Hid (∀p∈fs,w+2<=p.1/\p.1≠R):=hH fun p hp=>⟨ffs.ge p hp,nfs p hp⟩
  clear sfs ffs nfs put hrow hfe;go_wp2_with fail
  refine HINS.out.mono ?_;rintro e' w30 hins;have hba:Below V V (V.alloc (.cells #[client,seq,.int .i64 (yaa d+1)] 119)):=(lf _ _).alloc (lr _) _;obtain⟨v30,fp,rfl,sp,kp,wp,mp⟩:=hins.owns (Qaa.nil _ _) (Live.nil _);obtain⟨a2,a3,e30⟩:=sp.isS;subst e30;rw[<-HFE.out]at wp mp;have a4:Hid (Kag R (w+2) w30 (.slice at_ d.text.length ct) (.slice N (d.list.length+1) Q) (.slice a2 (kaa d.seen ⟨client,seq,yaa d+1⟩).length a3) d.text (d.list++[jab client seq (Xaa d base o).1]) (kaa d.seen ⟨client,seq,yaa d+1⟩)):=hH (by rw[HSE.out];exact HPUT.out _ _ _ _ _ hba wp (by simp;omega) sp kp (fun p hp=>by
   rcases mp p hp with h|h|h
   ·exact .inl h
   ·exact .inr h
   ·cases h))
  rw[<-HSE.out];have s30:V+1<=w30.heap.size:=by have:=wp.size;(try simp at this);omega
  replace u:Hid (Below w w w30):=hH ((u.out.alloc om _).trans (wp.below (by simp;omega) (fun p hp=>by have:=HLF.out p hp;omega)))
  replace n:Hid (Bx w30 w [d.name,d.from_,M,I,J]):=hH ((n.out.alloc _).wr wp (fun p hp e=>by have:=HLF.out p hp;omega))
  replace Kd:=n.out.o5;replace q:Hid (Bx w30 (w+1) [.string ⟨#[]⟩,zI,zN,zN,zN]):=hH ((q.out.alloc _).wr wp (fun p hp e=>by have:=HLF.out p hp;omega))
  replace Kr:=q.out.q5;replace D:Hid (Bx w30 R [d.name,d.from_,.slice at_ d.text.length ct,.slice N (d.list.length+1) Q,.slice a0 d.seen.length a1]):=hH ((D.out.alloc _).wr wp (fun p hp e=>by have:=HLF.out p hp;omega))
  replace Ko:=D.out.q5;clear hins sp kp wp mp hba HINS HPUT HFE HT2 HRS hls;by_cases hw8:d.list.length=8
  rotate_left
  ·have hl8:¬(8:Int)<(d.list.length:Int)+1:=om;have HCM:Hid (xag d client seq (Xaa d base o).1=⟨d.name,d.from_,d.text,(d.list++[jab client seq (Xaa d base o).1]),(kaa d.seen ⟨client,seq,yaa d+1⟩)⟩):=hH (by unfold xag;rw[if_neg (by simp;omega)])
   go_upto_region 27 with(fail)
   obtain⟨Y,hY⟩:∃Y:World,Y=(w30.setCell ⟨R,4,none⟩ (.slice a2 (kaa d.seen ⟨client,seq,yaa d+1⟩).length a3)):=⟨_,rfl⟩;have sY:w30<=Y.heap.size:=by rw[hY];first|(simp;done)|(simp;omega)
   replace u:Hid (Below w w Y):=hH (by rw[hY];exact(u.out.setCell (p:=⟨R,4,none⟩) om _))
   replace a4:Hid (Kag R (w+2) Y (.slice at_ d.text.length ct) (.slice N (d.list.length+1) Q) (.slice a2 (kaa d.seen ⟨client,seq,yaa d+1⟩).length a3) (d.text) ((d.list++[jab client seq (Xaa d base o).1])) ((kaa d.seen ⟨client,seq,yaa d+1⟩))):=hH (by rw[hY];exact(a4.out.setCell om _))
   replace n:Hid (Bx Y w [d.name,d.from_,M,I,J]):=hH (by rw[hY];exact(n.out.setO om))
   replace Kd:=n.out.o5;replace q:Hid (Bx Y (w+1) [.string ⟨#[]⟩,zI,zN,zN,zN]):=hH (by rw[hY];exact(q.out.setO om))
   replace Kr:=q.out.q5;replace D:Hid (Bx Y R [d.name,d.from_,.slice at_ d.text.length ct,.slice N (d.list.length+1) Q,.slice a2 (kaa d.seen ⟨client,seq,yaa d+1⟩).length a3]):=hH (by rw[hY];exact(D.out.set 4 (.slice a2 (kaa d.seen ⟨client,seq,yaa d+1⟩).length a3)))
   replace Ko:=D.out.q5;rw[<-hY];clear hY;repeat go_step
   rw[HV.out,HCM.out];exact bodyPost_ret (v:= .tuple #[.agg #[d.name,d.from_,.slice at_ d.text.length ct,.slice N (d.list.length+1) Q,.slice a2 (kaa d.seen ⟨client,seq,yaa d+1⟩).length a3],.int .i64 (yaa d+1),zI]) (by simp[results,Tryz.results45,go_sem,xaa, *]) rfl (Kag.out (y:=⟨d.name,d.from_,d.text,(d.list++[jab client seq (Xaa d base o).1]),(kaa d.seen ⟨client,seq,yaa d+1⟩)⟩) (a4.out.set5 om) n_name om (kar u.out om))
  have hl8:(8:Int)<(d.list.length:Int)+1:=om;obtain⟨e0,he0⟩:∃e0,(d.list++[jab client seq (Xaa d base o).1])[0]? =some e0:=Jaa sm;have HCM:Hid (xag d client seq (Xaa d base o).1=⟨d.name,d.from_+1,(zab e0.o d.text).1,(d.list++[jab client seq (Xaa d base o).1]).drop 1,(kaa d.seen ⟨client,seq,yaa d+1⟩)⟩):=hH (by unfold xag;rw[if_pos (by simp;omega)];have e:(d.list++[jab client seq (Xaa d base o).1]).headD ⟨0,0,[]⟩=e0:=(by rw[List.headD_eq_head?_getD,List.head?_eq_getElem?,he0];rfl);rw[e])
  have HW8:=hH hw8;clear hw8;go_upto_region 23 with(fail)
  obtain⟨Z,hZ⟩:∃Z:World,Z=(w30.setCell ⟨R,4,none⟩ (.slice a2 (kaa d.seen ⟨client,seq,yaa d+1⟩).length a3)):=⟨_,rfl⟩;have sZ:w30<=Z.heap.size:=by rw[hZ];first|(simp;done)|(simp;omega)
  replace u:Hid (Below w w Z):=hH (by rw[hZ];exact(u.out.setCell (p:=⟨R,4,none⟩) om _))
  replace a4:Hid (Kag R (w+2) Z (.slice at_ d.text.length ct) (.slice N (d.list.length+1) Q) (.slice a2 (kaa d.seen ⟨client,seq,yaa d+1⟩).length a3) (d.text) ((d.list++[jab client seq (Xaa d base o).1])) ((kaa d.seen ⟨client,seq,yaa d+1⟩))):=hH (by rw[hZ];exact(a4.out.setCell om _))
  replace n:Hid (Bx Z w [d.name,d.from_,M,I,J]):=hH (by rw[hZ];exact(n.out.setO om))
  replace Kd:=n.out.o5;replace q:Hid (Bx Z (w+1) [.string ⟨#[]⟩,zI,zN,zN,zN]):=hH (by rw[hZ];exact(q.out.setO om))
  replace Kr:=q.out.q5;replace D:Hid (Bx Z R [d.name,d.from_,.slice at_ d.text.length ct,.slice N (d.list.length+1) Q,.slice a2 (kaa d.seen ⟨client,seq,yaa d+1⟩).length a3]):=hH (by rw[hZ];exact(D.out.set 4 (.slice a2 (kaa d.seen ⟨client,seq,yaa d+1⟩).length a3)))
  replace Ko:=D.out.q5;rw[<-hZ];clear hZ;obtain⟨b1,o1,ces,x1,x2,x3⟩:=(a4.out.rdL).idx Tryz.underlying34 Kab 0 he0;obtain⟨v_eo,rfl,r_eo⟩:=qag x3;have q0:=x2.zero;have q1:=x2 1 _ rfl;have q2:=x2 2 _ rfl;have l1:b1<Z.heap.size:=lk (w:=Z) (a:=⟨b1,o1,none⟩) q0;obtain⟨aeo,ceo,rfl⟩:=r_eo.isSlice;have HREO:=hH r_eo;replace x1:∀w1,(Instr.indexAt 34 (.slice N (d.list.length+1) Q) (.int .i64 0)).run Tryz.prog w1= .ok (.pointer (some ⟨b1,o1,none⟩)) w1:=x1;clear x2 x3 r_eo he0;go_wp2_with fail
  refine(uap e0.o d.text _ _ _ (HREO.out.below ((lf Z Z).alloc om _)) ((a4.out.alloc _)).rdT).mono ?_;rintro e' w31 ⟨vn,fn,rfl,sn,kn,hb31⟩;obtain⟨an,cn,rfl⟩:=sn.isS;have HTX2:Hid (Kag R (w+2) w31 (.slice an (zab e0.o d.text).1.length cn) (.slice N (d.list.length+1) Q) (.slice a2 (kaa d.seen ⟨client,seq,yaa d+1⟩).length a3) ((zab e0.o d.text).1) ((d.list++[jab client seq (Xaa d base o).1])) ((kaa d.seen ⟨client,seq,yaa d+1⟩))):=hH (((a4.out.alloc _)).textBelow hb31 sn (kn.mono (by first|omega|(simp;omega))) kn.ge (by first|omega|(simp;omega)))
  clear sn kn a4;have s31:Z+1<=w31.heap.size:=szl hb31;replace u:=hH ((u.out.alloc om _).trans (hb31.mono om));replace n:=hH ((n.out.alloc _).at hb31);replace Kd:=n.out.o5;replace q:=hH ((q.out.alloc _).at hb31);replace Kr:=q.out.q5;replace D:=hH ((D.out.alloc _).at hb31);replace Ko:=D.out.q5;have HXg:Hid (Bx w31 Z [e0.client,e0.seq,.slice aeo e0.o.length ceo]):=hH ((Bx.new (by first|rfl|simp|omega)).at hb31)
  have Kg:=HXg.out.q3;clear hb31;clear q0 q1 q2 l1 x1;go_upto_region 26 with(fail)
  obtain⟨Y,hY⟩:∃Y:World,Y=((w31.setCell ⟨R,2,none⟩ (.slice an (zab e0.o d.text).1.length cn)).setCell ⟨R,1,none⟩ (.int .i64 (d.from_+1))):=⟨_,rfl⟩;have sY:w31<=Y.heap.size:=by rw[hY];first|(simp;done)|(simp;omega)
  replace u:Hid (Below w w Y):=hH (by rw[hY];exact((u.out.setCell (p:=⟨R,2,none⟩) om _).setCell (p:=⟨R,1,none⟩) om _))
  replace HTX2:Hid (Kag R (w+2) Y (.slice an (zab e0.o d.text).1.length cn) (.slice N (d.list.length+1) Q) (.slice a2 (kaa d.seen ⟨client,seq,yaa d+1⟩).length a3) ((zab e0.o d.text).1) ((d.list++[jab client seq (Xaa d base o).1])) ((kaa d.seen ⟨client,seq,yaa d+1⟩))):=hH (by rw[hY];exact((HTX2.out.setCell om _).setCell om _))
  replace n:Hid (Bx Y w [d.name,d.from_,M,I,J]):=hH (by rw[hY];exact((n.out.setO om).setO om))
  replace Kd:=n.out.o5;replace q:Hid (Bx Y (w+1) [.string ⟨#[]⟩,zI,zN,zN,zN]):=hH (by rw[hY];exact((q.out.setO om).setO om))
  replace Kr:=q.out.q5;replace D:Hid (Bx Y R [d.name,.int .i64 (d.from_+1),.slice an (zab e0.o d.text).1.length cn,.slice N (d.list.length+1) Q,.slice a2 (kaa d.seen ⟨client,seq,yaa d+1⟩).length a3]):=hH (by rw[hY];exact((D.out.set 2 (.slice an (zab e0.o d.text).1.length cn)).set 1 (.int .i64 (d.from_+1))))
  replace Ko:=D.out.q5;rw[<-hY];clear hY;obtain⟨aq,cq,hcq,htq⟩:=HTX2.out.cutTail Tryz.underlying34 Kab sm;have hxl:(d.list++[jab client seq (Xaa d base o).1]).length-1=d.list.length:=by simp
  rw[hxl]at htq;simp only[hxl]at hcq;have HTQ:=hH htq;clear htq hxl HTX2;go_upto_region 27 with(fail)
  obtain⟨X2,hX2⟩:∃X2:World,X2=(Y.setCell ⟨R,3,none⟩ (.slice aq d.list.length cq)):=⟨_,rfl⟩;have sX2:Y<=X2.heap.size:=by rw[hX2];first|(simp;done)|(simp;omega)
  replace u:Hid (Below w w X2):=hH (by rw[hX2];exact(u.out.setCell (p:=⟨R,3,none⟩) om _))
  replace HTQ:Hid (Kag R (w+2) X2 (.slice an (zab e0.o d.text).1.length cn) (.slice aq d.list.length cq) (.slice a2 (kaa d.seen ⟨client,seq,yaa d+1⟩).length a3) ((zab e0.o d.text).1) ((d.list++[jab client seq (Xaa d base o).1]).drop 1) ((kaa d.seen ⟨client,seq,yaa d+1⟩))):=hH (by rw[hX2];exact(HTQ.out.setCell om _))
  replace n:Hid (Bx X2 w [d.name,d.from_,M,I,J]):=hH (by rw[hX2];exact(n.out.setO om))
  replace Kd:=n.out.o5;replace q:Hid (Bx X2 (w+1) [.string ⟨#[]⟩,zI,zN,zN,zN]):=hH (by rw[hX2];exact(q.out.setO om))
  replace Kr:=q.out.q5;replace D:Hid (Bx X2 R [d.name,.int .i64 (d.from_+1),.slice an (zab e0.o d.text).1.length cn,.slice aq d.list.length cq,.slice a2 (kaa d.seen ⟨client,seq,yaa d+1⟩).length a3]):=hH (by rw[hX2];exact(D.out.set 3 (.slice aq d.list.length cq)))
  replace Ko:=D.out.q5;rw[<-hX2];clear hX2;repeat go_step
  rw[HV.out,HCM.out];exact bodyPost_ret (v:= .tuple #[.agg #[d.name,.int .i64 (d.from_+1),.slice an (zab e0.o d.text).1.length cn,.slice aq d.list.length cq,.slice a2 (kaa d.seen ⟨client,seq,yaa d+1⟩).length a3],.int .i64 (yaa d+1),zI]) (by simp[results,Tryz.results45,go_sem,xaa, *]) rfl (Kag.out (y:=⟨d.name,d.from_+1,(zab e0.o d.text).1,(d.list++[jab client seq (Xaa d base o).1]).drop 1,(kaa d.seen ⟨client,seq,yaa d+1⟩)⟩) (HTQ.out.set5 om) n_name om (kar u.out om))
