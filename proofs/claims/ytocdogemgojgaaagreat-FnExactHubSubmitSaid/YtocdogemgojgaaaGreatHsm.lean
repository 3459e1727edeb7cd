/- Hubs: submit, the program's walk. -/
import Derived.Test.YtocdogemgojgaaaGreatHsp
import Derived.Test.YtocdogemgojgaaaGreatSub
import Derived.Test.YtocdogemgojgaaaGreatTwo
import Derived.Deep.RegionHeld3
import Derived.Deep.Cut
set_option maxHeartbeats 80000000
set_option maxRecDepth 100000
namespace Go.Proofs.YtocdogemgojgaaaGreat
open Go.RowKit
attribute [local go_sem ↓] Go.wp_at_zero Go.wp_at_succ
theorem cntL_set2 {α:Type}[GoM α]:∀{l:List α} {k:Nat} {x y:α},l[k]? =some x->cntL (l.set k y)+GoM.cnt x=cntL l+GoM.cnt y
 |[],k,x,y,h=>by simp at h
 |z::l,0,x,y,h=>by simp at h;subst h;simp[cntL];omega
 |z::l,k+1,x,y,h=>by simp at h;have:=cntL_set2 (y:=y) h;simp only[List.set_cons_succ,cntL];omega
theorem hubSubmit_cnt (z:DHub)(name:ByteArray)(client seq base:Int)(o:List DPart):cntL (hubSubmit z name client seq base o).1.docs+cntL (hubSubmit z name client seq base o).1.subs<=10*(szL z.docs+szL z.subs)+5000000:=by
 have h0:=hub_cnt z;cases h:hubOk z
 ·rw[hubSubmit_no h];simp[hub0,cntL]
 cases j:z.shut;rotate_left
 ·rw[hubSubmit_shut h j];simp[hub0,cntL]
 by_cases u:hubDoc z name<0
 ·rw[hubSubmit_doc h j u];simp[hub0,cntL]
 obtain⟨k,d,q,hd⟩:=hubDoc_get u;by_cases n:(submit d client seq base o).2.2=0
 rotate_left
 ·rw[hubSubmit_code h j q hd n];simp[hub0,cntL]
 have M:=cntL_set2 (y:=(submit d client seq base o).1) hd;have N:=submit_cnt d client seq base o;have Q:GoM.cnt (submit d client seq base o).1=2+cntL (submit d client seq base o).1.text+cntL (submit d client seq base o).1.list+cntL (submit d client seq base o).1.seen:=rfl;have R:=szL_mem (List.mem_of_getElem? hd);have U:GoS.sz d=d.name.size+szL d.text+szL d.list+szL d.seen:=rfl;have e9:=cntL_le z.subs;have B:=cntL_le z.docs;by_cases p:headRev (submit d client seq base o).1=headRev d
 ·rw[hubSubmit_same h j q hd n p];simp only;omega
 ·rw[hubSubmit_yes h j q hd n p];obtain⟨_,ho,J⟩:=submit_cases n;have I:(rebase d base o).2=0:=J.elim (fun e=>absurd (by rw[e]) p) (fun e=>e.1)
  have hz:szL (entry1 client seq (rebase d base o).1).o<=120600:=by
   have a:=opOk_iff'.1 (rebase_ok I).1;have:=parts_szL a.1;show szL (rebase d base o).1<=_;omega
  have Y:=cntL_map_push name (entry1 client seq (rebase d base o).1) z.subs;have D:=(hubOk_iff.1 h).ns;have Z:z.subs.length*(15+5*szL (entry1 client seq (rebase d base o).1).o)<=6*603015:=Nat.mul_le_mul D (by omega)
  simp only;omega
theorem impl_HubSubmit_c (z:DHub)(q u:Value)(name:ByteArray)(client seq base:Int)(vo:Value)(o:List DPart)(w:World)(h_docs:RdS w q z.docs)(h_subs:RdS w u z.subs)(ho:RdS w vo o):Calls Tryz.prog 44 #[.agg #[.bool z.shut,q,u,.int .i64 z.last],.string name,.int .i64 client,.int .i64 seq,.int .i64 base,vo] w (Out_Hub_i_i w (hubSubmit z name client seq base o).1 (hubSubmit z name client seq base o).2.1 (hubSubmit z name client seq base o).2.2):=by
 have hOK:=fun(W':World) (a:RdS W' q z.docs) (b:RdS W' u z.subs)=>impl_HubOk_c z q u W' a b
 have hCP:=fun(W':World) (a:RdS W' q z.docs) (b:RdS W' u z.subs) (c:HubSz z)=>impl_copyHub_c z q u W' a b c
 have hF0:=fun(W':World) (a:RdS W' q z.docs)=>impl_HubDoc_c z q u name W' a
 obtain⟨sh,hsh⟩:∃sh:Bool,z.shut=sh:=⟨_,rfl⟩;simp only[hsh]at hOK hCP hF0;rw[hsh];have HOK:=hH hOK;have HCP:=hH hCP;have HF0:=hH hF0;clear hOK hCP hF0;go_enter Tryz.func44,Tryz.ntmps44
 go_wp2_with fail
 refine(HF0.out _ (h_docs.below (((lf w.heap.size w).alloc om _).alloc om _))).mono ?_;rintro e' w1 ⟨rfl,hb1⟩;have s1:w.heap.size+2<=w1.heap.size:=by have:=hb1.size;(try simp at this);omega
 have D:=hH ((((lf w.heap.size w).alloc om _).alloc om _).trans (hb1.mono om));have J:Hid (Bx w1 (w.heap.size) [.bool sh,q,u,.int .i64 z.last]):=hH (((Bx.new (by first|rfl|simp|omega)).alloc _).at hb1)
 obtain⟨Zz,a4,Z,a5,a6⟩:=J.out.o4;have I:Hid (Bx w1 (w.heap.size+1) [.bool false,.slice none 0 0,.slice none 0 0,.int .i64 0]):=hH ((Bx.new (by first|rfl|simp|omega)).at hb1)
 have Kr:=I.out.q4;clear hb1;go_wp2_with fail
 refine(HOK.out _ (h_docs.below D.out) (h_subs.below D.out)).mono ?_;rintro e' w2 ⟨rfl,hb2⟩;have s2:w1.heap.size<=w2.heap.size:=by have:=hb2.size;(try simp at this);omega
 replace D:=hH (D.out.trans (hb2.mono om));replace J:=hH (J.out.at hb2);clear Zz a4 Z a5 a6;obtain⟨Zz,a4,Z,a5,a6⟩:=J.out.o4;replace I:=hH (I.out.at hb2);replace Kr:=I.out.q4;clear hb2;by_cases h1:hubOk z=true
 rotate_left
 ·have h1:hubOk z=false:=by simpa using h1
  rw[h1];have HV:=hH (hubSubmit_no (name:=name) (client:=client) (seq:=seq) (base:=base) (o:=o) h1);go_wp2;rw[HV.out];exact bodyPost_ret (v:= .tuple #[.agg #[.bool false,.slice none 0 0,.slice none 0 0,.int .i64 0],.int .i64 0,.int .i64 1]) (by simp[results,Tryz.results44,go_sem,cell_setCell, *]) rfl (out_hub0_i_i (bset4 D.out om))
 rw[h1];have HZ:=hH (hubSz h1);cases sh;rotate_left
 ·have HV:=hH (hubSubmit_shut (name:=name) (client:=client) (seq:=seq) (base:=base) (o:=o) h1 hsh);go_wp2;rw[HV.out];exact bodyPost_ret (v:= .tuple #[.agg #[.bool false,.slice none 0 0,.slice none 0 0,.int .i64 0],.int .i64 0,.int .i64 12]) (by simp[results,Tryz.results44,go_sem,cell_setCell, *]) rfl (out_hub0_i_i (bset4 D.out om))
 by_cases h3:hubDoc z name<0
 ·have HV:=hH (hubSubmit_doc (name:=name) (client:=client) (seq:=seq) (base:=base) (o:=o) h1 hsh h3);go_wp2;rw[HV.out];exact bodyPost_ret (v:= .tuple #[.agg #[.bool false,.slice none 0 0,.slice none 0 0,.int .i64 0],.int .i64 0,.int .i64 6]) (by simp[results,Tryz.results44,go_sem,cell_setCell, *]) rfl (out_hub0_i_i (bset4 D.out om))
 obtain⟨k,d,hk,hd⟩:=hubDoc_get h3;have HK:=hH hk;have HD:=hH hd;have bs:=(hubOk_iff.1 h1).ns;obtain⟨bh0,bh1,bf0,bf1⟩:=headRev_bd ((hubOk_iff.1 h1).doc (List.mem_of_getElem? hd));have kl:=(lg.1 hd).1;have bd_:=(hubOk_iff.1 h1).nd;have bll:=(docOk_iff.1 ((hubOk_iff.1 h1).doc (List.mem_of_getElem? hd))).len;rw[hk];clear hk hd h3;obtain⟨x,rev,code,hsub⟩:∃x rev code,submit d client seq base o=(x,rev,code):=⟨_,_,_,rfl⟩;have hSM:=fun(W':World) (vt vl vz:Value) (nd:d.name.size<=BIG) (a:RdS W' vt d.text) (b:RdS W' vl d.list) (c:RdS W' vz d.seen) (f:RdS W' vo o)=>(by have:=impl_Submit_c d vt vl vz client seq base vo o W' nd a b c f;rw[hsub]at this;exact this:Calls Tryz.prog 108 #[.agg #[.string d.name,.int .i64 d.from_,vt,vl,vz],.int .i64 client,.int .i64 seq,.int .i64 base,vo] W' (Out_Doc_i_i W' x rev code))
 have HSM:=hH hSM;clear hSM;obtain⟨b1,o1,cs,g1,g2,g3⟩:=(h_docs.below D.out).idx Tryz.underlying23 szi_DDoc k HD.out;obtain⟨d_text,d_list,d_seen,rfl,nd,r_text,r_list,r_seen⟩:=inv_DDoc g3;have q0:=g2.zero;have q1:=g2 1 _ rfl;have q2:=g2 2 _ rfl;have q3:=g2 3 _ rfl;have q4:=g2 4 _ rfl;have l1:b1<w2.heap.size:=lk (w:=w2) (a:=⟨b1,o1,none⟩) q0;obtain⟨at_,ct,rfl⟩:=r_text.isSlice
 obtain⟨al,cl,rfl⟩:=r_list.isSlice;obtain⟨az,cz,rfl⟩:=r_seen.isSlice;clear g2 g3;have HRL:=hH r_list;have HQ0:=hH q0;have HQ1:=hH q1;have HQ2:=hH q2;have HQ3:=hH q3;have HQ4:=hH q4;have HV2:Hid (Below w2.heap.size w2 w2):=hH (lf _ _);go_wp2_with fail
 refine(HSM.out _ _ _ _ nd r_text r_list r_seen (ho.below D.out)).mono ?_;rintro e' w3 ⟨vt,vl,vz,ft,fl,fz,rfl,sT,sL,sZ,nx,hfr,hb3⟩;obtain⟨a0,a2,rfl⟩:=sT.isS;obtain⟨a7,a8,exl⟩:=sL.isS;subst exl;obtain⟨a1,a3,rfl⟩:=sZ.isS;have a9:Hid (DocLow (w2.heap.size) (w3.heap.size) w3 (.slice a0 x.text.length a2) (.slice a7 x.list.length a8) (.slice a1 x.seen.length a3) x):=hH ⟨ft,fl,fz,sT,sL,sZ,hfr,Live.lt (Live.append.2 ⟨sT.live,Live.append.2 ⟨sL.live,sZ.live⟩⟩)⟩;clear sT sL sZ hfr q0 q1 q2 q3 q4 r_text r_list r_seen;have s3:w2.heap.size<=w3.heap.size:=by have:=hb3.size;(try simp at this);omega
 replace D:=hH (D.out.trans (hb3.mono om));replace HV2:Hid (Below w2.heap.size w2 w3):=hH ((HV2.out.trans (hb3.mono om)));replace J:=hH (J.out.at hb3);clear Zz a4 Z a5 a6;obtain⟨Zz,a4,Z,a5,a6⟩:=J.out.o4;replace I:=hH (I.out.at hb3);replace Kr:=I.out.q4;clear hb3;by_cases hc:code=0
 rotate_left
 ·have HV:Hid (hubSubmit z name client seq base o=(hub0,0,code)):=hH (by have:=hubSubmit_code (name:=name) (client:=client) (seq:=seq) (base:=base) (o:=o) h1 hsh HK.out HD.out (by rw[hsub];exact hc);rw[hsub]at this;exact this)
  have hcb:(code==0)=false:=by simpa using hc
  clear hc hsub g1;go_wp2;have HB:Hid (Below w.heap.size w (((((w3.setCell ⟨w.heap.size+1,0,none⟩ (.bool false)).setCell ⟨w.heap.size+1,1,none⟩ (.slice none 0 0)).setCell ⟨w.heap.size+1,2,none⟩ (.slice none 0 0)).setCell ⟨w.heap.size+1,3,none⟩ (.int .i64 0)).alloc (.cells #[.string x.name,.int .i64 x.from_,.slice a0 x.text.length a2,.slice a7 x.list.length a8,.slice a1 x.seen.length a3] 99))):=hH (((((D.out.setCell (p:=⟨w.heap.size+1,0,none⟩) om _).setCell (p:=⟨w.heap.size+1,1,none⟩) om _).setCell (p:=⟨w.heap.size+1,2,none⟩) om _).setCell (p:=⟨w.heap.size+1,3,none⟩) om _).alloc om _);rw[HV.out];exact bodyPost_ret (v:= .tuple #[.agg #[.bool false,.slice none 0 0,.slice none 0 0,.int .i64 0],.int .i64 0,.int .i64 code]) (by simp[results,Tryz.results44,go_sem,cell_setCell, *]) rfl (out_hub0_i_i HB.out)
 subst hc;have hsc:=submit_cases (d:=d) (client:=client) (seq:=seq) (base:=base) (o:=o) (by rw[hsub])
 simp only[hsub]at hsc;obtain⟨hdo,hoo,hx⟩:=hsc;have hxf: -9000000000000000000<=x.from_/\x.from_<=9000000000000000000:=by
  rcases hx with h|⟨_,_,h⟩
  ·rw[h];omega
  ·rw[h];have:=commit_from d client seq (rebase d base o).1;omega
 obtain⟨xf0,xf1⟩:=hxf;have HX:=hH hx;have HSU:=hH hsub;clear hdo hoo hx hsub;go_wp2_with fail
 refine(HCP.out _ (h_docs.below (D.out.alloc om _)) (h_subs.below (D.out.alloc om _)) HZ.out).mono ?_;rintro e' w4 ⟨_,rfl,ho4,hb4⟩;obtain⟨vd,vs,rfl,hown⟩:=HubOwn.of_own ho4;rw[hsh];obtain⟨ad,cd,rfl⟩:=hown.rd1.isSlice;obtain⟨Q,R,rfl⟩:=hown.rd2.isSlice;have HOWN:=hH (hown.mono (C':=w3.heap.size+1) om);clear ho4 hown;have s4:w3.heap.size+1<=w4.heap.size:=by have:=hb4.size;(try simp at this);omega
 replace D:=hH ((D.out.alloc om _).trans (hb4.mono om));replace HV2:Hid (Below w2.heap.size w2 w4):=hH (((HV2.out.alloc om _).trans (hb4.mono om)));replace a9:Hid (DocLow (w2.heap.size) (w3.heap.size) w4 (.slice a0 x.text.length a2) (.slice a7 x.list.length a8) (.slice a1 x.seen.length a3) x):=hH (((a9.out.alloc om _).below (hb4.mono om)));replace J:=hH ((J.out.alloc _).at hb4);clear Zz a4 Z a5 a6;obtain⟨Zz,a4,Z,a5,a6⟩:=J.out.o4;replace I:=hH ((I.out.alloc _).at hb4);replace Kr:=I.out.q4;have N:Hid (Bx w4 (w3.heap.size) [.string x.name,.int .i64 x.from_,.slice a0 x.text.length a2,.slice a7 x.list.length a8,.slice a1 x.seen.length a3]):=hH ((Bx.new (by first|rfl|simp|omega)).at hb4)
 obtain⟨Zx,Kx0,Kx1,Kx2,Kx3,Kx4⟩:=N.out.o5;clear hb4;go_upto_region 12 with(fail)
 obtain⟨V,hV⟩:∃V:World,V=(w4.alloc (.cells #[.bool false,.slice ad z.docs.length cd,.slice Q z.subs.length R,.int .i64 z.last] 26)):=⟨_,rfl⟩;have sV:w4.heap.size+1<=V.heap.size:=by rw[hV];first|(simp;done)|(simp;omega)
 replace D:Hid (Below w.heap.size w V):=hH (by rw[hV];exact(D.out.alloc om _))
 replace HV2:Hid (Below w2.heap.size w2 V):=hH (by rw[hV];exact(HV2.out.alloc om _))
 replace a9:Hid (DocLow (w2.heap.size) (w3.heap.size) V (.slice a0 x.text.length a2) (.slice a7 x.list.length a8) (.slice a1 x.seen.length a3) x):=hH (by rw[hV];exact(a9.out.alloc om _))
 replace HOWN:Hid (HubOwn (w3.heap.size+1) (w4.heap.size) V (.slice ad z.docs.length cd) (.slice Q z.subs.length R) (z.docs) (z.subs)):=hH (by rw[hV];exact(HOWN.out.alloc om _))
 replace J:Hid (Bx V (w.heap.size) [.bool false,q,u,.int .i64 z.last]):=hH (by rw[hV];exact(J.out.alloc _))
 clear Zz a4 Z a5 a6;obtain⟨Zz,a4,Z,a5,a6⟩:=J.out.o4;replace I:Hid (Bx V (w.heap.size+1) [.bool false,.slice none 0 0,.slice none 0 0,.int .i64 0]):=hH (by rw[hV];exact(I.out.alloc _))
 replace Kr:=I.out.q4;replace N:Hid (Bx V (w3.heap.size) [.string x.name,.int .i64 x.from_,.slice a0 x.text.length a2,.slice a7 x.list.length a8,.slice a1 x.seen.length a3]):=hH (by rw[hV];exact(N.out.alloc _))
 clear Zx Kx0 Kx1 Kx2 Kx3 Kx4;obtain⟨Zx,Kx0,Kx1,Kx2,Kx3,Kx4⟩:=N.out.o5;have aa:Hid (Bx V (w4.heap.size) [.bool false,.slice ad z.docs.length cd,.slice Q z.subs.length R,.int .i64 z.last]):=hH (by rw[hV];exact(Bx.new (by first|rfl|simp|omega)))
 have Ko:=aa.out.o4;rw[<-hV];clear hV;obtain⟨b2,o2,u0,u1,u2,u3,u4,j1,j2,j3,j4,j5,j6,j7,j8⟩:=HOWN.out.dset a9.out (by omega) (by omega) (by omega) (lr _) nx Tryz.underlying23 szi_DDoc HD.out
 have y0:V.cell? ⟨b2,o2,none⟩=some u0:=j5.zero;have x0:V.frozen? ⟨b2,o2,none⟩=false:=j6 0 (by omega)
 have y1:V.cell? ⟨b2,o2+1,none⟩=some u1:=j5 1 _ rfl;have x1:V.frozen? ⟨b2,o2+1,none⟩=false:=j6 1 (by omega)
 have y2:V.cell? ⟨b2,o2+2,none⟩=some u2:=j5 2 _ rfl;have x2:V.frozen? ⟨b2,o2+2,none⟩=false:=j6 2 (by omega)
 have y3:V.cell? ⟨b2,o2+3,none⟩=some u3:=j5 3 _ rfl;have x3:V.frozen? ⟨b2,o2+3,none⟩=false:=j6 3 (by omega)
 have y4:V.cell? ⟨b2,o2+4,none⟩=some u4:=j5 4 _ rfl;have x4:V.frozen? ⟨b2,o2+4,none⟩=false:=j6 4 (by omega)
 have HNE:=hH j8;have HRB:=hH j7;clear j5 j6 j7 j8 HOWN;go_upto_region 13 with(fail)
 obtain⟨U,hU⟩:∃U:World,U=(((((V.setCell ⟨b2,o2,none⟩ (.string x.name)).setCell ⟨b2,o2+1,none⟩ (.int .i64 x.from_)).setCell ⟨b2,o2+2,none⟩ (.slice a0 x.text.length a2)).setCell ⟨b2,o2+3,none⟩ (.slice a7 x.list.length a8)).setCell ⟨b2,o2+4,none⟩ (.slice a1 x.seen.length a3)):=⟨_,rfl⟩;have sU:V.heap.size<=U.heap.size:=by rw[hU];first|(simp;done)|(simp;omega)
 replace D:Hid (Below w.heap.size w U):=hH (by rw[hU];exact(((((D.out.setCell (p:=⟨b2,o2,none⟩) om _).setCell (p:=⟨b2,o2+1,none⟩) om _).setCell (p:=⟨b2,o2+2,none⟩) om _).setCell (p:=⟨b2,o2+3,none⟩) om _).setCell (p:=⟨b2,o2+4,none⟩) om _))
 replace HV2:Hid (Below w2.heap.size w2 U):=hH (by rw[hU];exact(((((HV2.out.setCell (p:=⟨b2,o2,none⟩) om _).setCell (p:=⟨b2,o2+1,none⟩) om _).setCell (p:=⟨b2,o2+2,none⟩) om _).setCell (p:=⟨b2,o2+3,none⟩) om _).setCell (p:=⟨b2,o2+4,none⟩) om _))
 replace a9:Hid (DocLow (w2.heap.size) (w3.heap.size) U (.slice a0 x.text.length a2) (.slice a7 x.list.length a8) (.slice a1 x.seen.length a3) x):=hH (by rw[hU];exact(((((a9.out.setCell (by omega) _).setCell (by omega) _).setCell (by omega) _).setCell (by omega) _).setCell (by omega) _))
 replace J:Hid (Bx U (w.heap.size) [.bool false,q,u,.int .i64 z.last]):=hH (by rw[hU];exact(((((J.out.setO om).setO om).setO om).setO om).setO om))
 clear Zz a4 Z a5 a6;obtain⟨Zz,a4,Z,a5,a6⟩:=J.out.o4;replace I:Hid (Bx U (w.heap.size+1) [.bool false,.slice none 0 0,.slice none 0 0,.int .i64 0]):=hH (by rw[hU];exact(((((I.out.setO om).setO om).setO om).setO om).setO om))
 replace Kr:=I.out.q4;replace N:Hid (Bx U (w3.heap.size) [.string x.name,.int .i64 x.from_,.slice a0 x.text.length a2,.slice a7 x.list.length a8,.slice a1 x.seen.length a3]):=hH (by rw[hU];exact(((((N.out.setO om).setO om).setO om).setO om).setO om))
 clear Zx Kx0 Kx1 Kx2 Kx3 Kx4;obtain⟨Zx,Kx0,Kx1,Kx2,Kx3,Kx4⟩:=N.out.o5;replace aa:Hid (Bx U (w4.heap.size) [.bool false,.slice ad z.docs.length cd,.slice Q z.subs.length R,.int .i64 z.last]):=hH (by rw[hU];exact(((((aa.out.setO om).setO om).setO om).setO om).setO om))
 replace Ko:=aa.out.o4;have HNU:Hid (HubNe (w4.heap.size) (w2.heap.size) U (.slice ad z.docs.length cd) (.slice Q z.subs.length R) (z.docs.set k x) (z.subs)):=hH (by rw[hU];exact HNE.out)
 rw[<-hU];clear hU;clear HNE j1 y0 y1 y2 y3 y4 x0 x1 x2 x3 x4;have q0:U.cell? ⟨b1,o1,none⟩=some (.string d.name):=(HV2.out.cell (p:=⟨b1,o1,none⟩) l1).trans HQ0.out;have q1:U.cell? ⟨b1,o1+1,none⟩=some (.int .i64 d.from_):=(HV2.out.cell (p:=⟨b1,o1+1,none⟩) l1).trans HQ1.out;have q2:U.cell? ⟨b1,o1+2,none⟩=some (.slice at_ d.text.length ct):=(HV2.out.cell (p:=⟨b1,o1+2,none⟩) l1).trans HQ2.out
 have q3:U.cell? ⟨b1,o1+3,none⟩=some (.slice al d.list.length cl):=(HV2.out.cell (p:=⟨b1,o1+3,none⟩) l1).trans HQ3.out;have q4:U.cell? ⟨b1,o1+4,none⟩=some (.slice az d.seen.length cz):=(HV2.out.cell (p:=⟨b1,o1+4,none⟩) l1).trans HQ4.out;have l1U:b1<U.heap.size:=by omega
 obtain⟨X,hX,F,hF,hFs⟩:=fam_of U;obtain⟨fKx0,fKx1,fKx2,fKx3,fKx4⟩:=mx5 hF Zx Kx0 Kx1 Kx2 Kx3 Kx4;have fKz1:∀x,(F x).cell? ⟨w.heap.size,1,none⟩=some (q):=fun x=>((hF x).cell (p:=⟨w.heap.size,1,none⟩) Zz).trans Z
 have fq0:∀x,(F x).cell? ⟨b1,o1,none⟩=some (.string d.name):=fun x=>((hF x).cell (p:=⟨b1,o1,none⟩) l1U).trans q0
 obtain⟨fq1,fq2,fq3,fq4⟩:=mx4 hF l1U q1 q2 q3 q4;have HF:=hH hF;have HFs:=hH hFs;clear hF hFs;have HA:=hH (fun(W':World) (hb:Below U.heap.size U W')=>(by have:=impl_HeadRev_c x (.slice a0 x.text.length a2) _ (.slice a1 x.seen.length a3) _ (a9.out.rdL.below hb) (by omega) (by omega);exact this:Calls Tryz.prog 60 #[.agg #[.string x.name,.int .i64 x.from_,.slice a0 x.text.length a2,.slice a7 x.list.length a8,.slice a1 x.seen.length a3]] W' (Tells W' (.int .i64 (headRev x)))))
 have HB:=hH (fun(W':World) (hb:Below U.heap.size U W')=>(by have:=impl_HeadRev_c d (.slice at_ d.text.length ct) _ (.slice az d.seen.length cz) _ ((HRL.out.below HV2.out).below hb) (by omega) (by omega);exact this:Calls Tryz.prog 60 #[.agg #[.string d.name,.int .i64 d.from_,.slice at_ d.text.length ct,.slice al d.list.length cl,.slice az d.seen.length cz]] W' (Tells W' (.int .i64 (headRev d)))))
 refine wp_region_fam (F:=F) (by kernel_rfl) (by kernel_rfl) (HFs.out _ (lf _ _).drew) ?_
 repeat(go_big_quiet_step ((first|(go_at_call 60;(with_reducible exact Calls.fam_tells HF.out HFs.out (HA.out _ (HF.out _))))|(go_at_call 60;(with_reducible exact Calls.fam_tells HF.out HFs.out (HB.out _ (HF.out _)))))))
 refine wpQuiet_nil ?_;intro xq;obtain⟨w7,hwx⟩:∃wx:World,F xq=wx:=⟨_,rfl⟩;have B7:Below U.heap.size U w7:=by rw[<-hwx];exact HF.out xq
 rw[hwx];clear hwx fKx0 fKx1 fKx2 fKx3 fKx4 fKz1 fq0 fq1 fq2 fq3 fq4 HF HFs;clear q0 q1 q2 q3 q4 l1U g1 HQ0 HQ1 HQ2 HQ3 HQ4;have s7:U.heap.size<=w7.heap.size:=by have:=B7.size;(try simp at this);omega
 replace D:=hH (D.out.trans (B7.mono om));replace a9:Hid (DocLow (w2.heap.size) (w3.heap.size) w7 (.slice a0 x.text.length a2) (.slice a7 x.list.length a8) (.slice a1 x.seen.length a3) x):=hH ((a9.out.below (B7.mono om)));replace HNU:Hid (HubNe (w4.heap.size) (w2.heap.size) w7 (.slice ad z.docs.length cd) (.slice Q z.subs.length R) (z.docs.set k x) (z.subs)):=hH ((HNU.out.below B7));replace J:=hH (J.out.at B7);clear Zz a4 Z a5 a6;obtain⟨Zz,a4,Z,a5,a6⟩:=J.out.o4;replace I:=hH (I.out.at B7);replace Kr:=I.out.q4;replace N:=hH (N.out.at B7);clear Zx Kx0 Kx1 Kx2 Kx3 Kx4;obtain⟨Zx,Kx0,Kx1,Kx2,Kx3,Kx4⟩:=N.out.o5;replace aa:=hH (aa.out.at B7);replace Ko:=aa.out.o4;clear B7 HV2;by_cases he:headRev x=headRev d
 ·have HV:Hid (hubSubmit z name client seq base o=(⟨false,z.docs.set k x,z.subs,z.last⟩,rev,0)):=hH (by have:=hubSubmit_same (name:=name) (client:=client) (seq:=seq) (base:=base) (o:=o) h1 hsh HK.out HD.out (by rw[HSU.out]) (by rw[HSU.out];exact he);rw[HSU.out]at this;exact this)
  have heb:(headRev x==headRev d)=true:=by simpa using he
  have hed:¬headRev d<headRev x:=by omega
  have hed2:decide (headRev d<headRev x)=false:=by simpa using hed
  clear he;go_upto_region 20 with(fail)
  obtain⟨Y,hY⟩:∃Y:World,Y=w7:=⟨_,rfl⟩;have sY:w7.heap.size<=Y.heap.size:=by rw[hY];first|(simp;done)|(simp;omega)
  replace D:Hid (Below w.heap.size w Y):=hH (by rw[hY];exact D.out)
  replace a9:Hid (DocLow (w2.heap.size) (w3.heap.size) Y (.slice a0 x.text.length a2) (.slice a7 x.list.length a8) (.slice a1 x.seen.length a3) x):=hH (by rw[hY];exact a9.out)
  replace HNU:Hid (HubNe (w4.heap.size) (w2.heap.size) Y (.slice ad z.docs.length cd) (.slice Q z.subs.length R) (z.docs.set k x) (z.subs)):=hH (by rw[hY];exact HNU.out)
  replace J:Hid (Bx Y (w.heap.size) [.bool false,q,u,.int .i64 z.last]):=hH (by rw[hY];exact J.out)
  clear Zz a4 Z a5 a6;obtain⟨Zz,a4,Z,a5,a6⟩:=J.out.o4;replace I:Hid (Bx Y (w.heap.size+1) [.bool false,.slice none 0 0,.slice none 0 0,.int .i64 0]):=hH (by rw[hY];exact I.out)
  replace Kr:=I.out.q4;replace N:Hid (Bx Y (w3.heap.size) [.string x.name,.int .i64 x.from_,.slice a0 x.text.length a2,.slice a7 x.list.length a8,.slice a1 x.seen.length a3]):=hH (by rw[hY];exact N.out)
  clear Zx Kx0 Kx1 Kx2 Kx3 Kx4;obtain⟨Zx,Kx0,Kx1,Kx2,Kx3,Kx4⟩:=N.out.o5;replace aa:Hid (Bx Y (w4.heap.size) [.bool false,.slice ad z.docs.length cd,.slice Q z.subs.length R,.int .i64 z.last]):=hH (by rw[hY];exact aa.out)
  replace Ko:=aa.out.o4;rw[<-hY];clear hY;have HH:=hH (((((HNU.out.setCell (by omega) _).setCell (by omega) _).setCell (by omega) _).setCell (by omega) _):HubNe (w4.heap.size) (w2.heap.size) ((((Y.setCell ⟨w.heap.size+1,0,none⟩ (.bool false)).setCell ⟨w.heap.size+1,1,none⟩ (.slice ad z.docs.length cd)).setCell ⟨w.heap.size+1,2,none⟩ (.slice Q z.subs.length R)).setCell ⟨w.heap.size+1,3,none⟩ (.int .i64 z.last)) (.slice ad z.docs.length cd) (.slice Q z.subs.length R) (z.docs.set k x) (z.subs))
  repeat go_step
  rw[HV.out];exact bodyPost_ret (v:= .tuple #[.agg #[.bool false,.slice ad z.docs.length cd,.slice Q z.subs.length R,.int .i64 z.last],.int .i64 rev,.int .i64 0]) (by simp[results,Tryz.results44,go_sem,cell_setCell, *]) rfl (HubNe.out_i_i (y:=⟨false,z.docs.set k x,z.subs,z.last⟩) HH.out (by omega) (bset4 D.out om))
 have hx2:(rebase d base o).2=0/\headRev d<999999000/\x=commit d client seq (rebase d base o).1:=HX.out.elim (fun h=>absurd (by rw[h]) he) id
 obtain⟨hr0,hhr,hxc⟩:=hx2;have hxo:=opOk_iff'.1 (rebase_ok hr0).1;have hxz:=parts_szL hxo.1;obtain⟨e,hE⟩:∃e,entry1 client seq (rebase d base o).1=e:=⟨_,rfl⟩;have hez:szL e.o<=3999999:=by rw[<-hE];show szL (rebase d base o).1<=_;omega
 obtain⟨n,hn0,hn1,hn2,hn3⟩:=commit_last d client seq (rebase d base o).1;rw[<-hxc]at hn1 hn2 hn3;rw[hE]at hn2;have hwl:IntKind.i64.wrap ((x.list.length:Int)-1)=(n:Int):=by rw[show(x.list.length:Int)-1=n by omega];exact IntWalk.i64_in _ (by omega)
 have HV:Hid (hubSubmit z name client seq base o=(⟨false,z.docs.set k x,z.subs.map (pushS name e),z.last⟩,rev,0)):=hH (by have:=hubSubmit_yes (name:=name) (client:=client) (seq:=seq) (base:=base) (o:=o) h1 hsh HK.out HD.out (by rw[HSU.out]) (by rw[HSU.out];exact he);rw[HSU.out]at this;rw[hE]at this;exact this)
 have heb:(headRev x==headRev d)=false:=by simpa using he
 have hed:headRev d<headRev x:=by omega
 have hed2:decide (headRev d<headRev x)=true:=by simpa using hed
 have HNN:=hH hn2;have HRI:Hid (∀s∈z.subs,szL s.r.list<=4000000):=hH fun s hs=>(ringOk_sz ((hubOk_iff.1 h1).ring hs)).1
 clear he hxc hE hn1 hn2 hn3 hxo hxz hr0 hhr;rw[hed2];have hls:=fun w1 ty=>HNU.out.rd2.len Tryz.underlying24 w1 ty
 go_wp2_with fail
 go_loopw [75] (fun i wr=>∃m:Nat,m<=z.subs.length/\i= .int .i64 m/\HubNe (w4.heap.size) (w2.heap.size) wr (.slice ad z.docs.length cd) (.slice Q z.subs.length R) (z.docs.set k x) (pushTo z.subs name e m)/\Wr (rowP (GoT.n DSub) (.slice Q z.subs.length R)) w7 wr) (fun i _=>z.subs.length-(intOf i).toNat)
 case atStart=>exact⟨0,lz _,rfl,by rw[pushTo_zero];exact HNU.out,Wr.refl _ _⟩
 case round=>
  obtain⟨m,hm,rfl,hne,hwr⟩:=hrel;have hsz:=hwr.size;have HNW:=hH hne;have HWR:=hH hwr;clear hne hwr HNU;have s40:w7.heap.size<=wr.heap.size:=by have:=HWR.out.size;(try simp at this);omega
  replace D:Hid (Below w.heap.size w wr):=hH (D.out.trans (HWR.out.below (by omega) (fun p hp=>by have:=HRB.out p hp;omega)))
  replace a9:Hid (DocLow (w2.heap.size) (w3.heap.size) wr (.slice a0 x.text.length a2) (.slice a7 x.list.length a8) (.slice a1 x.seen.length a3) x):=hH (a9.out.below (HWR.out.below (B:=w3.heap.size) (by omega) (fun p hp=>by have:=HRB.out p hp;omega)))
  replace J:Hid (Bx wr (w.heap.size) [.bool false,q,u,.int .i64 z.last]):=hH (J.out.wr HWR.out (fun p hp e=>by have:=HRB.out p hp;omega))
  clear Zz a4 Z a5 a6;obtain⟨Zz,a4,Z,a5,a6⟩:=J.out.o4;replace I:Hid (Bx wr (w.heap.size+1) [.bool false,.slice none 0 0,.slice none 0 0,.int .i64 0]):=hH (I.out.wr HWR.out (fun p hp e=>by have:=HRB.out p hp;omega))
  replace Kr:=I.out.q4;replace N:Hid (Bx wr (w3.heap.size) [.string x.name,.int .i64 x.from_,.slice a0 x.text.length a2,.slice a7 x.list.length a8,.slice a1 x.seen.length a3]):=hH (N.out.wr HWR.out (fun p hp e=>by have:=HRB.out p hp;omega))
  clear Zx Kx0 Kx1 Kx2 Kx3 Kx4;obtain⟨Zx,Kx0,Kx1,Kx2,Kx3,Kx4⟩:=N.out.o5;replace aa:Hid (Bx wr (w4.heap.size) [.bool false,.slice ad z.docs.length cd,.slice Q z.subs.length R,.int .i64 z.last]):=hH (aa.out.wr HWR.out (fun p hp e=>by have:=HRB.out p hp;omega))
  replace Ko:=aa.out.o4;by_cases hlt:m<z.subs.length
  ·obtain⟨s,hs⟩:=get_some hlt;have hg:=pushTo_get name e hs;obtain⟨M,o4,as4,cs4,j1,l4,j3,j4,j5,j6,j7⟩:=HNW.out.sset (by omega) (by omega) Tryz.underlying24 szi_DSub hg
   have HRS:=hH j4;have HJ3:=hH j3;have HJ6:=hH j6;have HJ7:=hH j7;have HS:=hH hs;have t0:=j3.zero;have t1:=j3 1 _ rfl;have t2:=j3 2 _ rfl;have t3:=j3 3 _ rfl;have t4:=j3 4 _ rfl;have t5:=j3 5 _ rfl;have y2:wr.cell? ⟨M,o4+2,none⟩=some (.int .i64 s.r.cap):=j3 2 _ rfl;have x2:wr.frozen? ⟨M,o4+2,none⟩=false:=j5 2 (by omega)
   have y3:wr.cell? ⟨M,o4+2+1,none⟩=some (.int .i64 s.r.next):=j3 3 _ rfl;have x3:wr.frozen? ⟨M,o4+2+1,none⟩=false:=j5 3 (by omega)
   have y4:wr.cell? ⟨M,o4+2+2,none⟩=some (.bool s.r.out):=j3 4 _ rfl;have x4:wr.frozen? ⟨M,o4+2+2,none⟩=false:=j5 4 (by omega)
   have y5:wr.cell? ⟨M,o4+2+3,none⟩=some (.slice as4 s.r.list.length cs4):=j3 5 _ rfl;have x5:wr.frozen? ⟨M,o4+2+3,none⟩=false:=j5 5 (by omega)
   have hl2:(m:Int)<(z.subs.length:Int):=by omega
   have hq1:=HRI.out s (List.mem_of_getElem? hs);clear j3 j4 j5 j6 j7 hg hs;by_cases hn:s.doc=name
   rotate_left
   ·have hnb:(s.doc.toList==name.toList)=false:=str_f hn;have HN:=hH hn;clear hn;go_wp2;go_roundw
    case rel=>exact⟨m+1,by omega,by go_num,by rw[pushTo_same HS.out HN.out];exact HNW.out.below ((lf _ _).alloc (lr _) _),HWR.out.trans (Wr.of_below ((lf _ _).alloc (lr _) _))⟩
    case measure=>simp[intOf];omega
   have hnb:(s.doc.toList==name.toList)=true:=str_t hn;have HN:=hH hn;clear hn;obtain⟨rp,hrp⟩:∃rp,ringPush s.r e=rp:=⟨_,rfl⟩;have hPU:=fun(W':World) (vv vu:Value) (a:RdS W' vv s.r.list) (b:RdS W' vu e.o)=>(by have:=impl_RingPush_c s.r e vv vu W' a b hq1 hez;rw[hrp]at this;exact this:Calls Tryz.prog 109 #[.agg #[.int .i64 s.r.cap,.int .i64 s.r.next,.bool s.r.out,vv],.agg #[.int .i64 e.client,.int .i64 e.seq,vu]] W' (Out_Ring W' rp))
   have HPU:=hH hPU;have HRP:=hH hrp;clear hPU hrp;have HBY:Hid (Below wr.heap.size wr wr):=hH (lf _ _);obtain⟨b3,o3,ae,ce,e1,p0,p1,p2,e2,e3,e4⟩:=a9.out.entry Tryz.underlying34 szi_DEntry HNN.out;have l3:b3<wr.heap.size:=by omega
   have HLE:=hH e4;clear e4;go_upto_region 18 with(fail)
   obtain⟨Y,hY⟩:∃Y:World,Y=(wr.alloc (.cells #[.int .i64 s.id,.string s.doc,.int .i64 s.r.cap,.int .i64 s.r.next,.bool s.r.out,.slice as4 s.r.list.length cs4] 104)):=⟨_,rfl⟩;have sY:wr.heap.size+1<=Y.heap.size:=by rw[hY];first|(simp;done)|(simp;omega)
   replace D:Hid (Below w.heap.size w Y):=hH (by rw[hY];exact(D.out.alloc om _))
   replace a9:Hid (DocLow (w2.heap.size) (w3.heap.size) Y (.slice a0 x.text.length a2) (.slice a7 x.list.length a8) (.slice a1 x.seen.length a3) x):=hH (by rw[hY];exact(a9.out.alloc om _))
   replace HBY:Hid (Below wr.heap.size wr Y):=hH (by rw[hY];exact(HBY.out.alloc om _))
   replace HLE:Hid (Low (w3.heap.size) Y (.slice ae e.o.length ce) e.o):=hH (by rw[hY];exact(HLE.out.alloc om _))
   replace J:Hid (Bx Y (w.heap.size) [.bool false,q,u,.int .i64 z.last]):=hH (by rw[hY];exact(J.out.alloc _))
   clear Zz a4 Z a5 a6;obtain⟨Zz,a4,Z,a5,a6⟩:=J.out.o4;replace I:Hid (Bx Y (w.heap.size+1) [.bool false,.slice none 0 0,.slice none 0 0,.int .i64 0]):=hH (by rw[hY];exact(I.out.alloc _))
   replace Kr:=I.out.q4;replace N:Hid (Bx Y (w3.heap.size) [.string x.name,.int .i64 x.from_,.slice a0 x.text.length a2,.slice a7 x.list.length a8,.slice a1 x.seen.length a3]):=hH (by rw[hY];exact(N.out.alloc _))
   clear Zx Kx0 Kx1 Kx2 Kx3 Kx4;obtain⟨Zx,Kx0,Kx1,Kx2,Kx3,Kx4⟩:=N.out.o5;replace aa:Hid (Bx Y (w4.heap.size) [.bool false,.slice ad z.docs.length cd,.slice Q z.subs.length R,.int .i64 z.last]):=hH (by rw[hY];exact(aa.out.alloc _))
   replace Ko:=aa.out.o4;have HXs:Hid (Bx Y (wr.heap.size) [.int .i64 s.id,.string s.doc,.int .i64 s.r.cap,.int .i64 s.r.next,.bool s.r.out,.slice as4 s.r.list.length cs4]):=hH (by rw[hY];exact(Bx.new (by first|rfl|simp|omega)))
   have Ks:=HXs.out.o6;rw[<-hY];clear hY;replace y2:Y.cell? ⟨M,o4+2,none⟩=some (.int .i64 s.r.cap):=(HBY.out.cell (p:=⟨M,o4+2,none⟩) l4).trans y2;replace y3:Y.cell? ⟨M,o4+2+1,none⟩=some (.int .i64 s.r.next):=(HBY.out.cell (p:=⟨M,o4+2+1,none⟩) l4).trans y3;replace y4:Y.cell? ⟨M,o4+2+2,none⟩=some (.bool s.r.out):=(HBY.out.cell (p:=⟨M,o4+2+2,none⟩) l4).trans y4;replace y5:Y.cell? ⟨M,o4+2+3,none⟩=some (.slice as4 s.r.list.length cs4):=(HBY.out.cell (p:=⟨M,o4+2+3,none⟩) l4).trans y5;replace x2:Y.frozen? ⟨M,o4+2,none⟩=false:=(HBY.out.frozen (p:=⟨M,o4+2,none⟩) l4).trans x2;replace x3:Y.frozen? ⟨M,o4+2+1,none⟩=false:=(HBY.out.frozen (p:=⟨M,o4+2+1,none⟩) l4).trans x3;replace x4:Y.frozen? ⟨M,o4+2+2,none⟩=false:=(HBY.out.frozen (p:=⟨M,o4+2+2,none⟩) l4).trans x4;replace x5:Y.frozen? ⟨M,o4+2+3,none⟩=false:=(HBY.out.frozen (p:=⟨M,o4+2+3,none⟩) l4).trans x5;replace p0:Y.cell? ⟨b3,o3,none⟩=some (.int .i64 e.client):=(HBY.out.cell (p:=⟨b3,o3,none⟩) l3).trans p0;replace p1:Y.cell? ⟨b3,o3+1,none⟩=some (.int .i64 e.seq):=(HBY.out.cell (p:=⟨b3,o3+1,none⟩) l3).trans p1;replace p2:Y.cell? ⟨b3,o3+2,none⟩=some (.slice ae e.o.length ce):=(HBY.out.cell (p:=⟨b3,o3+2,none⟩) l3).trans p2;clear t0 t1 t2 t3 t4 t5;have l4Y:M<Y.heap.size:=by omega
   have l3Y:b3<Y.heap.size:=by omega
   have nb8:¬(b3=M):=by have:=HRB.out (M,o4) (HJ6.out _ (mem_own.2 ⟨rfl,by simp,by simp⟩));omega
   have hb4r:=HRB.out (M,o4) (HJ6.out _ (mem_own.2 ⟨rfl,by simp,by simp⟩))
   have nb9:¬(M=w.heap.size+1):=by omega
   have nb0:¬(w4.heap.size=M):=by omega
   have nb1:¬(wr.heap.size=M):=by omega
   have nb2:¬(w3.heap.size=M):=by omega
   go_region_held3 (fun w'=>w'.cell? ⟨w4.heap.size,0,none⟩=some (.bool false)/\w'.cell? ⟨w4.heap.size,1,none⟩=some (.slice ad z.docs.length cd)/\w'.cell? ⟨w4.heap.size,2,none⟩=some (.slice Q z.subs.length R)/\w'.cell? ⟨w4.heap.size,3,none⟩=some (.int .i64 z.last)/\w'.cell? ⟨wr.heap.size,0,none⟩=some (.int .i64 s.id)/\w'.cell? ⟨wr.heap.size,1,none⟩=some (.string s.doc)/\w'.cell? ⟨wr.heap.size,2,none⟩=some (.int .i64 s.r.cap)/\w'.cell? ⟨wr.heap.size,3,none⟩=some (.int .i64 s.r.next)/\w'.cell? ⟨wr.heap.size,4,none⟩=some (.bool s.r.out)/\w'.cell? ⟨wr.heap.size,5,none⟩=some (.slice as4 s.r.list.length cs4)/\w'.cell? ⟨w3.heap.size,0,none⟩=some (.string x.name)/\w'.cell? ⟨w3.heap.size,1,none⟩=some (.int .i64 x.from_)/\w'.cell? ⟨w3.heap.size,2,none⟩=some (.slice a0 x.text.length a2)/\w'.cell? ⟨w3.heap.size,3,none⟩=some (.slice a7 x.list.length a8)/\w'.cell? ⟨w3.heap.size,4,none⟩=some (.slice a1 x.seen.length a3)/\w'.cell? ⟨b3,o3,none⟩=some (.int .i64 e.client)/\w'.cell? ⟨b3,o3+1,none⟩=some (.int .i64 e.seq)/\w'.cell? ⟨b3,o3+2,none⟩=some (.slice ae e.o.length ce)) (first|(go_keep;done)|(simp[cell_setCell, *];done))
    ((go_at_call 109;refine(HPU.out _ _ _ ((HRS.out.below HBY.out).below (show Below Y.heap.size Y _ from blw)) (HLE.out.rd.below (show Below Y.heap.size Y _ from blw))).mono ?_;rintro e' w8 ⟨vr,fr,rfl,sr,kr,hb8⟩;obtain⟨ar,cr,rfl⟩:=sr.isS;have HSR:=hH sr;have HKR:Hid (Fresh Y.heap.size w8 fr):=hH (kr.mono om);clear sr kr;have B8:Below Y.heap.size Y w8:=(show Below Y.heap.size Y _ from blw).trans (hb8.mono om);have s8:=B8.size;obtain⟨Zo_8,Ko_8_0,Ko_8_1,Ko_8_2,Ko_8_3⟩:=(aa.out.at B8).o4;obtain⟨Zs_8,Ks_8_0,Ks_8_1,Ks_8_2,Ks_8_3,Ks_8_4,Ks_8_5⟩:=(HXs.out.at B8).o6;obtain⟨Zx_8,Kx_8_0,Kx_8_1,Kx_8_2,Kx_8_3,Kx_8_4⟩:=(N.out.at B8).o5;obtain⟨Zr_8,Kr_8_0,Kr_8_1,Kr_8_2,Kr_8_3,Gr_8_0,Gr_8_1,Gr_8_2,Gr_8_3⟩:=(I.out.at B8).q4;obtain⟨y2_8,y3_8,y4_8,y5_8⟩:=mv4 B8 l4Y y2 y3 y4 y5;obtain⟨x2_8,x3_8,x4_8,x5_8⟩:=mf4 B8 l4Y x2 x3 x4 x5;obtain⟨p0_8,p1_8,p2_8⟩:=mv3 B8 l3Y p0 p1 p2;clear hb8))
   all_goals
    have HB48:Hid (Below wr.heap.size wr w8):=hH (HBY.out.trans (B8.mono (by omega)))
    have HWE:Hid (Wr (own M o4 6) wr ((((w8.setCell ⟨M,o4+2,none⟩ (.int .i64 rp.cap)).setCell ⟨M,o4+2+1,none⟩ (.int .i64 rp.next)).setCell ⟨M,o4+2+2,none⟩ (.bool rp.out)).setCell ⟨M,o4+2+3,none⟩ (.slice ar rp.list.length cr))):=hH (((((Wr.of_below (fp:=own M o4 6) HB48.out).put (b:=M) (o:=o4+2) (mem_own.2 ⟨rfl,by simp only;omega,by simp only;omega⟩) (.int .i64 rp.cap)).put (b:=M) (o:=o4+2+1) (mem_own.2 ⟨rfl,by simp only;omega,by simp only;omega⟩) (.int .i64 rp.next)).put (b:=M) (o:=o4+2+2) (mem_own.2 ⟨rfl,by simp only;omega,by simp only;omega⟩) (.bool rp.out)).put (b:=M) (o:=o4+2+3) (mem_own.2 ⟨rfl,by simp only;omega,by simp only;omega⟩) (.slice ar rp.list.length cr))
    have HAE:Hid (At ((((w8.setCell ⟨M,o4+2,none⟩ (.int .i64 rp.cap)).setCell ⟨M,o4+2+1,none⟩ (.int .i64 rp.next)).setCell ⟨M,o4+2+2,none⟩ (.bool rp.out)).setCell ⟨M,o4+2+3,none⟩ (.slice ar rp.list.length cr)) M o4 [.int .i64 s.id,.string s.doc,.int .i64 rp.cap,.int .i64 rp.next,.bool rp.out,.slice ar rp.list.length cr]):=hH (((((HJ3.out.keep fun j hj=>HB48.out.cell (p:=⟨M,o4+j,none⟩) l4).put 2 (by simp) (.int .i64 rp.cap)).put 3 (by simp) (.int .i64 rp.next)).put 4 (by simp) (.bool rp.out)).put 5 (by simp) (.slice ar rp.list.length cr))
    have htw:Two (α:=DEntry) (β:=Int) Y.heap.size w8.heap.size w8 (.slice ar rp.list.length cr) (.slice none 0 0) rp.list [] fr []:=⟨HSR.out,Sl.nil,by simpa using HKR.out,by simpa using Live.lt HSR.out.live⟩
    have HTR:=hH ((((htw.setCell (b:=M) (o:=o4+2) (.inl l4Y) (.int .i64 rp.cap)).setCell (b:=M) (o:=o4+2+1) (.inl l4Y) (.int .i64 rp.next)).setCell (b:=M) (o:=o4+2+2) (.inl l4Y) (.bool rp.out)).setCell (b:=M) (o:=o4+2+3) (.inl l4Y) (.slice ar rp.list.length cr));clear htw;go_wp2;go_roundw
    case rel=>exact⟨m+1,by omega,by go_num,by rw[pushTo_push HS.out HN.out,HRP.out];exact HJ7.out ((((w8.setCell ⟨M,o4+2,none⟩ (.int .i64 rp.cap)).setCell ⟨M,o4+2+1,none⟩ (.int .i64 rp.next)).setCell ⟨M,o4+2+2,none⟩ (.bool rp.out)).setCell ⟨M,o4+2+3,none⟩ (.slice ar rp.list.length cr)) rp _ _ HWE.out HAE.out HTR.out.1 (HTR.out.2.2.1.left.mono (by omega)),HWR.out.trans (HWE.out.sub HJ6.out)⟩
    case measure=>simp[intOf];omega
  ·have hl2:¬(m:Int)<(z.subs.length:Int):=by omega
   have hmx:m=z.subs.length:=by omega
   replace HNW:Hid (HubNe (w4.heap.size) (w2.heap.size) wr (.slice ad z.docs.length cd) (.slice Q z.subs.length R) (z.docs.set k x) (z.subs.map (pushS name e))):=hH (by have:=HNW.out;rw[pushTo_all name e hmx]at this;exact this)
   clear hmx;go_upto_region 20 with(fail)
   have HH:=hH (((((HNW.out.setCell (by omega) _).setCell (by omega) _).setCell (by omega) _).setCell (by omega) _):HubNe (w4.heap.size) (w2.heap.size) ((((wr.setCell ⟨w.heap.size+1,0,none⟩ (.bool false)).setCell ⟨w.heap.size+1,1,none⟩ (.slice ad z.docs.length cd)).setCell ⟨w.heap.size+1,2,none⟩ (.slice Q z.subs.length R)).setCell ⟨w.heap.size+1,3,none⟩ (.int .i64 z.last)) (.slice ad z.docs.length cd) (.slice Q z.subs.length R) (z.docs.set k x) (z.subs.map (pushS name e)))
   repeat go_step
   rw[HV.out];exact bodyPost_ret (v:= .tuple #[.agg #[.bool false,.slice ad z.docs.length cd,.slice Q z.subs.length R,.int .i64 z.last],.int .i64 rev,.int .i64 0]) (by simp[results,Tryz.results44,go_sem,cell_setCell, *]) rfl (HubNe.out_i_i (y:=⟨false,z.docs.set k x,z.subs.map (pushS name e),z.last⟩) HH.out (by omega) (bset4 D.out om))
