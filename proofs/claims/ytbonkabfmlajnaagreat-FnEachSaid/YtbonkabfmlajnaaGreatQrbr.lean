/- Hubs: Jae, the program's walk. -/
import Derived.Test.YtbonkabfmlajnaaGreatQrbp
import Derived.Test.YtbonkabfmlajnaaGreatQrbq
set_option maxHeartbeats 80000000
set_option maxRecDepth 100000
set_option linter.defProp false
set_option linter.unusedSimpArgs false
namespace Go.Proofs.YtbonkabfmlajnaaGreat
open Go.RowKit
attribute [local go_sem ↓] Go.wp_at_zero Go.wp_at_succ
attribute [local go_sem ↓] Go.wp_at_zero Go.wp_at_succ
theorem QaB {N_:Nat}(h_:N_=101\/N_=16)(z:qae)(q u:Value)(name:ByteArray)(client seq base:Int)(vo:Value)(o:List zaa)(w:World)(h_docs:RdS w q z.docs)(h_subs:RdS w u z.subs)(ho:RdS w vo o):Calls Tryz.prog N_ #[.agg #[z.shut,q,u,z.last],name,client,seq,base,vo] w (Xar w (Kac z name client seq base o).1 (Kac z name client seq base o).2.1 (Kac z name client seq base o).2.2):=by
 rcases h_ with rfl|rfl
 have k_0:Unit:=();have k_1:=hH @yal;have k_2:=hH @qaf;have k_3:=hH @vaj;have k_4:=hH @yaW;have k_5:=hH @Jab;have k_6:=hH @kaJ;go_enter Tryz.func101,Tryz.ntmps101;rotate_left;have k_0:Bool:=true;have k_1:=hH @uah;have k_2:=hH @kaf;have k_3:=hH @Xal;have k_4:=hH @xaV;have k_5:=hH @zac;have k_6:=hH @vaN;go_enter Tryz.func16,Tryz.ntmps16;all_goals
  have hOK:=fun(W':World) (a:RdS W' q z.docs) (b:RdS W' u z.subs)=>k_1.out z q u W' a b
  have hCP:=fun(W':World) (a:RdS W' q z.docs) (b:RdS W' u z.subs) (c:uaM z)=>k_2.out z q u W' a b c
  have hF0:=fun(W':World) (a:RdS W' q z.docs)=>k_3.out z q u name W' a
  obtain⟨sh,hsh⟩:∃sh:Bool,z.shut=sh:=⟨_,rfl⟩;simp only[hsh]at hOK hCP hF0;rw[hsh];have HOK:=hH hOK;have HCP:=hH hCP;have HF0:=hH hF0;clear hOK hCP hF0;go_wp2_with fail
  refine(HF0.out _ (h_docs.below (((lf w w).alloc om _).alloc om _))).mono ?_;rintro e' w1 ⟨rfl,hb1⟩;have s1:w+2<=w1.heap.size:=szl hb1;have I:=hH ((((lf w w).alloc om _).alloc om _).trans (hb1.mono om));have J:Hid (Bx w1 w [sh,q,u,z.last]):=hH (((Bx.new (by first|rfl|simp|omega)).alloc _).at hb1)
  obtain⟨Zz,a6,a0,a7,a8⟩:=J.out.o4;have D:Hid (Bx w1 (w+1) [false,zN,zN,zI]):=hH ((Bx.new (by first|rfl|simp|omega)).at hb1)
  have Kr:=D.out.q4;clear hb1;go_wp2_with fail
  refine(HOK.out _ (h_docs.below I.out) (h_subs.below I.out)).mono ?_;rintro e' w2 ⟨rfl,hb2⟩;have s2:w1<=w2.heap.size:=szl hb2;replace I:=hH (I.out.trans (hb2.mono om));replace J:=hH (J.out.at hb2);clear Zz a6 a0 a7 a8;obtain⟨Zz,a6,a0,a7,a8⟩:=J.out.o4;replace D:=hH (D.out.at hb2);replace Kr:=D.out.q4;clear hb2;by_cases h1:Qac z=true
  rotate_left
  ·have h1:Qac z=false:=by simpa using h1
   rw[h1];have HV:=hH (jaY (name:=name) (client:=client) (seq:=seq) (base:=base) (o:=o) h1);go_wp2;rw[HV.out];exact bodyPost_ret (v:= .tuple #[.agg #[false,zN,zN,zI],zI,.int .i64 1]) (by simp[results,Tryz.results101,Tryz.results16,go_sem,xaa, *]) rfl (kah (Kam I.out om))
  rw[h1];have HZ:=hH (yaT h1);cases sh;rotate_left
  ·have HV:=hH (yaP (name:=name) (client:=client) (seq:=seq) (base:=base) (o:=o) h1 hsh);go_wp2;rw[HV.out];exact bodyPost_ret (v:= .tuple #[.agg #[false,zN,zN,zI],zI,.int .i64 12]) (by simp[results,Tryz.results101,Tryz.results16,go_sem,xaa, *]) rfl (kah (Kam I.out om))
  by_cases h3:zad z name<0
  ·have HV:=hH (XaU (name:=name) (client:=client) (seq:=seq) (base:=base) (o:=o) h1 hsh h3);go_wp2;rw[HV.out];exact bodyPost_ret (v:= .tuple #[.agg #[false,zN,zN,zI],zI,.int .i64 6]) (by simp[results,Tryz.results101,Tryz.results16,go_sem,xaa, *]) rfl (kah (Kam I.out om))
  obtain⟨k,d,hk,hd⟩:=qan h3;have HK:=hH hk;have HD:=hH hd;have bs:=(vad.1 h1).ns;obtain⟨bh0,bh1,bf0,bf1⟩:=yaf ((vad.1 h1).doc (List.mem_of_getElem? hd));have kl:=(lg.1 hd).1;have bd_:=(vad.1 h1).nd;have bll:=(jaf.1 ((vad.1 h1).doc (List.mem_of_getElem? hd))).len;rw[hk];clear hk hd h3;obtain⟨x,rev,code,hsub⟩:∃x rev code,Jae d client seq base o=(x,rev,code):=⟨_,_,_,rfl⟩;have hSM:=fun(W':World) (vt vl vz:Value) (nd:d.name.size<=BIG) (a:RdS W' vt d.text) (b:RdS W' vl d.list) (c:RdS W' vz d.seen) (f:RdS W' vo o)=>(by have:=k_4.out d vt vl vz client seq base vo o W' nd a b c f;rw[hsub]at this;exact this:Calls Tryz.prog _ #[.agg #[d.name,d.from_,vt,vl,vz],client,seq,base,vo] W' (Zar W' x rev code))
  have HSM:=hH hSM;clear hSM;obtain⟨b1,o1,cs,g1,g2,g3⟩:=(h_docs.below I.out).idx Tryz.underlying23 uag k HD.out;obtain⟨d_text,d_list,d_seen,rfl,nd,r_text,r_list,r_seen⟩:=Kai g3;have q0:=g2.zero;have q1:=g2 1 _ rfl;have q2:=g2 2 _ rfl;have q3:=g2 3 _ rfl;have q4:=g2 4 _ rfl;have l1:b1<w2.heap.size:=lk (w:=w2) (a:=⟨b1,o1,none⟩) q0;obtain⟨at_,ct,rfl⟩:=r_text.isSlice
  obtain⟨al,cl,rfl⟩:=r_list.isSlice;obtain⟨az,cz,rfl⟩:=r_seen.isSlice;clear g2 g3;have HRL:=hH r_list;have HQ0:=hH q0;have HQ1:=hH q1;have HQ2:=hH q2;have HQ3:=hH q3;have HQ4:=hH q4;have HV2:Hid (Below w2 w2 w2):=hH (lf _ _);go_wp2_with fail
  refine(HSM.out _ _ _ _ nd r_text r_list r_seen (ho.below I.out)).mono ?_;rintro e' w3 ⟨vt,vl,vz,ft,fl,fz,rfl,sT,sL,sZ,nx,hfr,hb3⟩;obtain⟨a1,a3,rfl⟩:=sT.isS;obtain⟨a9,aa,exl⟩:=sL.isS;subst exl;obtain⟨a2,a4,rfl⟩:=sZ.isS;have a5:Hid (yah w2 w3 w3 (.slice a1 x.text.length a3) (.slice a9 x.list.length aa) (.slice a2 x.seen.length a4) x):=hH ⟨ft,fl,fz,sT,sL,sZ,hfr,Live.lt (Live.append.2 ⟨sT.live,Live.append.2 ⟨sL.live,sZ.live⟩⟩)⟩;clear sT sL sZ hfr q0 q1 q2 q3 q4 r_text r_list r_seen;have s3:w2<=w3.heap.size:=szl hb3;replace I:=hH (I.out.trans (hb3.mono om));replace HV2:Hid (Below w2 w2 w3):=hH ((HV2.out.trans (hb3.mono om)));replace J:=hH (J.out.at hb3);clear Zz a6 a0 a7 a8;obtain⟨Zz,a6,a0,a7,a8⟩:=J.out.o4;replace D:=hH (D.out.at hb3);replace Kr:=D.out.q4;clear hb3;by_cases hc:code=0
  rotate_left
  ·have HV:Hid (Kac z name client seq base o=(zao,0,code)):=hH (by have:=KaP (name:=name) (client:=client) (seq:=seq) (base:=base) (o:=o) h1 hsh HK.out HD.out (by rw[hsub];exact hc);rw[hsub]at this;exact this)
   have hcb:(code==0)=false:=by simpa using hc
   clear hc hsub g1;go_wp2;have HB:Hid (Below w w (((((w3.setCell ⟨w+1,0,none⟩ false).setCell ⟨w+1,1,none⟩ zN).setCell ⟨w+1,2,none⟩ zN).setCell ⟨w+1,3,none⟩ zI).alloc (.cells #[x.name,x.from_,.slice a1 x.text.length a3,.slice a9 x.list.length aa,.slice a2 x.seen.length a4] 67))):=hH (((((I.out.setCell (p:=⟨w+1,0,none⟩) om _).setCell (p:=⟨w+1,1,none⟩) om _).setCell (p:=⟨w+1,2,none⟩) om _).setCell (p:=⟨w+1,3,none⟩) om _).alloc om _);rw[HV.out];exact bodyPost_ret (v:= .tuple #[.agg #[false,zN,zN,zI],zI,code]) (by simp[results,Tryz.results101,Tryz.results16,go_sem,xaa, *]) rfl (kah HB.out)
  subst hc;have hsc:=jaG (d:=d) (client:=client) (seq:=seq) (base:=base) (o:=o) (by rw[hsub])
  simp only[hsub]at hsc;obtain⟨hdo,hoo,hx⟩:=hsc;have hxf: -9000000000000000000<=x.from_/\x.from_<=9000000000000000000:=by
   rcases hx with h|⟨_,_,h⟩
   ·rw[h];omega
   ·rw[h];have:=Za1 d client seq (Xaa d base o).1;omega
  obtain⟨xf0,xf1⟩:=hxf;have HX:=hH hx;have HSU:=hH hsub;clear hdo hoo hx hsub;go_wp2_with fail
  refine(HCP.out _ (h_docs.below (I.out.alloc om _)) (h_subs.below (I.out.alloc om _)) HZ.out).mono ?_;rintro e' w4 ⟨_,rfl,ho4,hb4⟩;obtain⟨vd,vs,rfl,hown⟩:=Qab.of_own ho4;rw[hsh];obtain⟨ad,cd,rfl⟩:=hown.rd1.isSlice;obtain⟨N,Q,rfl⟩:=hown.rd2.isSlice;have HOWN:=hH (hown.mono (C':=w3+1) om);clear ho4 hown;have s4:w3+1<=w4.heap.size:=szl hb4;replace I:=hH ((I.out.alloc om _).trans (hb4.mono om));replace HV2:Hid (Below w2 w2 w4):=hH (((HV2.out.alloc om _).trans (hb4.mono om)));replace a5:Hid (yah w2 w3 w4 (.slice a1 x.text.length a3) (.slice a9 x.list.length aa) (.slice a2 x.seen.length a4) x):=hH (((a5.out.alloc om _).below (hb4.mono om)));replace J:=hH ((J.out.alloc _).at hb4);clear Zz a6 a0 a7 a8;obtain⟨Zz,a6,a0,a7,a8⟩:=J.out.o4;replace D:=hH ((D.out.alloc _).at hb4);replace Kr:=D.out.q4;have R:Hid (Bx w4 w3 [x.name,x.from_,.slice a1 x.text.length a3,.slice a9 x.list.length aa,.slice a2 x.seen.length a4]):=hH ((Bx.new (by first|rfl|simp|omega)).at hb4)
  obtain⟨Zx,Kx0,Kx1,Kx2,Kx3,Kx4⟩:=R.out.o5;clear hb4;go_upto_region 12 with(fail)
  obtain⟨V,hV⟩:∃V:World,V=(w4.alloc (.cells #[false,.slice ad z.docs.length cd,.slice N z.subs.length Q,z.last] 26)):=⟨_,rfl⟩;have sV:w4+1<=V.heap.size:=by rw[hV];first|(simp;done)|(simp;omega)
  replace I:Hid (Below w w V):=hH (by rw[hV];exact(I.out.alloc om _))
  replace HV2:Hid (Below w2 w2 V):=hH (by rw[hV];exact(HV2.out.alloc om _))
  replace a5:Hid (yah w2 w3 V (.slice a1 x.text.length a3) (.slice a9 x.list.length aa) (.slice a2 x.seen.length a4) x):=hH (by rw[hV];exact(a5.out.alloc om _))
  replace HOWN:Hid (Qab (w3+1) w4 V (.slice ad z.docs.length cd) (.slice N z.subs.length Q) (z.docs) (z.subs)):=hH (by rw[hV];exact(HOWN.out.alloc om _))
  replace J:Hid (Bx V w [false,q,u,z.last]):=hH (by rw[hV];exact(J.out.alloc _))
  clear Zz a6 a0 a7 a8;obtain⟨Zz,a6,a0,a7,a8⟩:=J.out.o4;replace D:Hid (Bx V (w+1) [false,zN,zN,zI]):=hH (by rw[hV];exact(D.out.alloc _))
  replace Kr:=D.out.q4;replace R:Hid (Bx V w3 [x.name,x.from_,.slice a1 x.text.length a3,.slice a9 x.list.length aa,.slice a2 x.seen.length a4]):=hH (by rw[hV];exact(R.out.alloc _))
  clear Zx Kx0 Kx1 Kx2 Kx3 Kx4;obtain⟨Zx,Kx0,Kx1,Kx2,Kx3,Kx4⟩:=R.out.o5;have Z:Hid (Bx V w4 [false,.slice ad z.docs.length cd,.slice N z.subs.length Q,z.last]):=hH (by rw[hV];exact(Bx.new (by first|rfl|simp|omega)))
  have Ko:=Z.out.o4;rw[<-hV];clear hV;obtain⟨b2,o2,u0,u1,u2,u3,u4,j1,j2,j3,j4,j5,j6,j7,j8⟩:=HOWN.out.dset a5.out om om om (lr _) nx Tryz.underlying23 uag HD.out;have y0:V.cell? ⟨b2,o2,none⟩=some u0:=j5.zero;have x0:V.frozen? ⟨b2,o2,none⟩=false:=j6 0 om;have y1:V.cell? ⟨b2,o2+1,none⟩=some u1:=j5 1 _ rfl;have x1:V.frozen? ⟨b2,o2+1,none⟩=false:=j6 1 om;have y2:V.cell? ⟨b2,o2+2,none⟩=some u2:=j5 2 _ rfl;have x2:V.frozen? ⟨b2,o2+2,none⟩=false:=j6 2 om;have y3:V.cell? ⟨b2,o2+3,none⟩=some u3:=j5 3 _ rfl;have x3:V.frozen? ⟨b2,o2+3,none⟩=false:=j6 3 om;have y4:V.cell? ⟨b2,o2+4,none⟩=some u4:=j5 4 _ rfl;have x4:V.frozen? ⟨b2,o2+4,none⟩=false:=j6 4 om;have HNE:=hH j8;have HRB:=hH j7;clear j5 j6 j7 j8 HOWN;go_upto_region 13 with(fail)
  obtain⟨U,hU⟩:∃U:World,U=(((((V.setCell ⟨b2,o2,none⟩ x.name).setCell ⟨b2,o2+1,none⟩ x.from_).setCell ⟨b2,o2+2,none⟩ (.slice a1 x.text.length a3)).setCell ⟨b2,o2+3,none⟩ (.slice a9 x.list.length aa)).setCell ⟨b2,o2+4,none⟩ (.slice a2 x.seen.length a4)):=⟨_,rfl⟩;have sU:V<=U.heap.size:=by rw[hU];first|(simp;done)|(simp;omega)
  replace I:Hid (Below w w U):=hH (by rw[hU];exact(((((I.out.setCell (p:=⟨b2,o2,none⟩) om _).setCell (p:=⟨b2,o2+1,none⟩) om _).setCell (p:=⟨b2,o2+2,none⟩) om _).setCell (p:=⟨b2,o2+3,none⟩) om _).setCell (p:=⟨b2,o2+4,none⟩) om _))
  replace HV2:Hid (Below w2 w2 U):=hH (by rw[hU];exact(((((HV2.out.setCell (p:=⟨b2,o2,none⟩) om _).setCell (p:=⟨b2,o2+1,none⟩) om _).setCell (p:=⟨b2,o2+2,none⟩) om _).setCell (p:=⟨b2,o2+3,none⟩) om _).setCell (p:=⟨b2,o2+4,none⟩) om _))
  replace a5:Hid (yah w2 w3 U (.slice a1 x.text.length a3) (.slice a9 x.list.length aa) (.slice a2 x.seen.length a4) x):=hH (by rw[hU];exact(((((a5.out.setCell om _).setCell om _).setCell om _).setCell om _).setCell om _))
  replace J:Hid (Bx U w [false,q,u,z.last]):=hH (by rw[hU];exact(((((J.out.setO om).setO om).setO om).setO om).setO om))
  clear Zz a6 a0 a7 a8;obtain⟨Zz,a6,a0,a7,a8⟩:=J.out.o4;replace D:Hid (Bx U (w+1) [false,zN,zN,zI]):=hH (by rw[hU];exact(((((D.out.setO om).setO om).setO om).setO om).setO om))
  replace Kr:=D.out.q4;replace R:Hid (Bx U w3 [x.name,x.from_,.slice a1 x.text.length a3,.slice a9 x.list.length aa,.slice a2 x.seen.length a4]):=hH (by rw[hU];exact(((((R.out.setO om).setO om).setO om).setO om).setO om))
  clear Zx Kx0 Kx1 Kx2 Kx3 Kx4;obtain⟨Zx,Kx0,Kx1,Kx2,Kx3,Kx4⟩:=R.out.o5;replace Z:Hid (Bx U w4 [false,.slice ad z.docs.length cd,.slice N z.subs.length Q,z.last]):=hH (by rw[hU];exact(((((Z.out.setO om).setO om).setO om).setO om).setO om))
  replace Ko:=Z.out.o4;have HNU:Hid (vag w4 w2 U (.slice ad z.docs.length cd) (.slice N z.subs.length Q) (z.docs.set k x) (z.subs)):=hH (by rw[hU];exact HNE.out)
  rw[<-hU];clear hU;clear HNE j1 y0 y1 y2 y3 y4 x0 x1 x2 x3 x4;have q0:U.cell? ⟨b1,o1,none⟩=some (.string d.name):=(HV2.out.cell (p:=⟨b1,o1,none⟩) l1).trans HQ0.out;have q1:U.cell? ⟨b1,o1+1,none⟩=some (.int .i64 d.from_):=(HV2.out.cell (p:=⟨b1,o1+1,none⟩) l1).trans HQ1.out;have q2:U.cell? ⟨b1,o1+2,none⟩=some (.slice at_ d.text.length ct):=(HV2.out.cell (p:=⟨b1,o1+2,none⟩) l1).trans HQ2.out
  have q3:U.cell? ⟨b1,o1+3,none⟩=some (.slice al d.list.length cl):=(HV2.out.cell (p:=⟨b1,o1+3,none⟩) l1).trans HQ3.out;have q4:U.cell? ⟨b1,o1+4,none⟩=some (.slice az d.seen.length cz):=(HV2.out.cell (p:=⟨b1,o1+4,none⟩) l1).trans HQ4.out;have l1U:b1<U.heap.size:=om;obtain⟨X,hX,F,hF,hFs⟩:=zae U;obtain⟨fKx0,fKx1,fKx2,fKx3,fKx4⟩:=mx5 hF Zx Kx0 Kx1 Kx2 Kx3 Kx4;have fKz1:∀x,(F x).cell? ⟨w.heap.size,1,none⟩=some (q):=fun x=>((hF x).cell (p:=⟨w,1,none⟩) Zz).trans a0
  have fq0:∀x,(F x).cell? ⟨b1,o1,none⟩=some (.string d.name):=fun x=>((hF x).cell (p:=⟨b1,o1,none⟩) l1U).trans q0
  obtain⟨fq1,fq2,fq3,fq4⟩:=mx4 hF l1U q1 q2 q3 q4;have HF:=hH hF;have HFs:=hH hFs;clear hF hFs;have HA:=hH (fun(W':World) (hb:Below U U W')=>(by have:=k_5.out x (.slice a1 x.text.length a3) _ (.slice a2 x.seen.length a4) _ (a5.out.rdL.below hb) om om;exact this:Calls Tryz.prog _ #[.agg #[x.name,x.from_,.slice a1 x.text.length a3,.slice a9 x.list.length aa,.slice a2 x.seen.length a4]] W' (yae W' (.int .i64 (yaa x)))))
  have HB:=hH (fun(W':World) (hb:Below U U W')=>(by have:=k_5.out d (.slice at_ d.text.length ct) _ (.slice az d.seen.length cz) _ ((HRL.out.below HV2.out).below hb) om om;exact this:Calls Tryz.prog _ #[.agg #[d.name,d.from_,.slice at_ d.text.length ct,.slice al d.list.length cl,.slice az d.seen.length cz]] W' (yae W' (.int .i64 (yaa d)))))
  refine uaa (F:=F) (by kernel_rfl) (by kernel_rfl) (HFs.out _ (lf _ _).drew) ?_
  repeat(go_big_quiet_step ((first|((first|go_at_call 100|go_at_call 30);(with_reducible exact Calls.fam_tells HF.out HFs.out (HA.out _ (HF.out _))))|((first|go_at_call 100|go_at_call 30);(with_reducible exact Calls.fam_tells HF.out HFs.out (HB.out _ (HF.out _)))))))
  refine wpQuiet_nil ?_;intro xq;obtain⟨w7,hwx⟩:∃wx:World,F xq=wx:=⟨_,rfl⟩;have B7:Below U U w7:=by rw[<-hwx];exact HF.out xq
  rw[hwx];clear hwx fKx0 fKx1 fKx2 fKx3 fKx4 fKz1 fq0 fq1 fq2 fq3 fq4 HF HFs;clear q0 q1 q2 q3 q4 l1U g1 HQ0 HQ1 HQ2 HQ3 HQ4;have s7:U<=w7.heap.size:=by have:=B7.size;(try simp at this);omega
  replace I:=hH (I.out.trans (B7.mono om));replace a5:Hid (yah w2 w3 w7 (.slice a1 x.text.length a3) (.slice a9 x.list.length aa) (.slice a2 x.seen.length a4) x):=hH ((a5.out.below (B7.mono om)));replace HNU:Hid (vag w4 w2 w7 (.slice ad z.docs.length cd) (.slice N z.subs.length Q) (z.docs.set k x) (z.subs)):=hH ((HNU.out.below B7));replace J:=hH (J.out.at B7);clear Zz a6 a0 a7 a8;obtain⟨Zz,a6,a0,a7,a8⟩:=J.out.o4;replace D:=hH (D.out.at B7);replace Kr:=D.out.q4;replace R:=hH (R.out.at B7);clear Zx Kx0 Kx1 Kx2 Kx3 Kx4;obtain⟨Zx,Kx0,Kx1,Kx2,Kx3,Kx4⟩:=R.out.o5;replace Z:=hH (Z.out.at B7);replace Ko:=Z.out.o4;clear B7 HV2;by_cases he:yaa x=yaa d
  ·have HV:Hid (Kac z name client seq base o=(⟨false,z.docs.set k x,z.subs,z.last⟩,rev,0)):=hH (by have:=uaP (name:=name) (client:=client) (seq:=seq) (base:=base) (o:=o) h1 hsh HK.out HD.out (by rw[HSU.out]) (by rw[HSU.out];exact he);rw[HSU.out]at this;exact this)
   have heb:(yaa x==yaa d)=true:=by simpa using he
   have hed:¬yaa d<yaa x:=om;have hed2:decide (yaa d<yaa x)=false:=by simpa using hed
   clear he;first
   |have:Unit:=k_0
    clear this;go_upto_region 14 with(fail)
   |go_upto_region 20 with(fail)
   obtain⟨Y,hY⟩:∃Y:World,Y=w7:=⟨_,rfl⟩;have sY:w7<=Y.heap.size:=by rw[hY];first|(simp;done)|(simp;omega)
   replace I:Hid (Below w w Y):=hH (by rw[hY];exact I.out)
   replace a5:Hid (yah w2 w3 Y (.slice a1 x.text.length a3) (.slice a9 x.list.length aa) (.slice a2 x.seen.length a4) x):=hH (by rw[hY];exact a5.out)
   replace HNU:Hid (vag w4 w2 Y (.slice ad z.docs.length cd) (.slice N z.subs.length Q) (z.docs.set k x) (z.subs)):=hH (by rw[hY];exact HNU.out)
   replace J:Hid (Bx Y w [false,q,u,z.last]):=hH (by rw[hY];exact J.out)
   clear Zz a6 a0 a7 a8;obtain⟨Zz,a6,a0,a7,a8⟩:=J.out.o4;replace D:Hid (Bx Y (w+1) [false,zN,zN,zI]):=hH (by rw[hY];exact D.out)
   replace Kr:=D.out.q4;replace R:Hid (Bx Y w3 [x.name,x.from_,.slice a1 x.text.length a3,.slice a9 x.list.length aa,.slice a2 x.seen.length a4]):=hH (by rw[hY];exact R.out)
   clear Zx Kx0 Kx1 Kx2 Kx3 Kx4;obtain⟨Zx,Kx0,Kx1,Kx2,Kx3,Kx4⟩:=R.out.o5;replace Z:Hid (Bx Y w4 [false,.slice ad z.docs.length cd,.slice N z.subs.length Q,z.last]):=hH (by rw[hY];exact Z.out)
   replace Ko:=Z.out.o4;rw[<-hY];clear hY;have HH:=hH (((((HNU.out.setCell om _).setCell om _).setCell om _).setCell om _):vag w4 w2 ((((Y.setCell ⟨w+1,0,none⟩ false).setCell ⟨w+1,1,none⟩ (.slice ad z.docs.length cd)).setCell ⟨w+1,2,none⟩ (.slice N z.subs.length Q)).setCell ⟨w+1,3,none⟩ z.last) (.slice ad z.docs.length cd) (.slice N z.subs.length Q) (z.docs.set k x) (z.subs));repeat go_step
   rw[HV.out];exact bodyPost_ret (v:= .tuple #[.agg #[false,.slice ad z.docs.length cd,.slice N z.subs.length Q,z.last],rev,zI]) (by simp[results,Tryz.results101,Tryz.results16,go_sem,xaa, *]) rfl (vag.out_i_i (y:=⟨false,z.docs.set k x,z.subs,z.last⟩) HH.out om (Kam I.out om))
  have hx2:(Xaa d base o).2=0/\yaa d<999999000/\x=xag d client seq (Xaa d base o).1:=HX.out.elim (fun h=>absurd (by rw[h]) he) id
  obtain⟨hr0,hhr,hxc⟩:=hx2;have hxo:=Zae.1 (kaC hr0).1;have hxz:=XaX hxo.1;obtain⟨e,hE⟩:∃e,jab client seq (Xaa d base o).1=e:=⟨_,rfl⟩;have hez:szL e.o<=3999999:=by rw[<-hE];show szL (Xaa d base o).1<=_;omega
  obtain⟨n,hn0,hn1,hn2,hn3⟩:=va3 d client seq (Xaa d base o).1;rw[<-hxc]at hn1 hn2 hn3;rw[hE]at hn2;have hwl:IntKind.i64.wrap ((x.list.length:Int)-1)=(n:Int):=by rw[show(x.list.length:Int)-1=n by omega];exact IntWalk.i64_in _ om
  have HV:Hid (Kac z name client seq base o=(⟨false,z.docs.set k x,z.subs.map (uaF name e),z.last⟩,rev,0)):=hH (by have:=zaW (name:=name) (client:=client) (seq:=seq) (base:=base) (o:=o) h1 hsh HK.out HD.out (by rw[HSU.out]) (by rw[HSU.out];exact he);rw[HSU.out]at this;rw[hE]at this;exact this)
  have heb:(yaa x==yaa d)=false:=by simpa using he
  have hed:yaa d<yaa x:=om;have hed2:decide (yaa d<yaa x)=true:=by simpa using hed
  have HNN:=hH hn2;have HRI:Hid (∀s∈z.subs,szL s.r.list<=4000000):=hH fun s hs=>(ZaL ((vad.1 h1).ring hs)).1
  clear he hxc hE hn1 hn2 hn3 hxo hxz hr0 hhr;first
  |have:Unit:=k_0
   clear this;rw[heb];go_upto_region 15 with(fail)
   obtain⟨b3,o3,ae,ce,e1,p0,p1,p2,e2,e3,e4⟩:=a5.out.entry Tryz.underlying34 Kab HNN.out;have l3:b3<w7.heap.size:=om;have HLE:=hH e4;clear e4;go_upto_region 16 with(fail)
   obtain⟨V2,hV2⟩:∃V2:World,V2=(w7.alloc (.cells #[e.client,e.seq,.slice ae e.o.length ce] 87)):=⟨_,rfl⟩;have sV2:w7+1<=V2.heap.size:=by rw[hV2];first|(simp;done)|(simp;omega)
   replace I:Hid (Below w w V2):=hH (by rw[hV2];exact(I.out.alloc om _))
   replace a5:Hid (yah w2 w3 V2 (.slice a1 x.text.length a3) (.slice a9 x.list.length aa) (.slice a2 x.seen.length a4) x):=hH (by rw[hV2];exact(a5.out.alloc om _))
   replace HNU:Hid (vag w4 w2 V2 (.slice ad z.docs.length cd) (.slice N z.subs.length Q) (z.docs.set k x) (z.subs)):=hH (by rw[hV2];exact(HNU.out.below ((lf _ _).alloc (lr _) _)))
   replace HLE:Hid (Low w3 V2 (.slice ae e.o.length ce) e.o):=hH (by rw[hV2];exact(HLE.out.alloc om _))
   replace J:Hid (Bx V2 w [false,q,u,z.last]):=hH (by rw[hV2];exact(J.out.alloc _))
   clear Zz a6 a0 a7 a8;obtain⟨Zz,a6,a0,a7,a8⟩:=J.out.o4;replace D:Hid (Bx V2 (w+1) [false,zN,zN,zI]):=hH (by rw[hV2];exact(D.out.alloc _))
   replace Kr:=D.out.q4;replace R:Hid (Bx V2 w3 [x.name,x.from_,.slice a1 x.text.length a3,.slice a9 x.list.length aa,.slice a2 x.seen.length a4]):=hH (by rw[hV2];exact(R.out.alloc _))
   clear Zx Kx0 Kx1 Kx2 Kx3 Kx4;obtain⟨Zx,Kx0,Kx1,Kx2,Kx3,Kx4⟩:=R.out.o5;replace Z:Hid (Bx V2 w4 [false,.slice ad z.docs.length cd,.slice N z.subs.length Q,z.last]):=hH (by rw[hV2];exact(Z.out.alloc _))
   replace Ko:=Z.out.o4;have HXe:Hid (Bx V2 w7 [e.client,e.seq,.slice ae e.o.length ce]):=hH (by rw[hV2];exact(Bx.new (by first|rfl|simp|omega)))
   have Ke:=HXe.out.o3;rw[<-hV2];clear hV2;clear e1 p0 p1 p2 e2 e3 l3
  |rw[hed2]
  have hls:=fun w1 ty=>HNU.out.rd2.len Tryz.underlying24 w1 ty
  go_wp2_with fail
  first
  |have:Unit:=k_0
   clear this;go_loopw [86] (fun i wr=>∃m:Nat,m<=z.subs.length/\i= .int .i64 m/\vag w4 w2 wr (.slice ad z.docs.length cd) (.slice N z.subs.length Q) (z.docs.set k x) (Zas z.subs name e m)/\Wr (rowP (GoT.n yai) (.slice N z.subs.length Q)) V2 wr) (fun i _=>z.subs.length-(intOf i).toNat)
  |go_loopw [75] (fun i wr=>∃m:Nat,m<=z.subs.length/\i= .int .i64 m/\vag w4 w2 wr (.slice ad z.docs.length cd) (.slice N z.subs.length Q) (z.docs.set k x) (Zas z.subs name e m)/\Wr (rowP (GoT.n yai) (.slice N z.subs.length Q)) w7 wr) (fun i _=>z.subs.length-(intOf i).toNat)
  case atStart=>exact⟨0,lz _,rfl,by rw[za3];exact HNU.out,Wr.refl _ _⟩
  case round=>
   obtain⟨m,hm,rfl,hne,hwr⟩:=hrel;have hsz:=hwr.size;have HNW:=hH hne;have HWR:=hH hwr;clear hne hwr HNU;first
   |have:Unit:=k_0
    clear this;have s40:V2<=wr.heap.size:=by have:=HWR.out.size;(try simp at this);omega
   |have s40:w7<=wr.heap.size:=by have:=HWR.out.size;(try simp at this);omega
   replace I:Hid (Below w w wr):=hH (I.out.trans (HWR.out.below om (fun p hp=>by have:=HRB.out p hp;omega)))
   replace a5:Hid (yah w2 w3 wr (.slice a1 x.text.length a3) (.slice a9 x.list.length aa) (.slice a2 x.seen.length a4) x):=hH (a5.out.below (HWR.out.below (B:=w3) om (fun p hp=>by have:=HRB.out p hp;omega)))
   first
   |have:Unit:=k_0
    clear this;replace HLE:Hid (Low w3 wr (.slice ae e.o.length ce) e.o):=hH (HLE.out.below (HWR.out.below (B:=w3) om (fun p hp=>by have:=HRB.out p hp;omega)))
   |skip
   replace J:Hid (Bx wr w [false,q,u,z.last]):=hH (J.out.wr HWR.out (fun p hp e=>by have:=HRB.out p hp;omega))
   clear Zz a6 a0 a7 a8;obtain⟨Zz,a6,a0,a7,a8⟩:=J.out.o4;replace D:Hid (Bx wr (w+1) [false,zN,zN,zI]):=hH (D.out.wr HWR.out (fun p hp e=>by have:=HRB.out p hp;omega))
   replace Kr:=D.out.q4;replace R:Hid (Bx wr w3 [x.name,x.from_,.slice a1 x.text.length a3,.slice a9 x.list.length aa,.slice a2 x.seen.length a4]):=hH (R.out.wr HWR.out (fun p hp e=>by have:=HRB.out p hp;omega))
   clear Zx Kx0 Kx1 Kx2 Kx3 Kx4;obtain⟨Zx,Kx0,Kx1,Kx2,Kx3,Kx4⟩:=R.out.o5;replace Z:Hid (Bx wr w4 [false,.slice ad z.docs.length cd,.slice N z.subs.length Q,z.last]):=hH (Z.out.wr HWR.out (fun p hp e=>by have:=HRB.out p hp;omega))
   replace Ko:=Z.out.o4;first
   |have:Unit:=k_0
    clear this;replace HXe:Hid (Bx wr w7 [e.client,e.seq,.slice ae e.o.length ce]):=hH (HXe.out.wr HWR.out (fun p hp e=>by have:=HRB.out p hp;omega))
    replace Ke:=HXe.out.o3
   |skip
   by_cases hlt:m<z.subs.length
   ·obtain⟨s,hs⟩:=Jaa hlt;have hg:=KaQ name e hs;obtain⟨M,o4,as4,cs4,j1,l4,j3,j4,j5,j6,j7⟩:=HNW.out.sset om om Tryz.underlying24 ual hg;have HRS:=hH j4;have HJ3:=hH j3;have HJ6:=hH j6;have HJ7:=hH j7;have HS:=hH hs;have t0:=j3.zero;have t1:=j3 1 _ rfl;have t2:=j3 2 _ rfl;have t3:=j3 3 _ rfl;have t4:=j3 4 _ rfl;have t5:=j3 5 _ rfl;have y2:wr.cell? ⟨M,o4+2,none⟩=some (.int .i64 s.r.cap):=j3 2 _ rfl;have x2:wr.frozen? ⟨M,o4+2,none⟩=false:=j5 2 om;have y3:wr.cell? ⟨M,o4+2+1,none⟩=some (.int .i64 s.r.next):=j3 3 _ rfl;have x3:wr.frozen? ⟨M,o4+2+1,none⟩=false:=j5 3 om;have y4:wr.cell? ⟨M,o4+2+2,none⟩=some (.bool s.r.out):=j3 4 _ rfl;have x4:wr.frozen? ⟨M,o4+2+2,none⟩=false:=j5 4 om;have y5:wr.cell? ⟨M,o4+2+3,none⟩=some (.slice as4 s.r.list.length cs4):=j3 5 _ rfl;have x5:wr.frozen? ⟨M,o4+2+3,none⟩=false:=j5 5 om;have hl2:(m:Int)<(z.subs.length:Int):=om;have hq1:=HRI.out s (List.mem_of_getElem? hs);clear j3 j4 j5 j6 j7 hg hs;by_cases hn:s.doc=name
    rotate_left
    ·have hnb:(s.doc.toList==name.toList)=false:=vaK hn;have HN:=hH hn;clear hn;go_wp2;go_roundw
     case rel=>exact⟨m+1,by omega,by go_num,by rw[ua2 HS.out HN.out];exact HNW.out.below ((lf _ _).alloc (lr _) _),HWR.out.trans (Wr.of_below ((lf _ _).alloc (lr _) _))⟩
     case measure=>simp[intOf];omega
    have hnb:(s.doc.toList==name.toList)=true:=Xa8 hn;have HN:=hH hn;clear hn;obtain⟨rp,hrp⟩:∃rp,Jai s.r e=rp:=⟨_,rfl⟩;have hPU:=fun(W':World) (vv vu:Value) (a:RdS W' vv s.r.list) (b:RdS W' vu e.o)=>(by have:=k_6.out s.r e vv vu W' a b hq1 hez;rw[hrp]at this;exact this:Calls Tryz.prog _ #[.agg #[s.r.cap,s.r.next,s.r.out,vv],.agg #[e.client,e.seq,vu]] W' (qat W' rp))
    have HPU:=hH hPU;have HRP:=hH hrp;clear hPU hrp;have ac:Hid (Below wr wr wr):=hH (lf _ _);first
    |have:Unit:=k_0
     clear this;go_upto_region 20 with(fail)
    |obtain⟨b3,o3,ae,ce,e1,p0,p1,p2,e2,e3,e4⟩:=a5.out.entry Tryz.underlying34 Kab HNN.out
     have l3:b3<wr.heap.size:=om;have HLE:=hH e4;clear e4;go_upto_region 18 with(fail)
    obtain⟨Y,hY⟩:∃Y:World,Y=(wr.alloc (.cells #[s.id,s.doc,s.r.cap,s.r.next,s.r.out,.slice as4 s.r.list.length cs4] 72)):=⟨_,rfl⟩;have sY:wr+1<=Y.heap.size:=by rw[hY];first|(simp;done)|(simp;omega)
    replace I:Hid (Below w w Y):=hH (by rw[hY];exact(I.out.alloc om _))
    replace a5:Hid (yah w2 w3 Y (.slice a1 x.text.length a3) (.slice a9 x.list.length aa) (.slice a2 x.seen.length a4) x):=hH (by rw[hY];exact(a5.out.alloc om _))
    first
    |have:Unit:=k_0
     clear this
    |replace ac:Hid (Below wr wr Y):=hH (by rw[hY];exact(ac.out.alloc om _))
    replace HLE:Hid (Low w3 Y (.slice ae e.o.length ce) e.o):=hH (by rw[hY];exact(HLE.out.alloc om _))
    first
    |have:Unit:=k_0
     clear this;replace ac:Hid (Below wr wr Y):=hH (by rw[hY];exact(ac.out.alloc om _))
    |skip
    replace J:Hid (Bx Y w [false,q,u,z.last]):=hH (by rw[hY];exact(J.out.alloc _))
    clear Zz a6 a0 a7 a8;obtain⟨Zz,a6,a0,a7,a8⟩:=J.out.o4;replace D:Hid (Bx Y (w+1) [false,zN,zN,zI]):=hH (by rw[hY];exact(D.out.alloc _))
    replace Kr:=D.out.q4;replace R:Hid (Bx Y w3 [x.name,x.from_,.slice a1 x.text.length a3,.slice a9 x.list.length aa,.slice a2 x.seen.length a4]):=hH (by rw[hY];exact(R.out.alloc _))
    clear Zx Kx0 Kx1 Kx2 Kx3 Kx4;obtain⟨Zx,Kx0,Kx1,Kx2,Kx3,Kx4⟩:=R.out.o5;replace Z:Hid (Bx Y w4 [false,.slice ad z.docs.length cd,.slice N z.subs.length Q,z.last]):=hH (by rw[hY];exact(Z.out.alloc _))
    replace Ko:=Z.out.o4;first
    |have:Unit:=k_0
     clear this;replace HXe:Hid (Bx Y w7 [e.client,e.seq,.slice ae e.o.length ce]):=hH (by rw[hY];exact(HXe.out.alloc _))
     replace Ke:=HXe.out.o3
    |skip
    have HXs:Hid (Bx Y wr [s.id,s.doc,s.r.cap,s.r.next,s.r.out,.slice as4 s.r.list.length cs4]):=hH (by rw[hY];exact(Bx.new (by first|rfl|simp|omega)))
    have Ks:=HXs.out.o6;rw[<-hY];clear hY;replace y2:Y.cell? ⟨M,o4+2,none⟩=some (.int .i64 s.r.cap):=(ac.out.cell (p:=⟨M,o4+2,none⟩) l4).trans y2;replace y3:Y.cell? ⟨M,o4+2+1,none⟩=some (.int .i64 s.r.next):=(ac.out.cell (p:=⟨M,o4+2+1,none⟩) l4).trans y3;replace y4:Y.cell? ⟨M,o4+2+2,none⟩=some (.bool s.r.out):=(ac.out.cell (p:=⟨M,o4+2+2,none⟩) l4).trans y4;replace y5:Y.cell? ⟨M,o4+2+3,none⟩=some (.slice as4 s.r.list.length cs4):=(ac.out.cell (p:=⟨M,o4+2+3,none⟩) l4).trans y5;replace x2:Y.frozen? ⟨M,o4+2,none⟩=false:=(ac.out.frozen (p:=⟨M,o4+2,none⟩) l4).trans x2;replace x3:Y.frozen? ⟨M,o4+2+1,none⟩=false:=(ac.out.frozen (p:=⟨M,o4+2+1,none⟩) l4).trans x3;replace x4:Y.frozen? ⟨M,o4+2+2,none⟩=false:=(ac.out.frozen (p:=⟨M,o4+2+2,none⟩) l4).trans x4;replace x5:Y.frozen? ⟨M,o4+2+3,none⟩=false:=(ac.out.frozen (p:=⟨M,o4+2+3,none⟩) l4).trans x5;first
    |have:Unit:=k_0
     clear this
    |replace p0:Y.cell? ⟨b3,o3,none⟩=some (.int .i64 e.client):=(ac.out.cell (p:=⟨b3,o3,none⟩) l3).trans p0
     replace p1:Y.cell? ⟨b3,o3+1,none⟩=some (.int .i64 e.seq):=(ac.out.cell (p:=⟨b3,o3+1,none⟩) l3).trans p1;replace p2:Y.cell? ⟨b3,o3+2,none⟩=some (.slice ae e.o.length ce):=(ac.out.cell (p:=⟨b3,o3+2,none⟩) l3).trans p2
    clear t0 t1 t2 t3 t4 t5;have l4Y:M<Y.heap.size:=om;first
    |have:Unit:=k_0
     clear this
    |have l3Y:b3<Y.heap.size:=om
     have nb8:¬(b3=M):=by have:=HRB.out (M,o4) (HJ6.out _ (Kaa.2 ⟨rfl,by simp,by simp⟩));omega
    have hb4r:=HRB.out (M,o4) (HJ6.out _ (Kaa.2 ⟨rfl,by simp,by simp⟩))
    have nb9:¬(M=w.heap.size+1):=om;have nb0:¬(w4.heap.size=M):=om;have nb1:¬(wr.heap.size=M):=om;first
    |have:Unit:=k_0
     clear this;have nb2:¬(w7.heap.size=M):=om;go_region_held3 (fun w'=>w'.cell? ⟨w4.heap.size,0,none⟩=some (.bool false)/\w'.cell? ⟨w4.heap.size,1,none⟩=some (.slice ad z.docs.length cd)/\w'.cell? ⟨w4.heap.size,2,none⟩=some (.slice N z.subs.length Q)/\w'.cell? ⟨w4.heap.size,3,none⟩=some (.int .i64 z.last)/\w'.cell? ⟨wr.heap.size,0,none⟩=some (.int .i64 s.id)/\w'.cell? ⟨wr.heap.size,1,none⟩=some (.string s.doc)/\w'.cell? ⟨wr.heap.size,2,none⟩=some (.int .i64 s.r.cap)/\w'.cell? ⟨wr.heap.size,3,none⟩=some (.int .i64 s.r.next)/\w'.cell? ⟨wr.heap.size,4,none⟩=some (.bool s.r.out)/\w'.cell? ⟨wr.heap.size,5,none⟩=some (.slice as4 s.r.list.length cs4)/\w'.cell? ⟨w7.heap.size,0,none⟩=some (.int .i64 e.client)/\w'.cell? ⟨w7.heap.size,1,none⟩=some (.int .i64 e.seq)/\w'.cell? ⟨w7.heap.size,2,none⟩=some (.slice ae e.o.length ce)) (first|(go_keep;done)|(simp[xaa, *];done))
      ((go_at_call 134;refine(HPU.out _ _ _ ((HRS.out.below ac.out).below (show Below Y Y _ from blw)) (HLE.out.rd.below (show Below Y Y _ from blw))).mono ?_;rintro e' w8 ⟨vr,fr,rfl,sr,kr,hb8⟩;obtain⟨ar,cr,rfl⟩:=sr.isS;have HSR:=hH sr;have HKR:Hid (Qaa Y w8 fr):=hH (kr.mono om);clear sr kr;have B8:Below Y Y w8:=(show Below Y Y _ from blw).trans (hb8.mono om);have s8:=B8.size;obtain⟨Zo_8,Ko_8_0,Ko_8_1,Ko_8_2,Ko_8_3⟩:=(Z.out.at B8).o4;obtain⟨Zs_8,Ks_8_0,Ks_8_1,Ks_8_2,Ks_8_3,Ks_8_4,Ks_8_5⟩:=(HXs.out.at B8).o6;obtain⟨Ze_8,Ke_8_0,Ke_8_1,Ke_8_2⟩:=(HXe.out.at B8).o3;obtain⟨Zr_8,Kr_8_0,Kr_8_1,Kr_8_2,Kr_8_3,Gr_8_0,Gr_8_1,Gr_8_2,Gr_8_3⟩:=(D.out.at B8).q4;obtain⟨y2_8,y3_8,y4_8,y5_8⟩:=mv4 B8 l4Y y2 y3 y4 y5;obtain⟨x2_8,x3_8,x4_8,x5_8⟩:=mf4 B8 l4Y x2 x3 x4 x5;clear hb8))
    |have nb2:¬(w3.heap.size=M):=om
     go_region_held3 (fun w'=>w'.cell? ⟨w4.heap.size,0,none⟩=some (.bool false)/\w'.cell? ⟨w4.heap.size,1,none⟩=some (.slice ad z.docs.length cd)/\w'.cell? ⟨w4.heap.size,2,none⟩=some (.slice N z.subs.length Q)/\w'.cell? ⟨w4.heap.size,3,none⟩=some (.int .i64 z.last)/\w'.cell? ⟨wr.heap.size,0,none⟩=some (.int .i64 s.id)/\w'.cell? ⟨wr.heap.size,1,none⟩=some (.string s.doc)/\w'.cell? ⟨wr.heap.size,2,none⟩=some (.int .i64 s.r.cap)/\w'.cell? ⟨wr.heap.size,3,none⟩=some (.int .i64 s.r.next)/\w'.cell? ⟨wr.heap.size,4,none⟩=some (.bool s.r.out)/\w'.cell? ⟨wr.heap.size,5,none⟩=some (.slice as4 s.r.list.length cs4)/\w'.cell? ⟨w3.heap.size,0,none⟩=some (.string x.name)/\w'.cell? ⟨w3.heap.size,1,none⟩=some (.int .i64 x.from_)/\w'.cell? ⟨w3.heap.size,2,none⟩=some (.slice a1 x.text.length a3)/\w'.cell? ⟨w3.heap.size,3,none⟩=some (.slice a9 x.list.length aa)/\w'.cell? ⟨w3.heap.size,4,none⟩=some (.slice a2 x.seen.length a4)/\w'.cell? ⟨b3,o3,none⟩=some (.int .i64 e.client)/\w'.cell? ⟨b3,o3+1,none⟩=some (.int .i64 e.seq)/\w'.cell? ⟨b3,o3+2,none⟩=some (.slice ae e.o.length ce)) (first|(go_keep;done)|(simp[xaa, *];done))
      ((go_at_call 46;refine(HPU.out _ _ _ ((HRS.out.below ac.out).below (show Below Y Y _ from blw)) (HLE.out.rd.below (show Below Y Y _ from blw))).mono ?_;rintro e' w8 ⟨vr,fr,rfl,sr,kr,hb8⟩;obtain⟨ar,cr,rfl⟩:=sr.isS;have HSR:=hH sr;have HKR:Hid (Qaa Y w8 fr):=hH (kr.mono om);clear sr kr;have B8:Below Y Y w8:=(show Below Y Y _ from blw).trans (hb8.mono om);have s8:=B8.size;obtain⟨Zo_8,Ko_8_0,Ko_8_1,Ko_8_2,Ko_8_3⟩:=(Z.out.at B8).o4;obtain⟨Zs_8,Ks_8_0,Ks_8_1,Ks_8_2,Ks_8_3,Ks_8_4,Ks_8_5⟩:=(HXs.out.at B8).o6;obtain⟨Zx_8,Kx_8_0,Kx_8_1,Kx_8_2,Kx_8_3,Kx_8_4⟩:=(R.out.at B8).o5;obtain⟨Zr_8,Kr_8_0,Kr_8_1,Kr_8_2,Kr_8_3,Gr_8_0,Gr_8_1,Gr_8_2,Gr_8_3⟩:=(D.out.at B8).q4;obtain⟨y2_8,y3_8,y4_8,y5_8⟩:=mv4 B8 l4Y y2 y3 y4 y5;obtain⟨x2_8,x3_8,x4_8,x5_8⟩:=mf4 B8 l4Y x2 x3 x4 x5;obtain⟨p0_8,p1_8,p2_8⟩:=mv3 B8 l3Y p0 p1 p2;clear hb8))
    all_goals
     have HB48:Hid (Below wr wr w8):=hH (ac.out.trans (B8.mono om));have HWE:Hid (Wr (own M o4 6) wr ((((w8.setCell ⟨M,o4+2,none⟩ rp.cap).setCell ⟨M,o4+2+1,none⟩ rp.next).setCell ⟨M,o4+2+2,none⟩ rp.out).setCell ⟨M,o4+2+3,none⟩ (.slice ar rp.list.length cr))):=hH (((((Wr.of_below (fp:=own M o4 6) HB48.out).put (b:=M) (o:=o4+2) (Kaa.2 ⟨rfl,by simp only;omega,by simp only;omega⟩) (.int .i64 rp.cap)).put (b:=M) (o:=o4+2+1) (Kaa.2 ⟨rfl,by simp only;omega,by simp only;omega⟩) (.int .i64 rp.next)).put (b:=M) (o:=o4+2+2) (Kaa.2 ⟨rfl,by simp only;omega,by simp only;omega⟩) (.bool rp.out)).put (b:=M) (o:=o4+2+3) (Kaa.2 ⟨rfl,by simp only;omega,by simp only;omega⟩) (.slice ar rp.list.length cr))
     have HAE:Hid (At ((((w8.setCell ⟨M,o4+2,none⟩ rp.cap).setCell ⟨M,o4+2+1,none⟩ rp.next).setCell ⟨M,o4+2+2,none⟩ rp.out).setCell ⟨M,o4+2+3,none⟩ (.slice ar rp.list.length cr)) M o4 [s.id,s.doc,rp.cap,rp.next,rp.out,.slice ar rp.list.length cr]):=hH (((((HJ3.out.keep fun j hj=>HB48.out.cell (p:=⟨M,o4+j,none⟩) l4).put 2 sm (.int .i64 rp.cap)).put 3 sm (.int .i64 rp.next)).put 4 sm (.bool rp.out)).put 5 sm (.slice ar rp.list.length cr))
     have htw:Two (α:=yab) (β:=Int) Y w8 w8 (.slice ar rp.list.length cr) (.slice none 0 0) rp.list [] fr []:=⟨HSR.out,Sl.nil,by simpa using HKR.out,by simpa using Live.lt HSR.out.live⟩
     have HTR:=hH ((((htw.setCell (b:=M) (o:=o4+2) (.inl l4Y) (.int .i64 rp.cap)).setCell (b:=M) (o:=o4+2+1) (.inl l4Y) (.int .i64 rp.next)).setCell (b:=M) (o:=o4+2+2) (.inl l4Y) (.bool rp.out)).setCell (b:=M) (o:=o4+2+3) (.inl l4Y) (.slice ar rp.list.length cr));clear htw;go_wp2;go_roundw
     case rel=>exact⟨m+1,by omega,by go_num,by rw[qa1 HS.out HN.out,HRP.out];exact HJ7.out ((((w8.setCell ⟨M,o4+2,none⟩ rp.cap).setCell ⟨M,o4+2+1,none⟩ rp.next).setCell ⟨M,o4+2+2,none⟩ rp.out).setCell ⟨M,o4+2+3,none⟩ (.slice ar rp.list.length cr)) rp _ _ HWE.out HAE.out HTR.out.1 (HTR.out.2.2.1.left.mono om),HWR.out.trans (HWE.out.sub HJ6.out)⟩
     case measure=>simp[intOf];omega
   ·have hl2:¬(m:Int)<(z.subs.length:Int):=om;have hmx:m=z.subs.length:=om;replace HNW:Hid (vag w4 w2 wr (.slice ad z.docs.length cd) (.slice N z.subs.length Q) (z.docs.set k x) (z.subs.map (uaF name e))):=hH (by have:=HNW.out;rw[za8 name e hmx]at this;exact this)
    clear hmx;first
    |have:Unit:=k_0
     clear this;go_upto_region 22 with(fail)
    |go_upto_region 20 with(fail)
    have HH:=hH (((((HNW.out.setCell om _).setCell om _).setCell om _).setCell om _):vag w4 w2 ((((wr.setCell ⟨w+1,0,none⟩ false).setCell ⟨w+1,1,none⟩ (.slice ad z.docs.length cd)).setCell ⟨w+1,2,none⟩ (.slice N z.subs.length Q)).setCell ⟨w+1,3,none⟩ z.last) (.slice ad z.docs.length cd) (.slice N z.subs.length Q) (z.docs.set k x) (z.subs.map (uaF name e)));repeat go_step
    rw[HV.out];exact bodyPost_ret (v:= .tuple #[.agg #[false,.slice ad z.docs.length cd,.slice N z.subs.length Q,z.last],rev,zI]) (by simp[results,Tryz.results101,Tryz.results16,go_sem,xaa, *]) rfl (vag.out_i_i (y:=⟨false,z.docs.set k x,z.subs.map (uaF name e),z.last⟩) HH.out om (Kam I.out om))
def zaw:=@QaB 101 (.inl rfl)
def xaw:=@QaB 16 (.inr rfl)
