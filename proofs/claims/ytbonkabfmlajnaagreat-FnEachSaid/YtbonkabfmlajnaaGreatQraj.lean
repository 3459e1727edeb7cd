/- Names, operations of entries, copies of documents. -/
import Derived.Test.YtbonkabfmlajnaaGreatQrai
import Derived.Deep.DrawnRows
set_option maxHeartbeats 8000000
set_option maxRecDepth 100000
set_option linter.defProp false
set_option linter.unusedSimpArgs false
namespace Go.Proofs.YtbonkabfmlajnaaGreat
open Go.RowKit
attribute [local go_sem ↓] Go.wp_at_zero Go.wp_at_succ
theorem vaX:(Tryz.prog.info? 119).map (fun i=>(i.zero,i.size,i.bytes))=some (some (.agg #[zI,zI,zI]),3,24):=by kernel_rfl
theorem ubc {M:Nat}{w:World}{c:List Value}{x:qac}{f:List Pos}(h:GoT.rd M w c x f):f=[]:=h.2
theorem Src.seens {w:World}{v:Value}{l:List qac}(h:RdS w v l):Src w v l []:=by
 obtain⟨u,n,c,news,p,j,q⟩:=h.src;have:=Els.flat (α:=qac) ubc j;subst this;exact⟨n,c,news,p,j,q⟩
theorem Row.flatB {α:Type}[GoT α]{B:Nat}{w:World}{v:Value}{l:List α}(h:Row B w v l []):zag B w w v l:=(h.owns (Qaa.nil _ _)).bd
theorem uat (d:Xac)(z q u:Value)(w:World)(a4:d.name.size<=BIG)(Q:RdS w z d.text)(M:RdS w q d.list)(N:RdS w u d.seen)(b_text:d.text.length<=4000000)(Z:szL d.list<=4000000)(b_seen:d.seen.length<=4000000):
 Calls Tryz.prog 124 #[.agg #[d.name,d.from_,z,q,u]] w (ka2 w d):=by
 obtain⟨i0,hi,hz0,hz1,hz2⟩:=info_parts vaX;obtain⟨j0,hj,jz0,jz1,jz2⟩:=info_parts vau;go_enter Tryz.func124,Tryz.ntmps124
 go_wp2_with fail
 obtain⟨W,B⟩:∃W:World,W=(w.alloc (.cells #[d.name,d.from_,z,q,u] 67)).alloc (.cells #[.string ⟨#[]⟩,zI,zN,zN,zN] 67):=⟨_,rfl⟩;have a0:Below w w W:=by rw[B];exact blw
 have n:w+1<W.heap.size:=by rw[B];simp
 have j:w<W.heap.size:=om;have k0:W.cell? ⟨w.heap.size,0,none⟩=some (.string d.name):=by rw[B];simp[go_sem]
 have k1:W.cell? ⟨w.heap.size,1,none⟩=some (.int .i64 d.from_):=by rw[B];simp[go_sem]
 have k2:W.cell? ⟨w.heap.size,2,none⟩=some (z):=by rw[B];simp[go_sem]
 have k3:W.cell? ⟨w.heap.size,3,none⟩=some (q):=by rw[B];simp[go_sem]
 have k4:W.cell? ⟨w.heap.size,4,none⟩=some (u):=by rw[B];simp[go_sem]
 have r0:W.cell? ⟨w.heap.size+1,0,none⟩=some (.string ⟨#[]⟩):=by rw[B];simp[go_sem]
 have f0:W.frozen? ⟨w.heap.size+1,0,none⟩=false:=by rw[B];simp[go_sem]
 have r1:W.cell? ⟨w.heap.size+1,1,none⟩=some (.int .i64 0):=by rw[B];simp[go_sem]
 have f1:W.frozen? ⟨w.heap.size+1,1,none⟩=false:=by rw[B];simp[go_sem]
 have r2:W.cell? ⟨w.heap.size+1,2,none⟩=some (.slice none 0 0):=by rw[B];simp[go_sem]
 have f2:W.frozen? ⟨w.heap.size+1,2,none⟩=false:=by rw[B];simp[go_sem]
 have r3:W.cell? ⟨w.heap.size+1,3,none⟩=some (.slice none 0 0):=by rw[B];simp[go_sem]
 have f3:W.frozen? ⟨w.heap.size+1,3,none⟩=false:=by rw[B];simp[go_sem]
 have r4:W.cell? ⟨w.heap.size+1,4,none⟩=some (.slice none 0 0):=by rw[B];simp[go_sem]
 have f4:W.frozen? ⟨w.heap.size+1,4,none⟩=false:=by rw[B];simp[go_sem]
 rw[<-B];clear B;have HXT:=hH (Q.below a0);have HXL:=hH (M.below a0);have HXS:=hH (N.below a0);clear Q M N;go_region_held3 (fun w'=>w'.cell? ⟨w.heap.size,0,none⟩=some (.string d.name)/\w'.cell? ⟨w.heap.size,1,none⟩=some (.int .i64 d.from_)/\w'.cell? ⟨w.heap.size,2,none⟩=some (z)/\w'.cell? ⟨w.heap.size,3,none⟩=some (q)/\w'.cell? ⟨w.heap.size,4,none⟩=some u) (first|go_keep|(simp[xaa, *];done))
  (first
   |((refine yad (by rfl) (.tmp 7) (.tmp 9) 31 (by rfl) Tryz.underlying31 hj jz0 jz1 jz2 rfl (by rfl) (by rfl) (Row.empty W _ _) (Src.ints2 (HXT.out.below blw)) (fun _ h=>by cases h) (Xab (by simp;omega)) (by simp;omega) (by first|(simp;done)|(simp;omega)) ?_);intro v1 w1 R hw1 hn1;replace R:Row W w1 v1 d.text []:=R;obtain⟨a1,c1,rfl⟩:=R.rd.isSlice;have D:Below W W w1:=(show Below W W _ from blw).trans (hw1.nilBelow.mono om);have s1:=D.size;have H1:=hH R.flatB;clear R hw1 hn1;have y1_0:=(D.cell (p:=⟨w,0,none⟩) j).trans k0;have y1_1:=(D.cell (p:=⟨w,1,none⟩) j).trans k1;have y1_2:=(D.cell (p:=⟨w,2,none⟩) j).trans k2;have y1_3:=(D.cell (p:=⟨w,3,none⟩) j).trans k3;have y1_4:=(D.cell (p:=⟨w,4,none⟩) j).trans k4;have x1_0:=(D.cell (p:=⟨w+1,0,none⟩) n).trans r0;have t1_0:=(D.frozen (p:=⟨w+1,0,none⟩) n).trans f0;have x1_1:=(D.cell (p:=⟨w+1,1,none⟩) n).trans r1;have t1_1:=(D.frozen (p:=⟨w+1,1,none⟩) n).trans f1;have x1_2:=(D.cell (p:=⟨w+1,2,none⟩) n).trans r2;have t1_2:=(D.frozen (p:=⟨w+1,2,none⟩) n).trans f2;have x1_3:=(D.cell (p:=⟨w+1,3,none⟩) n).trans r3;have t1_3:=(D.frozen (p:=⟨w+1,3,none⟩) n).trans f3;have x1_4:=(D.cell (p:=⟨w+1,4,none⟩) n).trans r4;have t1_4:=(D.frozen (p:=⟨w+1,4,none⟩) n).trans f4)
   |(go_at_call 149;refine(zaf _ d.list _ (HXL.out.below blw) Z).mono ?_;rintro e' Y ⟨v2,rfl,ho2,hb2⟩;have Q2:Below w1 w1 Y:=(show Below w1 w1 _ from blw).trans (hb2.mono om);have I:Below W W Y:=D.trans (Q2.mono om);have s2:=Q2.size;obtain⟨a2,c2,rfl⟩:=ho2.rd.isSlice;have H2:Hid (zag w1 Y Y (.slice a2 d.list.length c2) d.list):=hH (ho2.mono om).bd;have H12:=hH (H1.out.below Q2);clear ho2 hb2;have y2_0:=(I.cell (p:=⟨w,0,none⟩) j).trans k0;have y2_1:=(I.cell (p:=⟨w,1,none⟩) j).trans k1;have y2_2:=(I.cell (p:=⟨w,2,none⟩) j).trans k2;have y2_3:=(I.cell (p:=⟨w,3,none⟩) j).trans k3;have y2_4:=(I.cell (p:=⟨w,4,none⟩) j).trans k4;have x2_0:=(I.cell (p:=⟨w+1,0,none⟩) n).trans r0;have t2_0:=(I.frozen (p:=⟨w+1,0,none⟩) n).trans f0;have x2_1:=(I.cell (p:=⟨w+1,1,none⟩) n).trans r1;have t2_1:=(I.frozen (p:=⟨w+1,1,none⟩) n).trans f1;have x2_2:=(I.cell (p:=⟨w+1,2,none⟩) n).trans r2;have t2_2:=(I.frozen (p:=⟨w+1,2,none⟩) n).trans f2;have x2_3:=(I.cell (p:=⟨w+1,3,none⟩) n).trans r3;have t2_3:=(I.frozen (p:=⟨w+1,3,none⟩) n).trans f3;have x2_4:=(I.cell (p:=⟨w+1,4,none⟩) n).trans r4;have t2_4:=(I.frozen (p:=⟨w+1,4,none⟩) n).trans f4)
   |((refine yad (by rfl) (.tmp 14) (.tmp 16) 65 (by rfl) Tryz.underlying65 hi hz0 hz1 hz2 rfl (by rfl) (by rfl) (Row.empty Y _ _) (Src.seens (HXS.out.below blw)) (fun _ h=>by cases h) (Xab (by simp;omega)) (by simp;omega) (by first|(simp;done)|(simp;omega)) ?_);intro v3 w3 U hw3 hn3;replace U:Row Y w3 v3 d.seen []:=U;obtain⟨a3,c3,rfl⟩:=U.rd.isSlice;have Q3:Below Y Y w3:=(show Below Y Y _ from blw).trans (hw3.nilBelow.mono om);have J:Below W W w3:=I.trans (Q3.mono om);have s3:=Q3.size;have H3:=hH U.flatB;have H13:=hH (H12.out.below Q3);have H23:=hH (H2.out.below Q3);clear U hw3 hn3;have y3_0:=(J.cell (p:=⟨w,0,none⟩) j).trans k0;have y3_1:=(J.cell (p:=⟨w,1,none⟩) j).trans k1;have y3_2:=(J.cell (p:=⟨w,2,none⟩) j).trans k2;have y3_3:=(J.cell (p:=⟨w,3,none⟩) j).trans k3;have y3_4:=(J.cell (p:=⟨w,4,none⟩) j).trans k4;have x3_0:=(J.cell (p:=⟨w+1,0,none⟩) n).trans r0;have t3_0:=(J.frozen (p:=⟨w+1,0,none⟩) n).trans f0;have x3_1:=(J.cell (p:=⟨w+1,1,none⟩) n).trans r1;have t3_1:=(J.frozen (p:=⟨w+1,1,none⟩) n).trans f1;have x3_2:=(J.cell (p:=⟨w+1,2,none⟩) n).trans r2;have t3_2:=(J.frozen (p:=⟨w+1,2,none⟩) n).trans f2;have x3_3:=(J.cell (p:=⟨w+1,3,none⟩) n).trans r3;have t3_3:=(J.frozen (p:=⟨w+1,3,none⟩) n).trans f3;have x3_4:=(J.cell (p:=⟨w+1,4,none⟩) n).trans r4;have t3_4:=(J.frozen (p:=⟨w+1,4,none⟩) n).trans f4))
 all_goals
  have HR:Hid (Own w (((((w3.setCell ⟨w+1,0,none⟩ d.name).setCell ⟨w+1,1,none⟩ d.from_).setCell ⟨w+1,2,none⟩ (.slice a1 d.text.length c1)).setCell ⟨w+1,3,none⟩ (.slice a2 d.list.length c2)).setCell ⟨w+1,4,none⟩ (.slice a3 d.seen.length c3)) [d.name,d.from_,.slice a1 d.text.length c1,.slice a2 d.list.length c2,.slice a3 d.seen.length c3] d):=hH (ua5 d a4 (((((H13.out.setCell (.inl om) (.string d.name)).setCell (.inl om) (.int .i64 d.from_)).setCell (.inl om) (.slice a1 d.text.length c1)).setCell (.inl om) (.slice a2 d.list.length c2)).setCell (.inl om) (.slice a3 d.seen.length c3)) (((((H23.out.setCell (.inl om) (.string d.name)).setCell (.inl om) (.int .i64 d.from_)).setCell (.inl om) (.slice a1 d.text.length c1)).setCell (.inl om) (.slice a2 d.list.length c2)).setCell (.inl om) (.slice a3 d.seen.length c3)) (((((H3.out.setCell (.inl om) (.string d.name)).setCell (.inl om) (.int .i64 d.from_)).setCell (.inl om) (.slice a1 d.text.length c1)).setCell (.inl om) (.slice a2 d.list.length c2)).setCell (.inl om) (.slice a3 d.seen.length c3)) om om om om om om);have HB:Hid (Below w w (((((w3.setCell ⟨w+1,0,none⟩ d.name).setCell ⟨w+1,1,none⟩ d.from_).setCell ⟨w+1,2,none⟩ (.slice a1 d.text.length c1)).setCell ⟨w+1,3,none⟩ (.slice a2 d.list.length c2)).setCell ⟨w+1,4,none⟩ (.slice a3 d.seen.length c3))):=hH ((((((a0.trans (J.mono om)).setCell sm _).setCell sm _).setCell sm _).setCell sm _).setCell sm _);go_wp2;exact bodyPost_ret (v:= .agg #[d.name,d.from_,.slice a1 d.text.length c1,.slice a2 d.list.length c2,.slice a3 d.seen.length c3]) (by simp[results,Tryz.results124,go_sem,xaa, *]) rfl ⟨_,rfl,HR.out,HB.out⟩
theorem Jat (d:Xac)(z q u:Value)(w:World)(a4:d.name.size<=BIG)(Q:RdS w z d.text)(M:RdS w q d.list)(N:RdS w u d.seen)(Z:d.text.length<=4000000)(Y:szL d.list<=4000000)(b_seen:d.seen.length<=4000000):
 Calls Tryz.prog 63 #[.agg #[d.name,d.from_,z,q,u]] w (ka2 w d):=by
 obtain⟨i0,hi,hz0,hz1,hz2⟩:=info_parts vaX;obtain⟨j0,hj,jz0,jz1,jz2⟩:=info_parts vau;go_enter Tryz.func63,Tryz.ntmps63
 go_wp2_with fail
 obtain⟨W,B⟩:∃W:World,W=(w.alloc (.cells #[d.name,d.from_,z,q,u] 67)).alloc (.cells #[.string ⟨#[]⟩,zI,zN,zN,zN] 67):=⟨_,rfl⟩;have a0:Below w w W:=by rw[B];exact blw
 have n:w+1<W.heap.size:=by rw[B];simp
 have j:w<W.heap.size:=om;have k0:W.cell? ⟨w.heap.size,0,none⟩=some (.string d.name):=by rw[B];simp[go_sem]
 have k1:W.cell? ⟨w.heap.size,1,none⟩=some (.int .i64 d.from_):=by rw[B];simp[go_sem]
 have k2:W.cell? ⟨w.heap.size,2,none⟩=some (z):=by rw[B];simp[go_sem]
 have k3:W.cell? ⟨w.heap.size,3,none⟩=some (q):=by rw[B];simp[go_sem]
 have k4:W.cell? ⟨w.heap.size,4,none⟩=some (u):=by rw[B];simp[go_sem]
 have r0:W.cell? ⟨w.heap.size+1,0,none⟩=some (.string ⟨#[]⟩):=by rw[B];simp[go_sem]
 have f0:W.frozen? ⟨w.heap.size+1,0,none⟩=false:=by rw[B];simp[go_sem]
 have r1:W.cell? ⟨w.heap.size+1,1,none⟩=some (.int .i64 0):=by rw[B];simp[go_sem]
 have f1:W.frozen? ⟨w.heap.size+1,1,none⟩=false:=by rw[B];simp[go_sem]
 have r2:W.cell? ⟨w.heap.size+1,2,none⟩=some (.slice none 0 0):=by rw[B];simp[go_sem]
 have f2:W.frozen? ⟨w.heap.size+1,2,none⟩=false:=by rw[B];simp[go_sem]
 have r3:W.cell? ⟨w.heap.size+1,3,none⟩=some (.slice none 0 0):=by rw[B];simp[go_sem]
 have f3:W.frozen? ⟨w.heap.size+1,3,none⟩=false:=by rw[B];simp[go_sem]
 have r4:W.cell? ⟨w.heap.size+1,4,none⟩=some (.slice none 0 0):=by rw[B];simp[go_sem]
 have f4:W.frozen? ⟨w.heap.size+1,4,none⟩=false:=by rw[B];simp[go_sem]
 rw[<-B];clear B;have HXT:=hH (Q.below a0);have HXL:=hH (M.below a0);have HXS:=hH (N.below a0);clear Q M N;go_region_held3 (fun w'=>w'.cell? ⟨w.heap.size,0,none⟩=some (.string d.name)/\w'.cell? ⟨w.heap.size,1,none⟩=some (.int .i64 d.from_)/\w'.cell? ⟨w.heap.size,2,none⟩=some (z)/\w'.cell? ⟨w.heap.size,3,none⟩=some (q)/\w'.cell? ⟨w.heap.size,4,none⟩=some u) (first|go_keep|(simp[xaa, *];done))
  (first
   |(go_at_call 77;refine(qal _ d.text _ (HXT.out.below blw) Z).mono ?_;rintro e' w1 ⟨v1,rfl,ho1,hb1⟩;have D:Below W W w1:=(show Below W W _ from blw).trans (hb1.mono om);have s1:=D.size;obtain⟨a1,c1,rfl⟩:=ho1.rd.isSlice;have H1:Hid (zag W w1 w1 (.slice a1 d.text.length c1) d.text):=hH (ho1.mono om).bd;clear ho1 hb1;have y1_0:=(D.cell (p:=⟨w,0,none⟩) j).trans k0;have y1_1:=(D.cell (p:=⟨w,1,none⟩) j).trans k1;have y1_2:=(D.cell (p:=⟨w,2,none⟩) j).trans k2;have y1_3:=(D.cell (p:=⟨w,3,none⟩) j).trans k3;have y1_4:=(D.cell (p:=⟨w,4,none⟩) j).trans k4;have x1_0:=(D.cell (p:=⟨w+1,0,none⟩) n).trans r0;have t1_0:=(D.frozen (p:=⟨w+1,0,none⟩) n).trans f0;have x1_1:=(D.cell (p:=⟨w+1,1,none⟩) n).trans r1;have t1_1:=(D.frozen (p:=⟨w+1,1,none⟩) n).trans f1;have x1_2:=(D.cell (p:=⟨w+1,2,none⟩) n).trans r2;have t1_2:=(D.frozen (p:=⟨w+1,2,none⟩) n).trans f2;have x1_3:=(D.cell (p:=⟨w+1,3,none⟩) n).trans r3;have t1_3:=(D.frozen (p:=⟨w+1,3,none⟩) n).trans f3;have x1_4:=(D.cell (p:=⟨w+1,4,none⟩) n).trans r4;have t1_4:=(D.frozen (p:=⟨w+1,4,none⟩) n).trans f4)
   |(go_at_call 85;refine(uak _ d.list _ (HXL.out.below blw) Y).mono ?_;rintro e' U ⟨v2,rfl,ho2,hb2⟩;have Q2:Below w1 w1 U:=(show Below w1 w1 _ from blw).trans (hb2.mono om);have I:Below W W U:=D.trans (Q2.mono om);have s2:=Q2.size;obtain⟨a2,c2,rfl⟩:=ho2.rd.isSlice;have H2:Hid (zag w1 U U (.slice a2 d.list.length c2) d.list):=hH (ho2.mono om).bd;have H12:=hH (H1.out.below Q2);clear ho2 hb2;have y2_0:=(I.cell (p:=⟨w,0,none⟩) j).trans k0;have y2_1:=(I.cell (p:=⟨w,1,none⟩) j).trans k1;have y2_2:=(I.cell (p:=⟨w,2,none⟩) j).trans k2;have y2_3:=(I.cell (p:=⟨w,3,none⟩) j).trans k3;have y2_4:=(I.cell (p:=⟨w,4,none⟩) j).trans k4;have x2_0:=(I.cell (p:=⟨w+1,0,none⟩) n).trans r0;have t2_0:=(I.frozen (p:=⟨w+1,0,none⟩) n).trans f0;have x2_1:=(I.cell (p:=⟨w+1,1,none⟩) n).trans r1;have t2_1:=(I.frozen (p:=⟨w+1,1,none⟩) n).trans f1;have x2_2:=(I.cell (p:=⟨w+1,2,none⟩) n).trans r2;have t2_2:=(I.frozen (p:=⟨w+1,2,none⟩) n).trans f2;have x2_3:=(I.cell (p:=⟨w+1,3,none⟩) n).trans r3;have t2_3:=(I.frozen (p:=⟨w+1,3,none⟩) n).trans f3;have x2_4:=(I.cell (p:=⟨w+1,4,none⟩) n).trans r4;have t2_4:=(I.frozen (p:=⟨w+1,4,none⟩) n).trans f4)
   |((refine yad (by rfl) (.const (.slice none 0 0)) (.tmp 14) 65 (by rfl) Tryz.underlying65 hi hz0 hz1 hz2 rfl (by rfl) (by rfl) (Row.nil U _) (Src.seens (HXS.out.below blw)) (fun _ h=>by cases h) (Xab (by simp;omega)) (by simp;omega) (by first|(simp;done)|(simp;omega)) ?_);intro v3 w3 R hw3 hn3;replace R:Row U w3 v3 d.seen []:=R;obtain⟨a3,c3,rfl⟩:=R.rd.isSlice;have Q3:Below U U w3:=(show Below U U _ from blw).trans (hw3.nilBelow.mono om);have J:Below W W w3:=I.trans (Q3.mono om);have s3:=Q3.size;have H3:=hH R.flatB;have H13:=hH (H12.out.below Q3);have H23:=hH (H2.out.below Q3);clear R hw3 hn3;have y3_0:=(J.cell (p:=⟨w,0,none⟩) j).trans k0;have y3_1:=(J.cell (p:=⟨w,1,none⟩) j).trans k1;have y3_2:=(J.cell (p:=⟨w,2,none⟩) j).trans k2;have y3_3:=(J.cell (p:=⟨w,3,none⟩) j).trans k3;have y3_4:=(J.cell (p:=⟨w,4,none⟩) j).trans k4;have x3_0:=(J.cell (p:=⟨w+1,0,none⟩) n).trans r0;have t3_0:=(J.frozen (p:=⟨w+1,0,none⟩) n).trans f0;have x3_1:=(J.cell (p:=⟨w+1,1,none⟩) n).trans r1;have t3_1:=(J.frozen (p:=⟨w+1,1,none⟩) n).trans f1;have x3_2:=(J.cell (p:=⟨w+1,2,none⟩) n).trans r2;have t3_2:=(J.frozen (p:=⟨w+1,2,none⟩) n).trans f2;have x3_3:=(J.cell (p:=⟨w+1,3,none⟩) n).trans r3;have t3_3:=(J.frozen (p:=⟨w+1,3,none⟩) n).trans f3;have x3_4:=(J.cell (p:=⟨w+1,4,none⟩) n).trans r4;have t3_4:=(J.frozen (p:=⟨w+1,4,none⟩) n).trans f4))
 all_goals
  have HR:Hid (Own w (((((w3.setCell ⟨w+1,0,none⟩ d.name).setCell ⟨w+1,1,none⟩ d.from_).setCell ⟨w+1,2,none⟩ (.slice a1 d.text.length c1)).setCell ⟨w+1,3,none⟩ (.slice a2 d.list.length c2)).setCell ⟨w+1,4,none⟩ (.slice a3 d.seen.length c3)) [d.name,d.from_,.slice a1 d.text.length c1,.slice a2 d.list.length c2,.slice a3 d.seen.length c3] d):=hH (ua5 d a4 (((((H13.out.setCell (.inl om) (.string d.name)).setCell (.inl om) (.int .i64 d.from_)).setCell (.inl om) (.slice a1 d.text.length c1)).setCell (.inl om) (.slice a2 d.list.length c2)).setCell (.inl om) (.slice a3 d.seen.length c3)) (((((H23.out.setCell (.inl om) (.string d.name)).setCell (.inl om) (.int .i64 d.from_)).setCell (.inl om) (.slice a1 d.text.length c1)).setCell (.inl om) (.slice a2 d.list.length c2)).setCell (.inl om) (.slice a3 d.seen.length c3)) (((((H3.out.setCell (.inl om) (.string d.name)).setCell (.inl om) (.int .i64 d.from_)).setCell (.inl om) (.slice a1 d.text.length c1)).setCell (.inl om) (.slice a2 d.list.length c2)).setCell (.inl om) (.slice a3 d.seen.length c3)) om om om om om om);have HB:Hid (Below w w (((((w3.setCell ⟨w+1,0,none⟩ d.name).setCell ⟨w+1,1,none⟩ d.from_).setCell ⟨w+1,2,none⟩ (.slice a1 d.text.length c1)).setCell ⟨w+1,3,none⟩ (.slice a2 d.list.length c2)).setCell ⟨w+1,4,none⟩ (.slice a3 d.seen.length c3))):=hH ((((((a0.trans (J.mono om)).setCell sm _).setCell sm _).setCell sm _).setCell sm _).setCell sm _);go_wp2;exact bodyPost_ret (v:= .agg #[d.name,d.from_,.slice a1 d.text.length c1,.slice a2 d.list.length c2,.slice a3 d.seen.length c3]) (by simp[results,Tryz.results63,go_sem,xaa, *]) rfl ⟨_,rfl,HR.out,HB.out⟩
theorem jaV:(Tryz.prog.info? 30).map (fun i=>(i.zero,i.size,i.bytes))=some (some (.slice none 0 0),1,24):=by kernel_rfl
theorem zat (v:Value)(l:List yab)(w:World)(h:RdS w v l)(hs:szL l<=4000000):Calls Tryz.prog 68 #[v] w (kaD w (l.map yab.o)):=by
 have hl:=fun w1 ty=>h.len Tryz.underlying34 w1 ty
 obtain⟨i0,hi,hz0,hz1,hz2⟩:=info_parts jaV;have h1:l.length<=4000000:=by unfold szL at hs;omega
 have H2:Hid (∀e∈l,szL e.o<=4000000):=hH fun e he=>by have:=kaE he;simp only[GoS.sz]at this;omega
 clear hs;go_enter Tryz.func68,Tryz.ntmps68
 go_wp2;go_loopw [3,8] (fun z i wr=>∃(k:Nat) (u:Value),u=z/\k<=l.length/\i= .int .i64 k/\uaf w wr u ((l.map yab.o).take k)/\Below w w wr) (fun _ i _=>l.length-(intOf i).toNat)
 case atStart=>exact⟨0,_,rfl,lz _,rfl,uaf.empty _ _ _,blw⟩
 case round=>
  obtain⟨k,u,rfl,hk,rfl,Z,B⟩:=hrel;have Y:=B.size;by_cases hlt:k<l.length
  ·obtain⟨p,hx⟩:=Jaa hlt;obtain⟨b1,o1,cs,g1,g2,g3⟩:=(h.below B).idx Tryz.underlying34 Kab k hx;obtain⟨v_o,rfl,a0⟩:=qag g3;have q0:=g2.zero;have q1:=g2 1 _ rfl;have q2:=g2 2 _ rfl;obtain⟨aa,ca,rfl⟩:=a0.isSlice;have HT:Hid ((l.map yab.o).take (k+1)=(l.map yab.o).take k++[p.o]):=hH (by refine Zag ?_;simp[hx])
   have hps:=H2.out p (List.mem_of_getElem? hx);have U:((l.map yab.o).take k).length<=4000000:=by simp;omega
   clear hx;obtain⟨fs,D,R⟩:=Z.row;have j:=hH D;have HFS:=hH R;clear D R Z;go_wp2_with fail
   refine(jaC _ p.o _ (a0.below blw) hps).mono ?_;rintro e w1 ⟨v1,rfl,ho,hb1⟩;obtain⟨f,M,Q⟩:=ho;obtain⟨a1,c1,rfl⟩:=RdS.isSlice ⟨_,M⟩;have n:Below wr wr w1:=blw;have I:=hH n;have s1:=n.size;have N:=hH (Q.mono (B':=wr) sm);have J:=hH M;clear hb1 n Q M;go_wp2_with (at_builtin;refine qaa rfl _ _ 116 rfl Tryz.underlying116 hi hz0 hz1 hz2 rfl rfl rfl ((j.out.below I.out).below ((lf _ _).alloc (lr _) _)) (Zac (x:=p.o) 30 ⟨_,rfl,J.out⟩) (fun q hq hm=>by have e1:=N.out.ge q hq;have e2:=Live.lt (Live.append.1 j.out.1.live).1 q hm;omega) ?c1 ?c2 ?c3 ?_)
   case c1=>simp at U⊢;exact Xab om
   case c2=>simp at U⊢;omega
   case c3=>simp;omega
   intro v' w2 hr hw _;have HO:Hid (uaf w w2 v' ((l.map yab.o).take (k+1))):=hH (by
    rw[HT.out];exact Row.grown j.out HFS.out (I.out.alloc om _) (N.out.belowL ((lf _ _).alloc (lr _) _) (Live.lt J.out.live)) (J.out.belowW ((lf _ _).alloc (lr _) _)).live Y hr hw)
   have HB2:Hid (Below w w w2):=hH (Zaf B (wrb (C:=w) hw (I.out.alloc om _) Y (fun q hq=>j.out.2.1.ge q hq)) (lr _))
   clear hr hw;go_wp2;go_roundw
   case rel=>exact⟨k+1,_,rfl,by omega,by go_num,HO.out,HB2.out⟩
   case measure=>simp[intOf];omega
  ·obtain rfl:k=l.length:=om;rw[List.take_of_length_le sm]at Z;have HU:=hH Z;clear Z;go_wp2;go_ret;exact⟨_,rfl,HU.out,B⟩
def Kaj (s:ByteArray):Bool:=s.data.toList.all (fun c=>decide (97<=(c.toNat:Int))&&decide ((c.toNat:Int)<=122))&&within s.size 1 8
theorem ubg (s:ByteArray)(k:Nat)(h:k<s.size):s.data.toList[k]? =some s[k]:=by
 rw[List.getElem?_eq_getElem (by simpa using h)];rfl
theorem JaQ {B:Nat}(N:B=146\/B=42)(s:ByteArray)(w:World)(hs:s.size<=4294967296):Calls Tryz.prog B #[s] w (yae w (.bool (Kaj s))):=by
 rcases N with rfl|rfl
 have u:=hH @Zaa;go_enter Tryz.func146,Tryz.ntmps146;rotate_left;have u:=hH @vaa;go_enter Tryz.func42,Tryz.ntmps42;all_goals
  have hl:s.data.toList.length=s.size:=by simp
  go_wp2;go_loopw [3] (fun i wr=>∃k:Nat,k<=s.size/\i= .int .i64 k/\(∀j<k,∀y,s.data.toList[j]? =some y->(decide (97<=(y.toNat:Int))&&decide ((y.toNat:Int)<=122))=true)/\Below w w wr) (fun i _=>s.size-(intOf i).toNat)
  case atStart=>exact⟨0,lz _,rfl,fun _ h=>absurd h (Nat.not_lt_zero _),blw⟩
  case round=>
   obtain⟨k,Z,rfl,D,n⟩:=hrel;have U:=n.size;have J:=hH D;clear D;by_cases I:k<s.size
   ·have z:=hH (ubg s k I);by_cases c1:97<=(s[k].toNat:Int)
    ·by_cases c2:(s[k].toNat:Int)<=122
     ·have M:Hid ((decide (97<=(s[k].toNat:Int))&&decide ((s[k].toNat:Int)<=122))=true):=hH (by simp;omega)
      go_wp2;go_roundw
      case rel=>exact⟨k+1,by omega,by go_num,qav z.out M.out J.out,n⟩
      case measure=>simp[intOf];omega
     ·have p:Hid (Kaj s=false):=hH (by unfold Kaj;rw[JaL z.out (by simp;omega)];rfl)
      go_wp2;go_ret;exact⟨jaa p.out.symm,n⟩
    ·have p:Hid (Kaj s=false):=hH (by unfold Kaj;rw[JaL z.out (by simp;omega)];rfl)
     go_wp2;go_ret;exact⟨jaa p.out.symm,n⟩
   ·have p:Hid (Kaj s=within s.size 1 8):=hH (by unfold Kaj;rw[jax fun j D=>J.out j om];rfl)
    go_wp2_with fail
    refine(u.out _ _ _ _).mono ?_;rintro e w1 ⟨rfl,q⟩;have Y:=q.size;(try simp at Y)
    obtain⟨Q,R⟩:=jac q;go_wp2;go_ret;exact⟨jaa p.out.symm,blw⟩
def kan:=@JaQ 146 (.inl rfl)
def qaj:=@JaQ 42 (.inr rfl)
