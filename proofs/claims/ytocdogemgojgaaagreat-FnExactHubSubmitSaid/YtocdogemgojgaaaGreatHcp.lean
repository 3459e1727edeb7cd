/- Copies of hubs: new memory that reads alike. -/
import Derived.Test.YtocdogemgojgaaaGreatHpl
import Derived.Test.YtocdogemgojgaaaGreatHst
import Derived.Test.YtocdogemgojgaaaGreatDcp
import Derived.Test.YtocdogemgojgaaaGreatRo
import Derived.Deep.Cut
import Derived.Deep.RegionLaw
set_option maxHeartbeats 8000000
set_option maxRecDepth 100000
namespace Go.Proofs.YtocdogemgojgaaaGreat
open Go.RowKit
attribute [local go_sem ↓] Go.wp_at_zero Go.wp_at_succ
structure BoxAt (w:World)(b:Nat)(vs:List Value):Prop where
 at_:At w b 0 vs
 fz:∀j<vs.length,w.frozen? ⟨b,j,none⟩=false
theorem BoxAt.cell {w:World}{b:Nat}{vs:List Value}(h:BoxAt w b vs)(j:Nat){v:Value}(n:vs[j]? =some v):w.cell? ⟨b,j,none⟩=some v:=by
 have:=h.at_ j v n;rwa[Nat.zero_add]at this
theorem BoxAt.lt {w:World}{b:Nat}{vs:List Value}(h:BoxAt w b vs)(j:0<vs.length):b<w.heap.size:=
 lk (w:=w) (a:=⟨b,0,none⟩) (h.cell 0 (List.getElem?_eq_getElem j))
theorem BoxAt.below {w q:World}{b C:Nat}{vs:List Value}(h:BoxAt w b vs)(hb:Below C w q)(n:b<C):BoxAt q b vs:=
 ⟨h.at_.keep fun j _=>hb.cell (p:=⟨b,0+j,none⟩) n,fun j u=>(hb.frozen (p:=⟨b,j,none⟩) n).trans (h.fz j u)⟩
theorem BoxAt.wr {w q:World}{b:Nat}{vs:List Value}{g:List Pos}(h:BoxAt w b vs)(n:Wr g w q)(hb:b<w.heap.size)(B:∀p∈g,p.1≠b):BoxAt q b vs:=
 ⟨h.at_.keep fun j _=>n.cell (b,0+j) hb fun z=>B _ z rfl,fun j u=>(n.frozen (b,j) hb).trans (h.fz j u)⟩
theorem BoxAt.put {w:World}{b:Nat}{vs:List Value}(h:BoxAt w b vs)(j:Nat)(n:j<vs.length)(u:Value):BoxAt (w.setCell ⟨b,j,none⟩ u) b (vs.set j u):=by
 refine⟨?_,fun i hi=>by rw[World.frozen?_setCell];exact h.fz i (by simpa using hi)⟩
 have:=h.at_.put j n u;rwa[Nat.zero_add]at this
theorem OwnB.wr {α:Type}[GoT α]{C D:Nat}{w j:World}{v:Value}{l:List α}{g:List Pos}(h:OwnB C D w v l)(u:Wr g w j)(B:D<=w.heap.size)(n:∀p∈g,D<=p.1):OwnB C D j v l:=
 h.block fun k _ z=>u.block k (by omega) fun p q e=>by have:=n p q;omega
theorem live_below {α:Type}[GoT α]{M:Nat}{w W:World}{c:List Value}{x:α}{f:List Pos}(h:GoT.rd M w c x f)(hb:Below w.heap.size w W):Live W f:=GoT.live (GoT.keep h (Live.same_below hb (Live.lt (GoT.live h))))
theorem BEL_step {B:Nat}{w j n:World}{g:List Pos}{o:Obj}(hb:Below w.heap.size w j)(q:B<=w.heap.size)(z:Wr g (j.alloc o) n)(u:∀p∈g,B<=p.1):Below B w n:=
 wrb z (hb.alloc hb.size o) q u
theorem info_doc:(Tryz.prog.info? 99).map (fun i=>(i.zero,i.size,i.bytes))=some (some (.agg #[.string ⟨#[]⟩,.int .i64 0,.slice none 0 0,.slice none 0 0,.slice none 0 0]),5,96):=by kernel_rfl
theorem info_sub:(Tryz.prog.info? 104).map (fun i=>(i.zero,i.size,i.bytes))=some (some (.agg #[.int .i64 0,.string ⟨#[]⟩,.int .i64 0,.int .i64 0,.bool false,.slice none 0 0]),6,72):=by kernel_rfl
structure HubSz (z:DHub):Prop where
 nd:z.docs.length<=5
 ns:z.subs.length<=6
 docs:∀d∈z.docs,d.text.length<=4000000/\szL d.list<=4000000/\d.seen.length<=4000000
 subs:∀s∈z.subs,szL s.r.list<=4000000
theorem hubSz {z:DHub}(h:hubOk z=true):HubSz z:=
 have p:=hubOk_iff.1 h
 ⟨p.nd,p.ns,fun _ hd=>doc_sizes (p.doc hd),fun _ j=>(ringOk_sz (p.ring j)).1⟩
theorem own_sub {B:Nat}{w:World}{s:DSub}{v:Value}(j:s.doc.size<=BIG)(h:OwnS B w v s.r.list):Own B w [.int .i64 s.id,.string s.doc,.int .i64 s.r.cap,.int .i64 s.r.next,.bool s.r.out,v] s:=own_DSub s j h.bd (lr _)
theorem spec_l11Sub_c (s:DSub)(v:Value)(w:World)(nn:s.doc.size<=BIG)(h:RdS w v s.r.list)(hs:szL s.r.list<=4000000):Calls Tryz.prog 148 #[.agg #[.int .i64 s.id,.string s.doc,.int .i64 s.r.cap,.int .i64 s.r.next,.bool s.r.out,v]] w (Gives w s):=by
 obtain⟨Q,cl,rfl⟩:=h.isSlice;go_enter Tryz.func148,Tryz.ntmps148
 go_wp2_with fail
 obtain⟨W,j⟩:∃W:World,W=(w.alloc (.cells #[.int .i64 s.id,.string s.doc,.int .i64 s.r.cap,.int .i64 s.r.next,.bool s.r.out,.slice Q s.r.list.length cl] 104)).alloc (.cells #[.int .i64 0,.string ⟨#[]⟩,.int .i64 0,.int .i64 0,.bool false,.slice none 0 0] 104):=⟨_,rfl⟩;have u:Below w.heap.size w W:=by rw[j];exact blw
 have sW:=u.size;have zs:w.heap.size<W.heap.size:=by rw[j];first|(simp;done)|(simp;omega)
 have a9:W.cell? ⟨w.heap.size,0,none⟩=some (.int .i64 s.id):=by rw[j];simp[go_sem]
 have aa:W.cell? ⟨w.heap.size,1,none⟩=some (.string s.doc):=by rw[j];simp[go_sem]
 have ac:W.cell? ⟨w.heap.size,2,none⟩=some (.int .i64 s.r.cap):=by rw[j];simp[go_sem]
 have ad:W.cell? ⟨w.heap.size,3,none⟩=some (.int .i64 s.r.next):=by rw[j];simp[go_sem]
 have ae:W.cell? ⟨w.heap.size,4,none⟩=some (.bool s.r.out):=by rw[j];simp[go_sem]
 have af:W.cell? ⟨w.heap.size,5,none⟩=some (.slice Q s.r.list.length cl):=by rw[j];simp[go_sem]
 have q:w.heap.size+1<W.heap.size:=by rw[j];first|(simp;done)|(simp;omega)
 have a3:W.cell? ⟨w.heap.size+1,0,none⟩=some (.int .i64 0):=by rw[j];simp[go_sem]
 have R:W.frozen? ⟨w.heap.size+1,0,none⟩=false:=by rw[j];simp[go_sem]
 have a4:W.cell? ⟨w.heap.size+1,1,none⟩=some (.string ⟨#[]⟩):=by rw[j];simp[go_sem]
 have U:W.frozen? ⟨w.heap.size+1,1,none⟩=false:=by rw[j];simp[go_sem]
 have a5:W.cell? ⟨w.heap.size+1,2,none⟩=some (.int .i64 0):=by rw[j];simp[go_sem]
 have Y:W.frozen? ⟨w.heap.size+1,2,none⟩=false:=by rw[j];simp[go_sem]
 have a6:W.cell? ⟨w.heap.size+1,3,none⟩=some (.int .i64 0):=by rw[j];simp[go_sem]
 have Z:W.frozen? ⟨w.heap.size+1,3,none⟩=false:=by rw[j];simp[go_sem]
 have a7:W.cell? ⟨w.heap.size+1,4,none⟩=some (.bool false):=by rw[j];simp[go_sem]
 have a0:W.frozen? ⟨w.heap.size+1,4,none⟩=false:=by rw[j];simp[go_sem]
 have a8:W.cell? ⟨w.heap.size+1,5,none⟩=some (.slice none 0 0):=by rw[j];simp[go_sem]
 have a2:W.frozen? ⟨w.heap.size+1,5,none⟩=false:=by rw[j];simp[go_sem]
 rw[<-j];clear j;have HX:=hH (h.below u);clear h;go_region_held3 (fun B=>B.cell? ⟨w.heap.size,0,none⟩=some (.int .i64 s.id)/\B.cell? ⟨w.heap.size,1,none⟩=some (.string s.doc)/\B.cell? ⟨w.heap.size,2,none⟩=some (.int .i64 s.r.cap)/\B.cell? ⟨w.heap.size,3,none⟩=some (.int .i64 s.r.next)/\B.cell? ⟨w.heap.size,4,none⟩=some (.bool s.r.out)/\B.cell? ⟨w.heap.size,5,none⟩=some (.slice Q s.r.list.length cl)) (first|go_keep|(simp[cell_setCell, *];done))
  (first|(go_at_call 168;refine(spec_l10Copy_c s.r _ _ (HX.out.below blw) hs).mono ?_;rintro e' D ⟨_,rfl,M,J⟩;obtain⟨v1,rfl,z⟩:=inv_own_DRing M;obtain⟨I,c1,rfl⟩:=z.rd.isSlice;have n:Below W.heap.size W D:=(show Below W.heap.size W _ from blw).trans (J.mono om);have s1:=n.size;have z1s:w.heap.size<D.heap.size:=lq zs s1;have y1s0:=(n.cell (p:=⟨w.heap.size,0,none⟩) zs).trans a9;have y1s1:=(n.cell (p:=⟨w.heap.size,1,none⟩) zs).trans aa;have y1s2:=(n.cell (p:=⟨w.heap.size,2,none⟩) zs).trans ac;have y1s3:=(n.cell (p:=⟨w.heap.size,3,none⟩) zs).trans ad;have y1s4:=(n.cell (p:=⟨w.heap.size,4,none⟩) zs).trans ae;have y1s5:=(n.cell (p:=⟨w.heap.size,5,none⟩) zs).trans af;have z1r:w.heap.size+1<D.heap.size:=lq q s1;have y1r0:=(n.cell (p:=⟨w.heap.size+1,0,none⟩) q).trans a3;have t1r0:=(n.frozen (p:=⟨w.heap.size+1,0,none⟩) q).trans R;have y1r1:=(n.cell (p:=⟨w.heap.size+1,1,none⟩) q).trans a4;have t1r1:=(n.frozen (p:=⟨w.heap.size+1,1,none⟩) q).trans U;have y1r2:=(n.cell (p:=⟨w.heap.size+1,2,none⟩) q).trans a5;have t1r2:=(n.frozen (p:=⟨w.heap.size+1,2,none⟩) q).trans Y;have y1r3:=(n.cell (p:=⟨w.heap.size+1,3,none⟩) q).trans a6;have t1r3:=(n.frozen (p:=⟨w.heap.size+1,3,none⟩) q).trans Z;have y1r4:=(n.cell (p:=⟨w.heap.size+1,4,none⟩) q).trans a7;have t1r4:=(n.frozen (p:=⟨w.heap.size+1,4,none⟩) q).trans a0;have y1r5:=(n.cell (p:=⟨w.heap.size+1,5,none⟩) q).trans a8;have t1r5:=(n.frozen (p:=⟨w.heap.size+1,5,none⟩) q).trans a2;have N:Hid (OwnS W.heap.size D (.slice I s.r.list.length c1) s.r.list):=hH (z.mono om);clear M z J))
 all_goals
  have HR:Hid (OwnS w.heap.size ((((((D.setCell ⟨w.heap.size+1,0,none⟩ (.int .i64 s.id)).setCell ⟨w.heap.size+1,1,none⟩ (.string s.doc)).setCell ⟨w.heap.size+1,2,none⟩ (.int .i64 s.r.cap)).setCell ⟨w.heap.size+1,3,none⟩ (.int .i64 s.r.next)).setCell ⟨w.heap.size+1,4,none⟩ (.bool s.r.out)).setCell ⟨w.heap.size+1,5,none⟩ (.slice I s.r.list.length c1)) (.slice I s.r.list.length c1) s.r.list):=hH (((((((N.out.poke om _).poke om _).poke om _).poke om _).poke om _).poke om _).mono om);have HB:Hid (Below w.heap.size w ((((((D.setCell ⟨w.heap.size+1,0,none⟩ (.int .i64 s.id)).setCell ⟨w.heap.size+1,1,none⟩ (.string s.doc)).setCell ⟨w.heap.size+1,2,none⟩ (.int .i64 s.r.cap)).setCell ⟨w.heap.size+1,3,none⟩ (.int .i64 s.r.next)).setCell ⟨w.heap.size+1,4,none⟩ (.bool s.r.out)).setCell ⟨w.heap.size+1,5,none⟩ (.slice I s.r.list.length c1))):=hH (((((((u.trans (n.mono (by omega))).setCell (by simp) _).setCell (by simp) _).setCell (by simp) _).setCell (by simp) _).setCell (by simp) _).setCell (by simp) _)
  go_wp2;exact bodyPost_ret (v:= .agg #[.int .i64 s.id,.string s.doc,.int .i64 s.r.cap,.int .i64 s.r.next,.bool s.r.out,.slice I s.r.list.length c1]) (by simp[results,Tryz.results148,go_sem,cell_setCell, *]) rfl ⟨_,rfl,own_sub nn HR.out,HB.out⟩
theorem spec_l11Copy_c (z:DHub)(a0 a4:Value)(w:World)(aa:RdS w a0 z.docs)(ac:RdS w a4 z.subs)(hz:HubSz z):Calls Tryz.prog 79 #[.agg #[.bool z.shut,a0,a4,.int .i64 z.last]] w (Gives w z):=by
 have hld:=fun w1 ty=>aa.len Tryz.underlying23 w1 ty
 have hls:=fun w1 ty=>ac.len Tryz.underlying24 w1 ty
 obtain⟨i0,hi,hz0,hz1,hz2⟩:=info_parts info_doc;obtain⟨j0,hj,jz0,jz1,jz2⟩:=info_parts info_sub;have nd:=hz.nd;have ns:=hz.ns;have HZ:=hH hz;clear hz;go_enter Tryz.func79,Tryz.ntmps79
 go_wp2_with fail
 obtain⟨W,Q⟩:∃W:World,W=((w.alloc (.cells #[.bool z.shut,a0,a4,.int .i64 z.last] 26)).alloc (.cells #[.bool false,.slice none 0 0,.slice none 0 0,.int .i64 0] 26)).alloc (.cells #[.bool z.shut,.slice none 0 0,.slice none 0 0,.int .i64 z.last] 26):=⟨_,rfl⟩;have hWB:Below w.heap.size w W:=by rw[Q];exact blw
 have sW:=hWB.size;have zz:w.heap.size<W.heap.size:=by rw[Q];first|(simp;done)|(simp;omega)
 have kz0:W.cell? ⟨w.heap.size,0,none⟩=some (.bool z.shut):=by rw[Q];simp[go_sem]
 have kz1:W.cell? ⟨w.heap.size,1,none⟩=some (a0):=by rw[Q];simp[go_sem]
 have kz2:W.cell? ⟨w.heap.size,2,none⟩=some (a4):=by rw[Q];simp[go_sem]
 have kz3:W.cell? ⟨w.heap.size,3,none⟩=some (.int .i64 z.last):=by rw[Q];simp[go_sem]
 have zr:w.heap.size+1<W.heap.size:=by rw[Q];first|(simp;done)|(simp;omega)
 have kr0:W.cell? ⟨w.heap.size+1,0,none⟩=some (.bool false):=by rw[Q];simp[go_sem]
 have fr0:W.frozen? ⟨w.heap.size+1,0,none⟩=false:=by rw[Q];simp[go_sem]
 have kr1:W.cell? ⟨w.heap.size+1,1,none⟩=some (.slice none 0 0):=by rw[Q];simp[go_sem]
 have fr1:W.frozen? ⟨w.heap.size+1,1,none⟩=false:=by rw[Q];simp[go_sem]
 have kr2:W.cell? ⟨w.heap.size+1,2,none⟩=some (.slice none 0 0):=by rw[Q];simp[go_sem]
 have fr2:W.frozen? ⟨w.heap.size+1,2,none⟩=false:=by rw[Q];simp[go_sem]
 have kr3:W.cell? ⟨w.heap.size+1,3,none⟩=some (.int .i64 0):=by rw[Q];simp[go_sem]
 have fr3:W.frozen? ⟨w.heap.size+1,3,none⟩=false:=by rw[Q];simp[go_sem]
 have zo:w.heap.size+2<W.heap.size:=by rw[Q];first|(simp;done)|(simp;omega)
 have ko0:W.cell? ⟨w.heap.size+2,0,none⟩=some (.bool z.shut):=by rw[Q];simp[go_sem]
 have fo0:W.frozen? ⟨w.heap.size+2,0,none⟩=false:=by rw[Q];simp[go_sem]
 have ko1:W.cell? ⟨w.heap.size+2,1,none⟩=some (.slice none 0 0):=by rw[Q];simp[go_sem]
 have fo1:W.frozen? ⟨w.heap.size+2,1,none⟩=false:=by rw[Q];simp[go_sem]
 have ko2:W.cell? ⟨w.heap.size+2,2,none⟩=some (.slice none 0 0):=by rw[Q];simp[go_sem]
 have fo2:W.frozen? ⟨w.heap.size+2,2,none⟩=false:=by rw[Q];simp[go_sem]
 have ko3:W.cell? ⟨w.heap.size+2,3,none⟩=some (.int .i64 z.last):=by rw[Q];simp[go_sem]
 have fo3:W.frozen? ⟨w.heap.size+2,3,none⟩=false:=by rw[Q];simp[go_sem]
 have hW3:W.heap.size=w.heap.size+3:=by rw[Q];simp
 rw[<-Q];clear Q;have zc0:w.heap.size<w.heap.size+2:=by omega
 have zc1:w.heap.size+1<w.heap.size+2:=by omega
 have HXD:=hH aa;have HXS:=hH ac;clear aa ac;have HBX:Hid (BoxAt W (w.heap.size+2) [.bool z.shut,.slice none 0 0,.slice none 0 0,.int .i64 z.last]):=hH ⟨fun j v hj=>by
  rw[Nat.zero_add];match j,hj with
  |0,h=>cases h;exact ko0
  |1,h=>cases h;exact ko1
  |2,h=>cases h;exact ko2
  |3,h=>cases h;exact ko3,fun j hj=>by
  match j,hj with
  |0,_=>exact fo0
  |1,_=>exact fo1
  |2,_=>exact fo2
  |3,_=>exact fo3⟩
 clear ko0 ko1 ko2 ko3 fo0 fo1 fo2 fo3;go_wp2;go_loopw [16] (fun i wr=>∃(k:Nat) (u:Value) (Y:List DDoc),Y=z.docs.take k/\k<=z.docs.length/\i= .int .i64 k/\BoxAt wr (w.heap.size+2) [.bool z.shut,u,.slice none 0 0,.int .i64 z.last]/\OwnS (w.heap.size+3) wr u Y/\Below (w.heap.size+2) W wr) (fun i _=>z.docs.length-(intOf i).toNat)
 case atStart=>exact⟨0,_,[],rfl,lz _,rfl,HBX.out,OwnS.nil,lf _ _⟩
 case round=>
  obtain⟨k,u,Y,a6,hk,rfl,M,hu,hbr⟩:=hrel;have hsz:=hbr.size;have hbw:Below w.heap.size w wr:=hWB.trans (hbr.mono (by omega))
  by_cases hlt:k<z.docs.length
  ·obtain⟨d,hx⟩:=get_some hlt;obtain⟨b1,o1,cs,g1,g2,g3⟩:=(HXD.out.below hbw).idx Tryz.underlying23 szi_DDoc k hx;obtain⟨d_text,d_list,d_seen,rfl,nn,af,D,ae⟩:=inv_DDoc g3;have q0:=g2.zero;have q1:=g2 1 _ rfl;have q2:=g2 2 _ rfl;have q3:=g2 3 _ rfl;have q4:=g2 4 _ rfl;obtain⟨at_,ct,rfl⟩:=af.isSlice
   obtain⟨al,cl,rfl⟩:=D.isSlice;obtain⟨as_,cs_,rfl⟩:=ae.isSlice;have HT:Hid (Y++[d]=z.docs.take (k+1)):=hH (by rw[a6];exact(take_snoc hx).symm)
   have HD:=hH (HZ.out.docs d (List.mem_of_getElem? hx));have hkl:Y.length<=5:=by rw[a6];simp;omega
   clear a6;obtain⟨V,Z⟩:∃V:World,V=wr.alloc (.cells #[.string d.name,.int .i64 d.from_,.slice at_ d.text.length ct,.slice al d.list.length cl,.slice as_ d.seen.length cs_] 99):=⟨_,rfl⟩
   have N:Below wr.heap.size wr V:=by rw[Z];exact(lf _ _).alloc (lr _) _
   have sV:=N.size;have HVT:=hH (af.below N);have HVL:=hH (D.below N);have HVS:=hH (ae.below N);have hbv:Below (w.heap.size+2) W V:=hbr.trans (N.mono (by omega))
   have bxv:BoxAt V (w.heap.size+2) [.bool z.shut,u,.slice none 0 0,.int .i64 z.last]:=M.below N (by omega)
   have kvo:=bxv.cell 1 rfl;have gvo:=bxv.fz 1 (by simp)
   have zvo:w.heap.size+2<V.heap.size:=by omega
   have HBV:=hH M;have kvd0:V.cell? ⟨wr.heap.size,0,none⟩=some (.string d.name):=by rw[Z];simp
   have kvd1:V.cell? ⟨wr.heap.size,1,none⟩=some (.int .i64 d.from_):=by rw[Z];simp
   have kvd2:V.cell? ⟨wr.heap.size,2,none⟩=some (.slice at_ d.text.length ct):=by rw[Z];simp
   have kvd3:V.cell? ⟨wr.heap.size,3,none⟩=some (.slice al d.list.length cl):=by rw[Z];simp
   have kvd4:V.cell? ⟨wr.heap.size,4,none⟩=some (.slice as_ d.seen.length cs_):=by rw[Z];simp
   obtain⟨fs,R,hfs⟩:=hu.row;have HLT:=hH (Live.lt (Live.append.1 R.1.live).1);have HLF:=hH (Live.lt (Live.append.1 R.1.live).2);have I:=hH R;have HFS:=hH hfs;clear hx g2 g3 af D ae R hfs hu M bxv;go_wp2_with fail
   rw[<-Z];clear Z q0 q1 q2 q3 q4;go_region_law (first|(go_simp;go_at_call 147;refine(spec_l08Copy_c d _ _ _ _ nn (HVT.out.below (lf _ _).drew) (HVL.out.below (lf _ _).drew) (HVS.out.below (lf _ _).drew) HD.out.1 HD.out.2.1 HD.out.2.2).mono ?_;rintro e' w4 ⟨_,rfl,ho,hb4⟩;obtain⟨f,hrd,hfr⟩:=ho;obtain⟨v1,v2,v3,f1,f2,f3,rfl,nn2,s1,s2,s3,rfl⟩:=hrd;obtain⟨a1,c1,rfl⟩:=s1.isS;obtain⟨a2,c2,rfl⟩:=s2.isS;obtain⟨a3,c3,rfl⟩:=s3.isS;have a9:Hid (Below V.heap.size V w4):=hH ((lf V.heap.size V).drew.trans hb4);have U:Hid (Below wr.heap.size wr w4):=hH (N.trans (a9.out.mono sV));have s4:=U.out.size;have s4v:=a9.out.size;have HRD:Hid (GoT.rd BIG w4 [.string d.name,.int .i64 d.from_,.slice a1 d.text.length c1,.slice a2 d.list.length c2,.slice a3 d.seen.length c3] d (f1++(f2++f3))):=hH ⟨_,_,_,_,_,_,rfl,nn2,s1,s2,s3,rfl⟩;have HFR:Hid (Fresh wr.heap.size w4 (f1++(f2++f3))):=hH (hfr.mono om);have k4:=(a9.out.cell (p:=⟨w.heap.size+2,1,none⟩) zvo).trans kvo;have g4:=(a9.out.frozen (p:=⟨w.heap.size+2,1,none⟩) zvo).trans gvo;have z4:w.heap.size+2<w4.heap.size:=(by omega);clear hb4 hfr s1 s2 s3 nn2)|(have J:Below w4.heap.size w4 (w4.alloc (.cells #[.string d.name,.int .i64 d.from_,.slice a1 d.text.length c1,.slice a2 d.list.length c2,.slice a3 d.seen.length c3] 99)):=(lf _ _).alloc (lr _) _;(refine step_append_row (by rfl) (.tmp 21) (.tmp 24) 23 (by rfl) Tryz.underlying23 hi hz0 hz1 hz2 rfl (by rfl) (by rfl) ((I.out.below U.out).below J) (src_built (x:=d) 99 HRD.out) (fun q hq hm=>by have e1:=HFR.out.ge q hq;have e2:=HLT.out q hm;omega) (le_BIG om) om (by first|omega|(simp;omega)) ?_);intro v5 w5 hr5 a7 hn5;have s5:w4.heap.size<=w5.heap.size:=Nat.le_trans J.size a7.size;have hnw:∀p∈rowP (GoT.n DDoc) u,w.heap.size+3<=p.1:=I.out.2.1.ge;have k5:w5.cell? ⟨w.heap.size+2,1,none⟩=some u:=cellw J a7 k4 (fun hm=>by have:=hnw _ hm;(try simp only at this);omega);have g5:w5.frozen? ⟨w.heap.size+2,1,none⟩=false:=(a7.frozen (w.heap.size+2,1) (lq z4 J.size)).trans ((J.frozen (p:=⟨w.heap.size+2,1,none⟩) z4).trans g4);have z5:w.heap.size+2<w5.heap.size:=(by omega);obtain⟨a5,c5,e5⟩:=hr5.rd.isSlice;rw[List.length_append,List.length_singleton]at e5;subst e5;have HR5:=hH hr5;have a8:=hH a7;have B:=hH J;clear hr5 a7 hn5 J))
   all_goals
    have HO:Hid (OwnS (w.heap.size+3) (w5.setCell ⟨w.heap.size+2,1,none⟩ (.slice a5 (Y.length+1) c5)) (.slice a5 (Y.length+1) c5) (Y++[d])):=hH (by
     exact(Row.grown I.out HFS.out (U.out.alloc s4 _) (HFR.out.belowL B.out (Live.lt (GoT.live HRD.out))) (live_below HRD.out B.out) (by omega) HR5.out a8.out).poke (by omega) _)
    have HBX5:Hid (BoxAt (w5.setCell ⟨w.heap.size+2,1,none⟩ (.slice a5 (Y.length+1) c5)) (w.heap.size+2) [.bool z.shut,.slice a5 (Y.length+1) c5,.slice none 0 0,.int .i64 z.last]):=hH (((HBV.out.below U.out (by omega)).below B.out z4).wr a8.out (lq z4 B.out.size) (fun p hp e=>by have:=I.out.2.1.ge p hp;omega) |>.put 1 (by simp) _)
    have HBL:Hid (Below (w.heap.size+2) W (w5.setCell ⟨w.heap.size+2,1,none⟩ (.slice a5 (Y.length+1) c5))):=hH ((hbr.trans (BEL_step U.out (by omega) a8.out (fun p hp=>by have:=I.out.2.1.ge p hp;omega))).setCell (lr _) _)
    clear HR5 a8 B;go_wp2;go_roundw
    case rel=>exact⟨k+1,_,_,HT.out,by omega,by go_num,HBX5.out,HO.out,HBL.out⟩
    case measure=>simp[intOf];omega
  ·obtain rfl:k=z.docs.length:=by omega
   rw[List.take_length]at a6;subst a6;have HOD:=hH hu.bd;have HBW:=hH M;clear hu M;obtain⟨uz0,uz1,uz2,uz3⟩:=mv4 hbr zc0 kz0 kz1 kz2 kz3;obtain⟨wo,rfl⟩:∃wo:World,wo=wr:=⟨_,rfl⟩;go_wp2;go_loopw [31] (fun i wr=>∃(k:Nat) (us:Value) (Y:List DSub),Y=z.subs.take k/\k<=z.subs.length/\i= .int .i64 k/\BoxAt wr (w.heap.size+2) [.bool z.shut,u,us,.int .i64 z.last]/\OwnB (w.heap.size+3) wo.heap.size wr u z.docs/\OwnS wo.heap.size wr us Y/\Below (w.heap.size+2) W wr/\wo.heap.size<=wr.heap.size) (fun i _=>z.subs.length-(intOf i).toNat)
   case atStart=>exact⟨0,_,[],rfl,lz _,rfl,HBW.out,HOD.out,OwnS.nil,hbr,lr _⟩
   case round=>
    clear HBW HOD uz0 uz1 uz2 uz3;obtain⟨k,us,Y,a6,hk,rfl,M,hod,hu,hbq,hso⟩:=hrel;have hsq:=hbq.size;have hbw:Below w.heap.size w wr:=hWB.trans (hbq.mono (by omega))
    by_cases hlt:k<z.subs.length
    ·obtain⟨s,hx⟩:=get_some hlt;obtain⟨b1,o1,cs,g1,g2,g3⟩:=(HXS.out.below hbw).idx Tryz.underlying24 szi_DSub k hx;obtain⟨s_list,rfl,nn,D⟩:=inv_DSub g3;have q0:=g2.zero;have q1:=g2 1 _ rfl;have q2:=g2 2 _ rfl;have q3:=g2 3 _ rfl;have q4:=g2 4 _ rfl;have q5:=g2 5 _ rfl;obtain⟨al,cl,rfl⟩:=D.isSlice;have HT:Hid (Y++[s]=z.subs.take (k+1)):=hH (by rw[a6];exact(take_snoc hx).symm)
     have HD:=hH (HZ.out.subs s (List.mem_of_getElem? hx));have hkl:Y.length<=6:=by rw[a6];simp;omega
     clear a6;obtain⟨V,Z⟩:∃V:World,V=wr.alloc (.cells #[.int .i64 s.id,.string s.doc,.int .i64 s.r.cap,.int .i64 s.r.next,.bool s.r.out,.slice al s.r.list.length cl] 104):=⟨_,rfl⟩;have N:Below wr.heap.size wr V:=by rw[Z];exact(lf _ _).alloc (lr _) _
     have sV:=N.size;have HVL:=hH (D.below N);have hbv:Below (w.heap.size+2) W V:=hbq.trans (N.mono (by omega))
     have bxv:BoxAt V (w.heap.size+2) [.bool z.shut,u,us,.int .i64 z.last]:=M.below N (by omega)
     have kvo:=bxv.cell 2 rfl;have gvo:=bxv.fz 2 (by simp)
     have zvo:w.heap.size+2<V.heap.size:=by omega
     have zvs:wr.heap.size<V.heap.size:=by rw[Z];simp
     have HBV:=hH M;have HOV:=hH hod;have kvs0:V.cell? ⟨wr.heap.size,0,none⟩=some (.int .i64 s.id):=by rw[Z];simp
     have gvs0:V.frozen? ⟨wr.heap.size,0,none⟩=false:=by rw[Z];simp
     have kvs1:V.cell? ⟨wr.heap.size,1,none⟩=some (.string s.doc):=by rw[Z];simp
     have gvs1:V.frozen? ⟨wr.heap.size,1,none⟩=false:=by rw[Z];simp
     have kvs2:V.cell? ⟨wr.heap.size,2,none⟩=some (.int .i64 s.r.cap):=by rw[Z];simp
     have gvs2:V.frozen? ⟨wr.heap.size,2,none⟩=false:=by rw[Z];simp
     have kvs3:V.cell? ⟨wr.heap.size,3,none⟩=some (.int .i64 s.r.next):=by rw[Z];simp
     have gvs3:V.frozen? ⟨wr.heap.size,3,none⟩=false:=by rw[Z];simp
     have kvs4:V.cell? ⟨wr.heap.size,4,none⟩=some (.bool s.r.out):=by rw[Z];simp
     have gvs4:V.frozen? ⟨wr.heap.size,4,none⟩=false:=by rw[Z];simp
     have kvs5:V.cell? ⟨wr.heap.size,5,none⟩=some (.slice al s.r.list.length cl):=by rw[Z];simp
     have gvs5:V.frozen? ⟨wr.heap.size,5,none⟩=false:=by rw[Z];simp
     obtain⟨fs,R,hfs⟩:=hu.row;have HLT:=hH (Live.lt (Live.append.1 R.1.live).1);have I:=hH R;have HFS:=hH hfs;clear hx g2 g3 D R hfs hu M bxv hod;go_wp2_with fail
     rw[<-Z];clear Z q0 q1 q2 q3 q4 q5;go_region_law (first|(go_simp;go_at_call 148;refine(spec_l11Sub_c s _ _ nn (HVL.out.below (lf _ _).drew) HD.out).mono ?_;rintro e' w4 ⟨_,rfl,ho,hb4⟩;obtain⟨f,hrd,hfr⟩:=ho;obtain⟨vr,f1,rfl,nn2,⟨v1,f2,rfl,s1,rfl⟩,rfl⟩:=hrd;obtain⟨a1,c1,rfl⟩:=s1.isS;have a9:Hid (Below V.heap.size V w4):=hH ((lf V.heap.size V).drew.trans hb4);have U:Hid (Below wr.heap.size wr w4):=hH (N.trans (a9.out.mono sV));have s4:=U.out.size;have s4v:=a9.out.size;have HRD:Hid (GoT.rd BIG w4 [.int .i64 s.id,.string s.doc,.int .i64 s.r.cap,.int .i64 s.r.next,.bool s.r.out,.slice a1 s.r.list.length c1] s f):=hH ⟨_,_,rfl,nn2,⟨_,_,rfl,s1,rfl⟩,rfl⟩;have HFR:Hid (Fresh wr.heap.size w4 f):=hH (hfr.mono om);have k4:=(a9.out.cell (p:=⟨w.heap.size+2,2,none⟩) zvo).trans kvo;have g4:=(a9.out.frozen (p:=⟨w.heap.size+2,2,none⟩) zvo).trans gvo;have z4:w.heap.size+2<w4.heap.size:=(by omega);clear hb4 hfr s1 nn2)|(have J:Below w4.heap.size w4 (w4.alloc (.cells #[.int .i64 s.id,.string s.doc,.int .i64 s.r.cap,.int .i64 s.r.next,.bool s.r.out,.slice a1 s.r.list.length c1] 104)):=(lf _ _).alloc (lr _) _;(refine step_append_row (by rfl) (.tmp 36) (.tmp 39) 24 (by rfl) Tryz.underlying24 hj jz0 jz1 jz2 rfl (by rfl) (by rfl) ((I.out.below U.out).below J) (src_built (x:=s) 104 HRD.out) (fun q hq hm=>by have e1:=HFR.out.ge q hq;have e2:=HLT.out q hm;omega) (le_BIG om) om (by first|omega|(simp;omega)) ?_);intro v5 w5 hr5 a7 hn5;have s5:w4.heap.size<=w5.heap.size:=Nat.le_trans J.size a7.size;have hnw:∀p∈rowP (GoT.n DSub) us,wo.heap.size<=p.1:=I.out.2.1.ge;have k5:w5.cell? ⟨w.heap.size+2,2,none⟩=some us:=cellw J a7 k4 (fun hm=>by have:=hnw _ hm;(try simp only at this);omega);have g5:w5.frozen? ⟨w.heap.size+2,2,none⟩=false:=(a7.frozen (w.heap.size+2,2) (lq z4 J.size)).trans ((J.frozen (p:=⟨w.heap.size+2,2,none⟩) z4).trans g4);have z5:w.heap.size+2<w5.heap.size:=(by omega);obtain⟨a5,c5,e5⟩:=hr5.rd.isSlice;rw[List.length_append,List.length_singleton]at e5;subst e5;have HR5:=hH hr5;have a8:=hH a7;have B:=hH J;clear hr5 a7 hn5 J))
     all_goals
      have HO:Hid (OwnS wo.heap.size (w5.setCell ⟨w.heap.size+2,2,none⟩ (.slice a5 (Y.length+1) c5)) (.slice a5 (Y.length+1) c5) (Y++[s])):=hH (by
       exact(Row.grown I.out HFS.out (U.out.alloc s4 _) (HFR.out.belowL B.out (Live.lt (GoT.live HRD.out))) (live_below HRD.out B.out) (by omega) HR5.out a8.out).poke (by omega) _)
      have HBX5:Hid (BoxAt (w5.setCell ⟨w.heap.size+2,2,none⟩ (.slice a5 (Y.length+1) c5)) (w.heap.size+2) [.bool z.shut,u,.slice a5 (Y.length+1) c5,.int .i64 z.last]):=hH (((HBV.out.below U.out (by omega)).below B.out z4).wr a8.out (lq z4 B.out.size) (fun p hp e=>by have:=I.out.2.1.ge p hp;omega) |>.put 2 (by simp) _)
      have HBL:Hid (Below (w.heap.size+2) W (w5.setCell ⟨w.heap.size+2,2,none⟩ (.slice a5 (Y.length+1) c5))):=hH ((hbq.trans (BEL_step U.out (by omega) a8.out (fun p hp=>by have:=I.out.2.1.ge p hp;omega))).setCell (lr _) _)
      have HOD5:Hid (OwnB (w.heap.size+3) wo.heap.size (w5.setCell ⟨w.heap.size+2,2,none⟩ (.slice a5 (Y.length+1) c5)) u z.docs):=hH ((((HOV.out.below U.out).below B.out).wr a8.out (by have:=B.out.size;omega) (fun p hp=>I.out.2.1.ge p hp)).setCell (.inl (by omega)) _)
      have hs5:wo.heap.size<=(w5.setCell ⟨w.heap.size+2,2,none⟩ (.slice a5 (Y.length+1) c5)).heap.size:=by simp;omega
      clear HR5 a8 B;go_wp2;go_roundw
      case rel=>exact⟨k+1,_,_,HT.out,by omega,by go_num,HBX5.out,HOD5.out,HO.out,HBL.out,hs5⟩
      case measure=>simp[intOf];omega
    ·obtain rfl:k=z.subs.length:=by omega
     rw[List.take_length]at a6;subst a6;have bx0:=M.cell 0 rfl;have bx1:=M.cell 1 rfl;have bx2:=M.cell 2 rfl;have bx3:=M.cell 3 rfl;have zo:w.heap.size+2<wr.heap.size:=by omega
     have zr:w.heap.size+1<wr.heap.size:=by omega
     obtain⟨ad,cd,rfl⟩:=hod.own.rd.isSlice;obtain⟨as_,cs_,rfl⟩:=hu.rd.isSlice;have HOD:=hH hod;have HOS:=hH hu.bd;clear M hu hod;obtain⟨rr0,rr1,rr2,rr3⟩:=mv4 hbq zc1 kr0 kr1 kr2 kr3;obtain⟨rf0,rf1,rf2,rf3⟩:=mf4 hbq zc1 fr0 fr1 fr2 fr3;have HH:Hid (Own w.heap.size ((((wr.setCell ⟨w.heap.size+1,0,none⟩ (.bool z.shut)).setCell ⟨w.heap.size+1,1,none⟩ (.slice ad z.docs.length cd)).setCell ⟨w.heap.size+1,2,none⟩ (.slice as_ z.subs.length cs_)).setCell ⟨w.heap.size+1,3,none⟩ (.int .i64 z.last)) [.bool z.shut,.slice ad z.docs.length cd,.slice as_ z.subs.length cs_,.int .i64 z.last] z):=hH (own_DHub z ((((HOD.out.setCell (.inl (by omega)) _).setCell (.inl (by omega)) _).setCell (.inl (by omega)) _).setCell (.inl (by omega)) _) ((((HOS.out.setCell (.inl (by omega)) _).setCell (.inl (by omega)) _).setCell (.inl (by omega)) _).setCell (.inl (by omega)) _) (by omega) (by omega) (by omega))
     have HBB:Hid (Below w.heap.size w ((((wr.setCell ⟨w.heap.size+1,0,none⟩ (.bool z.shut)).setCell ⟨w.heap.size+1,1,none⟩ (.slice ad z.docs.length cd)).setCell ⟨w.heap.size+1,2,none⟩ (.slice as_ z.subs.length cs_)).setCell ⟨w.heap.size+1,3,none⟩ (.int .i64 z.last))):=hH ((((hbw.setCell (by simp) _).setCell (by simp) _).setCell (by simp) _).setCell (by simp) _)
     go_wp2;exact bodyPost_ret (v:= .agg #[.bool z.shut,.slice ad z.docs.length cd,.slice as_ z.subs.length cs_,.int .i64 z.last]) (by simp[results,Tryz.results79,go_sem,cell_setCell, *]) rfl ⟨_,rfl,HH.out,HBB.out⟩
theorem impl_copyHub_c (z:DHub)(v_docs v_subs:Value)(w:World)(h_docs:RdS w v_docs z.docs)(h_subs:RdS w v_subs z.subs)(hz:HubSz z):Calls Tryz.prog 54 #[.agg #[.bool z.shut,v_docs,v_subs,.int .i64 z.last]] w (Gives w z):=by
 have hld:=fun w1 ty=>h_docs.len Tryz.underlying23 w1 ty
 have hls:=fun w1 ty=>h_subs.len Tryz.underlying24 w1 ty
 obtain⟨i0,hi,hz0,hz1,hz2⟩:=info_parts info_doc;obtain⟨j0,hj,jz0,jz1,jz2⟩:=info_parts info_sub;have nd:=hz.nd;have ns:=hz.ns;have HZ:=hH hz;clear hz;go_enter Tryz.func54,Tryz.ntmps54
 go_wp2_with fail
 obtain⟨W,U⟩:∃W:World,W=((w.alloc (.cells #[.bool z.shut,v_docs,v_subs,.int .i64 z.last] 26)).alloc (.cells #[.bool false,.slice none 0 0,.slice none 0 0,.int .i64 0] 26)).alloc (.cells #[.bool z.shut,.slice none 0 0,.slice none 0 0,.int .i64 z.last] 26):=⟨_,rfl⟩;have hWB:Below w.heap.size w W:=by rw[U];exact blw
 have sW:=hWB.size;have zz:w.heap.size<W.heap.size:=by rw[U];first|(simp;done)|(simp;omega)
 have kz0:W.cell? ⟨w.heap.size,0,none⟩=some (.bool z.shut):=by rw[U];simp[go_sem]
 have kz1:W.cell? ⟨w.heap.size,1,none⟩=some (v_docs):=by rw[U];simp[go_sem]
 have kz2:W.cell? ⟨w.heap.size,2,none⟩=some (v_subs):=by rw[U];simp[go_sem]
 have kz3:W.cell? ⟨w.heap.size,3,none⟩=some (.int .i64 z.last):=by rw[U];simp[go_sem]
 have zr:w.heap.size+1<W.heap.size:=by rw[U];first|(simp;done)|(simp;omega)
 have kr0:W.cell? ⟨w.heap.size+1,0,none⟩=some (.bool false):=by rw[U];simp[go_sem]
 have fr0:W.frozen? ⟨w.heap.size+1,0,none⟩=false:=by rw[U];simp[go_sem]
 have kr1:W.cell? ⟨w.heap.size+1,1,none⟩=some (.slice none 0 0):=by rw[U];simp[go_sem]
 have fr1:W.frozen? ⟨w.heap.size+1,1,none⟩=false:=by rw[U];simp[go_sem]
 have kr2:W.cell? ⟨w.heap.size+1,2,none⟩=some (.slice none 0 0):=by rw[U];simp[go_sem]
 have fr2:W.frozen? ⟨w.heap.size+1,2,none⟩=false:=by rw[U];simp[go_sem]
 have kr3:W.cell? ⟨w.heap.size+1,3,none⟩=some (.int .i64 0):=by rw[U];simp[go_sem]
 have fr3:W.frozen? ⟨w.heap.size+1,3,none⟩=false:=by rw[U];simp[go_sem]
 have zo:w.heap.size+2<W.heap.size:=by rw[U];first|(simp;done)|(simp;omega)
 have ko0:W.cell? ⟨w.heap.size+2,0,none⟩=some (.bool z.shut):=by rw[U];simp[go_sem]
 have fo0:W.frozen? ⟨w.heap.size+2,0,none⟩=false:=by rw[U];simp[go_sem]
 have ko1:W.cell? ⟨w.heap.size+2,1,none⟩=some (.slice none 0 0):=by rw[U];simp[go_sem]
 have fo1:W.frozen? ⟨w.heap.size+2,1,none⟩=false:=by rw[U];simp[go_sem]
 have ko2:W.cell? ⟨w.heap.size+2,2,none⟩=some (.slice none 0 0):=by rw[U];simp[go_sem]
 have fo2:W.frozen? ⟨w.heap.size+2,2,none⟩=false:=by rw[U];simp[go_sem]
 have ko3:W.cell? ⟨w.heap.size+2,3,none⟩=some (.int .i64 z.last):=by rw[U];simp[go_sem]
 have fo3:W.frozen? ⟨w.heap.size+2,3,none⟩=false:=by rw[U];simp[go_sem]
 have hW3:W.heap.size=w.heap.size+3:=by rw[U];simp
 rw[<-U];clear U;have zc0:w.heap.size<w.heap.size+2:=by omega
 have zc1:w.heap.size+1<w.heap.size+2:=by omega
 have HXD:=hH h_docs;have HXS:=hH h_subs;clear h_docs h_subs;have HBX:Hid (BoxAt W (w.heap.size+2) [.bool z.shut,.slice none 0 0,.slice none 0 0,.int .i64 z.last]):=hH ⟨fun j v hj=>by
  rw[Nat.zero_add];match j,hj with
  |0,h=>cases h;exact ko0
  |1,h=>cases h;exact ko1
  |2,h=>cases h;exact ko2
  |3,h=>cases h;exact ko3,fun j hj=>by
  match j,hj with
  |0,_=>exact fo0
  |1,_=>exact fo1
  |2,_=>exact fo2
  |3,_=>exact fo3⟩
 clear ko0 ko1 ko2 ko3 fo0 fo1 fo2 fo3;go_wp2;go_loopw [16] (fun i wr=>∃(k:Nat) (u:Value) (Lk:List DDoc),Lk=z.docs.take k/\k<=z.docs.length/\i= .int .i64 k/\BoxAt wr (w.heap.size+2) [.bool z.shut,u,.slice none 0 0,.int .i64 z.last]/\OwnS (w.heap.size+3) wr u Lk/\Below (w.heap.size+2) W wr) (fun i _=>z.docs.length-(intOf i).toNat)
 case atStart=>exact⟨0,_,[],rfl,lz _,rfl,HBX.out,OwnS.nil,lf _ _⟩
 case round=>
  obtain⟨k,u,Lk,hLk,hk,rfl,N,hu,hbr⟩:=hrel;have hsz:=hbr.size;have hbw:Below w.heap.size w wr:=hWB.trans (hbr.mono (by omega))
  by_cases hlt:k<z.docs.length
  ·obtain⟨d,hx⟩:=get_some hlt;obtain⟨b1,o1,cs,g1,g2,g3⟩:=(HXD.out.below hbw).idx Tryz.underlying23 szi_DDoc k hx;obtain⟨d_text,d_list,d_seen,rfl,nn,r_text,D,r_seen⟩:=inv_DDoc g3;have q0:=g2.zero;have q1:=g2 1 _ rfl;have q2:=g2 2 _ rfl;have q3:=g2 3 _ rfl;have q4:=g2 4 _ rfl;obtain⟨at_,ct,rfl⟩:=r_text.isSlice
   obtain⟨al,cl,rfl⟩:=D.isSlice;obtain⟨as_,cs_,rfl⟩:=r_seen.isSlice;have HT:Hid (Lk++[d]=z.docs.take (k+1)):=hH (by rw[hLk];exact(take_snoc hx).symm)
   have HD:=hH (HZ.out.docs d (List.mem_of_getElem? hx));have hkl:Lk.length<=5:=by rw[hLk];simp;omega
   clear hLk;obtain⟨V,hV⟩:∃V:World,V=wr.alloc (.cells #[.string d.name,.int .i64 d.from_,.slice at_ d.text.length ct,.slice al d.list.length cl,.slice as_ d.seen.length cs_] 99):=⟨_,rfl⟩
   have R:Below wr.heap.size wr V:=by rw[hV];exact(lf _ _).alloc (lr _) _
   have sV:=R.size;have HVT:=hH (r_text.below R);have HVL:=hH (D.below R);have HVS:=hH (r_seen.below R);have hbv:Below (w.heap.size+2) W V:=hbr.trans (R.mono (by omega))
   have bxv:BoxAt V (w.heap.size+2) [.bool z.shut,u,.slice none 0 0,.int .i64 z.last]:=N.below R (by omega)
   have kvo:=bxv.cell 1 rfl;have gvo:=bxv.fz 1 (by simp)
   have zvo:w.heap.size+2<V.heap.size:=by omega
   have HBV:=hH N;have kvd0:V.cell? ⟨wr.heap.size,0,none⟩=some (.string d.name):=by rw[hV];simp
   have kvd1:V.cell? ⟨wr.heap.size,1,none⟩=some (.int .i64 d.from_):=by rw[hV];simp
   have kvd2:V.cell? ⟨wr.heap.size,2,none⟩=some (.slice at_ d.text.length ct):=by rw[hV];simp
   have kvd3:V.cell? ⟨wr.heap.size,3,none⟩=some (.slice al d.list.length cl):=by rw[hV];simp
   have kvd4:V.cell? ⟨wr.heap.size,4,none⟩=some (.slice as_ d.seen.length cs_):=by rw[hV];simp
   obtain⟨fs,Y,hfs⟩:=hu.row;have HLT:=hH (Live.lt (Live.append.1 Y.1.live).1);have HLF:=hH (Live.lt (Live.append.1 Y.1.live).2);have I:=hH Y;have HFS:=hH hfs;clear hx g2 g3 r_text D r_seen Y hfs hu N bxv;go_wp2_with fail
   rw[<-hV];clear hV q0 q1 q2 q3 q4;go_region_law (first|(go_simp;go_at_call 125;refine(impl_copyDoc_c d _ _ _ _ nn (HVT.out.below (lf _ _).drew) (HVL.out.below (lf _ _).drew) (HVS.out.below (lf _ _).drew) HD.out.1 HD.out.2.1 HD.out.2.2).mono ?_;rintro e' J ⟨_,rfl,ho,hb4⟩;obtain⟨f,hrd,hfr⟩:=ho;obtain⟨v1,v2,v3,f1,f2,f3,rfl,nn2,s1,s2,s3,rfl⟩:=hrd;obtain⟨a1,c1,rfl⟩:=s1.isS;obtain⟨a2,c2,rfl⟩:=s2.isS;obtain⟨a3,c3,rfl⟩:=s3.isS;have HB4:Hid (Below V.heap.size V J):=hH ((lf V.heap.size V).drew.trans hb4);have Z:Hid (Below wr.heap.size wr J):=hH (R.trans (HB4.out.mono sV));have s4:=Z.out.size;have s4v:=HB4.out.size;have HRD:Hid (GoT.rd BIG J [.string d.name,.int .i64 d.from_,.slice a1 d.text.length c1,.slice a2 d.list.length c2,.slice a3 d.seen.length c3] d (f1++(f2++f3))):=hH ⟨_,_,_,_,_,_,rfl,nn2,s1,s2,s3,rfl⟩;have HFR:Hid (Fresh wr.heap.size J (f1++(f2++f3))):=hH (hfr.mono om);have k4:=(HB4.out.cell (p:=⟨w.heap.size+2,1,none⟩) zvo).trans kvo;have g4:=(HB4.out.frozen (p:=⟨w.heap.size+2,1,none⟩) zvo).trans gvo;have z4:w.heap.size+2<J.heap.size:=(by omega);clear hb4 hfr s1 s2 s3 nn2)|(have HWB:Below J.heap.size J (J.alloc (.cells #[.string d.name,.int .i64 d.from_,.slice a1 d.text.length c1,.slice a2 d.list.length c2,.slice a3 d.seen.length c3] 99)):=(lf _ _).alloc (lr _) _;(refine step_append_row (by rfl) (.tmp 21) (.tmp 24) 23 (by rfl) Tryz.underlying23 hi hz0 hz1 hz2 rfl (by rfl) (by rfl) ((I.out.below Z.out).below HWB) (src_built (x:=d) 99 HRD.out) (fun q hq hm=>by have e1:=HFR.out.ge q hq;have e2:=HLT.out q hm;omega) (le_BIG om) om (by first|omega|(simp;omega)) ?_);intro v5 w5 hr5 hw5 hn5;have s5:J.heap.size<=w5.heap.size:=Nat.le_trans HWB.size hw5.size;have hnw:∀p∈rowP (GoT.n DDoc) u,w.heap.size+3<=p.1:=I.out.2.1.ge;have k5:w5.cell? ⟨w.heap.size+2,1,none⟩=some u:=cellw HWB hw5 k4 (fun hm=>by have:=hnw _ hm;(try simp only at this);omega);have g5:w5.frozen? ⟨w.heap.size+2,1,none⟩=false:=(hw5.frozen (w.heap.size+2,1) (lq z4 HWB.size)).trans ((HWB.frozen (p:=⟨w.heap.size+2,1,none⟩) z4).trans g4);have z5:w.heap.size+2<w5.heap.size:=(by omega);obtain⟨a5,c5,e5⟩:=hr5.rd.isSlice;rw[List.length_append,List.length_singleton]at e5;subst e5;have HR5:=hH hr5;have HW5:=hH hw5;have B:=hH HWB;clear hr5 hw5 hn5 HWB))
   all_goals
    have HO:Hid (OwnS (w.heap.size+3) (w5.setCell ⟨w.heap.size+2,1,none⟩ (.slice a5 (Lk.length+1) c5)) (.slice a5 (Lk.length+1) c5) (Lk++[d])):=hH (by
     exact(Row.grown I.out HFS.out (Z.out.alloc s4 _) (HFR.out.belowL B.out (Live.lt (GoT.live HRD.out))) (live_below HRD.out B.out) (by omega) HR5.out HW5.out).poke (by omega) _)
    have HBX5:Hid (BoxAt (w5.setCell ⟨w.heap.size+2,1,none⟩ (.slice a5 (Lk.length+1) c5)) (w.heap.size+2) [.bool z.shut,.slice a5 (Lk.length+1) c5,.slice none 0 0,.int .i64 z.last]):=hH (((HBV.out.below Z.out (by omega)).below B.out z4).wr HW5.out (lq z4 B.out.size) (fun p hp e=>by have:=I.out.2.1.ge p hp;omega) |>.put 1 (by simp) _)
    have HBL:Hid (Below (w.heap.size+2) W (w5.setCell ⟨w.heap.size+2,1,none⟩ (.slice a5 (Lk.length+1) c5))):=hH ((hbr.trans (BEL_step Z.out (by omega) HW5.out (fun p hp=>by have:=I.out.2.1.ge p hp;omega))).setCell (lr _) _)
    clear HR5 HW5 B;go_wp2;go_roundw
    case rel=>exact⟨k+1,_,_,HT.out,by omega,by go_num,HBX5.out,HO.out,HBL.out⟩
    case measure=>simp[intOf];omega
  ·obtain rfl:k=z.docs.length:=by omega
   rw[List.take_length]at hLk;subst hLk;have HOD:=hH hu.bd;have HBW:=hH N;clear hu N;obtain⟨uz0,uz1,uz2,uz3⟩:=mv4 hbr zc0 kz0 kz1 kz2 kz3;obtain⟨wo,rfl⟩:∃wo:World,wo=wr:=⟨_,rfl⟩;go_wp2;go_loopw [31] (fun i wr=>∃(k:Nat) (us:Value) (Lk:List DSub),Lk=z.subs.take k/\k<=z.subs.length/\i= .int .i64 k/\BoxAt wr (w.heap.size+2) [.bool z.shut,u,us,.int .i64 z.last]/\OwnB (w.heap.size+3) wo.heap.size wr u z.docs/\OwnS wo.heap.size wr us Lk/\Below (w.heap.size+2) W wr/\wo.heap.size<=wr.heap.size) (fun i _=>z.subs.length-(intOf i).toNat)
   case atStart=>exact⟨0,_,[],rfl,lz _,rfl,HBW.out,HOD.out,OwnS.nil,hbr,lr _⟩
   case round=>
    clear HBW HOD uz0 uz1 uz2 uz3;obtain⟨k,us,Lk,hLk,hk,rfl,N,hod,hu,hbq,hso⟩:=hrel;have hsq:=hbq.size;have hbw:Below w.heap.size w wr:=hWB.trans (hbq.mono (by omega))
    by_cases hlt:k<z.subs.length
    ·obtain⟨s,hx⟩:=get_some hlt;obtain⟨b1,o1,cs,g1,g2,g3⟩:=(HXS.out.below hbw).idx Tryz.underlying24 szi_DSub k hx;obtain⟨s_list,rfl,nn,D⟩:=inv_DSub g3;have q0:=g2.zero;have q1:=g2 1 _ rfl;have q2:=g2 2 _ rfl;have q3:=g2 3 _ rfl;have q4:=g2 4 _ rfl;have q5:=g2 5 _ rfl;obtain⟨al,cl,rfl⟩:=D.isSlice;have HT:Hid (Lk++[s]=z.subs.take (k+1)):=hH (by rw[hLk];exact(take_snoc hx).symm)
     have HD:=hH (HZ.out.subs s (List.mem_of_getElem? hx));have hkl:Lk.length<=6:=by rw[hLk];simp;omega
     clear hLk;obtain⟨V,hV⟩:∃V:World,V=wr.alloc (.cells #[.int .i64 s.id,.string s.doc,.int .i64 s.r.cap,.int .i64 s.r.next,.bool s.r.out,.slice al s.r.list.length cl] 104):=⟨_,rfl⟩;have R:Below wr.heap.size wr V:=by rw[hV];exact(lf _ _).alloc (lr _) _
     have sV:=R.size;have HVL:=hH (D.below R);have hbv:Below (w.heap.size+2) W V:=hbq.trans (R.mono (by omega))
     have bxv:BoxAt V (w.heap.size+2) [.bool z.shut,u,us,.int .i64 z.last]:=N.below R (by omega)
     have kvo:=bxv.cell 2 rfl;have gvo:=bxv.fz 2 (by simp)
     have zvo:w.heap.size+2<V.heap.size:=by omega
     have Q:wr.heap.size<V.heap.size:=by rw[hV];simp
     have HBV:=hH N;have HOV:=hH hod;have kvs0:V.cell? ⟨wr.heap.size,0,none⟩=some (.int .i64 s.id):=by rw[hV];simp
     have gvs0:V.frozen? ⟨wr.heap.size,0,none⟩=false:=by rw[hV];simp
     have kvs1:V.cell? ⟨wr.heap.size,1,none⟩=some (.string s.doc):=by rw[hV];simp
     have gvs1:V.frozen? ⟨wr.heap.size,1,none⟩=false:=by rw[hV];simp
     have kvs2:V.cell? ⟨wr.heap.size,2,none⟩=some (.int .i64 s.r.cap):=by rw[hV];simp
     have gvs2:V.frozen? ⟨wr.heap.size,2,none⟩=false:=by rw[hV];simp
     have kvs3:V.cell? ⟨wr.heap.size,3,none⟩=some (.int .i64 s.r.next):=by rw[hV];simp
     have gvs3:V.frozen? ⟨wr.heap.size,3,none⟩=false:=by rw[hV];simp
     have kvs4:V.cell? ⟨wr.heap.size,4,none⟩=some (.bool s.r.out):=by rw[hV];simp
     have gvs4:V.frozen? ⟨wr.heap.size,4,none⟩=false:=by rw[hV];simp
     have kvs5:V.cell? ⟨wr.heap.size,5,none⟩=some (.slice al s.r.list.length cl):=by rw[hV];simp
     have gvs5:V.frozen? ⟨wr.heap.size,5,none⟩=false:=by rw[hV];simp
     obtain⟨fs,Y,hfs⟩:=hu.row;have HLT:=hH (Live.lt (Live.append.1 Y.1.live).1);have I:=hH Y;have HFS:=hH hfs;clear hx g2 g3 D Y hfs hu N bxv hod;go_wp2_with fail
     rw[<-hV];clear hV q0 q1 q2 q3 q4 q5;refine(impl_copyRing_c s.r _ _ (HVL.out.below blw) HD.out).mono ?_;rintro e' w1 ⟨_,rfl,ho,hb4⟩;obtain⟨f,hrd,hfr⟩:=ho;obtain⟨v1,f2,rfl,s1,rfl⟩:=hrd;obtain⟨a1,c1,rfl⟩:=s1.isS;have M:Hid (Below V.heap.size V w1):=hH blw;have s1_:=M.out.size;have zvs1:wr.heap.size<w1.heap.size:=by omega
     have y0:=(M.out.cell (p:=⟨wr.heap.size,0,none⟩) Q).trans kvs0;have t0:=(M.out.frozen (p:=⟨wr.heap.size,0,none⟩) Q).trans gvs0;have y1:=(M.out.cell (p:=⟨wr.heap.size,1,none⟩) Q).trans kvs1;have t1:=(M.out.frozen (p:=⟨wr.heap.size,1,none⟩) Q).trans gvs1;have y2:=(M.out.cell (p:=⟨wr.heap.size,2,none⟩) Q).trans kvs2;have t2:=(M.out.frozen (p:=⟨wr.heap.size,2,none⟩) Q).trans gvs2;have y3:=(M.out.cell (p:=⟨wr.heap.size,3,none⟩) Q).trans kvs3;have t3:=(M.out.frozen (p:=⟨wr.heap.size,3,none⟩) Q).trans gvs3;have y4:=(M.out.cell (p:=⟨wr.heap.size,4,none⟩) Q).trans kvs4;have t4:=(M.out.frozen (p:=⟨wr.heap.size,4,none⟩) Q).trans gvs4;have y5:=(M.out.cell (p:=⟨wr.heap.size,5,none⟩) Q).trans kvs5;have t5:=(M.out.frozen (p:=⟨wr.heap.size,5,none⟩) Q).trans gvs5;have HF1:Hid (Fresh V.heap.size w1 f):=hH (hfr.mono om);have HS1:=hH s1;have hnf:∀j,((wr.heap.size,j):Pos)∉f:=fun j hm=>Nat.lt_irrefl _ (lq Q (HF1.out.ge _ hm))
     have HNF:=hH hnf;obtain⟨J,hw4⟩:∃J:World,J=((((w1.setCell ⟨wr.heap.size,2,none⟩ (.int .i64 s.r.cap)).setCell ⟨wr.heap.size,3,none⟩ (.int .i64 s.r.next)).setCell ⟨wr.heap.size,4,none⟩ (.bool s.r.out)).setCell ⟨wr.heap.size,5,none⟩ (.slice a1 s.r.list.length c1)):=⟨_,rfl⟩;have hq1:Below wr.heap.size V w1:=M.out.mono (Nat.le_of_lt Q);have HB4:Hid (Below wr.heap.size V J):=hH (by rw[hw4];exact(((hq1.setCell (lr _) _).setCell (lr _) _).setCell (lr _) _).setCell (lr _) _)
     have Z:Hid (Below wr.heap.size wr J):=hH (R.trans HB4.out);have s4:=Z.out.size;have s4v:=HB4.out.size;have HRD:Hid (GoT.rd BIG J [.int .i64 s.id,.string s.doc,.int .i64 s.r.cap,.int .i64 s.r.next,.bool s.r.out,.slice a1 s.r.list.length c1] s f):=hH ⟨_,_,rfl,nn,⟨_,_,rfl,by rw[hw4];exact((((HS1.out.put (HNF.out 2) _).put (HNF.out 3) _).put (HNF.out 4) _).put (HNF.out 5) _),rfl⟩,rfl⟩
     have HFR:Hid (Fresh wr.heap.size J f):=hH (by rw[hw4];exact((((HF1.out.mono (by omega)).put _ _).put _ _).put _ _).put _ _)
     clear hb4 hfr s1 hnf;have x0:J.cell? ⟨wr.heap.size,0,none⟩=some (.int .i64 s.id):=by rw[hw4];simp[cell_setCell,y0]
     have x1:J.cell? ⟨wr.heap.size,1,none⟩=some (.string s.doc):=by rw[hw4];simp[cell_setCell,y1]
     have x2:J.cell? ⟨wr.heap.size,2,none⟩=some (.int .i64 s.r.cap):=by rw[hw4];simp[cell_setCell,y2]
     have x3:J.cell? ⟨wr.heap.size,3,none⟩=some (.int .i64 s.r.next):=by rw[hw4];simp[cell_setCell,y3]
     have x4:J.cell? ⟨wr.heap.size,4,none⟩=some (.bool s.r.out):=by rw[hw4];simp[cell_setCell,y4]
     have x5:J.cell? ⟨wr.heap.size,5,none⟩=some (.slice a1 s.r.list.length c1):=by rw[hw4];simp[cell_setCell,y5]
     have zq2:w.heap.size+2<wr.heap.size:=by omega
     have k4:J.cell? ⟨w.heap.size+2,2,none⟩=some us:=(HB4.out.cell (p:=⟨w.heap.size+2,2,none⟩) zq2).trans kvo;have g4:J.frozen? ⟨w.heap.size+2,2,none⟩=false:=(HB4.out.frozen (p:=⟨w.heap.size+2,2,none⟩) zq2).trans gvo;have z4:w.heap.size+2<J.heap.size:=by omega
     have z4s:wr.heap.size<J.heap.size:=by omega
     go_upto_region 11 with(fail)
     rw[<-hw4];clear hw4 y0 t0 kvs0 gvs0 y1 t1 kvs1 gvs1 y2 t2 kvs2 gvs2 y3 t3 kvs3 gvs3 y4 t4 kvs4 gvs4 y5 t5 kvs5 gvs5;have B:Hid (Below J.heap.size J (J.alloc (.cells #[.int .i64 s.id,.string s.doc,.int .i64 s.r.cap,.int .i64 s.r.next,.bool s.r.out,.slice a1 s.r.list.length c1] 104))):=hH ((lf _ _).alloc (lr _) _);go_wp2_with (at_builtin;refine wpList_append_row rfl _ _ 24 rfl Tryz.underlying24 hj jz0 jz1 jz2 rfl rfl rfl ((I.out.below Z.out).below B.out) (src_built (x:=s) 104 HRD.out) (fun q hq hm=>by have e1:=HFR.out.ge q hq;have e2:=HLT.out q hm;omega) ?c1 ?c2 ?c3 ?_)
     case c1=>simp at hkl⊢;exact le_BIG (by omega)
     case c2=>simp at hkl⊢;omega
     case c3=>first|omega|(simp;omega)
     intro v5 w5 hr5 hw5 hn5;have s5:J.heap.size<=w5.heap.size:=Nat.le_trans B.out.size hw5.size;have k5:w5.cell? ⟨w.heap.size+2,2,none⟩=some us:=cellw B.out hw5 k4 (fun hm=>by have:=I.out.2.1.ge _ hm;(try simp only at this);omega)
     have g5:w5.frozen? ⟨w.heap.size+2,2,none⟩=false:=(hw5.frozen (w.heap.size+2,2) (lq z4 B.out.size)).trans ((B.out.frozen (p:=⟨w.heap.size+2,2,none⟩) z4).trans g4);have z5:w.heap.size+2<w5.heap.size:=by omega
     obtain⟨a5,c5,e5⟩:=hr5.rd.isSlice;rw[List.length_append,List.length_singleton]at e5;subst e5;have HR5:=hH hr5;have HW5:=hH hw5;clear hr5 hw5 hn5;have HO:Hid (OwnS wo.heap.size (w5.setCell ⟨w.heap.size+2,2,none⟩ (.slice a5 (Lk.length+1) c5)) (.slice a5 (Lk.length+1) c5) (Lk++[s])):=hH (by
      exact(Row.grown I.out HFS.out (Z.out.alloc s4 _) (HFR.out.belowL B.out (Live.lt (GoT.live HRD.out))) (live_below HRD.out B.out) (by omega) HR5.out HW5.out).poke (by omega) _)
     have HBX5:Hid (BoxAt (w5.setCell ⟨w.heap.size+2,2,none⟩ (.slice a5 (Lk.length+1) c5)) (w.heap.size+2) [.bool z.shut,u,.slice a5 (Lk.length+1) c5,.int .i64 z.last]):=hH (((HBV.out.below Z.out (by omega)).below B.out z4).wr HW5.out (lq z4 B.out.size) (fun p hp e=>by have:=I.out.2.1.ge p hp;omega) |>.put 2 (by simp) _)
     have HBL:Hid (Below (w.heap.size+2) W (w5.setCell ⟨w.heap.size+2,2,none⟩ (.slice a5 (Lk.length+1) c5))):=hH ((hbq.trans (BEL_step Z.out (by omega) HW5.out (fun p hp=>by have:=I.out.2.1.ge p hp;omega))).setCell (lr _) _)
     have HOD5:Hid (OwnB (w.heap.size+3) wo.heap.size (w5.setCell ⟨w.heap.size+2,2,none⟩ (.slice a5 (Lk.length+1) c5)) u z.docs):=hH ((((HOV.out.below Z.out).below B.out).wr HW5.out (by have:=B.out.size;omega) (fun p hp=>I.out.2.1.ge p hp)).setCell (.inl (by omega)) _)
     have hs5:wo.heap.size<=(w5.setCell ⟨w.heap.size+2,2,none⟩ (.slice a5 (Lk.length+1) c5)).heap.size:=by simp;omega
     clear HR5 HW5 B;go_wp2;go_roundw
     case rel=>exact⟨k+1,_,_,HT.out,by omega,by go_num,HBX5.out,HOD5.out,HO.out,HBL.out,hs5⟩
     case measure=>simp[intOf];omega
    ·obtain rfl:k=z.subs.length:=by omega
     rw[List.take_length]at hLk;subst hLk;have bx0:=N.cell 0 rfl;have bx1:=N.cell 1 rfl;have bx2:=N.cell 2 rfl;have bx3:=N.cell 3 rfl;have zo:w.heap.size+2<wr.heap.size:=by omega
     have zr:w.heap.size+1<wr.heap.size:=by omega
     obtain⟨ad,cd,rfl⟩:=hod.own.rd.isSlice;obtain⟨as_,cs_,rfl⟩:=hu.rd.isSlice;have HOD:=hH hod;have HOS:=hH hu.bd;clear N hu hod;obtain⟨rr0,rr1,rr2,rr3⟩:=mv4 hbq zc1 kr0 kr1 kr2 kr3;obtain⟨rf0,rf1,rf2,rf3⟩:=mf4 hbq zc1 fr0 fr1 fr2 fr3;have HH:Hid (Own w.heap.size ((((wr.setCell ⟨w.heap.size+1,0,none⟩ (.bool z.shut)).setCell ⟨w.heap.size+1,1,none⟩ (.slice ad z.docs.length cd)).setCell ⟨w.heap.size+1,2,none⟩ (.slice as_ z.subs.length cs_)).setCell ⟨w.heap.size+1,3,none⟩ (.int .i64 z.last)) [.bool z.shut,.slice ad z.docs.length cd,.slice as_ z.subs.length cs_,.int .i64 z.last] z):=hH (own_DHub z ((((HOD.out.setCell (.inl (by omega)) _).setCell (.inl (by omega)) _).setCell (.inl (by omega)) _).setCell (.inl (by omega)) _) ((((HOS.out.setCell (.inl (by omega)) _).setCell (.inl (by omega)) _).setCell (.inl (by omega)) _).setCell (.inl (by omega)) _) (by omega) (by omega) (by omega))
     have HBB:Hid (Below w.heap.size w ((((wr.setCell ⟨w.heap.size+1,0,none⟩ (.bool z.shut)).setCell ⟨w.heap.size+1,1,none⟩ (.slice ad z.docs.length cd)).setCell ⟨w.heap.size+1,2,none⟩ (.slice as_ z.subs.length cs_)).setCell ⟨w.heap.size+1,3,none⟩ (.int .i64 z.last))):=hH ((((hbw.setCell (by simp) _).setCell (by simp) _).setCell (by simp) _).setCell (by simp) _)
     go_wp2;exact bodyPost_ret (v:= .agg #[.bool z.shut,.slice ad z.docs.length cd,.slice as_ z.subs.length cs_,.int .i64 z.last]) (by simp[results,Tryz.results54,go_sem,cell_setCell, *]) rfl ⟨_,rfl,HH.out,HBB.out⟩
