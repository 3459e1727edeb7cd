/- Copies of hubs: new memory that reads alike. -/
import Derived.Test.YtbonkabfmlajnaaGreatQrav
set_option maxHeartbeats 8000000
set_option maxRecDepth 100000
set_option linter.defProp false
set_option linter.unusedSimpArgs false
namespace Go.Proofs.YtbonkabfmlajnaaGreat
open Go.RowKit
attribute [local go_sem ↓] Go.wp_at_zero Go.wp_at_succ
structure vat (w:World)(b:Nat)(vs:List Value):Prop where
 at_:At w b 0 vs
 fz:∀j<vs.length,w.frozen? ⟨b,j,none⟩=false
theorem vat.cell {w:World}{b:Nat}{vs:List Value}(h:vat w b vs)(j:Nat){v:Value}(n:vs[j]? =some v):w.cell? ⟨b,j,none⟩=some v:=by
 have:=h.at_ j v n;rwa[Nat.zero_add]at this
theorem vat.lt {w:World}{b:Nat}{vs:List Value}(h:vat w b vs)(j:0<vs.length):b<w.heap.size:=
 lk (w:=w) (a:=⟨b,0,none⟩) (h.cell 0 (List.getElem?_eq_getElem j))
theorem vat.below {w q:World}{b C:Nat}{vs:List Value}(h:vat w b vs)(hb:Below C w q)(n:b<C):vat q b vs:=
 ⟨h.at_.keep fun j _=>hb.cell (p:=⟨b,0+j,none⟩) n,fun j u=>(hb.frozen (p:=⟨b,j,none⟩) n).trans (h.fz j u)⟩
theorem vat.wr {w q:World}{b:Nat}{vs:List Value}{g:List Pos}(h:vat w b vs)(n:Wr g w q)(hb:b<w.heap.size)(B:∀p∈g,p.1≠b):vat q b vs:=
 ⟨h.at_.keep fun j _=>n.cell (b,0+j) hb fun z=>B _ z rfl,fun j u=>(n.frozen (b,j) hb).trans (h.fz j u)⟩
theorem vat.put {w:World}{b:Nat}{vs:List Value}(h:vat w b vs)(j:Nat)(n:j<vs.length)(u:Value):vat (w.setCell ⟨b,j,none⟩ u) b (vs.set j u):=by
 refine⟨?_,fun i hi=>by rw[World.frozen?_setCell];exact h.fz i (by simpa using hi)⟩
 have:=h.at_.put j n u;rwa[Nat.zero_add]at this
theorem zag.wr {α:Type}[GoT α]{C D:Nat}{w j:World}{v:Value}{l:List α}{g:List Pos}(h:zag C D w v l)(u:Wr g w j)(B:D<=w.heap.size)(n:∀p∈g,D<=p.1):zag C D j v l:=
 h.block fun k _ z=>u.block k om fun p q e=>by have:=n p q;omega
theorem xaF {α:Type}[GoT α]{M:Nat}{w W:World}{c:List Value}{x:α}{f:List Pos}(h:GoT.rd M w c x f)(hb:Below w w W):Live W f:=GoT.live (GoT.keep h (Live.same_below hb (Live.lt (GoT.live h))))
theorem vaV {B:Nat}{w j n:World}{g:List Pos}{o:Obj}(hb:Below w w j)(q:B<=w.heap.size)(z:Wr g (j.alloc o) n)(u:∀p∈g,B<=p.1):Below B w n:=
 wrb z (hb.alloc hb.size o) q u
theorem Qbd:(Tryz.prog.info? 67).map (fun i=>(i.zero,i.size,i.bytes))=some (some (.agg #[.string ⟨#[]⟩,zI,zN,zN,zN]),5,96):=by kernel_rfl
theorem ya5:(Tryz.prog.info? 72).map (fun i=>(i.zero,i.size,i.bytes))=some (some (.agg #[zI,.string ⟨#[]⟩,zI,zI,false,zN]),6,72):=by kernel_rfl
structure uaM (z:qae):Prop where
 nd:z.docs.length<=4000000
 ns:z.subs.length<=4000000
 docs:∀d∈z.docs,d.text.length<=4000000/\szL d.list<=4000000/\d.seen.length<=4000000
 subs:∀s∈z.subs,szL s.r.list<=4000000
theorem yaT {z:qae}(h:Qac z=true):uaM z:=
 have p:=vad.1 h
 ⟨by have:=p.nd;omega,by have:=p.ns;omega,fun _ hd=>jbb (p.doc hd),fun _ j=>(ZaL (p.ring j)).1⟩
theorem jbg {B:Nat}{w:World}{s:yai}{v:Value}(j:s.doc.size<=BIG)(h:uaf B w v s.r.list):Own B w [s.id,s.doc,s.r.cap,s.r.next,s.r.out,v] s:=Qbe s j h.bd (lr _)
theorem xaW (s:yai)(v:Value)(w:World)(nn:s.doc.size<=BIG)(h:RdS w v s.r.list)(hs:szL s.r.list<=4000000):Calls Tryz.prog 125 #[.agg #[s.id,s.doc,s.r.cap,s.r.next,s.r.out,v]] w (ka2 w s):=by
 obtain⟨Q,cl,rfl⟩:=h.isSlice;go_enter Tryz.func125,Tryz.ntmps125
 go_wp2_with fail
 obtain⟨W,j⟩:∃W:World,W=(w.alloc (.cells #[s.id,s.doc,s.r.cap,s.r.next,s.r.out,.slice Q s.r.list.length cl] 72)).alloc (.cells #[zI,.string ⟨#[]⟩,zI,zI,false,zN] 72):=⟨_,rfl⟩;have u:Below w w W:=by rw[j];exact blw
 have sW:=u.size;have zs:w<W.heap.size:=by rw[j];first|(simp;done)|(simp;omega)
 have a9:W.cell? ⟨w.heap.size,0,none⟩=some (.int .i64 s.id):=by rw[j];simp[go_sem]
 have aa:W.cell? ⟨w.heap.size,1,none⟩=some (.string s.doc):=by rw[j];simp[go_sem]
 have ac:W.cell? ⟨w.heap.size,2,none⟩=some (.int .i64 s.r.cap):=by rw[j];simp[go_sem]
 have ad:W.cell? ⟨w.heap.size,3,none⟩=some (.int .i64 s.r.next):=by rw[j];simp[go_sem]
 have ae:W.cell? ⟨w.heap.size,4,none⟩=some (.bool s.r.out):=by rw[j];simp[go_sem]
 have af:W.cell? ⟨w.heap.size,5,none⟩=some (.slice Q s.r.list.length cl):=by rw[j];simp[go_sem]
 have q:w+1<W.heap.size:=by rw[j];first|(simp;done)|(simp;omega)
 have a3:W.cell? ⟨w.heap.size+1,0,none⟩=some (.int .i64 0):=by rw[j];simp[go_sem]
 have R:W.frozen? ⟨w.heap.size+1,0,none⟩=false:=by rw[j];simp[go_sem]
 have a4:W.cell? ⟨w.heap.size+1,1,none⟩=some (.string ⟨#[]⟩):=by rw[j];simp[go_sem]
 have U:W.frozen? ⟨w.heap.size+1,1,none⟩=false:=by rw[j];simp[go_sem]
 have a5:W.cell? ⟨w.heap.size+1,2,none⟩=some (.int .i64 0):=by rw[j];simp[go_sem]
 have Y:W.frozen? ⟨w.heap.size+1,2,none⟩=false:=by rw[j];simp[go_sem]
 have a6:W.cell? ⟨w.heap.size+1,3,none⟩=some (.int .i64 0):=by rw[j];simp[go_sem]
 have Z:W.frozen? ⟨w.heap.size+1,3,none⟩=false:=by rw[j];simp[go_sem]
 have a7:W.cell? ⟨w.heap.size+1,4,none⟩=some (.bool false):=by rw[j];simp[go_sem]
 have a0:W.frozen? ⟨w.heap.size+1,4,none⟩=false:=by rw[j];simp[go_sem]
 have a8:W.cell? ⟨w.heap.size+1,5,none⟩=some (.slice none 0 0):=by rw[j];simp[go_sem]
 have a2:W.frozen? ⟨w.heap.size+1,5,none⟩=false:=by rw[j];simp[go_sem]
 rw[<-j];clear j;have HX:=hH (h.below u);clear h;go_region_held3 (fun B=>B.cell? ⟨w.heap.size,0,none⟩=some (.int .i64 s.id)/\B.cell? ⟨w.heap.size,1,none⟩=some (.string s.doc)/\B.cell? ⟨w.heap.size,2,none⟩=some (.int .i64 s.r.cap)/\B.cell? ⟨w.heap.size,3,none⟩=some (.int .i64 s.r.next)/\B.cell? ⟨w.heap.size,4,none⟩=some (.bool s.r.out)/\B.cell? ⟨w.heap.size,5,none⟩=some (.slice Q s.r.list.length cl)) (first|go_keep|(simp[xaa, *];done))
  (first|(go_at_call 150;refine(vaf s.r _ _ (HX.out.below blw) hs).mono ?_;rintro e' D ⟨_,rfl,M,J⟩;obtain⟨v1,rfl,z⟩:=Qae M;obtain⟨I,c1,rfl⟩:=z.rd.isSlice;have n:Below W W D:=(show Below W W _ from blw).trans (J.mono om);have s1:=n.size;have z1s:w<D.heap.size:=lq zs s1;have y1s0:=(n.cell (p:=⟨w,0,none⟩) zs).trans a9;have y1s1:=(n.cell (p:=⟨w,1,none⟩) zs).trans aa;have y1s2:=(n.cell (p:=⟨w,2,none⟩) zs).trans ac;have y1s3:=(n.cell (p:=⟨w,3,none⟩) zs).trans ad;have y1s4:=(n.cell (p:=⟨w,4,none⟩) zs).trans ae;have y1s5:=(n.cell (p:=⟨w,5,none⟩) zs).trans af;have z1r:w+1<D.heap.size:=lq q s1;have y1r0:=(n.cell (p:=⟨w+1,0,none⟩) q).trans a3;have t1r0:=(n.frozen (p:=⟨w+1,0,none⟩) q).trans R;have y1r1:=(n.cell (p:=⟨w+1,1,none⟩) q).trans a4;have t1r1:=(n.frozen (p:=⟨w+1,1,none⟩) q).trans U;have y1r2:=(n.cell (p:=⟨w+1,2,none⟩) q).trans a5;have t1r2:=(n.frozen (p:=⟨w+1,2,none⟩) q).trans Y;have y1r3:=(n.cell (p:=⟨w+1,3,none⟩) q).trans a6;have t1r3:=(n.frozen (p:=⟨w+1,3,none⟩) q).trans Z;have y1r4:=(n.cell (p:=⟨w+1,4,none⟩) q).trans a7;have t1r4:=(n.frozen (p:=⟨w+1,4,none⟩) q).trans a0;have y1r5:=(n.cell (p:=⟨w+1,5,none⟩) q).trans a8;have t1r5:=(n.frozen (p:=⟨w+1,5,none⟩) q).trans a2;have N:Hid (uaf W D (.slice I s.r.list.length c1) s.r.list):=hH (z.mono om);clear M z J))
 all_goals
  have HR:Hid (uaf w ((((((D.setCell ⟨w+1,0,none⟩ s.id).setCell ⟨w+1,1,none⟩ s.doc).setCell ⟨w+1,2,none⟩ s.r.cap).setCell ⟨w+1,3,none⟩ s.r.next).setCell ⟨w+1,4,none⟩ s.r.out).setCell ⟨w+1,5,none⟩ (.slice I s.r.list.length c1)) (.slice I s.r.list.length c1) s.r.list):=hH (((((((N.out.poke om _).poke om _).poke om _).poke om _).poke om _).poke om _).mono om);have HB:Hid (Below w w ((((((D.setCell ⟨w+1,0,none⟩ s.id).setCell ⟨w+1,1,none⟩ s.doc).setCell ⟨w+1,2,none⟩ s.r.cap).setCell ⟨w+1,3,none⟩ s.r.next).setCell ⟨w+1,4,none⟩ s.r.out).setCell ⟨w+1,5,none⟩ (.slice I s.r.list.length c1))):=hH (((((((u.trans (n.mono om)).setCell sm _).setCell sm _).setCell sm _).setCell sm _).setCell sm _).setCell sm _);go_wp2;exact bodyPost_ret (v:= .agg #[s.id,s.doc,s.r.cap,s.r.next,s.r.out,.slice I s.r.list.length c1]) (by simp[results,Tryz.results125,go_sem,xaa, *]) rfl ⟨_,rfl,jbg nn HR.out,HB.out⟩
theorem XaK {N_:Nat}(h_:N_=92\/N_=24)(z:qae)(v_docs v_subs:Value)(w:World)(h_docs:RdS w v_docs z.docs)(h_subs:RdS w v_subs z.subs)(hz:uaM z):Calls Tryz.prog N_ #[.agg #[z.shut,v_docs,v_subs,z.last]] w (ka2 w z):=by
 rcases h_ with rfl|rfl
 have k_0:Unit:=();have k_1:=hH @uat;go_enter Tryz.func92,Tryz.ntmps92;rotate_left;have k_0:Bool:=true;have k_1:=hH @Jat;go_enter Tryz.func24,Tryz.ntmps24;all_goals
  have hld:=fun w1 ty=>h_docs.len Tryz.underlying23 w1 ty
  have hls:=fun w1 ty=>h_subs.len Tryz.underlying24 w1 ty
  obtain⟨i0,hi,hz0,hz1,hz2⟩:=info_parts Qbd;obtain⟨j0,hj,jz0,jz1,jz2⟩:=info_parts ya5;have nd:=hz.nd;have ns:=hz.ns;have HZ:=hH hz;clear hz;go_wp2_with fail
  obtain⟨W,hW⟩:∃W:World,W=((w.alloc (.cells #[z.shut,v_docs,v_subs,z.last] 26)).alloc (.cells #[false,zN,zN,zI] 26)).alloc (.cells #[z.shut,zN,zN,z.last] 26):=⟨_,rfl⟩;have hWB:Below w w W:=by rw[hW];exact blw
  have sW:=hWB.size;have zz:w<W.heap.size:=by rw[hW];first|(simp;done)|(simp;omega)
  have kz0:W.cell? ⟨w.heap.size,0,none⟩=some (.bool z.shut):=by rw[hW];simp[go_sem]
  have kz1:W.cell? ⟨w.heap.size,1,none⟩=some (v_docs):=by rw[hW];simp[go_sem]
  have kz2:W.cell? ⟨w.heap.size,2,none⟩=some (v_subs):=by rw[hW];simp[go_sem]
  have kz3:W.cell? ⟨w.heap.size,3,none⟩=some (.int .i64 z.last):=by rw[hW];simp[go_sem]
  have zr:w+1<W.heap.size:=by rw[hW];first|(simp;done)|(simp;omega)
  have kr0:W.cell? ⟨w.heap.size+1,0,none⟩=some (.bool false):=by rw[hW];simp[go_sem]
  have fr0:W.frozen? ⟨w.heap.size+1,0,none⟩=false:=by rw[hW];simp[go_sem]
  have kr1:W.cell? ⟨w.heap.size+1,1,none⟩=some (.slice none 0 0):=by rw[hW];simp[go_sem]
  have fr1:W.frozen? ⟨w.heap.size+1,1,none⟩=false:=by rw[hW];simp[go_sem]
  have kr2:W.cell? ⟨w.heap.size+1,2,none⟩=some (.slice none 0 0):=by rw[hW];simp[go_sem]
  have fr2:W.frozen? ⟨w.heap.size+1,2,none⟩=false:=by rw[hW];simp[go_sem]
  have kr3:W.cell? ⟨w.heap.size+1,3,none⟩=some (.int .i64 0):=by rw[hW];simp[go_sem]
  have fr3:W.frozen? ⟨w.heap.size+1,3,none⟩=false:=by rw[hW];simp[go_sem]
  have zo:w+2<W.heap.size:=by rw[hW];first|(simp;done)|(simp;omega)
  have ko0:W.cell? ⟨w.heap.size+2,0,none⟩=some (.bool z.shut):=by rw[hW];simp[go_sem]
  have fo0:W.frozen? ⟨w.heap.size+2,0,none⟩=false:=by rw[hW];simp[go_sem]
  have ko1:W.cell? ⟨w.heap.size+2,1,none⟩=some (.slice none 0 0):=by rw[hW];simp[go_sem]
  have fo1:W.frozen? ⟨w.heap.size+2,1,none⟩=false:=by rw[hW];simp[go_sem]
  have ko2:W.cell? ⟨w.heap.size+2,2,none⟩=some (.slice none 0 0):=by rw[hW];simp[go_sem]
  have fo2:W.frozen? ⟨w.heap.size+2,2,none⟩=false:=by rw[hW];simp[go_sem]
  have ko3:W.cell? ⟨w.heap.size+2,3,none⟩=some (.int .i64 z.last):=by rw[hW];simp[go_sem]
  have fo3:W.frozen? ⟨w.heap.size+2,3,none⟩=false:=by rw[hW];simp[go_sem]
  have hW3:W=w.heap.size+3:=by rw[hW];simp
  rw[<-hW];clear hW;have zc0:w<w.heap.size+2:=om;have zc1:w+1<w.heap.size+2:=om;have HXD:=hH h_docs;have HXS:=hH h_subs;clear h_docs h_subs;have HBX:Hid (vat W (w+2) [z.shut,zN,zN,z.last]):=hH ⟨fun j v hj=>by
   rw[Nat.zero_add];match j,hj with
   |0,h=>cases h;exact ko0
   |1,h=>cases h;exact ko1
   |2,h=>cases h;exact ko2
   |3,h=>cases h;exact ko3,fun j hj=>by
   match j,hj with
   |0,_=>exact fo0
   |1,_=>exact fo1
   |2,_=>exact fo2
   |3,_=>exact fo3⟩
  clear ko0 ko1 ko2 ko3 fo0 fo1 fo2 fo3;go_wp2;go_loopw [16] (fun i wr=>∃(k:Nat) (u:Value) (R:List Xac),R=z.docs.take k/\k<=z.docs.length/\i= .int .i64 k/\vat wr (w+2) [z.shut,u,zN,z.last]/\uaf (w+3) wr u R/\Below (w+2) W wr) (fun i _=>z.docs.length-(intOf i).toNat)
  case atStart=>exact⟨0,_,[],rfl,lz _,rfl,HBX.out,uaf.nil,lf _ _⟩
  case round=>
   obtain⟨k,u,R,hLk,hk,rfl,a4,hu,hbr⟩:=hrel;have hsz:=hbr.size;have hbw:Below w w wr:=hWB.trans (hbr.mono om);by_cases hlt:k<z.docs.length
   ·obtain⟨d,hx⟩:=Jaa hlt;obtain⟨b1,o1,cs,g1,g2,g3⟩:=(HXD.out.below hbw).idx Tryz.underlying23 uag k hx;obtain⟨d_text,d_list,d_seen,rfl,nn,r_text,M,r_seen⟩:=Kai g3;have q0:=g2.zero;have q1:=g2 1 _ rfl;have q2:=g2 2 _ rfl;have q3:=g2 3 _ rfl;have q4:=g2 4 _ rfl;obtain⟨at_,ct,rfl⟩:=r_text.isSlice
    obtain⟨al,cl,rfl⟩:=M.isSlice;obtain⟨as_,cs_,rfl⟩:=r_seen.isSlice;have HT:Hid (R++[d]=z.docs.take (k+1)):=hH (by rw[hLk];exact(Zag hx).symm)
    have HD:=hH (HZ.out.docs d (List.mem_of_getElem? hx));have hkl:R.length<=4000000:=by rw[hLk];simp;omega
    clear hLk;obtain⟨V,hV⟩:∃V:World,V=wr.alloc (.cells #[d.name,d.from_,.slice at_ d.text.length ct,.slice al d.list.length cl,.slice as_ d.seen.length cs_] 67):=⟨_,rfl⟩
    have a0:Below wr wr V:=by rw[hV];exact(lf _ _).alloc (lr _) _
    have sV:=a0.size;have HVT:=hH (r_text.below a0);have HVL:=hH (M.below a0);have HVS:=hH (r_seen.below a0);have hbv:Below (w+2) W V:=hbr.trans (a0.mono om);have bxv:vat V (w+2) [z.shut,u,zN,z.last]:=a4.below a0 om;have kvo:=bxv.cell 1 rfl;have gvo:=bxv.fz 1 sm;have zvo:w+2<V.heap.size:=om;have HBV:=hH a4;have kvd0:V.cell? ⟨wr.heap.size,0,none⟩=some (.string d.name):=by rw[hV];simp
    have kvd1:V.cell? ⟨wr.heap.size,1,none⟩=some (.int .i64 d.from_):=by rw[hV];simp
    have kvd2:V.cell? ⟨wr.heap.size,2,none⟩=some (.slice at_ d.text.length ct):=by rw[hV];simp
    have kvd3:V.cell? ⟨wr.heap.size,3,none⟩=some (.slice al d.list.length cl):=by rw[hV];simp
    have kvd4:V.cell? ⟨wr.heap.size,4,none⟩=some (.slice as_ d.seen.length cs_):=by rw[hV];simp
    obtain⟨fs,hrow,hfs⟩:=hu.row;have HLT:=hH (Live.lt (Live.append.1 hrow.1.live).1);have HLF:=hH (Live.lt (Live.append.1 hrow.1.live).2);have D:=hH hrow;have HFS:=hH hfs;clear hx g2 g3 r_text M r_seen hrow hfs hu a4 bxv;go_wp2_with fail
    rw[<-hV];clear hV q0 q1 q2 q3 q4;go_region_law (first|(go_simp;(first|go_at_call 124|go_at_call 63);refine(k_1.out d _ _ _ _ nn (HVT.out.below (lf _ _).drew) (HVL.out.below (lf _ _).drew) (HVS.out.below (lf _ _).drew) HD.out.1 HD.out.2.1 HD.out.2.2).mono ?_;rintro e' I ⟨_,rfl,ho,hb4⟩;obtain⟨f,hrd,hfr⟩:=ho;obtain⟨v1,v2,v3,f1,f2,f3,rfl,nn2,s1,s2,s3,rfl⟩:=hrd;obtain⟨a1,c1,rfl⟩:=s1.isS;obtain⟨a2,c2,rfl⟩:=s2.isS;obtain⟨a3,c3,rfl⟩:=s3.isS;have Z:Hid (Below V V I):=hH ((lf V V).drew.trans hb4);have J:Hid (Below wr wr I):=hH (a0.trans (Z.out.mono sV));have s4:=J.out.size;have s4v:=Z.out.size;have HRD:Hid (GoT.rd BIG I [d.name,d.from_,.slice a1 d.text.length c1,.slice a2 d.list.length c2,.slice a3 d.seen.length c3] d (f1++(f2++f3))):=hH ⟨_,_,_,_,_,_,rfl,nn2,s1,s2,s3,rfl⟩;have HFR:Hid (Qaa wr I (f1++(f2++f3))):=hH (hfr.mono om);have k4:=(Z.out.cell (p:=⟨w+2,1,none⟩) zvo).trans kvo;have g4:=(Z.out.frozen (p:=⟨w+2,1,none⟩) zvo).trans gvo;have z4:w+2<I.heap.size:=om;clear hb4 hfr s1 s2 s3 nn2)|(have U:Below I I (I.alloc (.cells #[d.name,d.from_,.slice a1 d.text.length c1,.slice a2 d.list.length c2,.slice a3 d.seen.length c3] 67)):=(lf _ _).alloc (lr _) _;(refine yad (by rfl) (.tmp 21) (.tmp 24) 23 (by rfl) Tryz.underlying23 hi hz0 hz1 hz2 rfl (by rfl) (by rfl) ((D.out.below J.out).below U) (Zac (x:=d) 67 HRD.out) (fun q hq hm=>by have e1:=HFR.out.ge q hq;have e2:=HLT.out q hm;omega) (Xab om) om (by first|omega|(simp;omega)) ?_);intro v5 w5 hr5 N hn5;have s5:I<=w5.heap.size:=Nat.le_trans U.size N.size;have hnw:∀p∈rowP (GoT.n Xac) u,w+3<=p.1:=D.out.2.1.ge;have k5:w5.cell? ⟨w.heap.size+2,1,none⟩=some u:=jag U N k4 (fun hm=>by have:=hnw _ hm;(try simp only at this);omega);have g5:w5.frozen? ⟨w.heap.size+2,1,none⟩=false:=(N.frozen (w+2,1) (lq z4 U.size)).trans ((U.frozen (p:=⟨w+2,1,none⟩) z4).trans g4);have z5:w+2<w5.heap.size:=om;obtain⟨a5,c5,e5⟩:=hr5.rd.isSlice;rw[List.length_append,List.length_singleton]at e5;subst e5;have HR5:=hH hr5;have Q:=hH N;have B:=hH U;clear hr5 N hn5 U))
    all_goals
     have HO:Hid (uaf (w+3) (w5.setCell ⟨w+2,1,none⟩ (.slice a5 (R.length+1) c5)) (.slice a5 (R.length+1) c5) (R++[d])):=hH (by
      exact(Row.grown D.out HFS.out (J.out.alloc s4 _) (HFR.out.belowL B.out (Live.lt (GoT.live HRD.out))) (xaF HRD.out B.out) om HR5.out Q.out).poke om _)
     have HBX5:Hid (vat (w5.setCell ⟨w+2,1,none⟩ (.slice a5 (R.length+1) c5)) (w+2) [z.shut,.slice a5 (R.length+1) c5,zN,z.last]):=hH (((HBV.out.below J.out om).below B.out z4).wr Q.out (lq z4 B.out.size) (fun p hp e=>by have:=D.out.2.1.ge p hp;omega) |>.put 1 sm _)
     have HBL:Hid (Below (w+2) W (w5.setCell ⟨w+2,1,none⟩ (.slice a5 (R.length+1) c5))):=hH ((hbr.trans (vaV J.out om Q.out (fun p hp=>by have:=D.out.2.1.ge p hp;omega))).setCell (lr _) _)
     clear HR5 Q B;go_wp2;go_roundw
     case rel=>exact⟨k+1,_,_,HT.out,by omega,by go_num,HBX5.out,HO.out,HBL.out⟩
     case measure=>simp[intOf];omega
   ·obtain rfl:k=z.docs.length:=om;rw[List.take_length]at hLk;subst hLk;have HOD:=hH hu.bd;have HBW:=hH a4;clear hu a4;obtain⟨uz0,uz1,uz2,uz3⟩:=mv4 hbr zc0 kz0 kz1 kz2 kz3;obtain⟨wo,rfl⟩:∃wo:World,wo=wr:=⟨_,rfl⟩;go_wp2;go_loopw [31] (fun i wr=>∃(k:Nat) (us:Value) (R:List yai),R=z.subs.take k/\k<=z.subs.length/\i= .int .i64 k/\vat wr (w+2) [z.shut,u,us,z.last]/\zag (w+3) wo wr u z.docs/\uaf wo wr us R/\Below (w+2) W wr/\wo<=wr.heap.size) (fun i _=>z.subs.length-(intOf i).toNat)
    case atStart=>exact⟨0,_,[],rfl,lz _,rfl,HBW.out,HOD.out,uaf.nil,hbr,lr _⟩
    case round=>
     clear HBW HOD uz0 uz1 uz2 uz3;obtain⟨k,us,R,hLk,hk,rfl,a4,hod,hu,hbq,hso⟩:=hrel;have hsq:=hbq.size;have hbw:Below w w wr:=hWB.trans (hbq.mono om);by_cases hlt:k<z.subs.length
     ·obtain⟨s,hx⟩:=Jaa hlt;obtain⟨b1,o1,cs,g1,g2,g3⟩:=(HXS.out.below hbw).idx Tryz.underlying24 ual k hx;obtain⟨s_list,rfl,nn,M⟩:=xap g3;have q0:=g2.zero;have q1:=g2 1 _ rfl;have q2:=g2 2 _ rfl;have q3:=g2 3 _ rfl;have q4:=g2 4 _ rfl;have q5:=g2 5 _ rfl;obtain⟨al,cl,rfl⟩:=M.isSlice;have HT:Hid (R++[s]=z.subs.take (k+1)):=hH (by rw[hLk];exact(Zag hx).symm)
      have HD:=hH (HZ.out.subs s (List.mem_of_getElem? hx));have hkl:R.length<=4000000:=by rw[hLk];simp;omega
      clear hLk;obtain⟨V,hV⟩:∃V:World,V=wr.alloc (.cells #[s.id,s.doc,s.r.cap,s.r.next,s.r.out,.slice al s.r.list.length cl] 72):=⟨_,rfl⟩;have a0:Below wr wr V:=by rw[hV];exact(lf _ _).alloc (lr _) _
      have sV:=a0.size;have HVL:=hH (M.below a0);have hbv:Below (w+2) W V:=hbq.trans (a0.mono om);have bxv:vat V (w+2) [z.shut,u,us,z.last]:=a4.below a0 om;have kvo:=bxv.cell 2 rfl;have gvo:=bxv.fz 2 sm;have zvo:w+2<V.heap.size:=om;have a6:wr<V.heap.size:=by rw[hV];simp
      have HBV:=hH a4;have HOV:=hH hod;have kvs0:V.cell? ⟨wr.heap.size,0,none⟩=some (.int .i64 s.id):=by rw[hV];simp
      have gvs0:V.frozen? ⟨wr.heap.size,0,none⟩=false:=by rw[hV];simp
      have kvs1:V.cell? ⟨wr.heap.size,1,none⟩=some (.string s.doc):=by rw[hV];simp
      have gvs1:V.frozen? ⟨wr.heap.size,1,none⟩=false:=by rw[hV];simp
      have kvs2:V.cell? ⟨wr.heap.size,2,none⟩=some (.int .i64 s.r.cap):=by rw[hV];simp
      have gvs2:V.frozen? ⟨wr.heap.size,2,none⟩=false:=by rw[hV];simp
      have kvs3:V.cell? ⟨wr.heap.size,3,none⟩=some (.int .i64 s.r.next):=by rw[hV];simp
      have gvs3:V.frozen? ⟨wr.heap.size,3,none⟩=false:=by rw[hV];simp
      have kvs4:V.cell? ⟨wr.heap.size,4,none⟩=some (.bool s.r.out):=by rw[hV];simp
      have gvs4:V.frozen? ⟨wr.heap.size,4,none⟩=false:=by rw[hV];simp
      have kvs5:V.cell? ⟨wr.heap.size,5,none⟩=some (.slice al s.r.list.length cl):=by rw[hV];simp
      have gvs5:V.frozen? ⟨wr.heap.size,5,none⟩=false:=by rw[hV];simp
      obtain⟨fs,hrow,hfs⟩:=hu.row;have HLT:=hH (Live.lt (Live.append.1 hrow.1.live).1);have D:=hH hrow;have HFS:=hH hfs;clear hx g2 g3 M hrow hfs hu a4 bxv hod;go_wp2_with fail
      rw[<-hV];clear hV q0 q1 q2 q3 q4 q5;first
      |have:Unit:=k_0
       clear this;go_region_law (first|(go_simp;go_at_call 125;refine(xaW s _ _ nn (HVL.out.below (lf _ _).drew) HD.out).mono ?_;rintro e' I ⟨_,rfl,ho,hb4⟩;obtain⟨f,hrd,hfr⟩:=ho;obtain⟨vr,f1,rfl,nn2,⟨v1,f2,rfl,s1,rfl⟩,rfl⟩:=hrd;obtain⟨a1,c1,rfl⟩:=s1.isS;have Z:Hid (Below V V I):=hH ((lf V V).drew.trans hb4);have J:Hid (Below wr wr I):=hH (a0.trans (Z.out.mono sV));have s4:=J.out.size;have s4v:=Z.out.size;have HRD:Hid (GoT.rd BIG I [s.id,s.doc,s.r.cap,s.r.next,s.r.out,.slice a1 s.r.list.length c1] s f):=hH ⟨_,_,rfl,nn2,⟨_,_,rfl,s1,rfl⟩,rfl⟩;have HFR:Hid (Qaa wr I f):=hH (hfr.mono om);have k4:=(Z.out.cell (p:=⟨w+2,2,none⟩) zvo).trans kvo;have g4:=(Z.out.frozen (p:=⟨w+2,2,none⟩) zvo).trans gvo;have z4:w+2<I.heap.size:=om;clear hb4 hfr s1 nn2)|(have U:Below I I (I.alloc (.cells #[s.id,s.doc,s.r.cap,s.r.next,s.r.out,.slice a1 s.r.list.length c1] 72)):=(lf _ _).alloc (lr _) _;(refine yad (by rfl) (.tmp 36) (.tmp 39) 24 (by rfl) Tryz.underlying24 hj jz0 jz1 jz2 rfl (by rfl) (by rfl) ((D.out.below J.out).below U) (Zac (x:=s) 72 HRD.out) (fun q hq hm=>by have e1:=HFR.out.ge q hq;have e2:=HLT.out q hm;omega) (Xab om) om (by first|omega|(simp;omega)) ?_);intro v5 w5 hr5 N hn5;have s5:I<=w5.heap.size:=Nat.le_trans U.size N.size;have hnw:∀p∈rowP (GoT.n yai) us,wo<=p.1:=D.out.2.1.ge;have k5:w5.cell? ⟨w.heap.size+2,2,none⟩=some us:=jag U N k4 (fun hm=>by have:=hnw _ hm;(try simp only at this);omega);have g5:w5.frozen? ⟨w.heap.size+2,2,none⟩=false:=(N.frozen (w+2,2) (lq z4 U.size)).trans ((U.frozen (p:=⟨w+2,2,none⟩) z4).trans g4);have z5:w+2<w5.heap.size:=om;obtain⟨a5,c5,e5⟩:=hr5.rd.isSlice;rw[List.length_append,List.length_singleton]at e5;subst e5;have HR5:=hH hr5;have Q:=hH N;have B:=hH U;clear hr5 N hn5 U))
       all_goals
        have HO:Hid (uaf wo (w5.setCell ⟨w+2,2,none⟩ (.slice a5 (R.length+1) c5)) (.slice a5 (R.length+1) c5) (R++[s])):=hH (by
         exact(Row.grown D.out HFS.out (J.out.alloc s4 _) (HFR.out.belowL B.out (Live.lt (GoT.live HRD.out))) (xaF HRD.out B.out) om HR5.out Q.out).poke om _)
        have HBX5:Hid (vat (w5.setCell ⟨w+2,2,none⟩ (.slice a5 (R.length+1) c5)) (w+2) [z.shut,u,.slice a5 (R.length+1) c5,z.last]):=hH (((HBV.out.below J.out om).below B.out z4).wr Q.out (lq z4 B.out.size) (fun p hp e=>by have:=D.out.2.1.ge p hp;omega) |>.put 2 sm _)
        have HBL:Hid (Below (w+2) W (w5.setCell ⟨w+2,2,none⟩ (.slice a5 (R.length+1) c5))):=hH ((hbq.trans (vaV J.out om Q.out (fun p hp=>by have:=D.out.2.1.ge p hp;omega))).setCell (lr _) _)
        have HOD5:Hid (zag (w+3) wo (w5.setCell ⟨w+2,2,none⟩ (.slice a5 (R.length+1) c5)) u z.docs):=hH ((((HOV.out.below J.out).below B.out).wr Q.out (by have:=B.out.size;omega) (fun p hp=>D.out.2.1.ge p hp)).setCell (.inl om) _)
        have hs5:wo.heap.size<=(w5.setCell ⟨w+2,2,none⟩ (.slice a5 (R.length+1) c5)).heap.size:=by simp;omega
        clear HR5 Q B;go_wp2;go_roundw
        case rel=>exact⟨k+1,_,_,HT.out,by omega,by go_num,HBX5.out,HOD5.out,HO.out,HBL.out,hs5⟩
        case measure=>simp[intOf];omega
      |refine(Kae s.r _ _ (HVL.out.below blw) HD.out).mono ?_
       rintro e' w1 ⟨_,rfl,ho,hb4⟩;obtain⟨f,hrd,hfr⟩:=ho;obtain⟨v1,f2,rfl,s1,rfl⟩:=hrd;obtain⟨a1,c1,rfl⟩:=s1.isS;have Y:Hid (Below V V w1):=hH blw;have s1_:=Y.out.size;have zvs1:wr<w1.heap.size:=om;have y0:=(Y.out.cell (p:=⟨wr,0,none⟩) a6).trans kvs0;have t0:=(Y.out.frozen (p:=⟨wr,0,none⟩) a6).trans gvs0;have y1:=(Y.out.cell (p:=⟨wr,1,none⟩) a6).trans kvs1;have t1:=(Y.out.frozen (p:=⟨wr,1,none⟩) a6).trans gvs1;have y2:=(Y.out.cell (p:=⟨wr,2,none⟩) a6).trans kvs2;have t2:=(Y.out.frozen (p:=⟨wr,2,none⟩) a6).trans gvs2;have y3:=(Y.out.cell (p:=⟨wr,3,none⟩) a6).trans kvs3;have t3:=(Y.out.frozen (p:=⟨wr,3,none⟩) a6).trans gvs3;have y4:=(Y.out.cell (p:=⟨wr,4,none⟩) a6).trans kvs4;have t4:=(Y.out.frozen (p:=⟨wr,4,none⟩) a6).trans gvs4;have y5:=(Y.out.cell (p:=⟨wr,5,none⟩) a6).trans kvs5;have t5:=(Y.out.frozen (p:=⟨wr,5,none⟩) a6).trans gvs5;have HF1:Hid (Qaa V w1 f):=hH (hfr.mono om);have HS1:=hH s1;have hnf:∀j,((wr,j):Pos)∉f:=fun j hm=>Nat.lt_irrefl _ (lq a6 (HF1.out.ge _ hm))
       have HNF:=hH hnf;obtain⟨I,hw4⟩:∃I:World,I=((((w1.setCell ⟨wr,2,none⟩ s.r.cap).setCell ⟨wr,3,none⟩ s.r.next).setCell ⟨wr,4,none⟩ s.r.out).setCell ⟨wr,5,none⟩ (.slice a1 s.r.list.length c1)):=⟨_,rfl⟩;have hq1:Below wr V w1:=Y.out.mono (Nat.le_of_lt a6);have Z:Hid (Below wr V I):=hH (by rw[hw4];exact(((hq1.setCell (lr _) _).setCell (lr _) _).setCell (lr _) _).setCell (lr _) _)
       have J:Hid (Below wr wr I):=hH (a0.trans Z.out);have s4:=J.out.size;have s4v:=Z.out.size;have HRD:Hid (GoT.rd BIG I [s.id,s.doc,s.r.cap,s.r.next,s.r.out,.slice a1 s.r.list.length c1] s f):=hH ⟨_,_,rfl,nn,⟨_,_,rfl,by rw[hw4];exact((((HS1.out.put (HNF.out 2) _).put (HNF.out 3) _).put (HNF.out 4) _).put (HNF.out 5) _),rfl⟩,rfl⟩
       have HFR:Hid (Qaa wr I f):=hH (by rw[hw4];exact((((HF1.out.mono om).put _ _).put _ _).put _ _).put _ _)
       clear hb4 hfr s1 hnf;have x0:I.cell? ⟨wr.heap.size,0,none⟩=some (.int .i64 s.id):=by rw[hw4];simp[xaa,y0]
       have x1:I.cell? ⟨wr.heap.size,1,none⟩=some (.string s.doc):=by rw[hw4];simp[xaa,y1]
       have x2:I.cell? ⟨wr.heap.size,2,none⟩=some (.int .i64 s.r.cap):=by rw[hw4];simp[xaa,y2]
       have x3:I.cell? ⟨wr.heap.size,3,none⟩=some (.int .i64 s.r.next):=by rw[hw4];simp[xaa,y3]
       have x4:I.cell? ⟨wr.heap.size,4,none⟩=some (.bool s.r.out):=by rw[hw4];simp[xaa,y4]
       have x5:I.cell? ⟨wr.heap.size,5,none⟩=some (.slice a1 s.r.list.length c1):=by rw[hw4];simp[xaa,y5]
       have zq2:w+2<wr.heap.size:=om;have k4:I.cell? ⟨w.heap.size+2,2,none⟩=some us:=(Z.out.cell (p:=⟨w+2,2,none⟩) zq2).trans kvo;have g4:I.frozen? ⟨w.heap.size+2,2,none⟩=false:=(Z.out.frozen (p:=⟨w+2,2,none⟩) zq2).trans gvo;have z4:w+2<I.heap.size:=om;have z4s:wr<I.heap.size:=om;go_upto_region 11 with(fail)
       rw[<-hw4];clear hw4 y0 t0 kvs0 gvs0 y1 t1 kvs1 gvs1 y2 t2 kvs2 gvs2 y3 t3 kvs3 gvs3 y4 t4 kvs4 gvs4 y5 t5 kvs5 gvs5;have B:Hid (Below I I (I.alloc (.cells #[s.id,s.doc,s.r.cap,s.r.next,s.r.out,.slice a1 s.r.list.length c1] 72))):=hH ((lf _ _).alloc (lr _) _);go_wp2_with (at_builtin;refine qaa rfl _ _ 24 rfl Tryz.underlying24 hj jz0 jz1 jz2 rfl rfl rfl ((D.out.below J.out).below B.out) (Zac (x:=s) 72 HRD.out) (fun q hq hm=>by have e1:=HFR.out.ge q hq;have e2:=HLT.out q hm;omega) ?c1 ?c2 ?c3 ?_)
       case c1=>simp at hkl⊢;exact Xab om
       case c2=>simp at hkl⊢;omega
       case c3=>first|omega|(simp;omega)
       intro v5 w5 hr5 N hn5;have s5:I<=w5.heap.size:=Nat.le_trans B.out.size N.size;have k5:w5.cell? ⟨w.heap.size+2,2,none⟩=some us:=jag B.out N k4 (fun hm=>by have:=D.out.2.1.ge _ hm;(try simp only at this);omega)
       have g5:w5.frozen? ⟨w.heap.size+2,2,none⟩=false:=(N.frozen (w+2,2) (lq z4 B.out.size)).trans ((B.out.frozen (p:=⟨w+2,2,none⟩) z4).trans g4);have z5:w+2<w5.heap.size:=om;obtain⟨a5,c5,e5⟩:=hr5.rd.isSlice;rw[List.length_append,List.length_singleton]at e5;subst e5;have HR5:=hH hr5;have Q:=hH N;clear hr5 N hn5;have HO:Hid (uaf wo (w5.setCell ⟨w+2,2,none⟩ (.slice a5 (R.length+1) c5)) (.slice a5 (R.length+1) c5) (R++[s])):=hH (by
        exact(Row.grown D.out HFS.out (J.out.alloc s4 _) (HFR.out.belowL B.out (Live.lt (GoT.live HRD.out))) (xaF HRD.out B.out) om HR5.out Q.out).poke om _)
       have HBX5:Hid (vat (w5.setCell ⟨w+2,2,none⟩ (.slice a5 (R.length+1) c5)) (w+2) [z.shut,u,.slice a5 (R.length+1) c5,z.last]):=hH (((HBV.out.below J.out om).below B.out z4).wr Q.out (lq z4 B.out.size) (fun p hp e=>by have:=D.out.2.1.ge p hp;omega) |>.put 2 sm _)
       have HBL:Hid (Below (w+2) W (w5.setCell ⟨w+2,2,none⟩ (.slice a5 (R.length+1) c5))):=hH ((hbq.trans (vaV J.out om Q.out (fun p hp=>by have:=D.out.2.1.ge p hp;omega))).setCell (lr _) _)
       have HOD5:Hid (zag (w+3) wo (w5.setCell ⟨w+2,2,none⟩ (.slice a5 (R.length+1) c5)) u z.docs):=hH ((((HOV.out.below J.out).below B.out).wr Q.out (by have:=B.out.size;omega) (fun p hp=>D.out.2.1.ge p hp)).setCell (.inl om) _)
       have hs5:wo.heap.size<=(w5.setCell ⟨w+2,2,none⟩ (.slice a5 (R.length+1) c5)).heap.size:=by simp;omega
       clear HR5 Q B;go_wp2;go_roundw
       case rel=>exact⟨k+1,_,_,HT.out,by omega,by go_num,HBX5.out,HOD5.out,HO.out,HBL.out,hs5⟩
       case measure=>simp[intOf];omega
     ·obtain rfl:k=z.subs.length:=om;rw[List.take_length]at hLk;subst hLk;have bx0:=a4.cell 0 rfl;have bx1:=a4.cell 1 rfl;have bx2:=a4.cell 2 rfl;have bx3:=a4.cell 3 rfl;have zo:w+2<wr.heap.size:=om;have zr:w+1<wr.heap.size:=om;obtain⟨ad,cd,rfl⟩:=hod.own.rd.isSlice;obtain⟨as_,cs_,rfl⟩:=hu.rd.isSlice;have HOD:=hH hod;have HOS:=hH hu.bd;clear a4 hu hod;obtain⟨rr0,rr1,rr2,rr3⟩:=mv4 hbq zc1 kr0 kr1 kr2 kr3;obtain⟨rf0,rf1,rf2,rf3⟩:=mf4 hbq zc1 fr0 fr1 fr2 fr3;have HH:Hid (Own w ((((wr.setCell ⟨w+1,0,none⟩ z.shut).setCell ⟨w+1,1,none⟩ (.slice ad z.docs.length cd)).setCell ⟨w+1,2,none⟩ (.slice as_ z.subs.length cs_)).setCell ⟨w+1,3,none⟩ z.last) [z.shut,.slice ad z.docs.length cd,.slice as_ z.subs.length cs_,z.last] z):=hH (ubd z ((((HOD.out.setCell (.inl om) _).setCell (.inl om) _).setCell (.inl om) _).setCell (.inl om) _) ((((HOS.out.setCell (.inl om) _).setCell (.inl om) _).setCell (.inl om) _).setCell (.inl om) _) om om om);have HBB:Hid (Below w w ((((wr.setCell ⟨w+1,0,none⟩ z.shut).setCell ⟨w+1,1,none⟩ (.slice ad z.docs.length cd)).setCell ⟨w+1,2,none⟩ (.slice as_ z.subs.length cs_)).setCell ⟨w+1,3,none⟩ z.last)):=hH ((((hbw.setCell sm _).setCell sm _).setCell sm _).setCell sm _);go_wp2;exact bodyPost_ret (v:= .agg #[z.shut,.slice ad z.docs.length cd,.slice as_ z.subs.length cs_,z.last]) (by simp[results,Tryz.results92,Tryz.results24,go_sem,xaa, *]) rfl ⟨_,rfl,HH.out,HBB.out⟩
def qaf:=@XaK 92 (.inl rfl)
def kaf:=@XaK 24 (.inr rfl)
