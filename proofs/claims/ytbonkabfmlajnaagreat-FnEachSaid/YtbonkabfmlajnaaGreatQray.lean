/- Hubs: shut. -/
import Derived.Test.YtbonkabfmlajnaaGreatQrax
import Derived.Test.YtbonkabfmlajnaaGreatQraw
set_option maxHeartbeats 8000000
set_option maxRecDepth 100000
set_option linter.defProp false
set_option linter.unusedSimpArgs false
namespace Go.Proofs.YtbonkabfmlajnaaGreat
open Go.RowKit
attribute [local go_sem ↓] Go.wp_at_zero Go.wp_at_succ
def Qab (C D:Nat)(w:World)(vd vs:Value)(docs:List Xac)(subs:List yai):Prop:=
 ∃fd fs,Sl BIG w vd docs fd/\Sl BIG w vs subs fs/\Qaa C w (fd++fs)/\∀p∈fd++fs,p.1<D
section
variable {C D:Nat} {w w':World} {vd vs:Value} {docs:List Xac} {subs:List yai}
theorem Qab.of_own {n:List Value}{z:qae}(h:Own C w n z):∃j vs,n=[.bool z.shut,j,vs,.int .i64 z.last]/\Qab C w w j vs z.docs z.subs:=by
 obtain⟨f,⟨j,vs,fd,fs,rfl,p,q,rfl⟩,u⟩:=h;exact⟨j,vs,rfl,fd,fs,p,q,u,Live.lt (Live.append.2 ⟨p.live,q.live⟩)⟩
theorem Qab.rd1 (h:Qab C D w vd vs docs subs):RdS w vd docs:=let⟨fd,_,j,_⟩:=h;⟨fd,j⟩
theorem Qab.rd2 (h:Qab C D w vd vs docs subs):RdS w vs subs:=let⟨_,fs,_,j,_⟩:=h;⟨fs,j⟩
theorem Qab.mono {C':Nat}(h:Qab C D w vd vs docs subs)(j:C'<=C):Qab C' D w vd vs docs subs:=let⟨fd,fs,a,b,c,d⟩:=h;⟨fd,fs,a,b,c.mono j,d⟩
theorem Qab.block (h:Qab C D w vd vs docs subs)(q:∀k,C<=k->k<D->w'.heap[k]? =w.heap[k]?):Qab C D w' vd vs docs subs:=by
 obtain⟨fd,fs,a,b,c,d⟩:=h;have n:∀p∈fd++fs,w'.cell? ⟨p.1,p.2,none⟩=w.cell? ⟨p.1,p.2,none⟩:=fun p j=>by simp only[World.cell?];rw[q p.1 (c.ge p j) (d p j)]
 have u:∀p∈fd++fs,w'.frozen? ⟨p.1,p.2,none⟩=w.frozen? ⟨p.1,p.2,none⟩:=fun p j=>by simp only[World.frozen?];rw[q p.1 (c.ge p j) (d p j)]
 exact⟨fd,fs,a.keep fun p j=>n p (lu _ j),b.keep fun p j=>n p (lw _ j),⟨c.nodup,c.ge,fun p j=>(u p j).trans (c.free p j)⟩,d⟩
theorem Qab.below (h:Qab C D w vd vs docs subs)(hb:Below D w w'):Qab C D w' vd vs docs subs:=h.block fun k _ j=>hb.block k j
theorem Qab.setCell {b o:Nat}(h:Qab C D w vd vs docs subs)(p:b<C\/D<=b)(u:Value):Qab C D (w.setCell ⟨b,o,none⟩ u) vd vs docs subs:=h.block fun k j n=>Below.heap_setCell w ⟨b,o,none⟩ u k (by show k≠b;omega)
theorem Qab.alloc (h:Qab C D w vd vs docs subs)(j:D<=w.heap.size)(o:Obj):Qab C D (w.alloc o) vd vs docs subs:=h.below ((lf _ _).alloc j o)
theorem Qab.out_i {w0:World}{y:qae}{n:Int}(h:Qab C D w' vd vs y.docs y.subs)(j:w0.heap.size<=C)(hb:Below w0 w0 w'):xau w0 y n (.returned (.tuple #[.agg #[y.shut,vd,vs,y.last],n])) w':=
 let⟨fd,fs,a,b,c,_⟩:=h
 ⟨vd,vs,fd,fs,rfl,a,b,c.mono j,hb⟩
theorem Qab.out_i_i {w0:World}{y:qae}{n m:Int}(h:Qab C D w' vd vs y.docs y.subs)(j:w0.heap.size<=C)(hb:Below w0 w0 w'):Xar w0 y n m (.returned (.tuple #[.agg #[y.shut,vd,vs,y.last],n,m])) w':=
 let⟨fd,fs,a,b,c,_⟩:=h
 ⟨vd,vs,fd,fs,rfl,a,b,c.mono j,hb⟩
end
theorem ua7 {z:qae}(h:Qac z=false):xan z=(zao,1):=by simp[xan,h]
theorem XaW {z:qae}(h:Qac z=true)(j:z.shut=true):xan z=(zao,12):=by simp[xan,h,j]
theorem ya3 {z:qae}(h:Qac z=true)(j:z.shut=false):xan z=(⟨true,z.docs,z.subs,z.last⟩,0):=by simp[xan,h,j]
theorem jaN {N_:Nat}(h_:N_=105\/N_=14)(z:qae)(j n:Value)(w:World)(M:RdS w j z.docs)(N:RdS w n z.subs):Calls Tryz.prog N_ #[.agg #[z.shut,j,n,z.last]] w (xau w (xan z).1 (xan z).2):=by
 rcases h_ with rfl|rfl
 have k_1:=hH @yal;have k_2:=hH @qaf;go_enter Tryz.func105,Tryz.ntmps105;rotate_left;have k_1:=hH @uah;have k_2:=hH @kaf;go_enter Tryz.func14,Tryz.ntmps14;all_goals
  have hOK:=fun(W':World) (a:RdS W' j z.docs) (b:RdS W' n z.subs)=>k_1.out z j n W' a b
  have hCP:=fun(W':World) (a:RdS W' j z.docs) (b:RdS W' n z.subs) (c:uaM z)=>k_2.out z j n W' a b c
  obtain⟨sh,hsh⟩:∃sh:Bool,z.shut=sh:=⟨_,rfl⟩;simp only[hsh]at hOK hCP;rw[hsh];have HOK:=hH hOK;have HCP:=hH hCP;clear hOK hCP;obtain⟨W,u⟩:∃W:World,W=(w.alloc (.cells #[sh,j,n,z.last] 26)).alloc (.cells #[false,zN,zN,zI] 26):=⟨_,rfl⟩;have Y:Below w w W:=by rw[u];exact blw
  have sW:=Y.size;have zz:w<W.heap.size:=by rw[u];first|(simp;done)|(simp;omega)
  have kz0:W.cell? ⟨w.heap.size,0,none⟩=some (.bool sh):=by rw[u];simp[go_sem]
  have kz1:W.cell? ⟨w.heap.size,1,none⟩=some (j):=by rw[u];simp[go_sem]
  have kz2:W.cell? ⟨w.heap.size,2,none⟩=some (n):=by rw[u];simp[go_sem]
  have kz3:W.cell? ⟨w.heap.size,3,none⟩=some (.int .i64 z.last):=by rw[u];simp[go_sem]
  have zr:w+1<W.heap.size:=by rw[u];first|(simp;done)|(simp;omega)
  have kr0:W.cell? ⟨w.heap.size+1,0,none⟩=some (.bool false):=by rw[u];simp[go_sem]
  have fr0:W.frozen? ⟨w.heap.size+1,0,none⟩=false:=by rw[u];simp[go_sem]
  have kr1:W.cell? ⟨w.heap.size+1,1,none⟩=some (.slice none 0 0):=by rw[u];simp[go_sem]
  have fr1:W.frozen? ⟨w.heap.size+1,1,none⟩=false:=by rw[u];simp[go_sem]
  have kr2:W.cell? ⟨w.heap.size+1,2,none⟩=some (.slice none 0 0):=by rw[u];simp[go_sem]
  have fr2:W.frozen? ⟨w.heap.size+1,2,none⟩=false:=by rw[u];simp[go_sem]
  have kr3:W.cell? ⟨w.heap.size+1,3,none⟩=some (.int .i64 0):=by rw[u];simp[go_sem]
  have fr3:W.frozen? ⟨w.heap.size+1,3,none⟩=false:=by rw[u];simp[go_sem]
  have hW2:w+2<=W.heap.size:=by rw[u];simp
  have HXD:=hH (M.below Y);have HXS:=hH (N.below Y);clear M N;by_cases h1:Qac z=true
  rotate_left
  ·have h1:Qac z=false:=by simpa using h1
   have HV:=hH (ua7 h1);go_wp2_with fail
   rw[<-u];clear u;go_wp2_with fail
   refine(HOK.out _ (HXD.out.below blw) (HXS.out.below blw)).mono ?_;rintro e' Z ⟨rfl,I⟩;rw[h1];have D:Below W W Z:=(show Below W W _ from blw).trans (I.mono om);have s1:=D.size;have z1z:w<Z.heap.size:=lq zz s1;obtain⟨y1z0,y1z1,y1z2,y1z3⟩:=mv4 D zz kz0 kz1 kz2 kz3;have z1r:w+1<Z.heap.size:=lq zr s1;obtain⟨y1r0,y1r1,y1r2,y1r3⟩:=mv4 D zr kr0 kr1 kr2 kr3;obtain⟨t1r0,t1r1,t1r2,t1r3⟩:=mf4 D zr fr0 fr1 fr2 fr3;clear I;go_wp2;have HB:Hid (Below w w ((((Z.setCell ⟨w+1,0,none⟩ false).setCell ⟨w+1,1,none⟩ zN).setCell ⟨w+1,2,none⟩ zN).setCell ⟨w+1,3,none⟩ zI)):=hH (((((Y.trans (D.mono om)).setCell sm _).setCell sm _).setCell sm _).setCell sm _);rw[HV.out];exact bodyPost_ret (v:= .tuple #[.agg #[false,zN,zN,zI],.int .i64 1]) (by simp[results,Tryz.results105,Tryz.results14,go_sem,xaa, *]) rfl ⟨_,_,[],[],rfl,Sl.nil,Sl.nil,by simpa using Qaa.nil _ _,HB.out⟩
  have HZ:=hH (yaT h1);cases sh;rotate_left
  ·have HV:=hH (XaW h1 hsh);go_wp2_with fail
   rw[<-u];clear u;go_wp2_with fail
   refine(HOK.out _ (HXD.out.below blw) (HXS.out.below blw)).mono ?_;rintro e' Z ⟨rfl,I⟩;rw[h1];have D:Below W W Z:=(show Below W W _ from blw).trans (I.mono om);have s1:=D.size;have z1z:w<Z.heap.size:=lq zz s1;obtain⟨y1z0,y1z1,y1z2,y1z3⟩:=mv4 D zz kz0 kz1 kz2 kz3;have z1r:w+1<Z.heap.size:=lq zr s1;obtain⟨y1r0,y1r1,y1r2,y1r3⟩:=mv4 D zr kr0 kr1 kr2 kr3;obtain⟨t1r0,t1r1,t1r2,t1r3⟩:=mf4 D zr fr0 fr1 fr2 fr3;clear I;go_wp2;have HB:Hid (Below w w ((((Z.setCell ⟨w+1,0,none⟩ false).setCell ⟨w+1,1,none⟩ zN).setCell ⟨w+1,2,none⟩ zN).setCell ⟨w+1,3,none⟩ zI)):=hH (((((Y.trans (D.mono om)).setCell sm _).setCell sm _).setCell sm _).setCell sm _);rw[HV.out];exact bodyPost_ret (v:= .tuple #[.agg #[false,zN,zN,zI],.int .i64 12]) (by simp[results,Tryz.results105,Tryz.results14,go_sem,xaa, *]) rfl ⟨_,_,[],[],rfl,Sl.nil,Sl.nil,by simpa using Qaa.nil _ _,HB.out⟩
  have HV:=hH (ya3 h1 hsh);go_wp2_with fail
  rw[<-u];clear u;go_wp2_with fail
  refine(HOK.out _ (HXD.out.below blw) (HXS.out.below blw)).mono ?_;rintro e' Z ⟨rfl,I⟩;rw[h1];have D:Below W W Z:=(show Below W W _ from blw).trans (I.mono om);have s1:=D.size;have z1z:w<Z.heap.size:=lq zz s1;obtain⟨y1z0,y1z1,y1z2,y1z3⟩:=mv4 D zz kz0 kz1 kz2 kz3;have z1r:w+1<Z.heap.size:=lq zr s1;obtain⟨y1r0,y1r1,y1r2,y1r3⟩:=mv4 D zr kr0 kr1 kr2 kr3;obtain⟨t1r0,t1r1,t1r2,t1r3⟩:=mf4 D zr fr0 fr1 fr2 fr3;clear I;go_wp2_with fail
  refine(HCP.out _ (HXD.out.below blw) (HXS.out.below blw) HZ.out).mono ?_;rintro e' B ⟨_,rfl,ho2,hb2⟩;obtain⟨vd,vs,rfl,Q⟩:=Qab.of_own ho2;rw[hsh];obtain⟨ad,cd,rfl⟩:=Q.rd1.isSlice;obtain⟨R,U,rfl⟩:=Q.rd2.isSlice;have HOWN:=hH (Q.mono (C':=W) om);clear ho2 Q;have B2:Below W W B:=(show Below W W _ from blw).trans (hb2.mono om);have s2:=B2.size;have z2z:w<B.heap.size:=lq zz s2;obtain⟨y2z0,y2z1,y2z2,y2z3⟩:=mv4 B2 zz kz0 kz1 kz2 kz3;have z2r:w+1<B.heap.size:=lq zr s2;obtain⟨y2r0,y2r1,y2r2,y2r3⟩:=mv4 B2 zr kr0 kr1 kr2 kr3;obtain⟨t2r0,t2r1,t2r2,t2r3⟩:=mf4 B2 zr fr0 fr1 fr2 fr3;clear hb2;go_upto_region 6 with(fail)
  obtain⟨V,hV⟩:∃V:World,V=B.alloc (.cells #[false,.slice ad z.docs.length cd,.slice R z.subs.length U,z.last] 26):=⟨_,rfl⟩;have q:Below B B V:=by rw[hV];exact(lf _ _).alloc (lr _) _
  have sV:=q.size;have zVo:B<V.heap.size:=by rw[hV];simp
  have zVr:w+1<V.heap.size:=om;have J:w+1<B.heap.size:=om;have hne:¬(w+1=B.heap.size):=om;have hne2:¬(B=w.heap.size+1):=om;have vo0:V.cell? ⟨B.heap.size,0,none⟩=some (.bool false):=by rw[hV];simp
  have go0:V.frozen? ⟨B.heap.size,0,none⟩=false:=by rw[hV];simp
  have vr0:=(q.cell (p:=⟨w+1,0,none⟩) J).trans y2r0;have gr0:=(q.frozen (p:=⟨w+1,0,none⟩) J).trans t2r0;have vo1:V.cell? ⟨B.heap.size,1,none⟩=some (.slice ad z.docs.length cd):=by rw[hV];simp
  have go1:V.frozen? ⟨B.heap.size,1,none⟩=false:=by rw[hV];simp
  have vr1:=(q.cell (p:=⟨w+1,1,none⟩) J).trans y2r1;have gr1:=(q.frozen (p:=⟨w+1,1,none⟩) J).trans t2r1;have vo2:V.cell? ⟨B.heap.size,2,none⟩=some (.slice R z.subs.length U):=by rw[hV];simp
  have go2:V.frozen? ⟨B.heap.size,2,none⟩=false:=by rw[hV];simp
  have vr2:=(q.cell (p:=⟨w+1,2,none⟩) J).trans y2r2;have gr2:=(q.frozen (p:=⟨w+1,2,none⟩) J).trans t2r2;have vo3:V.cell? ⟨B.heap.size,3,none⟩=some (.int .i64 z.last):=by rw[hV];simp
  have go3:V.frozen? ⟨B.heap.size,3,none⟩=false:=by rw[hV];simp
  have vr3:=(q.cell (p:=⟨w+1,3,none⟩) J).trans y2r3;have gr3:=(q.frozen (p:=⟨w+1,3,none⟩) J).trans t2r3;have HOV:=hH (HOWN.out.below q);have hWV:Below w w V:=(Y.trans (B2.mono om)).trans (q.mono om);rw[<-hV];clear hV HOWN D z1z z1r y1z0 y1r0 t1r0 y1z1 y1r1 t1r1 y1z2 y1r2 t1r2 y1z3 y1r3 t1r3 y2z0 y2r0 t2r0 kz0 kr0 fr0 y2z1 y2r1 t2r1 kz1 kr1 fr1 y2z2 y2r2 t2r2 kz2 kr2 fr2 y2z3 y2r3 t2r3 kz3 kr3 fr3;have HH:Hid (Qab W B (((((V.setCell ⟨B,0,none⟩ true).setCell ⟨w+1,0,none⟩ true).setCell ⟨w+1,1,none⟩ (.slice ad z.docs.length cd)).setCell ⟨w+1,2,none⟩ (.slice R z.subs.length U)).setCell ⟨w+1,3,none⟩ z.last) (.slice ad z.docs.length cd) (.slice R z.subs.length U) z.docs z.subs):=hH (((((HOV.out.setCell (.inr (lr _)) _).setCell (.inl om) _).setCell (.inl om) _).setCell (.inl om) _).setCell (.inl om) _);have HB:Hid (Below w w (((((V.setCell ⟨B,0,none⟩ true).setCell ⟨w+1,0,none⟩ true).setCell ⟨w+1,1,none⟩ (.slice ad z.docs.length cd)).setCell ⟨w+1,2,none⟩ (.slice R z.subs.length U)).setCell ⟨w+1,3,none⟩ z.last)):=hH (((((hWV.setCell (by first|omega|(simp;omega)) _).setCell sm _).setCell sm _).setCell sm _).setCell sm _)
  go_wp2;rw[HV.out];exact bodyPost_ret (v:= .tuple #[.agg #[true,.slice ad z.docs.length cd,.slice R z.subs.length U,z.last],zI]) (by simp[results,Tryz.results105,Tryz.results14,go_sem,xaa, *]) rfl (Qab.out_i (y:=⟨true,z.docs,z.subs,z.last⟩) HH.out om HB.out)
def xaP:=@jaN 105 (.inl rfl)
def Kaz:=@jaN 14 (.inr rfl)
end Go.Proofs.YtbonkabfmlajnaaGreat
namespace Go.Proofs.YtbonkabfmlajnaaGreat
open Go.RowKit
section
variable {w w':World} {n m:Int}
theorem qai (hb:Below w w w'):xau w zao n (.returned (.tuple #[.agg #[false,zN,zN,zI],n])) w':=
 ⟨_,_,[],[],rfl,Sl.nil,Sl.nil,Qaa.nil _ _,hb⟩
theorem kah (hb:Below w w w'):Xar w zao n m (.returned (.tuple #[.agg #[false,zN,zN,zI],n,m])) w':=
 ⟨_,_,[],[],rfl,Sl.nil,Sl.nil,Qaa.nil _ _,hb⟩
theorem vaq (hb:Below w w w'):jaq w zao [] n (.returned (.tuple #[.agg #[false,zN,zN,zI],zN,n])) w':=
 ⟨_,_,_,[],[],[],rfl,Sl.nil,Sl.nil,Sl.nil,Qaa.nil _ _,hb⟩
theorem xax (hb:Below w w w'):qaq w zao [] n m (.returned (.tuple #[.agg #[false,zN,zN,zI],zN,n,m])) w':=
 ⟨_,_,_,[],[],[],rfl,Sl.nil,Sl.nil,Sl.nil,Qaa.nil _ _,hb⟩
end
def vag (ob B:Nat)(w:World)(vd vs:Value)(docs:List Xac)(subs:List yai):Prop:=∃fd fs,Sl BIG w vd docs fd/\Sl BIG w vs subs fs/\Qaa B w (fd++fs)/\∀p∈fd++fs,p.1≠ob
section
variable {ob B:Nat} {w w':World} {vd vs:Value} {docs:List Xac} {subs:List yai}
theorem vag.block (h:vag ob B w vd vs docs subs)(q:∀k,B<=k->k≠ob->w'.heap[k]? =w.heap[k]?):vag ob B w' vd vs docs subs:=by
 obtain⟨fd,fs,a,b,c,d⟩:=h;have n:∀p∈fd++fs,w'.cell? ⟨p.1,p.2,none⟩=w.cell? ⟨p.1,p.2,none⟩:=fun p j=>by simp only[World.cell?];rw[q p.1 (c.ge p j) (d p j)]
 have u:∀p∈fd++fs,w'.frozen? ⟨p.1,p.2,none⟩=w.frozen? ⟨p.1,p.2,none⟩:=fun p j=>by simp only[World.frozen?];rw[q p.1 (c.ge p j) (d p j)]
 exact⟨fd,fs,a.keep fun p j=>n p (lu _ j),b.keep fun p j=>n p (lw _ j),⟨c.nodup,c.ge,fun p j=>(u p j).trans (c.free p j)⟩,d⟩
theorem vag.setCell {b o:Nat}(h:vag ob B w vd vs docs subs)(p:b<B\/b=ob)(u:Value):vag ob B (w.setCell ⟨b,o,none⟩ u) vd vs docs subs:=h.block fun k j n=>Below.heap_setCell w ⟨b,o,none⟩ u k (by show k≠b;omega)
theorem vag.drew (h:vag ob B w vd vs docs subs):vag ob B w.drew vd vs docs subs:=h.block fun _ _ _=>rfl
theorem vag.out_i_i {w0:World}{y:qae}{n m:Int}(h:vag ob B w' vd vs y.docs y.subs)(j:w0.heap.size<=B)(hb:Below w0 w0 w'):Xar w0 y n m (.returned (.tuple #[.agg #[y.shut,vd,vs,y.last],n,m])) w':=
 let⟨fd,fs,a,b,c,_⟩:=h
 ⟨vd,vs,fd,fs,rfl,a,b,c.mono j,hb⟩
theorem vag.out_i {w0:World}{y:qae}{n:Int}(h:vag ob B w' vd vs y.docs y.subs)(j:w0.heap.size<=B)(hb:Below w0 w0 w'):xau w0 y n (.returned (.tuple #[.agg #[y.shut,vd,vs,y.last],n])) w':=
 let⟨fd,fs,a,b,c,_⟩:=h
 ⟨vd,vs,fd,fs,rfl,a,b,c.mono j,hb⟩
end
section
variable {C D:Nat} {w:World} {vd vs:Value} {docs:List Xac} {subs:List yai}
theorem Qab.row (h:Qab C D w vd vs docs subs){B ob:Nat}(Y:B<=C)(hCD:C<=D)(ho:D<=ob):∃z,Row C w vs subs z/\(∀p∈rowP (GoT.n yai) vs++z,p.1<D)/\
 ∀(W I:World) (U:Value) (x:yai) (f:List Pos),Below w w W->Wr (rowP (GoT.n yai) vs) W I->Row C I U (subs++[x]) (z++f)->(∀p∈rowP (GoT.n yai) U,p∈rowP (GoT.n yai) vs\/ob<p.1)->
  Qaa B W f->Live W f->(∀p∈f,p.1<C\/ob<p.1)->vag ob B I vd U docs (subs++[x]):=by
 obtain⟨fd,fs,sd,ss,M,J⟩:=h;obtain⟨z,rfl⟩:=ss.split;have R:=ln.1 M.nodup;have ns:=ln.1 R.2.1;refine⟨z,⟨ss,M.right.left,fun p j u=>ns.2.2 p u p j rfl⟩,fun p j=>J p (lw _ j),?_⟩
 intro W I U x f hb Q hr hn Z a0 N;have sd':=sd.wr2 hb Q (fun p j u=>R.2.2 p j p (lu _ u) rfl)
 have k1:Qaa C I fd:=M.left.wr2 hb Q (Live.lt sd.live);have k3:Qaa C I z:=M.right.right.wr2 hb Q (fun p j=>Live.lt ss.live p (lw _ j))
 have k4:Qaa B I f:=Q.fresh a0 Z;have hx:∀p∈fd++(rowP (GoT.n yai) vs++z),p∉f:=fun p j u=>by
  have:=M.ge p j;have:=J p j;have:=N p u;omega
 have hs:Qaa B I (z++f):=(k3.mono Y).join k4 fun p j q u e=>hx p (lw _ (lw _ j)) (e▸u)
 refine⟨fd,_,sd',hr.1,(k1.mono Y).join ((hr.2.1.mono Y).join hs fun p j q u e=>hr.2.2 q u (e▸j)) fun p j q u e=> ?_,?_⟩
 ·subst e;have a:=J p (lu _ j);rcases lm.1 u with u|u
  ·rcases hn p u with u|u
   ·exact R.2.2 p j p (lu _ u) rfl
   ·omega
  ·rcases lm.1 u with u|u
   ·exact R.2.2 p j p (lw _ u) rfl
   ·exact hx p (lu _ j) u
 ·intro p j;rcases lm.1 j with j|j
  ·have:=J p (lu _ j);omega
  ·rcases lm.1 j with j|j
   ·rcases hn p j with j|j
    ·have:=J p (lw _ (lu _ j));omega
    ·omega
   ·rcases lm.1 j with j|j
    ·have:=J p (lw _ (lw _ j));omega
    ·have:=N p j;omega
theorem Qab.el (h:Qab C D w vd vs docs subs){B:Nat}(hB:B<=C){P:Program}{T E:TypeId}(hT:P.underlying T=some (.slice E))(hl:∀J,(sizeOf E).run P J= .ok (GoT.n yai) J){k:Nat}{s:yai}(hk:subs[k]? =some s):
 ∃b o vl,(∀J,(Instr.indexAt T vs (.int .i64 k)).run P J= .ok (.pointer (some ⟨b,o,none⟩)) J)/\C<=b/\b<D/\b<w.heap.size/\
  At w b o [s.id,s.doc,s.r.cap,s.r.next,s.r.out,vl]/\RdS w vl s.r.list/\(∀j<6,w.frozen? ⟨b,o+j,none⟩=false)/\
  ∀(I:World) (r:vac) (v':Value) (M:List Pos),Wr (own b o 6) w I->At I b o [s.id,s.doc,r.cap,r.next,r.out,v']->Sl BIG I v' r.list M->Qaa B I M->
   (∀p∈M,p.1<C\/D<=p.1)->∃fd fs,Sl BIG I vd docs fd/\Sl BIG I vs (subs.set k ⟨s.id,s.doc,r⟩) fs/\Qaa B I (fd++fs)/\∀p∈fd++fs,(C<=p.1/\p.1<D)\/p∈M:=by
 obtain⟨fd,fs,sd,ss,N,hD⟩:=h;have nd:=ln.1 N.nodup;obtain⟨b,o,cap,c2,f2,rfl,ha,hrd,R,hsub,Y⟩:=ss.el (N.right.mono hB) hk;have hlt:=(lg.1 hk).1;have hi:∀J,(Instr.indexAt T (.slice (some ⟨b,o,none⟩) subs.length cap) (.int .i64 k)).run P J= .ok (.pointer (some ⟨b,o+k*GoT.n yai,none⟩)) J:=fun J=>by
  have hi:¬subs.length<=k:=om;simp[Instr.indexAt,run_underlying hT,asIntOf,hl,Addr.add_lit,Result.andThen];intro hh;exact absurd hh hi
 obtain⟨cr,fr,rfl,nn,⟨vl,fl,rfl,sl,rfl⟩,rfl⟩:=hrd;have Z:GoT.n yai=6:=rfl;have hb:=R 0 (by rw[Z];omega)
 have hbC:=N.right.ge _ hb;have hbD:=hD _ (lw _ hb);have hbw:=Live.lt ss.live _ hb;refine⟨b,o+k*GoT.n yai,vl,hi,hbC,hbD,hbw,ha,⟨_,sl⟩,fun j hj=>N.right.free _ (R j (by rw[Z];omega)),?_⟩
 intro I r v' M hw ha' s0 k0 hd0;have Q:∀p∈M,p∉fd++fs:=fun p u z=>by
  have:=N.ge p z;have:=hD p z;have:=hd0 p u;omega
 obtain⟨fp',g1,g2,g3⟩:=Y I _ ⟨s.id,s.doc,r⟩ M hw ha' ⟨_,_,rfl,nn,⟨v',M,rfl,s0,rfl⟩,rfl⟩ k0 (fun p u=> .inl fun z=>Q p u (lw _ z))
 have U:∀p∈own b (o+k*GoT.n yai) 6,p∈fs:=fun p u=>by
  obtain⟨q1,q2,q3⟩:=Kaa.1 u;have:=R (p.2-(o+k*GoT.n yai)) (by rw[Z];rw[Z]at q2 q3;omega)
  have e:(b,o+k*GoT.n yai+(p.2-(o+k*GoT.n yai)))=p:=Prod.ext q1.symm (Nat.add_sub_cancel' q2);rwa[e]at this
 have sd':=sd.wr hw (fun p u z=>nd.2.2 p u p (U p z) rfl)
 refine⟨fd,fp',sd',g1,((hw.fresh sd.live N.left).mono hB).join g2 fun p u q z e=> ?_,fun p u=> ?_⟩
 ·subst e;rcases g3 p z with z|z
  ·exact nd.2.2 p u p z rfl
  ·exact Q p z (lu _ u)
 ·rcases lm.1 u with u|u
  ·exact .inl ⟨N.left.ge p u,hD p (lu _ u)⟩
  ·rcases g3 p u with u|u
   ·exact .inl ⟨N.right.ge p u,hD p (lw _ u)⟩
   ·exact .inr u
end
theorem qbh {w j:World}{y:qae}{l:List yab}{n:Int}{z vs u:Value}{fd fs f1:List Pos}(N:Sl BIG j z y.docs fd)(Q:Sl BIG j vs y.subs fs)(M:Sl BIG j u l f1)(D:Qaa w j (fd++fs))(B:Qaa w j f1)
 (hd:∀p∈f1,p∉fd++fs) (hb:Below w w j):jaq w y l n (.returned (.tuple #[.agg #[y.shut,z,vs,y.last],u,n])) j:=
 ⟨z,vs,u,fd,fs,f1,rfl,N,Q,M,by rw[<-List.append_assoc];exact D.join B fun p I q J e=>hd q J (e▸I),hb⟩
theorem Jbg {w j:World}{y:qae}{l:List Int}{n m:Int}{z vs u:Value}{fd fs f1:List Pos}(N:Sl BIG j z y.docs fd)(Q:Sl BIG j vs y.subs fs)(M:Sl BIG j u l f1)(D:Qaa w j (fd++fs))(B:Qaa w j f1)
 (hd:∀p∈f1,p∉fd++fs) (hb:Below w w j):qaq w y l n m (.returned (.tuple #[.agg #[y.shut,z,vs,y.last],u,n,m])) j:=
 ⟨z,vs,u,fd,fs,f1,rfl,N,Q,M,by rw[<-List.append_assoc];exact D.join B fun p I q J e=>hd q J (e▸I),hb⟩
