/- The program's cursor: taking a whole part. -/
import Derived.Test.YtocdogemgojgaaaGreatRbg
set_option maxHeartbeats 4000000
set_option maxRecDepth 100000
namespace Go.Proofs.YtocdogemgojgaaaGreat
open Go.RowKit
theorem jay (b:Nat)(v:Value)(p:zaa)(l:List zaa)(f:List Pos)(w:World)(hX:Bx w b [v])(hr:Sl BIG w v (p::l) f)(hf:∀q∈f,q.1≠b)(hp:vab p=true)(D:l.length<=5000):
 Calls Tryz.prog 254 #[.pointer (some ⟨b,0,none⟩)] w (fun e w'=>∃v' U vs fs,e= .returned (.agg #[p.kind,(cutL p (nsz p)).n,vs])/\Sl BIG w' vs (cutL p (nsz p)).signs fs/\Bx w' b [v']/\Sl BIG w' v' (cutR p (nsz p)::l) U/\(∀q∈U++fs,q∈f\/w<=q.1/\q.1≠w)/\Wr [(b,0)] w w'):=by
 have HX:=hH hX;have HR:=hH hr;have HF:=hH hf;have HP:=hH hp;have HL:=hH D;have HFL:=hH (Live.lt hr.live);have hz:=hH (kav hp);obtain⟨pb0,pb1,pb2⟩:=ya8 hp;obtain⟨zl,c0,g0⟩:=hX.q1;obtain⟨u,o1,vg,fg,i1,i2,ig,if_⟩:=Sl.head Tryz.underlying30 xaf hr;have e0:=i2.zero;have e1:w.cell? ⟨u,o1+1,none⟩=some _:=i2 1 _ rfl;have e2:w.cell? ⟨u,o1+2,none⟩=some _:=i2 2 _ rfl;have l1:u<w.heap.size:=lk (w:=w) (a:=⟨u,o1,none⟩) e0;have HIG:=hH ig;clear i2 ig if_ hX hr hf hp D;obtain⟨W,hW⟩:∃W:World,W=w.alloc (.cells #[zI,zI,zN] 142):=⟨_,rfl⟩;have M:Below w w W:=by rw[hW];exact(lf _ _).alloc (lr _) _
 have Y:Hid (Bx W w [zI,zI,zN]):=hH (by rw[hW];exact Bx.new rfl)
 have N:=hH M;have sW:=M.size;replace c0:W.cell? ⟨b,0,none⟩=some _:=(M.cell (p:=⟨b,0,none⟩) zl).trans c0;replace e0:W.cell? ⟨u,o1,none⟩=some _:=(M.cell (p:=⟨u,o1,none⟩) l1).trans e0;replace e1:W.cell? ⟨u,o1+1,none⟩=some _:=(M.cell (p:=⟨u,o1+1,none⟩) l1).trans e1;replace e2:W.cell? ⟨u,o1+2,none⟩=some _:=(M.cell (p:=⟨u,o1+2,none⟩) l1).trans e2;clear M;go_enter Tryz.func254,Tryz.ntmps254
 go_upto_region 1 with(fail)
 rw[<-hW];clear hW;go_wp2_with fail
 refine(uap p vg _ pb0 pb1 pb2 ⟨_,HIG.out.belowW N.out⟩).mono ?_;rintro e' w1 ⟨rfl,j⟩;rw[<-hz.out];have B1:=hH (N.out.trans (j.mono sW));have HX1:=hH ((HX.out.at N.out).at j);have HR1:=hH (Y.out.at j);have s1:=j.size;obtain⟨zr,_⟩:=Y.out.o3;clear j c0 g0 e0 e1 e2;go_wp2_with fail
 refine(xak b (nsz p) v p l f _ HX1.out (HR.out.belowW B1.out) HF.out HP.out (lr _) HL.out).mono ?_;rintro e' w2 ⟨v',U,vs,fs,rfl,R,x1,a1,m,wr⟩;obtain⟨Q,qs,rfl⟩:=R.isS;have nb:¬(w.heap.size=b):=om;have B:¬(b=w.heap.size):=om;obtain⟨zr2,r0,r1,r2,x0,x1',x2⟩:=(HR1.out.wr wr (fun q z=>by simp only[List.mem_singleton]at z;subst z;exact fun e=>B e)).q3
 have HS1:=hH R;have HS2:=hH a1;have HX2:=hH x1;have HM:=hH m;have HW2:=hH wr;clear R a1 x1 m wr;go_wp2;refine bodyPost_ret (v:= .agg #[p.kind,(cutL p (nsz p)).n,.slice Q (cutL p (nsz p)).signs.length qs]) (by simp[results,Tryz.results254,go_sem,xaa, *]) rfl ?_
 have J:Wr [(w.heap.size,0),(w.heap.size,1),(w.heap.size,2)] w2 (((w2.setCell ⟨w,0,none⟩ p.kind).setCell ⟨w,1,none⟩ ((cutL p (nsz p)).n)).setCell ⟨w,2,none⟩ (.slice Q (cutL p (nsz p)).signs.length qs)):=(((Wr.refl _ _).put (b:=w) (o:=0) sm _).put (b:=w) (o:=1) sm _).put (b:=w) (o:=2) sm _;have I:∀q:Pos,q.1≠w->q∉[(w.heap.size,0),(w.heap.size,1),(w.heap.size,2)]:=by
  rintro q h2 hm;simp only[List.mem_cons,List.not_mem_nil,or_false]at hm;rcases hm with rfl|rfl|rfl<;>exact h2 rfl
 have Z:∀q∈U++fs,q∈f\/w<=q.1/\q.1≠w:=fun q z=>(HM.out q z).imp id fun h=>by omega
 have a0:∀q∈U++fs,q.1≠w:=fun q z=>by
  rcases Z q z with h|h
  ·have:=HFL.out q h;omega
  ·exact h.2
 have hbw:Below w w2 (((w2.setCell ⟨w,0,none⟩ p.kind).setCell ⟨w,1,none⟩ ((cutL p (nsz p)).n)).setCell ⟨w,2,none⟩ (.slice Q (cutL p (nsz p)).signs.length qs)):=(((lf _ _).setCell (p:=⟨w,0,none⟩) (lr _) _).setCell (p:=⟨w,1,none⟩) (lr _) _).setCell (p:=⟨w,2,none⟩) (lr _) _;exact⟨v',U,_,fs,rfl,HS1.out.wr J fun q z=>I q (a0 q (by simp[z])),((HX2.out.setO B).setO B).setO B,HS2.out.wr J fun q z=>I q (a0 q (by simp[z])),Z,((Wr.of_below B1.out).trans HW2.out).tr_below hbw⟩
end Go.Proofs.YtocdogemgojgaaaGreat
namespace Go.Proofs.YtocdogemgojgaaaGreat
open Go.RowKit
structure TX (w0:World)(B br bs:Nat)(vr vs vx vy:Value)(r s X Y:List zaa)(w:World):Prop where
 t:TS B w br bs vr vs vx vy r s X Y
 p:Bx w br [vr]
 q:Bx w bs [vs]
 n:br≠bs
 o1:w0.heap.size<=br
 o2:w0.heap.size<=bs
 bel:Below w0 w0 w
section
variable {w0 w w':World} {B br bs:Nat} {vr vs vx vy v':Value} {r s X Y r':List zaa}
theorem TX.swap (h:TX w0 B br bs vr vs vx vy r s X Y w):TX w0 B bs br vs vr vy vx s r Y X w:=⟨h.t.swap,h.q,h.p,h.n.symm,h.o2,h.o1,h.bel⟩
theorem TX.below (h:TX w0 B br bs vr vs vx vy r s X Y w)(hb:Below w w w'):TX w0 B br bs vr vs vx vy r s X Y w':=
 ⟨h.t.below hb,h.p.at hb,h.q.at hb,h.n,h.o1,h.o2,h.bel.trans (hb.mono h.bel.size)⟩
theorem TX.rd (h:TX w0 B br bs vr vs vx vy r s X Y w):∃f,Sl BIG w vr r f/\(∀p∈f,p.1≠br)/\(∀p∈f,¬ZP br bs vx vy p)/\∀p∈f,p.1<w:=by
 obtain⟨f,j,n⟩:=h.t.r;exact⟨f,j,fun p q e=>n p q (.inr (.inr (.inl e))),n,Live.lt j.live⟩
theorem TX.stepR (h:TX w0 B br bs vr vs vx vy r s X Y w){f z:List Pos}(M:∀p∈f,¬ZP br bs vx vy p)(D:Wr [(br,0)] w w')(U:Bx w' br [v'])(Q:Sl BIG w' v' r' z)(N:∀q∈z,q∈f\/w<=q.1):TX w0 B br bs v' vs vx vy r' s X Y w':=by
 have R:=h.t.wr D fun p j=>by simp only[List.mem_singleton]at j;rw[j];exact .inl rfl
 have I:=h.n;refine⟨R.setR ⟨z,Q,fun q u J=> ?_⟩,U,h.q.wr D fun p j=>by simp only[List.mem_singleton]at j;rw[j];exact I,I,h.o1,h.o2,h.bel.trans (D.below h.bel.size fun p j=>by simp only[List.mem_singleton]at j;rw[j];exact h.o1)⟩
 rcases N q u with u|u
 ·exact M q u J
 ·have:=h.t.zlt J;omega
theorem TX.zout (h:TX w0 B br bs vr vs vx vy r s X Y w){q:Pos}(n:w<=q.1):¬ZP br bs vx vy q:=fun j=>by have:=h.t.zlt j;omega
theorem TX.appX (h:TX w0 B br bs vr vs vx vy r s X Y w){W:World}{c:List Value}{x:zaa}{g:List Pos}(E:TypeId)(hb:Below w w W)(D:GoT.rd BIG W c x g)(U:∀q∈g,¬ZP br bs vx vy q):
 ∃I,Row B (W.alloc (.cells c.toArray E)) vx X I/\Src (W.alloc (.cells c.toArray E)) (.slice (some ⟨W,0,none⟩) 1 1) [x] g/\(∀q∈g,q∉rowP (GoT.n zaa) vx)/\B<=(W.alloc (.cells c.toArray E)).heap.size/\
  ∀(N:Value) (Q:World),Row B Q N (X++[x]) (I++g)->Wr (rowP (GoT.n zaa) vx) (W.alloc (.cells c.toArray E)) Q->(∀p∈rowP (GoT.n zaa) N,p∈rowP (GoT.n zaa) vx\/(W.alloc (.cells c.toArray E)).heap.size<=p.1)->TX w0 B br bs vr vs N vy r s (X++[x]) Y Q:=by
 have R:Below w w (W.alloc (.cells c.toArray E)):=hb.alloc hb.size _;have j:=h.below R;obtain⟨I,Z,k2⟩:=j.t.x;have hl:=Live.lt (GoT.live D);have e1:(W.alloc (.cells c.toArray E)).heap.size=W.heap.size+1:=by simp
 refine⟨I,Z,zaf E D,fun q J hm=>U q J (.inl hm),j.t.hB,fun N Q j1 M j3=> ?_⟩
 have u:=j.t.x.ge;have hr:=j.t.hr;have hs:=j.t.hs;refine⟨j.t.appX k2 (fun q J=>⟨U q J,by have:=hl q J;omega⟩) (Live.lt Z.live) j1 M j3,j.p.wr M fun p z=> ?_,j.q.wr M fun p z=> ?_,j.n,j.o1,j.o2,j.bel.trans (M.below j.bel.size fun p z=> ?_)⟩
 ·have:=(u p z).1;omega
 ·have:=(u p z).1;omega
 ·have:=(u p z).1;have:=j.o1;omega
theorem TX.appY (h:TX w0 B br bs vr vs vx vy r s X Y w){W:World}{c:List Value}{x:zaa}{g:List Pos}(E:TypeId)(hb:Below w w W)(D:GoT.rd BIG W c x g)(I:∀q∈g,¬ZP br bs vx vy q):
 ∃z,Row B (W.alloc (.cells c.toArray E)) vy Y z/\Src (W.alloc (.cells c.toArray E)) (.slice (some ⟨W,0,none⟩) 1 1) [x] g/\(∀q∈g,q∉rowP (GoT.n zaa) vy)/\B<=(W.alloc (.cells c.toArray E)).heap.size/\
  ∀(j:Value) (u:World),Row B u j (Y++[x]) (z++g)->Wr (rowP (GoT.n zaa) vy) (W.alloc (.cells c.toArray E)) u->(∀p∈rowP (GoT.n zaa) j,p∈rowP (GoT.n zaa) vy\/(W.alloc (.cells c.toArray E)).heap.size<=p.1)->TX w0 B br bs vr vs vx j r s X (Y++[x]) u:=by
 obtain⟨z,U,Z,k3,k4,k5⟩:=h.swap.appX E hb D fun q J M=>I q J M.swap
 exact⟨z,U,Z,k3,k4,fun j u N Q R=>(k5 j u N Q R).swap⟩
end
theorem TX.new {w0 w:World}{j vb:Value}{a b:List zaa}{E:TypeId}(hb:Below w0 w0 w)(J:RdS w0 j a)(q:RdS w0 vb b):
 TX w0 (w+2) w (w+1) j vb (.slice none 0 0) (.slice none 0 0) a b [] [] ((w.alloc (.cells #[j] E)).alloc (.cells #[vb] E)):=by
 obtain⟨f,z⟩:=J;obtain⟨g,B⟩:=q;have D:=hb.size;have n:Below w0 w0 ((w.alloc (.cells #[j] E)).alloc (.cells #[vb] E)):=(hb.alloc D _).alloc (by simp;omega) _
 have e:((w.alloc (.cells #[j] E)).alloc (.cells #[vb] E)).heap.size=w.heap.size+2:=by simp
 have I:=TS.new (w:=(w.alloc (.cells #[j] E)).alloc (.cells #[vb] E)) (br:=w) (bs:=w+1) (vr:=j) (vs:=vb) (r:=a) (s:=b) (by simp;omega) sm ⟨f,z.belowW n,fun p u=>by have:=Live.lt z.live p u;omega⟩ ⟨g,B.belowW n,fun p u=>by have:=Live.lt B.live p u;omega⟩
 rw[e]at I;exact⟨I,(Bx.new rfl).alloc _,Bx.new sm,by omega,D,by omega,n⟩
