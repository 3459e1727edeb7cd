/- The state of the program's walk through two operations, with its boxes. -/
import Derived.Test.YtocdogemgojgaaaGreatTls
import Derived.Test.YtocdogemgojgaaaGreatRsw
namespace Go.Proofs.YtocdogemgojgaaaGreat
open Go.RowKit
structure TX (w0:World)(B br bs:Nat)(vr vs vx vy:Value)(r s X Y:List DPart)(w:World):Prop where
 t:TS B w br bs vr vs vx vy r s X Y
 p:Bx w br [vr]
 q:Bx w bs [vs]
 n:br≠bs
 o1:w0.heap.size<=br
 o2:w0.heap.size<=bs
 bel:Below w0.heap.size w0 w
section
variable {w0 w w':World} {B br bs:Nat} {vr vs vx vy v':Value} {r s X Y r':List DPart}
theorem TX.swap (h:TX w0 B br bs vr vs vx vy r s X Y w):TX w0 B bs br vs vr vy vx s r Y X w:=⟨h.t.swap,h.q,h.p,h.n.symm,h.o2,h.o1,h.bel⟩
theorem TX.below (h:TX w0 B br bs vr vs vx vy r s X Y w)(hb:Below w.heap.size w w'):TX w0 B br bs vr vs vx vy r s X Y w':=
 ⟨h.t.below hb,h.p.at hb,h.q.at hb,h.n,h.o1,h.o2,h.bel.trans (hb.mono h.bel.size)⟩
theorem TX.rd (h:TX w0 B br bs vr vs vx vy r s X Y w):∃f,Sl BIG w vr r f/\(∀p∈f,p.1≠br)/\(∀p∈f,¬ZP br bs vx vy p)/\∀p∈f,p.1<w.heap.size:=by
 obtain⟨f,j,n⟩:=h.t.r;exact⟨f,j,fun p q e=>n p q (.inr (.inr (.inl e))),n,Live.lt j.live⟩
theorem TX.stepR (h:TX w0 B br bs vr vs vx vy r s X Y w){f z:List Pos}(M:∀p∈f,¬ZP br bs vx vy p)(D:Wr [(br,0)] w w')(U:Bx w' br [v'])(Q:Sl BIG w' v' r' z)(N:∀q∈z,q∈f\/w.heap.size<=q.1):TX w0 B br bs v' vs vx vy r' s X Y w':=by
 have R:=h.t.wr D fun p j=>by simp only[List.mem_singleton]at j;rw[j];exact .inl rfl
 have I:=h.n;refine⟨R.setR ⟨z,Q,fun q u J=> ?_⟩,U,h.q.wr D fun p j=>by simp only[List.mem_singleton]at j;rw[j];exact I,I,h.o1,h.o2,h.bel.trans (D.below h.bel.size fun p j=>by simp only[List.mem_singleton]at j;rw[j];exact h.o1)⟩
 rcases N q u with u|u
 ·exact M q u J
 ·have:=h.t.zlt J;omega
theorem TX.zout (h:TX w0 B br bs vr vs vx vy r s X Y w){q:Pos}(n:w.heap.size<=q.1):¬ZP br bs vx vy q:=fun j=>by have:=h.t.zlt j;omega
theorem TX.appX (h:TX w0 B br bs vr vs vx vy r s X Y w){W:World}{c:List Value}{x:DPart}{g:List Pos}(E:TypeId)(hb:Below w.heap.size w W)(D:GoT.rd BIG W c x g)(U:∀q∈g,¬ZP br bs vx vy q):
 ∃I,Row B (W.alloc (.cells c.toArray E)) vx X I/\Src (W.alloc (.cells c.toArray E)) (.slice (some ⟨W.heap.size,0,none⟩) 1 1) [x] g/\(∀q∈g,q∉rowP (GoT.n DPart) vx)/\B<=(W.alloc (.cells c.toArray E)).heap.size/\
  ∀(N:Value) (Q:World),Row B Q N (X++[x]) (I++g)->Wr (rowP (GoT.n DPart) vx) (W.alloc (.cells c.toArray E)) Q->(∀p∈rowP (GoT.n DPart) N,p∈rowP (GoT.n DPart) vx\/(W.alloc (.cells c.toArray E)).heap.size<=p.1)->TX w0 B br bs vr vs N vy r s (X++[x]) Y Q:=by
 have R:Below w.heap.size w (W.alloc (.cells c.toArray E)):=hb.alloc hb.size _;have j:=h.below R;obtain⟨I,Z,k2⟩:=j.t.x;have hl:=Live.lt (GoT.live D);have e1:(W.alloc (.cells c.toArray E)).heap.size=W.heap.size+1:=by simp
 refine⟨I,Z,src_built E D,fun q J hm=>U q J (.inl hm),j.t.hB,fun N Q j1 M j3=> ?_⟩
 have u:=j.t.x.ge;have hr:=j.t.hr;have hs:=j.t.hs;refine⟨j.t.appX k2 (fun q J=>⟨U q J,by have:=hl q J;omega⟩) (Live.lt Z.live) j1 M j3,j.p.wr M fun p z=> ?_,j.q.wr M fun p z=> ?_,j.n,j.o1,j.o2,j.bel.trans (M.below j.bel.size fun p z=> ?_)⟩
 ·have:=(u p z).1;omega
 ·have:=(u p z).1;omega
 ·have:=(u p z).1;have:=j.o1;omega
theorem TX.appY (h:TX w0 B br bs vr vs vx vy r s X Y w){W:World}{c:List Value}{x:DPart}{g:List Pos}(E:TypeId)(hb:Below w.heap.size w W)(D:GoT.rd BIG W c x g)(I:∀q∈g,¬ZP br bs vx vy q):
 ∃z,Row B (W.alloc (.cells c.toArray E)) vy Y z/\Src (W.alloc (.cells c.toArray E)) (.slice (some ⟨W.heap.size,0,none⟩) 1 1) [x] g/\(∀q∈g,q∉rowP (GoT.n DPart) vy)/\B<=(W.alloc (.cells c.toArray E)).heap.size/\
  ∀(j:Value) (u:World),Row B u j (Y++[x]) (z++g)->Wr (rowP (GoT.n DPart) vy) (W.alloc (.cells c.toArray E)) u->(∀p∈rowP (GoT.n DPart) j,p∈rowP (GoT.n DPart) vy\/(W.alloc (.cells c.toArray E)).heap.size<=p.1)->TX w0 B br bs vr vs vx j r s X (Y++[x]) u:=by
 obtain⟨z,U,Z,k3,k4,k5⟩:=h.swap.appX E hb D fun q J M=>I q J M.swap
 exact⟨z,U,Z,k3,k4,fun j u N Q R=>(k5 j u N Q R).swap⟩
end
theorem TX.new {w0 w:World}{j vb:Value}{a b:List DPart}{E:TypeId}(hb:Below w0.heap.size w0 w)(J:RdS w0 j a)(q:RdS w0 vb b):
 TX w0 (w.heap.size+2) w.heap.size (w.heap.size+1) j vb (.slice none 0 0) (.slice none 0 0) a b [] [] ((w.alloc (.cells #[j] E)).alloc (.cells #[vb] E)):=by
 obtain⟨f,z⟩:=J;obtain⟨g,B⟩:=q;have D:=hb.size;have n:Below w0.heap.size w0 ((w.alloc (.cells #[j] E)).alloc (.cells #[vb] E)):=(hb.alloc D _).alloc (by simp;omega) _
 have e:((w.alloc (.cells #[j] E)).alloc (.cells #[vb] E)).heap.size=w.heap.size+2:=by simp
 have I:=TS.new (w:=(w.alloc (.cells #[j] E)).alloc (.cells #[vb] E)) (br:=w.heap.size) (bs:=w.heap.size+1) (vr:=j) (vs:=vb) (r:=a) (s:=b) (by simp;omega) (by simp) ⟨f,z.belowW n,fun p u=>by have:=Live.lt z.live p u;omega⟩ ⟨g,B.belowW n,fun p u=>by have:=Live.lt B.live p u;omega⟩
 rw[e]at I;exact⟨I,(Bx.new rfl).alloc _,Bx.new (by simp),by omega,D,by omega,n⟩
