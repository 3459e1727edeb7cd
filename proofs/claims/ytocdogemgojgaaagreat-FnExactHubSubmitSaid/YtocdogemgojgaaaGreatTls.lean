/- Two lists that are led past one another: what is read of them, and the two rows that are written. -/
import Derived.Test.YtocdogemgojgaaaGreatTfp
import Derived.Test.YtocdogemgojgaaaGreatRo
import Derived.Test.YtocdogemgojgaaaGreatBu
namespace Go.Proofs.YtocdogemgojgaaaGreat
open Go.RowKit
def Rdo (w:World)(Z:Pos->Prop)(v:Value)(l:List DPart):Prop:=∃f,Sl BIG w v l f/\∀p∈f,¬Z p
def ZP (br bs:Nat)(vx vy:Value)(p:Pos):Prop:=p∈rowP 3 vx\/p∈rowP 3 vy\/p.1=br\/p.1=bs
def RowZ (B:Nat)(w:World)(Z:Pos->Prop)(v:Value)(l:List DPart):Prop:=∃g,Row B w v l g/\∀p∈g,¬Z p
structure TS (B:Nat)(w:World)(br bs:Nat)(vr vs vx vy:Value)(r s X Y:List DPart):Prop where
 hr:br<B
 hs:bs<B
 hB:B<=w.heap.size
 r:Rdo w (ZP br bs vx vy) vr r
 s:Rdo w (ZP br bs vx vy) vs s
 x:RowZ B w (ZP br bs vx vy) vx X
 y:RowZ B w (ZP br bs vx vy) vy Y
 d:∀p∈rowP 3 vx,p∉rowP 3 vy
section
variable {B:Nat} {w w':World} {br bs:Nat} {vr vs vx vy:Value} {r s X Y:List DPart}
theorem ZP.swap {p:Pos}(h:ZP br bs vx vy p):ZP bs br vy vx p:=by
 rcases h with h|h|h|h
 ·exact .inr (.inl h)
 ·exact .inl h
 ·exact .inr (.inr (.inr h))
 ·exact .inr (.inr (.inl h))
theorem Rdo.imp {Z j:Pos->Prop}{v:Value}{l:List DPart}(h:Rdo w Z v l)(B:∀p,p.1<w.heap.size->j p->Z p):Rdo w j v l:=by
 obtain⟨f,n,u⟩:=h;exact⟨f,n,fun p q z=>u p q (B p (Live.lt n.live p q) z)⟩
theorem RowZ.imp {Z j:Pos->Prop}{v:Value}{l:List DPart}(h:RowZ B w Z v l)(D:∀p,p.1<w.heap.size->j p->Z p):RowZ B w j v l:=by
 obtain⟨f,n,u⟩:=h;exact⟨f,n,fun p q z=>u p q (D p (Live.lt n.live p q) z)⟩
theorem TS.swap (h:TS B w br bs vr vs vx vy r s X Y):TS B w bs br vs vr vy vx s r Y X:=
 ⟨h.hs,h.hr,h.hB,h.s.imp fun _ _ j=>j.swap,h.r.imp fun _ _ j=>j.swap,h.y.imp fun _ _ j=>j.swap,h.x.imp fun _ _ j=>j.swap,fun p j n=>h.d p n j⟩
theorem Rdo.wr {Z:Pos->Prop}{v:Value}{l:List DPart}{g:List Pos}(h:Rdo w Z v l)(B:Wr g w w')(q:∀p∈g,Z p):Rdo w' Z v l:=by
 obtain⟨f,n,j⟩:=h;exact⟨f,n.wr B fun p u z=>j p u (q p z),j⟩
theorem RowZ.wr {Z:Pos->Prop}{v:Value}{l:List DPart}{g:List Pos}(h:RowZ B w Z v l)(D:Wr g w w')(q:∀p∈g,Z p/\p∉rowP 3 v):RowZ B w' Z v l:=by
 obtain⟨f,z,n⟩:=h;refine⟨f,z.wr D fun p j u=> ?_,n⟩
 rcases lm.1 j with j|j
 ·exact(q p u).2 j
 ·exact n p j (q p u).1
theorem RowZ.ge {Z:Pos->Prop}{v:Value}{l:List DPart}(h:RowZ B w Z v l):∀p∈rowP 3 v,B<=p.1/\p.1<w.heap.size:=by
 obtain⟨f,j,q⟩:=h;exact fun p n=>⟨j.2.1.ge p n,Live.lt j.1.live p (lm.2 (.inl n))⟩
theorem TS.wr {g:List Pos}(h:TS B w br bs vr vs vx vy r s X Y)(n:Wr g w w')(u:∀p∈g,p.1=br\/p.1=bs):TS B w' br bs vr vs vx vy r s X Y:=by
 have q:∀p∈g,ZP br bs vx vy p:=fun p j=> .inr (.inr (u p j))
 have D:=h.hr;have I:=h.hs;refine⟨D,I,Nat.le_trans h.hB n.size,h.r.wr n q,h.s.wr n q,h.x.wr n fun p j=>⟨q p j,fun z=> ?_⟩,h.y.wr n fun p j=>⟨q p j,fun z=> ?_⟩,h.d⟩
 ·have:=(h.x.ge p z).1;have:=u p j;omega
 ·have:=(h.y.ge p z).1;have:=u p j;omega
theorem TS.below (h:TS B w br bs vr vs vx vy r s X Y)(hb:Below w.heap.size w w'):TS B w' br bs vr vs vx vy r s X Y:=
 h.wr (g:=[]) (Wr.of_below hb) fun _ h=>(by cases h)
theorem TS.zlt (h:TS B w br bs vr vs vx vy r s X Y){p:Pos}(j:ZP br bs vx vy p):p.1<w.heap.size:=by
 have n:=h.hr;have q:=h.hs;have u:=h.hB;rcases j with j|j|j|j
 ·exact(h.x.ge p j).2
 ·exact(h.y.ge p j).2
 ·omega
 ·omega
theorem TS.setR (h:TS B w br bs vr vs vx vy r s X Y){n:Value}{j:List DPart}(p:Rdo w (ZP br bs vx vy) n j):TS B w br bs n vs vx vy j s X Y:={h with r:=p}
theorem TS.appX {l:List DPart}(h:TS B w br bs vr vs vx vy r s X Y){D:Value}{I Q:List Pos}(J:∀p∈I,¬ZP br bs vx vy p)(z:∀p∈Q,¬ZP br bs vx vy p/\p.1<w.heap.size)(N:∀p∈I,p.1<w.heap.size)
 (hr:Row B w' D l (I++Q)) (M:Wr (rowP 3 vx) w w') (R:∀p∈rowP 3 D,p∈rowP 3 vx\/w.heap.size<=p.1):TS B w' br bs vr vs D vy r s l Y:=by
 have U:∀p∈rowP 3 vx,ZP br bs vx vy p:=fun p j=> .inl j
 have hi:∀p,p.1<w.heap.size->ZP br bs D vy p->ZP br bs vx vy p:=fun p j n=>by
  rcases n with n|n
  ·rcases R p n with n|n
   ·exact .inl n
   ·omega
  ·exact .inr n
 have rd:∀{v:Value} {l:List DPart},Rdo w (ZP br bs vx vy) v l->Rdo w' (ZP br bs D vy) v l:=fun⟨f,q,u⟩=>
  ⟨f,q.wr M fun p j n=>u p j (U p n),fun p j n=>u p j (hi p (Live.lt q.live p j) n)⟩
 refine⟨h.hr,h.hs,Nat.le_trans h.hB M.size,rd h.r,rd h.s,⟨_,hr,fun p j n=> ?_⟩,?_,fun p j n=> ?_⟩
 ·rcases lm.1 j with j|j
  ·exact J p j (hi p (N p j) n)
  ·exact(z p j).1 (hi p (z p j).2 n)
 ·obtain⟨f,q,u⟩:=h.y;refine⟨f,q.wr M fun p j n=> ?_,fun p j n=>u p j (hi p (Live.lt q.live p j) n)⟩
  rcases lm.1 j with j|j
  ·exact h.d p n j
  ·exact u p j (U p n)
 ·rcases R p j with j|j
  ·exact h.d p j n
  ·have:=(h.y.ge p n).2;omega
theorem TS.new (D:br<w.heap.size)(I:bs<w.heap.size)(z:∃f,Sl BIG w vr r f/\∀p∈f,p.1≠br/\p.1≠bs)(B:∃f,Sl BIG w vs s f/\∀p∈f,p.1≠br/\p.1≠bs):TS w.heap.size w br bs vr vs (.slice none 0 0) (.slice none 0 0) r s [] []:=by
 have n:∀p:Pos,p.1≠br/\p.1≠bs->¬ZP br bs (.slice none 0 0) (.slice none 0 0) p:=by
  rintro p ⟨J,M⟩ (k|k|k|k)
  ·cases k
  ·cases k
  ·exact J k
  ·exact M k
 obtain⟨f,f1,f2⟩:=z;obtain⟨g,q,u⟩:=B;exact⟨D,I,lr _,⟨f,f1,fun p j=>n p (f2 p j)⟩,⟨g,q,fun p j=>n p (u p j)⟩,⟨[],Row.nil _ _,fun _ h=>(by cases h)⟩,⟨[],Row.nil _ _,fun _ h=>(by cases h)⟩,fun _ h=>(by cases h)⟩
end
theorem Sl.head {P:Program}{T E:TypeId}(J:P.underlying T=some (.slice E))(M:∀j,(sizeOf E).run P j= .ok 3 j){w:World}{v:Value}{p:DPart}{l:List DPart}{f:List Pos}(h:Sl BIG w v (p::l) f):
 ∃b o u z,(∀j,(Instr.indexAt T v (.int .i64 0)).run P j= .ok (.pointer (some ⟨b,o,none⟩)) j)/\At w b o [.int .i64 p.kind,.int .i64 p.n,u]/\Sl BIG w u p.signs z/\(∀q∈z,q∈f):=by
 obtain⟨b,o,Q,z,B,D,⟨u,fs,rfl,N,rfl⟩,I⟩:=h.idx J M 0 (x:=p) rfl;exact⟨b,o,u,_,B,D,N,I⟩
