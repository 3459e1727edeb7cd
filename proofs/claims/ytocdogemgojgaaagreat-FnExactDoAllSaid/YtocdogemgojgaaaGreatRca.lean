/- Calls one behind the other: how much comes of them. -/
import Derived.Test.YtocdogemgojgaaaGreatRbx
import Derived.Test.YtocdogemgojgaaaGreatRbz
namespace Go.Proofs.YtocdogemgojgaaaGreat
open Go.RowKit
theorem qa7 {α:Type}[GoT α][GoS α]{K:Nat}:∀{l:List α},(∀x∈l,GoS.sz x<=K)->szs l<=K*l.length
 |[],_=>by simp[szs]
 |x::l,h=>by
  have j:=h x sm;have n:=qa7 (l:=l) fun y hy=>h y (by simp[hy])
  have e:szs (x::l)=GoS.sz x+szs l:=rfl;rw[e,List.length_cons,Nat.mul_succ];omega
theorem Ka3 {h:vaf}{s:ByteArray}(j:0<=xae h s):∃d∈h.docs,d.name=s:=by
 unfold xae firstIdx at j;cases e:h.docs.findIdx? (fun d=>decide (d.name=s))with
 |none=>rw[e]at j;simp at j
 |some k=>
  obtain⟨n,p,_⟩:=List.findIdx?_eq_some_iff_getElem.1 e;exact⟨_,List.getElem_mem n,by simpa using p⟩
theorem jbe {d:Jac}(h:zae d=true):d.name.size<=8:=by
 have:=(Xaf.1 h).name;simp only[Xak,Bool.and_eq_true]at this;have:=within_iff.1 this.2;omega
theorem Ka4 {z:vaf}(h:kae z=true):szL z.docs+szL z.subs<=200000:=by
 have p:=kad.1 h;have Q:=p.nd;have p2:=p.ns;have M:szs z.docs<=10000*z.docs.length:=qa7 fun d hd=>by
  have q:=Xaf.1 (p.doc hd);have e:GoS.sz d=d.name.size+szL d.text+szL d.list+szL d.seen:=rfl;have:=jbe (p.doc hd);have:=q.tlen;have:=q.sz;have:=q.slen;have u:=qaw d.text;have B:szs d.seen<=0*d.seen.length:=qa7 fun x _=>lr _
  have J:szL d.seen=d.seen.length+szs d.seen:=rfl;omega
 have N:szs z.subs<=10000*z.subs.length:=qa7 fun s n=>by
  obtain⟨j,D⟩:=List.getElem?_of_mem n;have q:=p.subs j s D;simp only[hsI,Bool.and_eq_true,decide_eq_true_eq]at q;obtain⟨d,hd,e⟩:=Ka3 q.1.1.2;have:=jbe (p.doc hd);have r:=p.ring n;have I:GoS.sz s=s.doc.size+szL s.r.list:=rfl;have:=(Qav r).2;simp only[Zac,Bool.and_eq_true]at r;have:=jaH r.2;rw[e]at *;omega
 have u:szL z.docs=z.docs.length+szs z.docs:=rfl;have B:szL z.subs=z.subs.length+szs z.subs:=rfl;omega
theorem Ka5 {z:vaf}{c:xah}(n:szL c.text<=1048576)(j:jab z.docs+jab z.subs<=13000000):jab (Kag z c).1.docs+jab (Kag z c).1.subs<=13000000/\jab (Kag z c).2.text+jab (Kag z c).2.list<=13000000:=by
 by_cases h:kae z=true
 ·have:=Ka4 h;have:=Xba z c;omega
 ·rw[kap fun k=>h k.1]
  exact⟨j,by simp[xaJ,jab]⟩
theorem xa2:∀{l:List xah} {z:vaf},(∀c∈l,szL c.text<=1048576)->jab z.docs+jab z.subs<=13000000->jab (Kam z l).1.docs+jab (Kam z l).1.subs<=13000000/\jab (Kam z l).2<=13000002*l.length
 |[],_,_,h=>⟨h,by simp[Kam,jab]⟩
 |c::l,z,j,h=>by
  have a:=Ka5 (j c sm) h;have b:=xa2 (l:=l) (fun x n=>j x (by simp[n])) a.1
  unfold Kam;refine⟨b.1,?_⟩;have e:jab ((Kag z c).2::(Kam (Kag z c).1 l).2)=(2+jab (Kag z c).2.text+jab (Kag z c).2.list)+jab (Kam (Kag z c).1 l).2:=rfl;simp only[e,List.length_cons,Nat.mul_succ];have:=a.2;have:=b.2;omega
end Go.Proofs.YtocdogemgojgaaaGreat
namespace Go.Proofs.YtocdogemgojgaaaGreat
open Go.RowKit
def Cx (w:World)(b:Nat)(vs:List Value):Prop:=b<w.heap.size/\∀j v,vs[j]? =some v->w.cell? ⟨b,j,none⟩=some v
section
variable {w w' w0:World} {b:Nat} {vs:List Value}
theorem Cx.at (h:Cx w b vs)(hb:Below w w w'):Cx w' b vs:=⟨lq h.1 hb.size,fun j v n=>(hb.cell (p:=⟨b,j,none⟩) h.1).trans (h.2 j v n)⟩
theorem Cx.wr {fp:List Pos}(h:Cx w b vs)(n:Wr fp w w')(z:∀p∈fp,p.1≠b):Cx w' b vs:=
 ⟨lq h.1 n.size,fun j v q=>(n.cell (b,j) h.1 fun u=>z _ u rfl).trans (h.2 j v q)⟩
end
def uam (w:World)(b:Nat):Nat->List Value->Prop
 |_,[]=>True
 |j,v::l=>w.cell? ⟨b,j,none⟩=some v/\uam w b (j+1) l
def uaA (w:World):List (Nat×List Value)->Prop
 |[]=>True
 |x::r=>x.1<w/\uam w x.1 0 x.2/\uaA w r
theorem ja8 {w:World}{b:Nat}:∀{l:List Value} {j:Nat},(∀i v,l[i]? =some v->w.cell? ⟨b,j+i,none⟩=some v)->uam w b j l
 |[],_,_=>trivial
 |x::l,j,h=>⟨h 0 x rfl,ja8 fun i v hi=>by have:=h (i+1) v (by simpa using hi);rwa[show j+(i+1)=j+1+i by omega]at this⟩
structure Fr (w0 w:World)(B:List (Nat×List Value))(Q:List (List Pos×World)):Prop where
 b0:Below w0 w0 w
 bx:∀x∈B,Cx w x.1 x.2
 kp:∀q∈Q,Kept q.1 q.2 w
 lt:∀q∈Q,∀p∈q.1,p.1<w
 ge:∀q∈Q,∀p∈q.1,w0<=p.1
 bq:∀x∈B,∀q∈Q,∀p∈q.1,p.1≠x.1
 qq:Q.Pairwise fun q r=>∀p∈q.1,p∉r.1
section
variable {w0 w w':World} {B:List (Nat×List Value)} {Q:List (List Pos×World)}
theorem Fr.nil (w:World):Fr w w [] []:=⟨lf _ _,by simp,by simp,by simp,by simp,by simp,by simp⟩
theorem Fr.all (h:Fr w0 w B Q):uaA w B:=by
 have:∀l:List (Nat×List Value),(∀x∈l,Cx w x.1 x.2)->uaA w l:=by
  intro l;induction l with
  |nil=>intro _;trivial
  |cons x r p=>
   intro n;have j:=n x sm;exact⟨j.1,ja8 fun i v hi=>by rw[Nat.zero_add];exact j.2 i v hi,p fun y hy=>n y (by simp[hy])⟩
 exact this B h.bx
theorem Fr.below (h:Fr w0 w B Q)(hb:Below w w w'):Fr w0 w' B Q:=
 ⟨h.b0.trans (hb.mono h.b0.size),fun x u=>(h.bx x u).at hb,fun q j=>(h.kp q j).below hb (h.lt q j),fun q j p n=>lq (h.lt q j p n) hb.size,h.ge,h.bq,h.qq⟩
theorem Fr.drew (h:Fr w0 w B Q):Fr w0 w.drew B Q:=h.below (lf _ _).drew
theorem Fr.box (h:Fr w0 w B Q){b:Nat}{vs:List Value}(n:Cx w b vs)(u:∀q∈Q,∀p∈q.1,p.1≠b):Fr w0 w ((b,vs)::B) Q:=
 ⟨h.b0,fun x j=>by
  rcases List.mem_cons.1 j with rfl|j
  ·exact n
  ·exact h.bx x j,h.kp,h.lt,h.ge,fun x j=>by
  rcases List.mem_cons.1 j with rfl|j
  ·exact u
  ·exact h.bq x j,h.qq⟩
theorem Fr.new (h:Fr w0 w B Q)(b:Nat){l:List Value}{t:TypeId}(hb:b=w.heap.size:=by first|rfl|simp):Fr w0 (w.alloc (.cells l.toArray t)) ((b,l)::B) Q:=by
 subst hb;refine(h.below ((lf _ _).alloc (lr _) _)).box ⟨by simp,fun j v n=> ?_⟩ fun q z p u e=> ?_
 ·rw[World.cell?_alloc_at _ _ _ _ rfl];simpa using n
 ·have:=h.lt q z p u;omega
theorem Fr.put (h:Fr w0 w B Q)(hb:Below w w w'){f:List Pos}(u:∀p∈f,w<=p.1)(M:Live w' f):Fr w0 w' B (Q++[(f,w')]):=by
 have k:=h.below hb;have R:=h.b0.size;refine⟨k.b0,k.bx,fun q j=> ?_,fun q j=> ?_,fun q j=> ?_,fun x D q j p n=> ?_,?_⟩
 ·rcases lm.1 j with j|j
  ·exact k.kp q j
  ·rw[List.mem_singleton.1 j];exact Kept.refl _ _
 ·rcases lm.1 j with j|j
  ·exact k.lt q j
  ·rw[List.mem_singleton.1 j];exact Live.lt M
 ·rcases lm.1 j with j|j
  ·exact k.ge q j
  ·rw[List.mem_singleton.1 j];exact fun p n=>Nat.le_trans R (u p n)
 ·rcases lm.1 j with j|j
  ·exact k.bq x D q j p n
  ·rw[List.mem_singleton.1 j]at n;have I:=u p n;have J:=(h.bx x D).1;omega
 ·refine List.pairwise_append.2 ⟨k.qq,by simp,fun q j r N p n z=> ?_⟩
  rw[List.mem_singleton.1 N]at z;have I:=u p z;have J:=h.lt q j p n;omega
theorem Fr.call (h:Fr w0 w B Q)(hb:Below w w w'){f:List Pos}(j:uaa w w' f)(n:Live w' f):Fr w0 w' B (Q++[(f,w')]):=h.put hb j.ge n
theorem Fr.split {f g:List Pos}{a:World}(h:Fr w0 w B (Q++[(f++g,a)]))(I:(f++g).Nodup):Fr w0 w B (Q++[(f,a),(g,a)]):=by
 have u:(f++g,a)∈Q++[(f++g,a)]:=by simp
 have e:=List.pairwise_append.1 h.qq;refine⟨h.b0,h.bx,fun q j=> ?_,fun q j p n=> ?_,fun q j p n=> ?_,fun x z q j p n=> ?_,?_⟩
 ·rcases lm.1 j with j|j
  ·exact h.kp q (lu _ j)
  ·have k:=h.kp _ u;simp only[List.mem_cons,List.not_mem_nil,or_false]at j;rcases j with rfl|rfl
   ·exact k.sub fun p n=>lu _ n
   ·exact k.sub fun p n=>lw _ n
 ·rcases lm.1 j with j|j
  ·exact h.lt q (lu _ j) p n
  ·simp only[List.mem_cons,List.not_mem_nil,or_false]at j;rcases j with rfl|rfl
   ·exact h.lt _ u p (lu _ n)
   ·exact h.lt _ u p (lw _ n)
 ·rcases lm.1 j with j|j
  ·exact h.ge q (lu _ j) p n
  ·simp only[List.mem_cons,List.not_mem_nil,or_false]at j;rcases j with rfl|rfl
   ·exact h.ge _ u p (lu _ n)
   ·exact h.ge _ u p (lw _ n)
 ·rcases lm.1 j with j|j
  ·exact h.bq x z q (lu _ j) p n
  ·simp only[List.mem_cons,List.not_mem_nil,or_false]at j;rcases j with rfl|rfl
   ·exact h.bq x z _ u p (lu _ n)
   ·exact h.bq x z _ u p (lw _ n)
 ·refine List.pairwise_append.2 ⟨e.1,?_,fun q j r D p n u=> ?_⟩
  ·simp only[List.pairwise_cons,List.mem_singleton,forall_eq,List.not_mem_nil,false_implies,implies_true,List.Pairwise.nil,and_true];exact fun p n j=>(ln.1 I).2.2 p n p j rfl
  ·have k:=e.2.2 q j _ (List.mem_singleton.2 rfl) p n;simp only[List.mem_cons,List.not_mem_nil,or_false]at D;rcases D with rfl|rfl
   ·exact k (lu _ u)
   ·exact k (lw _ u)
theorem uaa.as4 {C:Nat}{a b c d:List Pos}(h:uaa C w (a++(b++(c++d)))):uaa C w ((a++b)++(c++d)):=by rw[List.append_assoc];exact h
section
variable {α:Type} [GoT α] {v:Value} {l:List α} {f F:List Pos} {a:World}
theorem Fr.sl (h:Fr w0 w B Q)(k:Nat)(s:Sl BIG a v l f)(q:Q[k]? =some (F,a):=by rfl)(j:∀p∈f,p∈F:=by intro p n;simp[n]):Sl BIG w v l f:=
 s.kept (h.kp _ (List.mem_of_getElem? q)) j
theorem Fr.rd (h:Fr w0 w B Q)(k:Nat)(s:Sl BIG a v l f)(q:Q[k]? =some (F,a):=by rfl)(j:∀p∈f,p∈F:=by intro p n;simp[n])
 (hb:Below w w w':=by repeat' first|with_reducible (first|exact lf _ _|apply Below.setCell|apply Below.alloc|apply Below.drew)|omega|(simp;done)|(simp;omega)):RdS w' v l:=
 RdS.below ⟨f,h.sl k s q j⟩ hb
theorem Fr.rd0 (h:Fr w0 w B Q)(r:RdS w0 v l)
 (hb:Below w w w':=by repeat' first|with_reducible (first|exact lf _ _|apply Below.setCell|apply Below.alloc|apply Below.drew)|omega|(simp;done)|(simp;omega)):RdS w' v l:=
 r.below (h.b0.trans (hb.mono h.b0.size))
theorem Fr.rm0 (h:Fr w0 w B Q){M:Nat}(r:zau M w0 v l)
 (hb:Below w w w':=by repeat' first|with_reducible (first|exact lf _ _|apply Below.setCell|apply Below.alloc|apply Below.drew)|omega|(simp;done)|(simp;omega)):zau M w' v l:=
 r.below (h.b0.trans (hb.mono h.b0.size))
end
theorem Fr.fin (h:Fr w0 w B Q)
 (hb:Below w w w':=by repeat' first|with_reducible (first|exact lf _ _|apply Below.setCell|apply Below.alloc|apply Below.drew)|omega|(simp;done)|(simp;omega)):Below w0 w0 w':=h.b0.trans (hb.mono h.b0.size)
theorem Fr.fresh (h:Fr w0 w B Q)(k:Nat){f:List Pos}{a:World}{lo:Nat}(j:uaa lo a f)(p:Q[k]? =some (f,a):=by rfl):uaa lo w f:=j.kept (h.kp _ (List.mem_of_getElem? p)) fun _ n=>n
theorem Fr.mark (h:Fr w0 w B Q)(k:Nat){f:List Pos}{a:World}(hw:Wr f w w')(n:Q[k]? =some (f,a):=by rfl):Fr w0 w' B (Q.set k (f,w')):=by
 obtain⟨hk,Z⟩:=lg.1 n;have N:=List.mem_of_getElem? n;have u:=List.pairwise_iff_getElem.1 h.qq;have dis:∀i (hi:i<Q.length),i≠k->∀p∈Q[i].1,p∉f:=by
  intro i hi I p R U;rcases Nat.lt_or_gt_of_ne I with D|D
  ·have:=u i k hi hk D p R;rw[Z]at this;exact this U
  ·have:=u k i hk hi D p;rw[Z]at this;exact this U R
 have key:∀q∈Q.set k (f,w'),q=(f,w')\/q∈Q/\∀p∈q.1,p∉f:=by
  intro q n;obtain⟨i,hi,rfl⟩:=List.mem_iff_getElem.1 n;rw[List.getElem_set];split
  ·exact .inl rfl
  ·rename_i I
   have z:i<Q.length:=by simpa using hi
   exact .inr ⟨List.getElem_mem z,dis i z (Ne.symm I)⟩
 refine⟨h.b0.trans (hw.below h.b0.size (h.ge _ N)),fun x Y=>(h.bx x Y).wr hw (h.bq x Y _ N),fun q n=> ?_,fun q n p u=> ?_,fun q n p u=> ?_,fun x Y q n p u=> ?_,?_⟩
 ·rcases key q n with rfl|⟨n,hd⟩
  ·exact Kept.refl _ _
  ·exact(h.kp _ n).wr hw (h.lt _ n) hd
 ·refine lq ?_ hw.size;rcases key q n with rfl|⟨n,hd⟩
  ·exact h.lt _ N p u
  ·exact h.lt _ n p u
 ·rcases key q n with rfl|⟨n,hd⟩
  ·exact h.ge _ N p u
  ·exact h.ge _ n p u
 ·rcases key q n with rfl|⟨n,hd⟩
  ·exact h.bq x Y _ N p u
  ·exact h.bq x Y _ n p u
 ·refine List.pairwise_iff_getElem.2 fun i j hi hj hij=> ?_
  have z:i<Q.length:=by simpa using hi
  have hj':j<Q.length:=by simpa using hj
  have e:=u i j z hj' hij;intro p J M;rw[List.getElem_set]at J M;split at J<;>split at M
  ·omega
  ·rename_i e1 _;subst e1;rw[Z]at e;exact e p J M
  ·rename_i _ e2;subst e2;rw[Z]at e;exact e p J M
  ·exact e p J M
theorem Fr.c4 (h:Fr w0 w B Q)(k:Nat){b:Nat}{n p q u:Value}(z:B.reverse[k]? =some (b,[n,p,q,u]):=by rfl):b<w.heap.size/\w.cell? ⟨b,0,none⟩=some n/\w.cell? ⟨b,1,none⟩=some p/\w.cell? ⟨b,2,none⟩=some q/\w.cell? ⟨b,3,none⟩=some u:=by
 have j:=h.bx _ (List.mem_reverse.1 (List.mem_of_getElem? z));exact⟨j.1,j.2 0 _ rfl,j.2 1 _ rfl,j.2 2 _ rfl,j.2 3 _ rfl⟩
theorem Fr.c7 (h:Fr w0 w B Q)(k:Nat){b:Nat}{n p q u z D I:Value}(J:B.reverse[k]? =some (b,[n,p,q,u,z,D,I]):=by rfl):b<w.heap.size/\w.cell? ⟨b,0,none⟩=some n/\w.cell? ⟨b,1,none⟩=some p/\w.cell? ⟨b,2,none⟩=some q/\w.cell? ⟨b,3,none⟩=some u/\w.cell? ⟨b,4,none⟩=some z/\w.cell? ⟨b,5,none⟩=some D/\w.cell? ⟨b,6,none⟩=some I:=by
 have j:=h.bx _ (List.mem_reverse.1 (List.mem_of_getElem? J));exact⟨j.1,j.2 0 _ rfl,j.2 1 _ rfl,j.2 2 _ rfl,j.2 3 _ rfl,j.2 4 _ rfl,j.2 5 _ rfl,j.2 6 _ rfl⟩
end
