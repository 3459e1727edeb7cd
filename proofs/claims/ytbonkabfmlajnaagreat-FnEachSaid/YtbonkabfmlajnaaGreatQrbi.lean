/- A document's memory of one's own, without a block: what the steps of a submission make of it. -/
import Derived.Test.YtbonkabfmlajnaaGreatQrbh
import Derived.Test.YtbonkabfmlajnaaGreatQrba
namespace Go.Proofs.YtbonkabfmlajnaaGreat
open Go.RowKit
def Tri {α β γ:Type}[GoT α][GoT β][GoT γ](C D:Nat)(w:World)(v1 v2 v3:Value)(l1:List α)(l2:List β)(l3:List γ)(f1 f2 f3:List Pos):Prop:=
 Sl BIG w v1 l1 f1/\Sl BIG w v2 l2 f2/\Sl BIG w v3 l3 f3/\Qaa C w (f1++(f2++f3))/\∀p∈f1++(f2++f3),p.1<D
section
variable {α β γ:Type} [GoT α] [GoT β] [GoT γ] {C D:Nat} {w w':World} {v1 v2 v3:Value} {l1:List α} {l2:List β} {l3:List γ} {f1 f2 f3:List Pos}
theorem Tri.block (h:Tri C D w v1 v2 v3 l1 l2 l3 f1 f2 f3)(q:∀k,C<=k->k<D->w'.heap[k]? =w.heap[k]?):Tri C D w' v1 v2 v3 l1 l2 l3 f1 f2 f3:=by
 obtain⟨a,b,e,c,d⟩:=h;have n:∀p∈f1++(f2++f3),w'.cell? ⟨p.1,p.2,none⟩=w.cell? ⟨p.1,p.2,none⟩:=fun p j=>by simp only[World.cell?];rw[q p.1 (c.ge p j) (d p j)]
 have u:∀p∈f1++(f2++f3),w'.frozen? ⟨p.1,p.2,none⟩=w.frozen? ⟨p.1,p.2,none⟩:=fun p j=>by simp only[World.frozen?];rw[q p.1 (c.ge p j) (d p j)]
 exact⟨a.keep fun p j=>n p (by simp[j]),b.keep fun p j=>n p (by simp[j]),e.keep fun p j=>n p (by simp[j]),⟨c.nodup,c.ge,fun p j=>(u p j).trans (c.free p j)⟩,d⟩
theorem Tri.below (h:Tri C D w v1 v2 v3 l1 l2 l3 f1 f2 f3)(hb:Below D w w'):Tri C D w' v1 v2 v3 l1 l2 l3 f1 f2 f3:=h.block fun k _ j=>hb.block k j
theorem Tri.setCell {b o:Nat}(h:Tri C D w v1 v2 v3 l1 l2 l3 f1 f2 f3)(p:b<C\/D<=b)(u:Value):Tri C D (w.setCell ⟨b,o,none⟩ u) v1 v2 v3 l1 l2 l3 f1 f2 f3:=h.block fun k j n=>Below.heap_setCell w ⟨b,o,none⟩ u k (by show k≠b;omega)
theorem Tri.alloc (h:Tri C D w v1 v2 v3 l1 l2 l3 f1 f2 f3)(j:D<=w.heap.size)(o:Obj):Tri C D (w.alloc o) v1 v2 v3 l1 l2 l3 f1 f2 f3:=h.below ((lf _ _).alloc j o)
theorem Tri.drew (h:Tri C D w v1 v2 v3 l1 l2 l3 f1 f2 f3):Tri C D w.drew v1 v2 v3 l1 l2 l3 f1 f2 f3:=h.block fun _ _ _=>rfl
theorem Tri.mono {C':Nat}(h:Tri C D w v1 v2 v3 l1 l2 l3 f1 f2 f3)(j:C'<=C):Tri C' D w v1 v2 v3 l1 l2 l3 f1 f2 f3:=⟨h.1,h.2.1,h.2.2.1,h.2.2.2.1.mono j,h.2.2.2.2⟩
end
def Kag (ob C:Nat)(w:World)(vt vl vs:Value)(text:List Int)(list:List yab)(seen:List qac):Prop:=
 ∃ft fl fs,Sl BIG w vt text ft/\Sl BIG w vl list fl/\Sl BIG w vs seen fs/\Qaa C w (ft++(fl++fs))/\∀p∈ft++(fl++fs),p.1≠ob
section
variable {ob C:Nat} {w w':World} {vt vl vs:Value} {text:List Int} {list:List yab} {seen:List qac}
theorem Kag.mono {C':Nat}(h:Kag ob C w vt vl vs text list seen)(p:C'<=C):Kag ob C' w vt vl vs text list seen:=
 let⟨n,j,fs,a,b,c,d,e⟩:=h
 ⟨n,j,fs,a,b,c,d.mono p,e⟩
theorem Kag.rdL (h:Kag ob C w vt vl vs text list seen):RdS w vl list:=let⟨_,j,_,_,b,_⟩:=h;⟨j,b⟩
theorem Kag.rdT (h:Kag ob C w vt vl vs text list seen):RdS w vt text:=let⟨j,_,_,a,_⟩:=h;⟨j,a⟩
theorem Kag.rdS (h:Kag ob C w vt vl vs text list seen):RdS w vs seen:=let⟨_,_,fs,_,_,c,_⟩:=h;⟨fs,c⟩
theorem Kag.keep (h:Kag ob C w vt vl vs text list seen)(z:∀p:Pos,C<=p.1->p.1≠ob->p.1<w->w'.cell? ⟨p.1,p.2,none⟩=w.cell? ⟨p.1,p.2,none⟩/\w'.frozen? ⟨p.1,p.2,none⟩=w.frozen? ⟨p.1,p.2,none⟩):Kag ob C w' vt vl vs text list seen:=by
 obtain⟨u,q,fs,a,b,c,d,e⟩:=h;have B:∀p∈u++(q++fs),p.1<w:=Live.lt (Live.append.2 ⟨a.live,Live.append.2 ⟨b.live,c.live⟩⟩);have n:∀p∈u++(q++fs),_:=fun p j=>z p (d.ge p j) (e p j) (B p j)
 exact⟨u,q,fs,a.keep fun p j=>(n p (by simp[j])).1,b.keep fun p j=>(n p (by simp[j])).1,c.keep fun p j=>(n p (by simp[j])).1,⟨d.nodup,d.ge,fun p j=>(n p j).2.trans (d.free p j)⟩,e⟩
theorem Kag.below (h:Kag ob C w vt vl vs text list seen)(hb:Below w w w'):Kag ob C w' vt vl vs text list seen:=
 h.keep fun p _ _ j=>⟨hb.cell (p:=⟨p.1,p.2,none⟩) j,hb.frozen (p:=⟨p.1,p.2,none⟩) j⟩
theorem Kag.alloc (h:Kag ob C w vt vl vs text list seen)(o:Obj):Kag ob C (w.alloc o) vt vl vs text list seen:=h.below ((lf _ _).alloc (lr _) o)
theorem Kag.drew (h:Kag ob C w vt vl vs text list seen):Kag ob C w.drew vt vl vs text list seen:=h.keep fun _ _ _ _=>⟨rfl,rfl⟩
theorem Kag.setCell {b o:Nat}(h:Kag ob C w vt vl vs text list seen)(q:b<C\/b=ob)(u:Value):Kag ob C (w.setCell ⟨b,o,none⟩ u) vt vl vs text list seen:=
 h.keep fun p j n _=>⟨by rw[xaa,if_neg];rintro⟨q1,_⟩;omega,by rw[World.frozen?_setCell]⟩
theorem Kag.set5 {b:Nat}{n p q u z:Value}(h:Kag ob C w vt vl vs text list seen)(j:b<C\/b=ob):Kag ob C (((((w.setCell ⟨b,0,none⟩ n).setCell ⟨b,1,none⟩ p).setCell ⟨b,2,none⟩ q).setCell ⟨b,3,none⟩ u).setCell ⟨b,4,none⟩ z) vt vl vs text list seen:=
 ((((h.setCell j n).setCell j p).setCell j q).setCell j u).setCell j z
theorem Kag.of_own {q:List Value}{d:Xac}(h:Own C w q d)(I:w.heap.size<=ob):∃n j vs,q=[.string d.name,.int .i64 d.from_,n,j,vs]/\Kag ob C w n j vs d.text d.list d.seen:=by
 obtain⟨f,⟨n,j,vs,z,u,fs,rfl,_,a,b,c,rfl⟩,B⟩:=h;refine⟨n,j,vs,rfl,z,u,fs,a,b,c,B,fun p D=> ?_⟩
 have:=Live.lt (Live.append.2 ⟨a.live,Live.append.2 ⟨b.live,c.live⟩⟩) p D;omega
theorem Kag.out {w0:World}{y:Xac}{n m:Int}(h:Kag ob C w' vt vl vs y.text y.list y.seen)(u:y.name.size<=BIG)(q:w0.heap.size<=C)(hb:Below w0 w0 w'):
 Zar w0 y n m (.returned (.tuple #[.agg #[y.name,y.from_,vt,vl,vs],n,m])) w':=
 let⟨p,j,fs,a,b,c,d,_⟩:=h
 ⟨vt,vl,vs,p,j,fs,rfl,a,b,c,u,d.mono q,hb⟩
theorem Kag.app {L:Nat}{W:World}{c:List Value}{x:yab}{g:List Pos}(h:Kag ob L w vt vl vs text list seen)(E:TypeId)(hb:Below w w W)(hC:C<=L)(hoL:L<=ob)(ho:ob<W.heap.size)(U:GoT.rd BIG W c x g)(hg:Qaa C W g)(hgl:∀p∈g,p.1<L):
 ∃z,Row C (W.alloc (.cells c.toArray E)) vl list z/\Src (W.alloc (.cells c.toArray E)) (.slice (some ⟨W,0,none⟩) 1 1) [x] g/\(∀q∈g,q∉rowP (GoT.n yab) vl)/\C<=(W.alloc (.cells c.toArray E)).heap.size/\(∀p∈rowP (GoT.n yab) vl,L<=p.1/\p.1≠ob)/\
  ∀(v':Value) (B:World),Row C B v' (list++[x]) (z++g)->Wr (rowP (GoT.n yab) vl) (W.alloc (.cells c.toArray E)) B->(∀p∈rowP (GoT.n yab) v',p∈rowP (GoT.n yab) vl\/(W.alloc (.cells c.toArray E)).heap.size<=p.1)->Kag ob C B vt v' vs text (list++[x]) seen:=by
 have M:Below w w (W.alloc (.cells c.toArray E)):=hb.alloc hb.size _;have hbW:Below W W (W.alloc (.cells c.toArray E)):=(lf _ _).alloc (lr _) _;have e1:(W.alloc (.cells c.toArray E)).heap.size=W.heap.size+1:=by simp
 obtain⟨D,fl,fs,ha,N,hc,hd,he⟩:=h;obtain⟨z,rfl⟩:=N.split;have nd:=ln.1 hd.nodup;have Y:=ln.1 nd.2.1;have nd3:=ln.1 Y.1;have hl:∀p∈D++((rowP (GoT.n yab) vl++z)++fs),p.1<w:=Live.lt (Live.append.2 ⟨ha.live,Live.append.2 ⟨N.live,hc.live⟩⟩);have hge:=hd.ge;have Q:∀q∈g,∀p∈D++((rowP (GoT.n yab) vl++z)++fs),p≠q:=fun q u p j e=>by have a:=hge p j;have b:=hgl q u;rw[e]at a;omega
 refine⟨z,Row.below ⟨N.belowW hb,(hd.right.left.left.mono hC).belowL hb fun p j=>hl p (by simp[j]),fun p j u=>nd3.2.2 p u p j rfl⟩ hbW |>.mono (lr _),Zac E U,fun q u hm=>Q q u q (by simp[hm]) rfl,by have:=hb.size;have:=hd.ge;omega,fun p j=>⟨hge p (by simp[j]),he p (by simp[j])⟩,fun v' B j1 Z j3=> ?_⟩
 have hs:=hb.size;have hF:Qaa C (W.alloc (.cells c.toArray E)) (D++((rowP (GoT.n yab) vl++z)++fs)):=(hd.mono hC).belowL M hl;have R:∀p∈D++((rowP (GoT.n yab) vl++z)++fs),p.1<(W.alloc (.cells c.toArray E)).heap.size:=fun p j=>by have:=hl p j;omega
 have k1:Qaa C B D:=hF.left.wr2 (lf _ _) Z fun p j=>R p (by simp[j])
 have k2:Qaa C B fs:=hF.right.right.wr2 (lf _ _) Z fun p j=>R p (by simp[j])
 have k3:Qaa C B z:=hF.right.left.right.wr2 (lf _ _) Z fun p j=>R p (by simp[j])
 have k4:Qaa C B g:=(hg.belowL hbW (Live.lt (GoT.live U))).wr2 (lf _ _) Z fun p j=>by have:=Live.lt (GoT.live U) p j;omega
 have k5:Qaa C B (z++g):=k3.join k4 fun p j q u e=>Q q u p (by simp[j]) e
 have k6:Qaa C B (rowP (GoT.n yab) v'++(z++g)):=j1.2.1.join k5 fun p j q u e=>j1.2.2 q u (e▸j)
 have J:∀p∈rowP (GoT.n yab) v'++(z++g),∀q∈D++fs,q≠p:=fun p j q u e=>by
  subst e;have hq':q∈D++((rowP (GoT.n yab) vl++z)++fs):=by rcases lm.1 u with h|h<;>simp[h]
  have hlt:=hl q hq';have I:q∉rowP (GoT.n yab) vl++z:=fun hm=>by
   rcases lm.1 u with h|h
   ·exact nd.2.2 q h q (lu _ hm) rfl
   ·exact Y.2.2 q hm q h rfl
  rcases lm.1 j with j|j
  ·rcases j3 q j with h|h
   ·exact I (lu _ h)
   ·omega
  ·rcases lm.1 j with j|j
   ·exact I (lw _ j)
   ·exact Q q j q hq' rfl
 refine⟨D,_,fs,(ha.belowW M).wr Z fun p j u=>nd.2.2 p j p (by simp[u]) rfl,j1.1,(hc.belowW M).wr Z fun p j u=>Y.2.2 p (by simp[u]) p j rfl,?_,fun p j=> ?_⟩
 ·refine k1.join (k6.join k2 fun p j q u e=>J p j q (by simp[u]) e.symm) fun p j q u e=> ?_
  rcases lm.1 u with u|u
  ·exact J q u p (by simp[j]) e
  ·exact nd.2.2 p j q (by simp[u]) e
 ·rcases lm.1 j with j|j
  ·exact he p (by simp[j])
  ·rcases lm.1 j with j|j
   ·rcases lm.1 j with j|j
    ·rcases j3 p j with h|h
     ·exact he p (by simp[h])
     ·omega
    ·rcases lm.1 j with j|j
     ·exact he p (by simp[j])
     ·have:=hgl p j;omega
   ·exact he p (by simp[j])
theorem Kag.cutTail {P:Program}{T E:TypeId}(hT:P.underlying T=some (.slice E))(hl:∀z,(sizeOf E).run P z= .ok (GoT.n yab) z)(h:Kag ob C w vt vl vs text list seen)(N:1<=list.length):
 ∃a c,(∀z,(Instr.sliceAt T vl (some (.int .i64 1)) none none).run P z= .ok (.slice a (list.length-1) c) z)/\Kag ob C w vt (.slice a (list.length-1) c) vs text (list.drop 1) seen:=by
 obtain⟨Z,fl,fs,a,b,c,d,e⟩:=h;obtain⟨Y,I,B,h4⟩:=b.cut (lo:=1) (hi:=list.length) (m:=vaA vl) N (lr _) b.cap (lr _);have Q:=fun z=>b.run_l hT hl (lo:=1) N z
 rw[List.take_length]at I;obtain⟨R,U,M⟩:=I.isS;rw[List.length_drop]at M;rw[M]at I Q;have J:=ln.1 d.nodup;have D:=ln.1 J.2.1;refine⟨R,U,Q,Z,Y,fs,a,I,c,d.left.join (Qaa.join ⟨h4 D.1,fun p j=>d.right.left.ge p (B p j),fun p j=>d.right.left.free p (B p j)⟩ d.right.right fun p j q u e=>D.2.2 p (B p j) q u e) fun p j q u e=> ?_,fun p j=> ?_⟩
 ·rcases lm.1 u with u|u
  ·exact J.2.2 p j q (lu _ (B q u)) e
  ·exact J.2.2 p j q (lw _ u) e
 ·rcases lm.1 j with j|j
  ·exact e p (by simp[j])
  ·rcases lm.1 j with j|j
   ·exact e p (by simp[B p j])
   ·exact e p (by simp[j])
theorem Kag.seenPut (h:Kag ob C w vt vl vs text list seen):∃fs,Sl BIG w vs seen fs/\Qaa C w fs/\(∀p∈fs,p.1≠ob)/\∀(W u:World) (Q:Value) (M:List qac) (f:List Pos),Below w w W->Wr fs W u->ob<W.heap.size->Sl BIG u Q M f->Qaa C u f->(∀p∈f,p∈fs\/W<=p.1)->Kag ob C u vt vl Q text list M:=by
 obtain⟨B,z,fs,a,b,c,d,e⟩:=h;have N:=ln.1 d.nodup;have I:=ln.1 N.2.1;have D:∀p∈B++z,p.1<w:=Live.lt (Live.append.2 ⟨a.live,b.live⟩);refine⟨fs,c,d.right.right,fun p j=>e p (by simp[j]),fun W u Q M f hb J ho hs Z R=> ?_⟩
 have hsz:=hb.size;have k1:Qaa C u (B++z):=by
  have Y:Qaa C w (B++z):=by have:=d;rw[<-List.append_assoc]at this;exact this.left
  exact Y.wr2 hb J D
 have hd:∀p∈B++z,p∉f:=fun p j n=>by
  rcases R p n with h|h
  ·rcases lm.1 j with j|j
   ·exact N.2.2 p j p (lw _ h) rfl
   ·exact I.2.2 p j p h rfl
  ·have:=D p j;omega
 refine⟨B,z,f,a.wr2 hb J fun p j n=>N.2.2 p j p (lw _ n) rfl,b.wr2 hb J fun p j n=>I.2.2 p j p n rfl,hs,?_,fun p j=> ?_⟩
 ·rw[<-List.append_assoc];exact k1.join Z fun p j q n U=>hd p j (U▸n)
 ·rcases lm.1 j with j|j
  ·exact e p (by simp[j])
  ·rcases lm.1 j with j|j
   ·exact e p (by simp[j])
   ·rcases R p j with h|h
    ·exact e p (by simp[h])
    ·omega
theorem Kag.seenEl {P:Program}{T E:TypeId}(hT:P.underlying T=some (.slice E))(hl:∀I,(sizeOf E).run P I= .ok (GoT.n qac) I)(h:Kag ob C w vt vl vs text list seen){k:Nat}{y:qac}(hk:seen[k]? =some y)(ho:ob<w.heap.size)(s:qac):
 ∃b o,(∀I,(Instr.indexAt T vs (.int .i64 k)).run P I= .ok (.pointer (some ⟨b,o,none⟩)) I)/\w.cell? ⟨b,o,none⟩=some (.int .i64 y.client)/\w.cell? ⟨b,o+1,none⟩=some (.int .i64 y.seq)/\w.cell? ⟨b,o+2,none⟩=some (.int .i64 y.rev)/\
  w.frozen? ⟨b,o,none⟩=false/\w.frozen? ⟨b,o+1,none⟩=false/\w.frozen? ⟨b,o+2,none⟩=false/\b≠ob/\C<=b/\b<w.heap.size/\
  Kag ob C (((w.setCell ⟨b,o,none⟩ s.client).setCell ⟨b,o+1,none⟩ s.seq).setCell ⟨b,o+2,none⟩ s.rev) vt vl vs text list (seen.set k s):=by
 obtain⟨fs,c,z,N,D⟩:=h.seenPut;obtain⟨b,o,cs,f,g1,J,⟨rfl,rfl⟩,g4,_,_,g7⟩:=c.lens z.nodup hT hl k hk;have m:∀j<3,(b,o+j)∈fs:=fun j q=>(g4 j q).1
 have B:=m 0 (by decide)
 have U:=m 1 (by decide)
 have Y:=m 2 (by decide)
 rw[Nat.add_zero]at B;have c0:=J.zero;have c1:w.cell? ⟨b,o+1,none⟩=some _:=J 1 _ rfl;have c2:w.cell? ⟨b,o+2,none⟩=some _:=J 2 _ rfl;have R:Wr fs w (((w.setCell ⟨b,o,none⟩ s.client).setCell ⟨b,o+1,none⟩ s.seq).setCell ⟨b,o+2,none⟩ s.rev):=(((Wr.refl _ _).put B _).put U _).put Y _;refine⟨b,o,g1,c0,c1,c2,z.free _ B,z.free _ U,z.free _ Y,N _ B,z.ge _ B,Live.lt c.live _ B,D w _ vs _ fs (lf _ _) R ho ?_ (R.fresh c.live z) fun p Q=> .inl Q⟩
 refine g7 _ [s.client,s.seq,s.rev] s ?_ ⟨rfl,rfl⟩ fun p Q _ M=> ?_
 ·intro j u q;match j,q with
  |0,q=>simp at q;subst q;simp[xaa,c0]
  |1,q=>simp at q;subst q;simp[xaa,c1]
  |2,q=>simp at q;subst q;simp[xaa,c2]
 ·have Z:=M 0 (by decide)
  have n1:=M 1 (by decide)
  have n2:=M 2 (by decide)
  obtain⟨p1,p2⟩:=p;simp only[Nat.add_zero,ne_eq,Prod.mk.injEq,not_and]at Z n1 n2;rw[xaa,if_neg (fun e=>n2 e.1 e.2),xaa,if_neg (fun e=>n1 e.1 e.2),xaa,if_neg (fun e=>Z e.1 e.2)]
theorem Kag.textBelow (h:Kag ob C w vt vl vs text list seen){B:List Int}{D:Value}{f:List Pos}(hb:Below w w w')(Q:Sl BIG w' D B f)(M:Qaa C w' f)(n:∀p∈f,w<=p.1)(Y:ob<w.heap.size):Kag ob C w' D vl vs B list seen:=by
 obtain⟨R,z,fs,a,b,c,d,e⟩:=h;have u:∀p∈z++fs,p.1<w:=Live.lt (Live.append.2 ⟨b.live,c.live⟩);refine⟨f,z,fs,Q,b.belowW hb,c.belowW hb,M.join (d.right.belowL hb u) fun p j q N I=> ?_,fun p j=> ?_⟩
 ·have J:=n p j;have U:=u q N;rw[I]at J;omega
 ·rcases lm.1 j with j|j
  ·have:=n p j;omega
  ·exact e p (lw _ j)
end
