/- The normal form of an operation; entries. -/
import Derived.Test.YtbonkabfmlajnaaGreatQrae
import Derived.Test.YtbonkabfmlajnaaGreatQrad
import Derived.Deep.RegionLaw
set_option maxHeartbeats 8000000
set_option maxRecDepth 100000
set_option linter.defProp false
set_option linter.unusedSimpArgs false
namespace Go.Proofs.YtbonkabfmlajnaaGreat
open Go.RowKit
structure Bst where
 list:List zaa
 put:List Int
 drop:Int
def Bst.flush (s:Bst):Bst:=⟨s.list++(if s.put=[]then[]else[⟨2,0,s.put⟩])++(if 0<s.drop then[⟨3,s.drop,[]⟩]else[]),[],0⟩
def yau (l:List zaa)(n:Int):List zaa:=match l.getLast? with
 |some p=>if p.kind=1 then l.dropLast++[⟨p.kind,p.n+n,p.signs⟩]else l++[⟨1,n,[]⟩]
 |none=>l++[⟨1,n,[]⟩]
def Bst.keep (s:Bst)(n:Int):Bst:=if n=0 then s else⟨yau s.flush.list n,[],0⟩
def Bst.puts (s:Bst)(l:List Int):Bst:=⟨s.list,s.put++l,s.drop⟩
def Bst.drops (s:Bst)(n:Int):Bst:=⟨s.list,s.put,s.drop+n⟩
def Bst.step (s:Bst)(p:zaa):Bst:=if p.kind=1 then s.keep p.n else if p.kind=2 then s.puts p.signs else s.drops p.n
def normal (o:List zaa):List zaa:=(o.foldl Bst.step ⟨[],[],0⟩).flush.list
def Qak (o:List zaa):List zaa:=if yag o=true then normal o else[]
def Jan (o:List zaa):Bool:=yag o&&decide (Qak o=o)
def bpl (pl pp pd:Pos):List Pos:=[pl,pp,pd]
structure BL (B:Nat)(w:World)(pl pp pd:Pos)(vl:Value)(L:List zaa)(fl:List Pos):Prop where
 cl:w.cell? ⟨pl.1,pl.2,none⟩=some vl
 cp:(w.cell? ⟨pp.1,pp.2,none⟩).isSome=true
 cd:(w.cell? ⟨pd.1,pd.2,none⟩).isSome=true
 sl:Sl BIG w vl L fl
 fr:Qaa B w (bpl pl pp pd++fl)
theorem BL.live {B:Nat}{w:World}{pl u q:Pos}{z:Value}{L:List zaa}{j:List Pos}(h:BL B w pl u q z L j):Live w (bpl pl u q++j):=by
 refine Live.append.2 ⟨fun p n=> ?_,h.sl.live⟩
 simp only[bpl,List.mem_cons,List.not_mem_nil,or_false]at n;rcases n with rfl|rfl|rfl
 ·rw[h.cl];rfl
 ·exact h.cp
 ·exact h.cd
theorem BL.below {B:Nat}{w u:World}{pl n j:Pos}{I:Value}{L:List zaa}{z:List Pos}(h:BL B w pl n j I L z)(hb:Below w w u):BL B u pl n j I L z:=by
 have D:=Live.lt h.live;have q:∀p∈bpl pl n j,u.cell? ⟨p.1,p.2,none⟩=w.cell? ⟨p.1,p.2,none⟩:=fun p J=>hb.cell (p:=⟨p.1,p.2,none⟩) (D p (lm.2 (.inl J)))
 exact⟨(q pl (by simp[bpl])).trans h.cl,by rw[q n (by simp[bpl])];exact h.cp,by rw[q j (by simp[bpl])];exact h.cd,h.sl.belowW hb,h.fr.belowL hb D⟩
theorem BL.app {B:Nat}{w W I:World}{pl u n:Pos}{R J:Value}{L:List zaa}{U fs N:List Pos}{x:zaa}(h:BL B w pl u n R L U)(hb:Below w w W)(hx:Qaa B W (bpl pl u n++(U++N)))(hxl:Live W N)
 (he:U=rowP 3 R++fs) (hr:Row B I J (L++[x]) (fs++N)) (hw:Wr (rowP 3 R) W I) (hn:∀p∈rowP 3 J,p∈rowP 3 R\/W<=p.1):
 ∃Y,BL B (I.setCell ⟨pl.1,pl.2,none⟩ J) pl u n J (L++[x]) Y/\Wr (bpl pl u n++U) W (I.setCell ⟨pl.1,pl.2,none⟩ J)/\(∀p∈Y,p∈U\/p∈N\/W<=p.1)/\
  (I.setCell ⟨pl.1,pl.2,none⟩ J).cell? ⟨u.1,u.2,none⟩=w.cell? ⟨u.1,u.2,none⟩/\(I.setCell ⟨pl.1,pl.2,none⟩ J).cell? ⟨n.1,n.2,none⟩=w.cell? ⟨n.1,n.2,none⟩:=by
 subst he;have M:=Live.lt h.live;have Q:∀p∈bpl pl u n++(rowP 3 R++fs),p.1<W:=fun p j=>lq (M p j) hb.size
 have nd:=hx.nodup;obtain⟨n3,nf,dis⟩:=ln.1 nd;have z:∀p∈bpl pl u n,p∉rowP 3 R:=fun p j D=>dis p j p (by simp[D]) rfl
 have hpl:=z pl (by simp[bpl])
 have hpp:=z u (by simp[bpl])
 have hpd:=z n (by simp[bpl])
 have c1:∀p∈bpl pl u n,I.cell? ⟨p.1,p.2,none⟩=w.cell? ⟨p.1,p.2,none⟩:=fun p j=>
  (hw.cell p (Q p (lm.2 (.inl j))) (z p j)).trans (hb.cell (p:=⟨p.1,p.2,none⟩) (M p (lm.2 (.inl j))))
 have e1:pl≠u:=by intro e;simp only[bpl,List.nodup_cons,List.mem_cons,not_or]at n3;exact n3.1.1 e
 have e2:pl≠n:=by intro e;simp only[bpl,List.nodup_cons,List.mem_cons,not_or]at n3;exact n3.1.2.1 e
 have ot:∀p:Pos,p≠pl->(I.setCell ⟨pl.1,pl.2,none⟩ J).cell? ⟨p.1,p.2,none⟩=I.cell? ⟨p.1,p.2,none⟩:=by
  intro p j;rw[xaa,if_neg];rintro⟨q1,q2⟩;exact j (Prod.ext q1 q2)
 have Z:∀p∈rowP 3 J++(fs++N),p≠pl:=by
  intro p j e;subst e;rcases lm.1 j with j|j
  ·rcases hn p j with j|j
   ·exact hpl j
   ·have:=Q p (by simp[bpl]);omega
  ·exact dis p (by simp[bpl]) p (by rcases lm.1 j with j|j<;>simp[j]) rfl
 have hcl:I.cell? ⟨pl.1,pl.2,none⟩=some R:=(c1 pl (by simp[bpl])).trans h.cl
 refine⟨rowP 3 J++(fs++N),⟨?_,?_,?_,?_,?_⟩,?_,?_,?_,?_⟩
 ·exact World.cell?_setCell_same I ⟨pl.1,pl.2,none⟩ J hcl
 ·rw[ot u (Ne.symm e1),c1 u (by simp[bpl])];exact h.cp
 ·rw[ot n (Ne.symm e2),c1 n (by simp[bpl])];exact h.cd
 ·exact hr.1.keep fun p j=>ot p (Z p j)
 ·have f3:Qaa B I (bpl pl u n):=hw.fresh (fun p j=>by
   have:=h.live p (lm.2 (.inl j));rw[hb.cell (p:=⟨p.1,p.2,none⟩) (M p (lm.2 (.inl j)))];exact this) hx.left
  have f4:Qaa B I (fs++N):=by
   refine hw.fresh (Live.append.2 ⟨fun p j=> ?_,hxl⟩) ⟨?_,?_,?_⟩
   ·have:=h.sl.live p (lm.2 (.inr j));rw[hb.cell (p:=⟨p.1,p.2,none⟩) (M p (by simp[j]))]
    exact this
   ·rw[List.append_assoc]at nf;exact(ln.1 nf).2.1
   ·exact fun p j=>hx.ge p (by rcases lm.1 j with j|j<;>simp[j])
   ·exact fun p j=>hx.free p (by rcases lm.1 j with j|j<;>simp[j])
  refine((f3.join (hr.2.1.join f4 fun p j q D e=>hr.2.2 q D (e▸j)) fun p j q D e=> ?_).put _ _)
  subst e;rcases lm.1 D with D|D
  ·rcases hn p D with D|D
   ·exact z p j D
   ·have:=Q p (lm.2 (.inl j));omega
  ·exact dis p j p (by rcases lm.1 D with D|D<;>simp[D]) rfl
 ·exact(hw.sub fun p j=>by simp[j]).put (by simp[bpl]) _
 ·intro p j;rcases lm.1 j with j|j
  ·rcases hn p j with j|j
   ·exact .inl (lm.2 (.inl j))
   ·exact .inr (.inr j)
  ·rcases lm.1 j with j|j
   ·exact .inl (lm.2 (.inr j))
   ·exact .inr (.inl j)
 ·rw[ot u (Ne.symm e1),c1 u (by simp[bpl])]
 ·rw[ot n (Ne.symm e2),c1 n (by simp[bpl])]
theorem yad {α:Type}[GoT α]{P:Program}{D:Array Oper}{o:Oper}{a:Act}{w:World}{K:Act->World->Prop}{Q:Exit->Act->World->Prop}{E:Prop}(hg:o.guard=none)(s y:Operand)(T:TypeId)
 (ho:o.op=Op.call {callee:=Callee.builtin Builtin.append,args:= #[s,y],argTypes:= #[T,T]}) {F:TypeId} {i:TypeInfo} {z:Value} {bytes:Nat} (ht:P.underlying T=some (.slice F)) (hi:P.info? F=some i) (hz:i.zero=some z)
 (q:i.size=GoT.n α) (R:i.bytes=bytes) (U:z.cells.size=GoT.n α) {v x:Value} {l M:List α} {B:Nat} {fs N:List Pos} (hv:a.eval s=v) (hx:a.eval y=x)
 (h:Row B w v l fs) (hs:Src w x M N) (hd:∀p∈N,p∉rowP (GoT.n α) v) (u:l.length+M.length<=BIG) (j:(l.length+M.length)*bytes<=140737488355328) (hB:B<=w.heap.size)
 (hK:∀I J,Row B J I (l++M) (fs++N)->Wr (rowP (GoT.n α) v) w J->(∀p∈rowP (GoT.n α) I,p∈rowP (GoT.n α) v\/w<=p.1)->K (a.put o.dst I) J):
 if Region.wanted o (yielded D a.tmps)=true then Oper.wp P o a w K Q else E:=by
 have hw:Region.wanted o (yielded D a.tmps)=true:=by simp[Region.wanted,hg]
 rw[if_pos hw];obtain⟨I,J,hr,Y,Z,h4⟩:=zaz (P:=P) (ty:=o.type) ht hi hz q R U h hs hd u j hB;unfold Oper.wp;simp[execOp,ho,resolve,invoke,builtin,hv,hx,hr,Result.andThen];exact hK I J Y Z h4
theorem zai (w:World)(k n:Int)(v:Value)(l:List Int)(f:List Pos)(E:TypeId)(h:Sl BIG w v l f):Src (w.alloc (.cells #[k,n,v] E)) (.slice (some ⟨w,0,none⟩) 1 1) [(⟨k,n,l⟩:zaa)] f:=by
 refine Src.one (c:=[k,n,v]) ?_ ⟨v,f,rfl,h.belowW ((lf _ _).alloc (lr _) _),rfl⟩;intro j u p;match j,p with
 |0,p=>simp at p;subst p;simp
 |1,p=>simp at p;subst p;simp
 |2,p=>simp at p;subst p;simp
theorem uam:(Tryz.prog.info? 122).map (fun i=>(i.zero,i.size,i.bytes))=some (some (.agg #[zI,zI,zN]),3,40):=by kernel_rfl
structure Bld (B:Nat)(w:World)(pl pp pd:Pos)(s:Bst)(fp:List Pos):Prop where
 ex:∃vl vp fl fq,w.cell? ⟨pl.1,pl.2,none⟩=some vl/\w.cell? ⟨pp.1,pp.2,none⟩=some vp/\w.cell? ⟨pd.1,pd.2,none⟩=some (.int .i64 s.drop)/\Sl BIG w vl s.list fl/\Sl BIG w vp s.put fq/\fp=bpl pl pp pd++(fl++fq)
 fr:Qaa B w fp
def Kaq (B:Nat)(w:World)(pl pp pd:Pos)(s:Bst)(fp:List Pos)(e:Ending)(w':World):Prop:=
 e= .returned (.tuple #[])/\∃fp',Bld B w' pl pp pd s fp'/\Wr fp w w'/\∀p∈fp',p∈fp\/w<=p.1
theorem BL.close {B:Nat}{w:World}{pl n j:Pos}{M:Value}{L:List zaa}{I:List Pos}(h:BL B w pl n j M L I):
 Bld B ((w.setCell ⟨n.1,n.2,none⟩ zN).setCell ⟨j.1,j.2,none⟩ zI) pl n j ⟨L,[],0⟩ (bpl pl n j++(I++[]))/\
  Wr (bpl pl n j) w ((w.setCell ⟨n.1,n.2,none⟩ zN).setCell ⟨j.1,j.2,none⟩ zI):=by
 obtain⟨D,U,dis⟩:=ln.1 h.fr.nodup;simp only[bpl,List.nodup_cons,List.mem_cons,List.not_mem_nil,or_false,not_or]at D;have o1:∀p:Pos,p≠n->p≠j->((w.setCell ⟨n.1,n.2,none⟩ zN).setCell ⟨j.1,j.2,none⟩ zI).cell? ⟨p.1,p.2,none⟩=w.cell? ⟨p.1,p.2,none⟩:=by
  intro p N Q;rw[xaa,if_neg (by rintro⟨q1,q2⟩;exact Q (Prod.ext q1 q2)),xaa,if_neg (by rintro⟨q1,q2⟩;exact N (Prod.ext q1 q2))]
 obtain⟨u,R⟩:=Option.isSome_iff_exists.1 h.cp;obtain⟨Y,J⟩:=Option.isSome_iff_exists.1 h.cd;have q:∀p∈I,p≠n/\p≠j:=fun p z=>⟨fun e=>dis n (by simp[bpl]) p z e.symm,fun e=>dis j (by simp[bpl]) p z e.symm⟩
 refine⟨⟨⟨M,.slice none 0 0,I,[],?_,?_,?_,?_,Sl.nil,rfl⟩,?_⟩,?_⟩
 ·rw[o1 pl D.1.1 D.1.2];exact h.cl
 ·rw[xaa,if_neg (by rintro⟨q1,q2⟩;exact D.2.1 (Prod.ext q1 q2)),xaa,if_pos ⟨rfl,rfl⟩,R];rfl
 ·rw[xaa,if_pos ⟨rfl,rfl⟩,xaa,if_neg (by rintro⟨q1,q2⟩;exact D.2.1 (Prod.ext q1 q2).symm),J];rfl
 ·exact h.sl.keep fun p z=>o1 p (q p z).1 (q p z).2
 ·rw[List.append_nil];exact(h.fr.put _ _).put _ _
 ·exact((Wr.refl _ _).put (by simp[bpl]) _).put (by simp[bpl]) _
theorem BL.row {B:Nat}{w:World}{pl I D:Pos}{j:Value}{L:List zaa}{n:List Pos}(h:BL B w pl I D j L n):∃fs,n=rowP 3 j++fs/\Row B w j L fs:=by
 obtain⟨fs,e⟩:=h.sl.split;refine⟨fs,e,?_,?_,?_⟩
 ·rw[<-e];exact h.sl
 ·have:=h.fr;rw[e]at this;exact this.right.left
 ·have:=h.fr.nodup;rw[e]at this;obtain⟨_,z,_⟩:=ln.1 this;exact fun p q u=>(ln.1 z).2.2 p u p q rfl
theorem Bld.open {B:Nat}{w:World}{pl n j:Pos}{s:Bst}{fp:List Pos}(h:Bld B w pl n j s fp):
 ∃z u p q,BL B w pl n j z s.list p/\w.cell? ⟨n.1,n.2,none⟩=some u/\w.cell? ⟨j.1,j.2,none⟩=some (.int .i64 s.drop)/\Sl BIG w u s.put q/\fp=bpl pl n j++(p++q)/\Qaa B w fp:=by
 obtain⟨⟨z,u,p,q,M,D,I,N,Q,rfl⟩,J⟩:=h;have:Qaa B w (bpl pl n j++p):=J.pre2;exact⟨z,u,p,q,⟨M,by rw[D];rfl,by rw[I];rfl,N,this⟩,D,I,Q,rfl,J⟩
theorem Wr.trans2 {z D:List Pos}{a b c:World}(h:Wr z a b)(k:Wr D b c)(B:∀p∈D,p∈z\/a<=p.1):Wr z a c:=
 ⟨k.os.trans h.os,k.tape.trans h.tape,k.output.trans h.output,Nat.le_trans h.size k.size,
  fun p j n=>(k.cell p (lq j h.size) fun u=>(B p u).elim n fun h=>by omega).trans (h.cell p j n),
  fun p j=>(k.frozen p (lq j h.size)).trans (h.frozen p j),
  fun q n u=>(k.block q (lq n h.size) fun p j=>(B p j).elim (u p) fun h=>by omega).trans (h.block q n u)⟩
theorem qaZ {p:Pos}{b l q:List Pos}(h:p∈b++l):p∈b++(l++q):=by
 rcases lm.1 h with h|h<;>simp[h]
theorem Zbg {p:Pos}{b l q:List Pos}(h:p∈b++(l++[])):p∈b++(l++q):=by
 rw[List.append_nil]at h;exact qaZ h
theorem Src.drew {α:Type}[GoT α]{w:World}{v:Value}{n:List α}{j:List Pos}(h:Src w v n j):Src w.drew v n j:=by
 obtain⟨p,c,news,q,u,z⟩:=h;exact⟨p,c,news,q,u.keep fun _ _=>rfl,z⟩
theorem BL.app2 {B:Nat}{w W N:World}{pl I D:Pos}{M J:Value}{L:List zaa}{u fs z:List Pos}{x:zaa}(h:BL B w pl I D M L u)(Q:Qaa B w (bpl pl I D++(u++z)))(q:Live w z)(hb:Below w w W)
 (R:u=rowP 3 M++fs) (Z:Row B N J (L++[x]) (fs++z)) (hw:Wr (rowP 3 M) W N) (Y:∀p∈rowP 3 J,p∈rowP 3 M\/W<=p.1):
 ∃n,BL B (N.setCell ⟨pl.1,pl.2,none⟩ J) pl I D J (L++[x]) n/\Wr (bpl pl I D++(u++z)) w (N.setCell ⟨pl.1,pl.2,none⟩ J)/\∀p∈n,p∈u++z\/w<=p.1:=by
 have U:∀p∈bpl pl I D++(u++z),p.1<w:=by
  intro p j;rcases lm.1 j with j|j
  ·exact Live.lt h.live p (lm.2 (.inl j))
  ·rcases lm.1 j with j|j
   ·exact Live.lt h.live p (lm.2 (.inr j))
   ·exact Live.lt q p j
 obtain⟨n,k1,k2,k3,_,_⟩:=h.app hb (Q.belowL hb U) (q.keep (Live.same_below hb (Live.lt q))) R Z hw Y;refine⟨n,k1,(Wr.of_below hb).trans (k2.sub fun _ j=>qaZ j),fun p j=> ?_⟩
 rcases k3 p j with k|k|k
 ·exact .inl (lm.2 (.inl k))
 ·exact .inl (lm.2 (.inr k))
 ·exact .inr (Nat.le_trans hb.size k)
theorem Kaq.done {B:Nat}{w D:World}{pl q n:Pos}{R:Value}{L:List zaa}{u z:List Pos}{s:Bst}(J:s=⟨L,[],0⟩)(h:BL B D pl q n R L u)(M:Wr (bpl pl q n++z) w D)(I:∀p∈u,p∈z\/w<=p.1):
 Kaq B w pl q n s (bpl pl q n++z) (.returned (.tuple #[])) ((D.setCell ⟨q.1,q.2,none⟩ zN).setCell ⟨n.1,n.2,none⟩ zI):=by
 subst J;obtain⟨N,Q⟩:=h.close;refine⟨rfl,_,N,M.trans (Q.sub fun _ j=>lm.2 (.inl j)),fun p j=> ?_⟩
 rcases lm.1 j with j|j
 ·exact .inl (lm.2 (.inl j))
 ·rw[List.append_nil]at j;rcases I p j with k|k
  ·exact .inl (lm.2 (.inr k))
  ·exact .inr k
theorem yas (B g:Nat)(s:Bst)(fp:List Pos)(w:World)(h:Bld B w (g,0) (g,1) (g,2) s fp)(hB:B<=w.heap.size)(hl:s.list.length<=1000000)(hd0:0<=s.drop)(hd1:s.drop<=1000000):
 Calls Tryz.prog 179 #[.pointer (some ⟨g,0,none⟩)] w (Kaq B w (g,0) (g,1) (g,2) s.flush fp):=by
 obtain⟨i0,hi,hz0,hz1,hz2⟩:=info_parts uam;obtain⟨vl,vp,fl,fq,hbl,hp_,hd_,sq,rfl,z⟩:=h.open;have rq:RdS w vp s.put:=⟨_,sq⟩;have hlen:=fun w1 ty=>rq.len Tryz.underlying31 w1 ty
 obtain⟨ap,cp,rfl⟩:=rq.isSlice;have hlb:=sq.leM;have hlw:=Live.lt hbl.live;have u:g<w.heap.size:=hlw (g,0) (by simp[bpl])
 have z0:w.frozen? ⟨g,0,none⟩=false:=z.free (g,0) (by simp[bpl])
 have z1:w.frozen? ⟨g,1,none⟩=false:=z.free (g,1) (by simp[bpl])
 have z2:w.frozen? ⟨g,2,none⟩=false:=z.free (g,2) (by simp[bpl])
 have c0:w.cell? ⟨g,0,none⟩=some vl:=hbl.cl;have U:w.cell? ⟨g,1,none⟩=some (.slice ap s.put.length cp):=hp_;have hd:w.cell? ⟨g,2,none⟩=some (.int .i64 s.drop):=hd_;clear hp_ hd_;obtain⟨fs,hfe_,a1⟩:=hbl.row;have I:=hH hfe_;clear hfe_;by_cases Y:s.put=[]
 ·by_cases hd2:0<s.drop
  ·have HF:Hid (s.flush=⟨s.list++[⟨3,s.drop,[]⟩],[],0⟩):=hH (by simp[Bst.flush,Y,hd2])
   have hln:¬0<s.put.length:=by rw[Y];simp
   have j:Below w w (w.alloc (.cells #[.int .i64 3,s.drop,zN] 122)).drew:=((lf _ _).alloc (lr _) _).drew;have Q:=hH (zai w 3 s.drop _ [] [] 122 Sl.nil).drew;have k1A:s.list.length+[(⟨3,s.drop,[]⟩:zaa)].length<=BIG:=Xab (by simp;omega)
   have k2A:(s.list.length+[(⟨3,s.drop,[]⟩:zaa)].length)*40<=140737488355328:=by simp;omega
   have k3A:B<=(w.alloc (.cells #[.int .i64 3,s.drop,zN] 122)).drew.heap.size:=by simp;omega
   have K1A:=hH k1A;have K2A:=hH k2A;have K3A:=hH k3A;clear k1A k2A k3A;have n0A:((g,0):Pos)∉rowP (GoT.n zaa) (vl):=fun D=>(ln.1 z.nodup).2.2 (g,0) (by simp[bpl]) (g,0) (by rw[I.out];first|exact lm.2 (.inl (lm.2 (.inl D)))|exact lm.2 (.inl D)) rfl
   have n1A:((g,1):Pos)∉rowP (GoT.n zaa) (vl):=fun D=>(ln.1 z.nodup).2.2 (g,1) (by simp[bpl]) (g,1) (by rw[I.out];first|exact lm.2 (.inl (lm.2 (.inl D)))|exact lm.2 (.inl D)) rfl
   have n2A:((g,2):Pos)∉rowP (GoT.n zaa) (vl):=fun D=>(ln.1 z.nodup).2.2 (g,2) (by simp[bpl]) (g,2) (by rw[I.out];first|exact lm.2 (.inl (lm.2 (.inl D)))|exact lm.2 (.inl D)) rfl
   have N:∀p∈([]:List Pos),p∉rowP (GoT.n zaa) vl:=fun _ h=>(by cases h)
   have hfr2:Qaa B w (bpl (g,0) (g,1) (g,2)++(fl++[])):=by rw[List.append_nil];exact z.pre2
   have M:=hH a1;clear Y h a1 hlen;go_enter Tryz.func179,Tryz.ntmps179
   go_wp2;go_region_law ((refine yad (by rfl) (.tmp 31) (.tmp 37) 30 (by rfl) Tryz.underlying30 hi hz0 hz1 hz2 rfl (by rfl) (by rfl) (M.out.below j) Q.out N K1A.out K2A.out K3A.out ?_;intro vA J Z q hnA;obtain⟨aA,cA,rfl⟩:=Z.rd.isSlice;have q0A:J.cell? ⟨g,0,none⟩=some vl:=jag j q c0 n0A;have q1A:J.frozen? ⟨g,0,none⟩=false:=(q.frozen (g,0) (lq u j.size)).trans ((j.frozen (p:=⟨g,0,none⟩) u).trans z0);have q2A:J.cell? ⟨g,1,none⟩=some (.slice ap s.put.length cp):=jag j q U n1A;have q3A:J.frozen? ⟨g,1,none⟩=false:=(q.frozen (g,1) (lq u j.size)).trans ((j.frozen (p:=⟨g,1,none⟩) u).trans z1);have q4A:J.cell? ⟨g,2,none⟩=some (.int .i64 s.drop):=jag j q hd n2A;have q5A:J.frozen? ⟨g,2,none⟩=false:=(q.frozen (g,2) (lq u j.size)).trans ((j.frozen (p:=⟨g,2,none⟩) u).trans z2)))
   all_goals
    obtain⟨fl',kb,kw,kn⟩:=hbl.app2 hfr2 (Live.nil _) j I.out Z q hnA;simp only[List.length_append,List.length_singleton]at kb kw;have KB:=hH kb;have KW:=hH kw;have KN:=hH kn;clear kb kw kn Z q hnA;go_wp2;go_end0
    exact Kaq.done HF.out KB.out (KW.out.sub fun _ U=>Zbg U) (fun p U=>(KN.out p U).imp (fun h=>by rw[List.append_nil]at h;exact lm.2 (.inl h)) id)
  ·have hd3:s.drop=0:=om;have HF:Hid (s.flush=⟨s.list,[],0⟩):=hH (by simp[Bst.flush,Y,hd2])
   have hln:¬0<s.put.length:=by rw[Y];simp
   rw[hd3]at hd;clear Y hd2 hd3 h hlen;go_enter Tryz.func179,Tryz.ntmps179
   go_wp2;go_end0
   exact Kaq.done HF.out hbl (Wr.refl _ _) (fun _ U=> .inl (lm.2 (.inl U)))
 ·have hln:0<s.put.length:=List.length_pos_iff.2 Y;by_cases hd2:0<s.drop
  ·have HF:Hid (s.flush=⟨s.list++[⟨2,0,s.put⟩]++[⟨3,s.drop,[]⟩],[],0⟩):=hH (by simp[Bst.flush,Y,hd2])
   have j:Below w w (w.alloc (.cells #[.int .i64 2,zI,.slice ap s.put.length cp] 122)).drew:=((lf _ _).alloc (lr _) _).drew;have Q:=hH (zai w 2 0 _ s.put fq 122 sq).drew;have k1A:s.list.length+[(⟨2,0,s.put⟩:zaa)].length<=BIG:=Xab (by simp;omega)
   have k2A:(s.list.length+[(⟨2,0,s.put⟩:zaa)].length)*40<=140737488355328:=by simp;omega
   have k3A:B<=(w.alloc (.cells #[.int .i64 2,zI,.slice ap s.put.length cp] 122)).drew.heap.size:=by simp;omega
   have K1A:=hH k1A;have K2A:=hH k2A;have K3A:=hH k3A;clear k1A k2A k3A;have n0A:((g,0):Pos)∉rowP (GoT.n zaa) (vl):=fun D=>(ln.1 z.nodup).2.2 (g,0) (by simp[bpl]) (g,0) (by rw[I.out];first|exact lm.2 (.inl (lm.2 (.inl D)))|exact lm.2 (.inl D)) rfl
   have n1A:((g,1):Pos)∉rowP (GoT.n zaa) (vl):=fun D=>(ln.1 z.nodup).2.2 (g,1) (by simp[bpl]) (g,1) (by rw[I.out];first|exact lm.2 (.inl (lm.2 (.inl D)))|exact lm.2 (.inl D)) rfl
   have n2A:((g,2):Pos)∉rowP (GoT.n zaa) (vl):=fun D=>(ln.1 z.nodup).2.2 (g,2) (by simp[bpl]) (g,2) (by rw[I.out];first|exact lm.2 (.inl (lm.2 (.inl D)))|exact lm.2 (.inl D)) rfl
   have N:∀p∈fq,p∉rowP (GoT.n zaa) vl:=fun p U hq=>(ln.1 (ln.1 z.nodup).2.1).2.2 p (by rw[I.out];exact lm.2 (.inl hq)) p U rfl
   have M:=hH a1;have hbnd:s.drop<=1000000:=hd1;clear Y h a1;go_enter Tryz.func179,Tryz.ntmps179
   go_wp2;go_region_law ((refine yad (by rfl) (.tmp 12) (.tmp 18) 30 (by rfl) Tryz.underlying30 hi hz0 hz1 hz2 rfl (by rfl) (by rfl) (M.out.below j) Q.out N K1A.out K2A.out K3A.out ?_;intro vA J Z q hnA;obtain⟨aA,cA,rfl⟩:=Z.rd.isSlice;have q0A:J.cell? ⟨g,0,none⟩=some vl:=jag j q c0 n0A;have q1A:J.frozen? ⟨g,0,none⟩=false:=(q.frozen (g,0) (lq u j.size)).trans ((j.frozen (p:=⟨g,0,none⟩) u).trans z0);have q2A:J.cell? ⟨g,1,none⟩=some (.slice ap s.put.length cp):=jag j q U n1A;have q3A:J.frozen? ⟨g,1,none⟩=false:=(q.frozen (g,1) (lq u j.size)).trans ((j.frozen (p:=⟨g,1,none⟩) u).trans z1);have q4A:J.cell? ⟨g,2,none⟩=some (.int .i64 s.drop):=jag j q hd n2A;have q5A:J.frozen? ⟨g,2,none⟩=false:=(q.frozen (g,2) (lq u j.size)).trans ((j.frozen (p:=⟨g,2,none⟩) u).trans z2)))
   all_goals
    obtain⟨fl',kb,kw,kn⟩:=hbl.app2 z sq.live j I.out Z q hnA;simp only[List.length_append,List.length_singleton]at kb kw;have hLL:(s.list++[(⟨2,0,s.put⟩:zaa)]).length<=1000001:=by simp;omega
    have sBA:w<=J.heap.size:=Nat.le_trans j.size q.size;have c0B:(J.setCell ⟨g,0,none⟩ (.slice aA (s.list.length+1) cA)).cell? ⟨g,0,none⟩=some (.slice aA (s.list.length+1) cA):=kb.cl;have cpB:(J.setCell ⟨g,0,none⟩ (.slice aA (s.list.length+1) cA)).cell? ⟨g,1,none⟩=some (.slice ap s.put.length cp):=by rw[xaa,if_neg sm];exact q2A
    have cdB:(J.setCell ⟨g,0,none⟩ (.slice aA (s.list.length+1) cA)).cell? ⟨g,2,none⟩=some (.int .i64 s.drop):=by rw[xaa,if_neg sm];exact q4A
    have z0B:(J.setCell ⟨g,0,none⟩ (.slice aA (s.list.length+1) cA)).frozen? ⟨g,0,none⟩=false:=by rw[World.frozen?_setCell];exact q1A
    have z1B:(J.setCell ⟨g,0,none⟩ (.slice aA (s.list.length+1) cA)).frozen? ⟨g,1,none⟩=false:=by rw[World.frozen?_setCell];exact q3A
    have z2B:(J.setCell ⟨g,0,none⟩ (.slice aA (s.list.length+1) cA)).frozen? ⟨g,2,none⟩=false:=by rw[World.frozen?_setCell];exact q5A
    clear q0A q1A q2A q3A q4A q5A Z q hnA n0A n1A n2A Q K1A K2A K3A M N;clear c0 U hd z0 z1 z2;generalize hw2:J.setCell ⟨g,0,none⟩ (.slice aA (s.list.length+1) cA)=w2 at kb kw c0B cpB cdB z0B z1B z2B⊢;have hs2:w<=w2.heap.size:=by rw[<-hw2];simpa using sBA
    have a0:g<w2.heap.size:=lq u hs2;have hB2:B<=w2.heap.size:=Nat.le_trans hB hs2;clear hw2;obtain⟨fs2,hfe2,hrow2⟩:=kb.row;have HFE2:=hH hfe2;have HROWB:=hH hrow2;have KB:=hH kb;have KW:=hH kw;have KN:=hH kn;have hfrB:=kb.fr;clear hfe2 hrow2 kw kn;have R:Below w2 w2 (w2.alloc (.cells #[.int .i64 3,s.drop,zN] 122)).drew:=((lf _ _).alloc (lr _) _).drew;have hsrcB:=hH (zai w2 3 s.drop _ [] [] 122 Sl.nil).drew;have k1B:(s.list++[(⟨2,0,s.put⟩:zaa)]).length+[(⟨3,s.drop,[]⟩:zaa)].length<=BIG:=Xab (by have:=hLL;simp at this⊢;omega)
    have k2B:((s.list++[(⟨2,0,s.put⟩:zaa)]).length+[(⟨3,s.drop,[]⟩:zaa)].length)*40<=140737488355328:=by have:=hLL;simp at this⊢;omega
    have k3B:B<=(w2.alloc (.cells #[.int .i64 3,s.drop,zN] 122)).drew.heap.size:=by have:=hLL;simp at this⊢;omega
    have K1B:=hH k1B;have K2B:=hH k2B;have K3B:=hH k3B;clear k1B k2B k3B;have n0B:((g,0):Pos)∉rowP (GoT.n zaa) (.slice aA (s.list.length+1) cA):=fun D=>(ln.1 hfrB.nodup).2.2 (g,0) (by simp[bpl]) (g,0) (by rw[HFE2.out];first|exact lm.2 (.inl (lm.2 (.inl D)))|exact lm.2 (.inl D)) rfl
    have n1B:((g,1):Pos)∉rowP (GoT.n zaa) (.slice aA (s.list.length+1) cA):=fun D=>(ln.1 hfrB.nodup).2.2 (g,1) (by simp[bpl]) (g,1) (by rw[HFE2.out];first|exact lm.2 (.inl (lm.2 (.inl D)))|exact lm.2 (.inl D)) rfl
    have n2B:((g,2):Pos)∉rowP (GoT.n zaa) (.slice aA (s.list.length+1) cA):=fun D=>(ln.1 hfrB.nodup).2.2 (g,2) (by simp[bpl]) (g,2) (by rw[HFE2.out];first|exact lm.2 (.inl (lm.2 (.inl D)))|exact lm.2 (.inl D)) rfl
    have hdisB:∀p∈([]:List Pos),p∉rowP (GoT.n zaa) (.slice aA (s.list.length+1) cA):=fun _ h=>(by cases h)
    have hfr2:Qaa B w2 (bpl (g,0) (g,1) (g,2)++(fl'++[])):=by rw[List.append_nil];exact hfrB
    clear hLL kb hfrB z;go_wp2;go_region_law ((refine yad (by rfl) (.tmp 31) (.tmp 37) 30 (by rfl) Tryz.underlying30 hi hz0 hz1 hz2 rfl (by rfl) (by rfl) (HROWB.out.below R) hsrcB.out hdisB K1B.out K2B.out K3B.out ?_;intro vB wB hrB hwB hnB;obtain⟨aB,cB,rfl⟩:=hrB.rd.isSlice;have q0B:wB.cell? ⟨g,0,none⟩=some (.slice aA (s.list.length+1) cA):=jag R hwB c0B n0B;have q1B:wB.frozen? ⟨g,0,none⟩=false:=(hwB.frozen (g,0) (lq a0 R.size)).trans ((R.frozen (p:=⟨g,0,none⟩) a0).trans z0B);have q2B:wB.cell? ⟨g,1,none⟩=some (.slice ap s.put.length cp):=jag R hwB cpB n1B;have q3B:wB.frozen? ⟨g,1,none⟩=false:=(hwB.frozen (g,1) (lq a0 R.size)).trans ((R.frozen (p:=⟨g,1,none⟩) a0).trans z1B);have q4B:wB.cell? ⟨g,2,none⟩=some (.int .i64 s.drop):=jag R hwB cdB n2B;have q5B:wB.frozen? ⟨g,2,none⟩=false:=(hwB.frozen (g,2) (lq a0 R.size)).trans ((R.frozen (p:=⟨g,2,none⟩) a0).trans z2B)))
    all_goals
     obtain⟨fl2,kb,kw,kn⟩:=KB.out.app2 hfr2 (Live.nil _) R HFE2.out hrB hwB hnB;simp only[List.length_append,List.length_singleton]at kb kw;have KB2:=hH kb;have KW2:=hH (KW.out.trans2 kw fun p U=>by
      rw[List.append_nil]at U;rcases lm.1 U with U|U
      ·exact .inl (lm.2 (.inl U))
      ·exact(KN.out p U).imp (fun h=>lm.2 (.inr h)) id)
     have KN2:Hid (∀p∈fl2,p∈fl++fq\/w<=p.1):=hH fun p U=>by
      rcases kn p U with k|k
      ·rw[List.append_nil]at k;exact KN.out p k
      ·exact .inr (Nat.le_trans hs2 k)
     clear kb kw kn hrB hwB hnB;go_wp2;go_end0
     exact Kaq.done HF.out KB2.out KW2.out KN2.out
  ·have hd3:s.drop=0:=om;have HF:Hid (s.flush=⟨s.list++[⟨2,0,s.put⟩],[],0⟩):=hH (by simp[Bst.flush,Y,hd2])
   rw[hd3]at hd;clear hd3;have j:Below w w (w.alloc (.cells #[.int .i64 2,zI,.slice ap s.put.length cp] 122)).drew:=((lf _ _).alloc (lr _) _).drew;have Q:=hH (zai w 2 0 _ s.put fq 122 sq).drew;have k1A:s.list.length+[(⟨2,0,s.put⟩:zaa)].length<=BIG:=Xab (by simp;omega)
   have k2A:(s.list.length+[(⟨2,0,s.put⟩:zaa)].length)*40<=140737488355328:=by simp;omega
   have k3A:B<=(w.alloc (.cells #[.int .i64 2,zI,.slice ap s.put.length cp] 122)).drew.heap.size:=by simp;omega
   have K1A:=hH k1A;have K2A:=hH k2A;have K3A:=hH k3A;clear k1A k2A k3A;have n0A:((g,0):Pos)∉rowP (GoT.n zaa) (vl):=fun D=>(ln.1 z.nodup).2.2 (g,0) (by simp[bpl]) (g,0) (by rw[I.out];first|exact lm.2 (.inl (lm.2 (.inl D)))|exact lm.2 (.inl D)) rfl
   have n1A:((g,1):Pos)∉rowP (GoT.n zaa) (vl):=fun D=>(ln.1 z.nodup).2.2 (g,1) (by simp[bpl]) (g,1) (by rw[I.out];first|exact lm.2 (.inl (lm.2 (.inl D)))|exact lm.2 (.inl D)) rfl
   have n2A:((g,2):Pos)∉rowP (GoT.n zaa) (vl):=fun D=>(ln.1 z.nodup).2.2 (g,2) (by simp[bpl]) (g,2) (by rw[I.out];first|exact lm.2 (.inl (lm.2 (.inl D)))|exact lm.2 (.inl D)) rfl
   have N:∀p∈fq,p∉rowP (GoT.n zaa) vl:=fun p U hq=>(ln.1 (ln.1 z.nodup).2.1).2.2 p (by rw[I.out];exact lm.2 (.inl hq)) p U rfl
   have M:=hH a1;clear Y hd2 h a1;go_enter Tryz.func179,Tryz.ntmps179
   go_wp2;go_region_law ((refine yad (by rfl) (.tmp 12) (.tmp 18) 30 (by rfl) Tryz.underlying30 hi hz0 hz1 hz2 rfl (by rfl) (by rfl) (M.out.below j) Q.out N K1A.out K2A.out K3A.out ?_;intro vA J Z q hnA;obtain⟨aA,cA,rfl⟩:=Z.rd.isSlice;have q0A:J.cell? ⟨g,0,none⟩=some vl:=jag j q c0 n0A;have q1A:J.frozen? ⟨g,0,none⟩=false:=(q.frozen (g,0) (lq u j.size)).trans ((j.frozen (p:=⟨g,0,none⟩) u).trans z0);have q2A:J.cell? ⟨g,1,none⟩=some (.slice ap s.put.length cp):=jag j q U n1A;have q3A:J.frozen? ⟨g,1,none⟩=false:=(q.frozen (g,1) (lq u j.size)).trans ((j.frozen (p:=⟨g,1,none⟩) u).trans z1);have q4A:J.cell? ⟨g,2,none⟩=some (.int .i64 0):=jag j q hd n2A;have q5A:J.frozen? ⟨g,2,none⟩=false:=(q.frozen (g,2) (lq u j.size)).trans ((j.frozen (p:=⟨g,2,none⟩) u).trans z2)))
   all_goals
    obtain⟨fl',kb,kw,kn⟩:=hbl.app2 z sq.live j I.out Z q hnA;simp only[List.length_append,List.length_singleton]at kb kw;have KB:=hH kb;have KW:=hH kw;have KN:=hH kn;clear kb kw kn Z q hnA;go_wp2;go_end0
    exact Kaq.done HF.out KB.out KW.out KN.out
theorem vau:(Tryz.prog.info? 3).map (fun i=>(i.zero,i.size,i.bytes))=some (some (.int .i64 0),1,8):=by kernel_rfl
theorem jaJ {M:Nat}{w:World}{c:List Value}{x:Int}{f:List Pos}(h:GoT.rd M w c x f):f=[]:=h.2
theorem Src.ints2 {w:World}{v:Value}{l:List Int}(h:RdS w v l):Src w v l []:=by
 obtain⟨u,n,c,news,p,j,q⟩:=h.src;have:=Els.flat (α:=Int) jaJ j;subst this;exact⟨n,c,news,p,j,q⟩
theorem Bld.puts {B:Nat}{w M:World}{pl n z:Pos}{s:Bst}{D U:List Pos}{vl Q J:Value}{l:List Int}(I:BL B w pl n z vl s.list D)(hd:w.cell? ⟨z.1,z.2,none⟩=some (.int .i64 s.drop))(sq:Sl BIG w Q s.put U)
 (Y:Qaa B w (bpl pl n z++(D++U))) (hr:Row B M J (s.put++l) []) (hw:Wr (rowP 1 Q) w M) (hn:∀p∈rowP 1 J,p∈rowP 1 Q\/w<=p.1) (he:U=rowP 1 Q):
 ∃R,Bld B (M.setCell ⟨n.1,n.2,none⟩ J) pl n z (s.puts l) R/\Wr (bpl pl n z++(D++U)) w (M.setCell ⟨n.1,n.2,none⟩ J)/\∀p∈R,p∈bpl pl n z++(D++U)\/w<=p.1:=by
 subst he;have Z:∀p∈bpl pl n z++(D++rowP 1 Q),p.1<w:=by
  intro p j;rcases lm.1 j with j|j
  ·exact Live.lt I.live p (lm.2 (.inl j))
  ·rcases lm.1 j with j|j
   ·exact Live.lt I.live p (lm.2 (.inr j))
   ·exact Live.lt sq.live p j
 obtain⟨n3,nf,dis⟩:=ln.1 Y.nodup;obtain⟨nl,_,dlq⟩:=ln.1 nf;have e1:pl≠n:=by intro e;simp only[bpl,List.nodup_cons,List.mem_cons,not_or]at n3;exact n3.1.1 e
 have e2:n≠z:=by intro e;simp only[bpl,List.nodup_cons,List.mem_cons,List.not_mem_nil,or_false,not_or]at n3;exact n3.2.1 e
 have ho:∀p∈bpl pl n z++D,p∉rowP 1 Q:=by
  intro p j N;rcases lm.1 j with j|j
  ·exact dis p j p (by simp[N]) rfl
  ·exact dlq p j p N rfl
 have c1:∀p∈bpl pl n z++D,M.cell? ⟨p.1,p.2,none⟩=w.cell? ⟨p.1,p.2,none⟩:=fun p j=>hw.cell p (Z p (qaZ j)) (ho p j)
 have ot:∀p:Pos,p≠n->(M.setCell ⟨n.1,n.2,none⟩ J).cell? ⟨p.1,p.2,none⟩=M.cell? ⟨p.1,p.2,none⟩:=by
  intro p j;rw[xaa,if_neg];rintro⟨q1,q2⟩;exact j (Prod.ext q1 q2)
 have hpr:∀p∈rowP 1 J,p≠n:=by
  rintro p j rfl;rcases hn p j with j|j
  ·exact ho p (by simp[bpl]) j
  ·have:=Z p (by simp[bpl]);omega
 have hpl:∀p∈D,p≠n:=by
  rintro p j rfl;exact dis p (by simp[bpl]) p (by simp[j]) rfl
 obtain⟨u,hu⟩:=Option.isSome_iff_exists.1 I.cp;refine⟨bpl pl n z++(D++rowP 1 J),⟨⟨vl,J,D,rowP 1 J,?_,?_,?_,?_,?_,rfl⟩,?_⟩,?_,?_⟩
 ·rw[ot pl e1,c1 pl (by simp[bpl])];exact I.cl
 ·rw[xaa,if_pos ⟨rfl,rfl⟩,c1 n (by simp[bpl]),hu];rfl
 ·rw[ot z (Ne.symm e2),c1 z (by simp[bpl])];exact hd
 ·exact I.sl.keep fun p j=>(ot p (hpl p j)).trans (c1 p (by simp[j]))
 ·have:=hr.1;rw[List.append_nil]at this;exact this.keep fun p j=>ot p (hpr p j)
 ·refine Qaa.put ?_ _ _;have f1:Qaa B M (bpl pl n z++D):=Y.pre2.wr2 (lf _ _) hw fun p j=>Z p (qaZ j)
  rw[<-List.append_assoc];refine f1.join hr.2.1 fun p j q N e=> ?_
  subst e;rcases hn p N with N|N
  ·exact ho p j N
  ·have:=Z p (qaZ j);omega
 ·exact(hw.sub fun p j=>by simp[j]).put (by simp[bpl]) _
 ·intro p j;rw[<-List.append_assoc]at j;rcases lm.1 j with j|j
  ·exact .inl (qaZ j)
  ·exact(hn p j).imp (fun h=>by simp[h]) id
theorem Qaq (B g:Nat)(s:Bst)(fp:List Pos)(v:Value)(l:List Int)(w:World)(h:Bld B w (g,0) (g,1) (g,2) s fp)(hB:B<=w.heap.size)(hv:RdS w v l)(hl:s.put.length+l.length<=1000000):
 Calls Tryz.prog 175 #[.pointer (some ⟨g,0,none⟩),v] w (Kaq B w (g,0) (g,1) (g,2) (s.puts l) fp):=by
 obtain⟨i0,hi,Z,a0,a2⟩:=info_parts vau;obtain⟨vl,u,fl,fq,I,M,J,sq,rfl,n⟩:=h.open;have R:g<w.heap.size:=Live.lt I.live (g,0) (by simp[bpl])
 have U:w.cell? ⟨g,1,none⟩=some u:=M;have z1:w.frozen? ⟨g,1,none⟩=false:=n.free (g,1) (by simp[bpl])
 have j:fq=rowP 1 u:=sq.flat (α:=Int) jaJ;have q:Row B w u s.put []:=by
  refine⟨?_,?_,fun _ h=>(by cases h)⟩
  ·rw[List.append_nil];show Sl BIG w u s.put (rowP 1 u);rw[<-j];exact sq
  ·have:=n.right.right;rw[j]at this;exact this
 have n1:((g,1):Pos)∉rowP 1 u:=fun hm=>(ln.1 n.nodup).2.2 (g,1) (by simp[bpl]) (g,1) (by rw[j];simp[hm]) rfl
 have Q:=hH j;have z:=hH q;have D:=hH (Src.ints2 hv);have HD:=hH J;clear j q J M h;go_enter Tryz.func175,Tryz.ntmps175
 go_wp2_with (at_builtin;refine qaa rfl _ _ 31 rfl Tryz.underlying31 hi Z a0 a2 rfl rfl rfl z.out D.out (fun _ h=>by cases h) ?c1 ?c2 ?c3 ?_)
 case c1=>exact Xab om
 case c2=>omega
 intro v' w1 Y N hn;obtain⟨a1,c1,rfl⟩:=Y.rd.isSlice;have q0:w1.cell? ⟨g,1,none⟩=some u:=jag (lf _ _) N U n1;have q1:w1.frozen? ⟨g,1,none⟩=false:=(N.frozen (g,1) R).trans z1;have HX:=hH (Bld.puts I HD.out sq n Y N (fun p U=>hn p.1 p.2 U) Q.out)
 simp only[List.length_append]at HX;clear Y N hn;go_wp2;go_end0
 exact⟨rfl,HX.out⟩
theorem Bld.dropd {B:Nat}{w:World}{pl D j:Pos}{s:Bst}{fp:List Pos}(h:Bld B w pl D j s fp)(n:Int):Bld B (w.setCell ⟨j.1,j.2,none⟩ (.int .i64 (s.drop+n))) pl D j (s.drops n) fp/\Wr fp w (w.setCell ⟨j.1,j.2,none⟩ (.int .i64 (s.drop+n))):=by
 obtain⟨⟨vl,vp,I,J,U,Y,Z,h4,h5,rfl⟩,M⟩:=h;obtain⟨u,nf,dis⟩:=ln.1 M.nodup;have Q:pl≠j:=by intro e;simp only[bpl,List.nodup_cons,List.mem_cons,not_or]at u;exact u.1.2.1 e
 have R:D≠j:=by intro e;simp only[bpl,List.nodup_cons,List.mem_cons,List.not_mem_nil,or_false,not_or]at u;exact u.2.1 e
 have z:∀p:Pos,p≠j->(w.setCell ⟨j.1,j.2,none⟩ (.int .i64 (s.drop+n))).cell? ⟨p.1,p.2,none⟩=w.cell? ⟨p.1,p.2,none⟩:=by
  intro p q;rw[xaa,if_neg];rintro⟨q1,q2⟩;exact q (Prod.ext q1 q2)
 have N:∀p∈I++J,p≠j:=by
  rintro p q rfl;exact dis p (by simp[bpl]) p q rfl
 refine⟨⟨⟨vl,vp,I,J,(z pl Q).trans U,(z D R).trans Y,?_,h4.keep fun p q=>z p (N p (by simp[q])),h5.keep fun p q=>z p (N p (by simp[q])),rfl⟩,M.put _ _⟩,Wr.setCell w (by simp[bpl]) _⟩
 rw[xaa,if_pos ⟨rfl,rfl⟩,Z];rfl
theorem Qat (B g:Nat)(s:Bst)(fp:List Pos)(n:Int)(w:World)(h:Bld B w (g,0) (g,1) (g,2) s fp)(M:0<=s.drop)(N:s.drop<=1000000)(Q:0<=n)(R:n<=1000000):
 Calls Tryz.prog 176 #[.pointer (some ⟨g,0,none⟩),n] w (Kaq B w (g,0) (g,1) (g,2) (s.drops n) fp):=by
 have u:=hH (h.dropd n);obtain⟨Y,Z,I,J,z,q,j,U,rfl,p⟩:=h.open;have hd:w.cell? ⟨g,2,none⟩=some (.int .i64 s.drop):=j;have z2:w.frozen? ⟨g,2,none⟩=false:=p.free (g,2) (by simp[bpl])
 clear q j;go_enter Tryz.func176,Tryz.ntmps176
 go_wp2;go_end0
 exact⟨rfl,_,u.out.1,u.out.2,fun _ D=> .inl D⟩
theorem KaO (B g:Nat)(s:Bst)(fp:List Pos)(w:World)(h:Bld B w (g,0) (g,1) (g,2) s fp)(Z:B<=w.heap.size)(hl:s.list.length<=1000000)(q:0<=s.drop)(u:s.drop<=1000000):
 Calls Tryz.prog 177 #[.pointer (some ⟨g,0,none⟩)] w (fun e M=>∃v,e= .returned v/\uaf B M v s.flush.list/\Wr fp w M):=by
 go_enter Tryz.func177,Tryz.ntmps177
 go_wp2_with fail
 refine(yas B g s fp _ h Z hl q u).mono ?_;rintro e N ⟨rfl,Y,n,p,D⟩;obtain⟨J,vp,U,fq,j,I,z,sq,rfl,a0⟩:=n.open;have c0:N.cell? ⟨g,0,none⟩=some J:=j.cl;have Q:Hid (uaf B N J s.flush.list):=hH ⟨U,j.sl,j.fr.right⟩;have R:=hH p;clear I z p D n;go_wp2;go_ret;exact⟨_,rfl,Q.out,R.out⟩
theorem Bld.app {B:Nat}{w W Y:World}{pl u n:Pos}{vl vp N:Value}{s:Bst}{z D fs:List Pos}{x:zaa}(h:BL B w pl u n vl s.list z)(j:w.cell? ⟨u.1,u.2,none⟩=some vp)(hd:w.cell? ⟨n.1,n.2,none⟩=some (.int .i64 s.drop))
 (Z:Sl BIG w vp s.put D) (M:Qaa B w (bpl pl u n++(z++D))) (hb:Below w w W) (he:z=rowP 3 vl++fs) (hr:Row B Y N (s.list++[x]) (fs++[])) (hw:Wr (rowP 3 vl) W Y) (hn:∀p∈rowP 3 N,p∈rowP 3 vl\/W<=p.1):
 ∃R,Bld B (Y.setCell ⟨pl.1,pl.2,none⟩ N) pl u n ⟨s.list++[x],s.put,s.drop⟩ R/\Wr (bpl pl u n++(z++D)) w (Y.setCell ⟨pl.1,pl.2,none⟩ N)/\∀p∈R,p∈bpl pl u n++(z++D)\/w<=p.1:=by
 have hl:∀p∈bpl pl u n++(z++D),p.1<w:=by
  intro p j;rcases lm.1 j with j|j
  ·exact Live.lt h.live p (lm.2 (.inl j))
  ·rcases lm.1 j with j|j
   ·exact Live.lt h.live p (lm.2 (.inr j))
   ·exact Live.lt Z.live p j
 have hfx:Qaa B W (bpl pl u n++(z++[])):=by rw[List.append_nil];exact M.pre2.belowL hb fun p j=>hl p (qaZ j)
 obtain⟨J,k1,k2,k3,k4,k5⟩:=h.app hb hfx (Live.nil _) he hr hw hn;obtain⟨n3,nf,dis⟩:=ln.1 M.nodup;obtain⟨_,_,Q⟩:=ln.1 nf;have hqd:∀p∈D,p∉bpl pl u n++z:=by
  intro p j I;rcases lm.1 I with I|I
  ·exact dis p I p (by simp[j]) rfl
  ·exact Q p I p j rfl
 have sq':=Z.wr2 hb k2 hqd;have U:∀p∈J,p∈z\/w<=p.1:=fun p j=>by
  rcases k3 p j with k|k|k
  ·exact .inl k
  ·cases k
  ·exact .inr (Nat.le_trans hb.size k)
 refine⟨bpl pl u n++(J++D),⟨⟨N,vp,J,D,k1.cl,k4.trans j,k5.trans hd,k1.sl,sq',rfl⟩,?_⟩,(Wr.of_below hb).trans (k2.sub fun _ j=>qaZ j),?_⟩
 ·have f1:=k1.fr;have f2:Qaa B (Y.setCell ⟨pl.1,pl.2,none⟩ N) D:=M.right.right.wr2 hb k2 (Live.lt Z.live);rw[<-List.append_assoc];refine f1.join f2 fun p j q I e=> ?_
  subst e;rcases lm.1 j with j|j
  ·exact dis p j p (by simp[I]) rfl
  ·rcases U p j with k|k
   ·exact Q p k p I rfl
   ·have:=Live.lt Z.live p I;omega
 ·intro p j;rcases lm.1 j with j|j
  ·exact .inl (lm.2 (.inl j))
  ·rcases lm.1 j with j|j
   ·exact(U p j).imp (fun k=>by simp[k]) id
   ·exact .inl (by simp[j])
theorem Bld.lastN {B:Nat}{w:World}{pl D z:Pos}{vl vp:Value}{s:Bst}{M N:List Pos}{m:List zaa}{p:zaa}(h:BL B w pl D z vl s.list M)(hp:w.cell? ⟨D.1,D.2,none⟩=some vp)(hd:w.cell? ⟨z.1,z.2,none⟩=some (.int .i64 s.drop))
 (sq:Sl BIG w vp s.put N) (J:Qaa B w (bpl pl D z++(M++N))) (hs:s.list=m++[p]):
 ∃b o,(∀w1,(Instr.indexAt 30 vl (.int .i64 m.length)).run Tryz.prog w1= .ok (.pointer (some ⟨b,o,none⟩)) w1)/\w.cell? ⟨b,o,none⟩=some (.int .i64 p.kind)/\w.cell? ⟨b,o+1,none⟩=some (.int .i64 p.n)/\w.frozen? ⟨b,o+1,none⟩=false/\
  ∀u,Bld B (w.setCell ⟨b,o+1,none⟩ (.int .i64 u)) pl D z ⟨m++[⟨p.kind,u,p.signs⟩],s.put,s.drop⟩ (bpl pl D z++(M++N))/\Wr (bpl pl D z++(M++N)) w (w.setCell ⟨b,o+1,none⟩ (.int .i64 u)):=by
 have U:=h.sl;rw[hs]at U;obtain⟨n3,nf,dis⟩:=ln.1 J.nodup;obtain⟨nl,_,Z⟩:=ln.1 nf;obtain⟨b,o,cs,f,g1,g2,⟨vs,fs,rfl,ss,rfl⟩,g4,g5,gnd,g7⟩:=U.lens nl Tryz.underlying30 uae m.length (x:=p) sm;have Y:=g4 1 (by decide)
 have hm:((b,o+1):Pos)∈bpl pl D z++(M++N):=by simp[Y.1]
 have j:∀q:Pos,q≠(b,o+1)->∀u,(w.setCell ⟨b,o+1,none⟩ (.int .i64 u)).cell? ⟨q.1,q.2,none⟩=w.cell? ⟨q.1,q.2,none⟩:=by
  intro q Q u;rw[xaa,if_neg];rintro⟨q1,q2⟩;exact Q (Prod.ext q1 q2)
 have I:∀q∈bpl pl D z,q≠(b,o+1):=by
  rintro q Q rfl;exact dis _ Q _ (by simp[Y.1]) rfl
 refine⟨b,o,g1,g2.zero,g2 1 _ rfl,J.free _ hm,fun u=>⟨⟨⟨vl,vp,M,N,?_,?_,?_,?_,?_,rfl⟩,J.put _ _⟩,Wr.setCell w hm _⟩⟩
 ·rw[j pl (I pl (by simp[bpl]))];exact h.cl
 ·rw[j D (I D (by simp[bpl]))];exact hp
 ·rw[j z (I z (by simp[bpl]))];exact hd
 ·have R:(m++[p]).set m.length ⟨p.kind,u,p.signs⟩=m++[⟨p.kind,u,p.signs⟩]:=by simp
  rw[<-R];refine g7 _ _ _ (g2.put 1 sm _) ⟨vs,_,rfl,ss.put Y.2 _,rfl⟩ fun q _ _ hn=>j q (hn 1 (by decide)) u
 ·refine sq.keep fun q Q=>j q ?_ u
  rintro rfl;exact Z _ Y.1 _ Q rfl
theorem Bld.drew {B:Nat}{w:World}{pl p n:Pos}{s:Bst}{fp:List Pos}(h:Bld B w pl p n s fp):Bld B w.drew pl p n s fp:=by
 obtain⟨⟨N,Q,q,u,z,D,I,J,M,e⟩,j⟩:=h;exact⟨⟨N,Q,q,u,z,D,I,J.keep fun _ _=>rfl,M.keep fun _ _=>rfl,e⟩,j.nodup,j.ge,j.free⟩
theorem Wr.drew {fp:List Pos}{a w:World}(h:Wr fp a w):Wr fp a w.drew:=⟨h.os,h.tape,h.output,h.size,h.cell,h.frozen,h.block⟩
theorem Kaq.of {B:Nat}{w u q:World}{pl J I:Pos}{s M:Bst}{fp f1 f2:List Pos}(Q:s=M)(D:Wr fp w u)(z:∀p∈f1,p∈fp\/w<=p.1)(hb:Bld B q pl J I M f2)(n:Wr f1 u q)(j:∀p∈f2,p∈f1\/u<=p.1):
 Kaq B w pl J I s fp (.returned (.tuple #[])) q:=by
 subst Q;refine⟨rfl,f2,hb,D.trans2 n z,fun p N=> ?_⟩
 rcases j p N with k|k
 ·exact z p k
 ·exact .inr (Nat.le_trans D.size k)
theorem jar (n:Int):yau [] n=[⟨1,n,[]⟩]:=rfl
theorem Xao (m:List zaa)(p:zaa)(n:Int)(h:p.kind=1):yau (m++[p]) n=m++[⟨p.kind,p.n+n,p.signs⟩]:=by simp[yau,h]
theorem Kak (m:List zaa)(p:zaa)(n:Int)(h:¬p.kind=1):yau (m++[p]) n=m++[p]++[⟨1,n,[]⟩]:=by simp[yau,h]
theorem QaJ (s:Bst):s.flush.list.length<=s.list.length+2:=by
 unfold Bst.flush;simp only[List.length_append];split<;>split<;>simp
theorem yak (B g:Nat)(s:Bst)(fp:List Pos)(n:Int)(w:World)(h:Bld B w (g,0) (g,1) (g,2) s fp)(hB:B<=w.heap.size)(hl:s.list.length<=900000)(hd0:0<=s.drop)(hd1:s.drop<=1000000)(h0:0<=n)(h1:n<=1000000)
 (hbd:∀p∈s.flush.list,0<=p.n/\p.n<=1000000):
 Calls Tryz.prog 174 #[.pointer (some ⟨g,0,none⟩),n] w (Kaq B w (g,0) (g,1) (g,2) (s.keep n) fp):=by
 by_cases N:n=0
 ·have HK:Hid (s.keep n=s):=hH (if_pos N);have e0:(n==0)=true:=by simp[N]
  clear N;go_enter Tryz.func174,Tryz.ntmps174
  go_wp2;go_end0
  rw[HK.out];exact⟨rfl,_,h,Wr.refl _ _,fun _ hp=> .inl hp⟩
 ·have HK:Hid (s.keep n=⟨yau s.flush.list n,[],0⟩):=hH (if_neg N);have e0:(n==0)=false:=by simpa using N
  have HF:Hid (s.flush=⟨s.flush.list,[],0⟩):=hH rfl;have M:=QaJ s;obtain⟨i0,hi,hz0,hz1,hz2⟩:=info_parts uam;clear N;go_enter Tryz.func174,Tryz.ntmps174
  go_wp2_with fail
  refine(yas B g s fp _ h hB om hd0 hd1).mono ?_;rintro e Q ⟨rfl,fp',hb',hw',hn'⟩;obtain⟨L,hL⟩:∃L,s.flush.list=L:=⟨_,rfl⟩;have hfs:s.flush=⟨L,[],0⟩:=by rw[HF.out,hL]
  rw[hfs]at hb';rw[hL]at M hbd;have HK2:Hid (s.keep n=⟨yau L n,[],0⟩):=by rw[<-hL];exact HK
  obtain⟨vl,vp,fl,fq,j,D,z,sq,rfl,q⟩:=hb'.open;simp only at j D z sq;have hw1:w<=Q.heap.size:=hw'.size;have hgl:g<Q.heap.size:=Live.lt j.live (g,0) (by simp[bpl])
  have c0:Q.cell? ⟨g,0,none⟩=some vl:=j.cl;have z0:Q.frozen? ⟨g,0,none⟩=false:=q.free (g,0) (by simp[bpl])
  have hrl:RdS Q vl L:=⟨_,j.sl⟩;have HW:=hH hw';have HN:=hH hn';have HBD:=hH hbd;clear hfs hb' HK HF hL hw' hn' hbd h;rcases List.eq_nil_or_concat L with rfl|⟨m,p,rfl⟩
  ·have R:Hid (s.keep n=⟨[]++[⟨1,n,[]⟩],[],0⟩):=hH (by rw[HK2.out,jar];rfl)
   have hlen:∀u ty,(Builtin.len_ #[30] ty #[vl]).run Tryz.prog u= .ok (.int .i64 0) u:=fun u ty=>hrl.len Tryz.underlying30 u ty
   obtain⟨fs,J,I⟩:=j.row;have HFE:=hH J;have U:=hH I;have n0:((g,0):Pos)∉rowP (GoT.n zaa) vl:=fun hm=>(ln.1 q.nodup).2.2 (g,0) (by simp[bpl]) (g,0) (by rw[J];simp[show(g,0)∈rowP 3 vl from hm]) rfl
   have Y:Below Q Q (Q.alloc (.cells #[.int .i64 1,n,zN] 122)):=(lf _ _).alloc (lr _) _;have Z:=hH (zai Q 1 n _ [] [] 122 Sl.nil);have HPP:=hH D;have HPD:=hH z;clear J I D z;go_wp2_with (at_builtin;refine qaa rfl _ _ 30 rfl Tryz.underlying30 hi hz0 hz1 hz2 rfl rfl rfl (U.out.below Y) Z.out (fun _ h=>by cases h) ?c1 ?c2 ?c3 ?_)
   case c1=>exact Xab (by simp at M⊢;try omega)
   case c2=>simp at M⊢;try omega
   case c3=>simp;omega
   intro v1 u hr hw hn;obtain⟨a1,c1,rfl⟩:=hr.rd.isSlice;have q0:u.cell? ⟨g,0,none⟩=some vl:=jag Y hw c0 n0;have q1:u.frozen? ⟨g,0,none⟩=false:=(hw.frozen (g,0) (lq hgl Y.size)).trans ((Y.frozen (p:=⟨g,0,none⟩) hgl).trans z0);obtain⟨fx,b1,b2,b3⟩:=Bld.app (s:=⟨[],[],0⟩) (x:=⟨1,n,[]⟩) j HPP.out HPD.out sq q Y HFE.out (by simpa using hr) hw (fun p hp=>(hn p.1 p.2 hp).imp id (fun h=>by simpa using h))
   simp only[List.nil_append,List.length_singleton]at b1 b2;have B1:=hH b1;have B2:=hH b2;have B3:=hH b3;clear b1 b2 b3 hr hw hn j sq q;go_wp2;go_end0
   exact Kaq.of R.out HW.out HN.out B1.out B2.out B3.out
  ·simp only[List.concat_eq_append]at *;by_cases hk:p.kind=1
   ·obtain⟨b,o,g1,g2,g3,g4,g5⟩:=Bld.lastN (s:=⟨m++[p],[],0⟩) (m:=m) (p:=p) j D z sq q rfl;have hlen:∀u ty,(Builtin.len_ #[30] ty #[vl]).run Tryz.prog u= .ok (.int .i64 ((m.length:Int)+1)) u:=fun u ty=>by
     have:=hrl.len Tryz.underlying30 u ty;simpa using this
    have hpb:=HBD.out p sm;have R:Hid (s.keep n=⟨m++[⟨p.kind,p.n+n,p.signs⟩],[],0⟩):=hH (by rw[HK2.out,Xao m p n hk])
    have hml:m.length<=1000000:=by simp at M;omega
    rw[hk]at g2;have G5:=hH (g5 (p.n+n));clear j D z sq q g5 hk;have hs1:IntKind.i64.wrap (m.length:Int)=(m.length:Int):=IntWalk.i64_in _ om;have hs2:IntKind.i64.wrap (p.n+n)=p.n+n:=IntWalk.i64_in _ om;go_wp2;go_region_law (fail)
    all_goals
     clear hs1 hs2;go_wp2;go_end0
     exact Kaq.of R.out HW.out HN.out G5.out.1.drew G5.out.2.drew (fun _ hp=> .inl hp)
   ·obtain⟨b,o,g1,g2,g3,g4,g5⟩:=Bld.lastN (s:=⟨m++[p],[],0⟩) (m:=m) (p:=p) j D z sq q rfl;have hlen:∀u ty,(Builtin.len_ #[30] ty #[vl]).run Tryz.prog u= .ok (.int .i64 ((m.length:Int)+1)) u:=fun u ty=>by
     have:=hrl.len Tryz.underlying30 u ty;simpa using this
    have R:Hid (s.keep n=⟨m++[p]++[⟨1,n,[]⟩],[],0⟩):=hH (by rw[HK2.out,Kak m p n hk])
    have hml:m.length<=1000000:=by simp at M;omega
    have e1:(p.kind==1)=false:=by simpa using hk
    clear g5 hk g3 g4;obtain⟨fs,J,I⟩:=j.row;have HFE:=hH J;have U:=hH I;have n0:((g,0):Pos)∉rowP (GoT.n zaa) vl:=fun hm=>(ln.1 q.nodup).2.2 (g,0) (by simp[bpl]) (g,0) (by rw[J];simp[show(g,0)∈rowP 3 vl from hm]) rfl
    have Y:Below Q Q (Q.alloc (.cells #[.int .i64 1,n,zN] 122)):=(lf _ _).alloc (lr _) _;have Z:=hH (zai Q 1 n _ [] [] 122 Sl.nil);have HPP:=hH D;have HPD:=hH z;clear J I D z;go_wp2_with (at_builtin;refine qaa rfl _ _ 30 rfl Tryz.underlying30 hi hz0 hz1 hz2 rfl rfl rfl (U.out.below Y) Z.out (fun _ h=>by cases h) ?c1 ?c2 ?c3 ?_)
    case c1=>exact Xab (by simp at M⊢;try omega)
    case c2=>simp at M⊢;try omega
    case c3=>simp;omega
    intro v1 u hr hw hn;obtain⟨a1,c1,rfl⟩:=hr.rd.isSlice;have q0:u.cell? ⟨g,0,none⟩=some vl:=jag Y hw c0 n0;have q1:u.frozen? ⟨g,0,none⟩=false:=(hw.frozen (g,0) (lq hgl Y.size)).trans ((Y.frozen (p:=⟨g,0,none⟩) hgl).trans z0);obtain⟨fx,b1,b2,b3⟩:=Bld.app (s:=⟨m++[p],[],0⟩) (x:=⟨1,n,[]⟩) j HPP.out HPD.out sq q Y HFE.out (by simpa using hr) hw (fun p hp=>(hn p.1 p.2 hp).imp id (fun h=>by simpa using h))
    simp only[List.length_append]at b1 b2;have B1:=hH b1;have B2:=hH b2;have B3:=hH b3;clear b1 b2 b3 hr hw hn j sq q;go_wp2;go_end0
    exact Kaq.of R.out HW.out HN.out B1.out B2.out B3.out
theorem Zae {o:List zaa}:yag o=true↔o.all kab=true/\o.length<=600/\vab 2 o<=200/\vab 3 o<=200:=by
 unfold yag kad va8 vas;constructor
 ·intro h;simp only[Bool.and_eq_true,decide_eq_true_eq]at h;obtain⟨⟨j,n⟩,p⟩:=h;rw[if_pos j]at n p;obtain⟨q,z⟩:=Zah.1 j;exact⟨q,z,n,p⟩
 ·rintro⟨j,n,p,q⟩;have u:=Zah.2 ⟨j,n⟩;simp only[Bool.and_eq_true,decide_eq_true_eq];rw[if_pos u,if_pos u];exact⟨⟨u,p⟩,q⟩
structure Bst.inv (s:Bst)(k:Nat):Prop where
 len:s.list.length<=3*k
 put:s.put.length<=200*k
 d0:0<=s.drop
 d1:s.drop<=200*k
 bd:∀p∈s.list,0<=p.n/\p.n<=400*k
theorem Bst.inv0:Bst.inv ⟨[],[],0⟩ 0:=⟨by simp,by simp,by simp,by simp,fun _ h=>(by cases h)⟩
theorem Bst.inv.flushed {s:Bst}{k:Nat}(h:s.inv k):∀p∈s.flush.list,0<=p.n/\p.n<=400*k:=by
 have q:=h.d0;have u:=h.d1;intro p j;unfold Bst.flush at j;simp only[lm]at j;rcases j with(j|j)|j
 ·exact h.bd p j
 ·split at j
  ·cases j
  ·simp at j;subst j;simp;omega
 ·split at j
  ·simp at j;subst j;simp;omega
  ·cases j
theorem Bst.inv.keep {s:Bst}{k:Nat}(h:s.inv k){n:Int}(D:0<=n)(I:n<=200):(s.keep n).inv (k+1):=by
 unfold Bst.keep;split
 ·exact⟨by have:=h.len;omega,by have:=h.put;omega,h.d0,by have:=h.d1;omega,fun p j=>by have:=h.bd p j;omega⟩
 ·have u:=h.flushed;have M:=QaJ s;have J:=h.len;have B:(yau s.flush.list n).length<=s.flush.list.length+1/\∀p∈yau s.flush.list n,0<=p.n/\p.n<=400*k+200:=by
   rcases List.eq_nil_or_concat s.flush.list with e|⟨m,q,e⟩
   ·rw[e,jar];refine⟨by simp,fun p j=> ?_⟩
    simp at j;subst j;simp;omega
   ·rw[List.concat_eq_append]at e;rw[e]at u⊢;by_cases z:q.kind=1
    ·rw[Xao m q n z];refine⟨by simp,fun p j=> ?_⟩
     rcases lm.1 j with j|j
     ·have:=u p (by simp[j]);omega
     ·simp at j;subst j;have:=u q sm;simp;omega
    ·rw[Kak m q n z];refine⟨by simp,fun p j=> ?_⟩
     rcases lm.1 j with j|j
     ·have:=u p j;omega
     ·simp at j;subst j;simp;omega
  exact⟨by have:=B.1;simp only;omega,by simp,by simp,by simp;omega,fun p j=>by have:=B.2 p j;omega⟩
theorem Bst.inv.puts {s:Bst}{k:Nat}(h:s.inv k){l:List Int}(n:l.length<=200):(s.puts l).inv (k+1):=
 ⟨by have:=h.len;simp only[Bst.puts];omega,by have:=h.put;simp[Bst.puts];omega,h.d0,by have:=h.d1;simp only[Bst.puts];omega,fun p j=>by have:=h.bd p j;omega⟩
theorem Bst.inv.drops {s:Bst}{k:Nat}(h:s.inv k){n:Int}(q:0<=n)(u:n<=200):(s.drops n).inv (k+1):=
 ⟨by have:=h.len;simp only[Bst.drops];omega,by have:=h.put;simp only[Bst.drops];omega,by have:=h.d0;simp only[Bst.drops];omega,by have:=h.d1;simp only[Bst.drops];omega,fun p j=>by have:=h.bd p j;omega⟩
def Zai (o:List zaa)(k:Nat):Bst:=(o.take k).foldl Bst.step ⟨[],[],0⟩
theorem jaF {o:List zaa}{k:Nat}{p:zaa}(h:o[k]? =some p):Zai o (k+1)=(Zai o k).step p:=by
 unfold Zai;rw[Zag h,List.foldl_append];rfl
theorem JaD {o:List zaa}(j:o.all kab=true):∀k,k<=o.length->(Zai o k).inv k
 |0,_=>by unfold Zai;simpa using Bst.inv0
 |k+1,I=>by
  obtain⟨p,B⟩:=Jaa (l:=o) (k:=k) om;have z:=JaD j k om;rw[jaF B];unfold Bst.step;rcases Zab (jat j B)with⟨u,q,n,D⟩|⟨u,q,n,_⟩|⟨u,q,n,D⟩
  ·rw[if_pos u];exact z.keep q n
  ·rw[if_neg om,if_pos u];exact z.puts n
  ·rw[if_neg om,if_neg om];exact z.drops q n
theorem Bld.below {B:Nat}{w Q:World}{pl u q:Pos}{s:Bst}{fp:List Pos}(h:Bld B w pl u q s fp)(hb:Below w w Q):Bld B Q pl u q s fp:=by
 obtain⟨R,U,J,M,n,j,hd,N,rfl,D⟩:=h.open;have I:∀p∈bpl pl u q++(J++M),p.1<w:=by
  intro p j;rcases lm.1 j with j|j
  ·exact Live.lt n.live p (lm.2 (.inl j))
  ·rcases lm.1 j with j|j
   ·exact Live.lt n.live p (lm.2 (.inr j))
   ·exact Live.lt N.live p j
 have z:=n.below hb;exact⟨⟨R,U,J,M,z.cl,(hb.cell (p:=⟨u.1,u.2,none⟩) (I u (by simp[bpl]))).trans j,(hb.cell (p:=⟨q.1,q.2,none⟩) (I q (by simp[bpl]))).trans hd,z.sl,N.belowW hb,rfl⟩,D.belowL hb I⟩
theorem xa2 (w:World)(E:TypeId)(B:Nat)(n:B<=w.heap.size):Bld B (w.alloc (.cells #[zN,zN,zI] E)) (w,0) (w,1) (w,2) ⟨[],[],0⟩ (bpl (w,0) (w,1) (w,2)++([]++[])):=by
 have q:=heap_alloc_new w (.cells #[zN,zN,zI] E);refine⟨⟨.slice none 0 0,.slice none 0 0,[],[],by simp,by simp,by simp,Sl.nil,Sl.nil,rfl⟩,?_⟩
 refine⟨by simp[bpl],fun p j=> ?_,fun p j=> ?_⟩
 ·simp only[bpl,List.append_nil,List.mem_cons,List.not_mem_nil,or_false]at j;rcases j with rfl|rfl|rfl<;>exact n
 ·simp only[bpl,List.append_nil,List.mem_cons,List.not_mem_nil,or_false]at j;rcases j with rfl|rfl|rfl<;>exact Zal q
theorem Qa6 {o:List zaa}(h:yag o=true):Qak o=(Zai o o.length).flush.list:=by unfold Qak;rw[if_pos h];unfold normal Zai;rw[List.take_length]
theorem xaY {o:List zaa}(h:¬yag o=true):Qak o=[]:=if_neg h
theorem yaD (v:Value)(o:List zaa)(w:World)(h:RdS w v o):Calls Tryz.prog 170 #[v] w (kaD w (Qak o)):=by
 have hl:=fun R ty=>h.len Tryz.underlying30 R ty
 have ba:=h.le;by_cases hp:yag o=true
 ·obtain⟨a0,h600,_,_⟩:=Zae.1 hp;have Z:=hH a0;have HV:=hH (Qa6 hp);clear a0;go_enter Tryz.func170,Tryz.ntmps170
  go_wp2_with fail
  refine(Xad _ o _ (h.below blw)).mono ?_;rintro e R ⟨rfl,M⟩;have s1:=M.size;(try simp at s1)
  obtain⟨hc1,hf1⟩:=jac M;clear hc1 hf1;go_wp2;go_loopw [13] (fun i wr=>∃(k:Nat) (fp:List Pos),k<=o.length/\i= .int .i64 k/\Bld w wr (R,0) (R,1) (R,2) (Zai o k) fp/\Below w w wr) (fun i _=>o.length-(intOf i).toNat)
  case atStart=>exact⟨0,_,lz _,rfl,xa2 R _ _ s1,blw⟩
  case round=>
   obtain⟨k,fp,hk,rfl,hb,D⟩:=hrel;have Q:=D.size;have inv:=JaD Z.out k hk;have i1:=inv.len;have i2:=inv.put;have i3:=inv.d0;have i4:=inv.d1;by_cases hlt:k<o.length
   ·obtain⟨p,hx⟩:=Jaa hlt;obtain⟨b1,o1,cs,g1,g2,g3⟩:=(h.below D).idx Tryz.underlying30 uae k hx;obtain⟨v_signs,rfl,z⟩:=xah g3;have q0:=g2.zero;have q1:=g2 1 _ rfl;have q2:=g2 2 _ rfl;obtain⟨aa,ca,rfl⟩:=z.isSlice;have I:=jaF hx;have Y:=jat Z.out hx;clear hx;rcases Zab Y with⟨U,n1,n2,n3⟩|⟨U,n1,n2,_⟩|⟨U,n1,n2,n3⟩
    ·rw[U]at q0;have HS:Hid (Zai o (k+1)=(Zai o k).keep p.n):=hH (by rw[I];unfold Bst.step;rw[if_pos U])
     have HFL:=hH inv.flushed;clear I Y U inv;go_wp2_with fail
     refine(yak w R (Zai o k) fp p.n _ (hb.below blw) (by simp;omega) om i3 om n1 om (fun q hq=>by have:=HFL.out q hq;omega)).mono ?_
     rintro e w2 ⟨rfl,J,u,j,N⟩;have HB:=hH u;have B:Hid (Below w w w2):=hH (D.trans ((((lf wr wr).alloc (lr _) _).mono Q).trans (j.below (by simp;omega) hb.fr.ge)))
     clear u j N;go_wp2;go_roundw
     case rel=>exact⟨k+1,J,by omega,by go_num,by rw[HS.out];exact HB.out,B.out⟩
     case measure=>simp[intOf];omega
    ·rw[U]at q0;have HS:Hid (Zai o (k+1)=(Zai o k).puts p.signs):=hH (by rw[I];unfold Bst.step;rw[if_neg om,if_pos U])
     clear I Y U inv;go_wp2_with fail
     refine(Qaq w R (Zai o k) fp _ p.signs _ (hb.below blw) (by simp;omega) (z.below blw) om).mono ?_
     rintro e w2 ⟨rfl,J,u,j,N⟩;have HB:=hH u;have B:Hid (Below w w w2):=hH (D.trans ((((lf wr wr).alloc (lr _) _).mono Q).trans (j.below (by simp;omega) hb.fr.ge)))
     clear u j N;go_wp2;go_roundw
     case rel=>exact⟨k+1,J,by omega,by go_num,by rw[HS.out];exact HB.out,B.out⟩
     case measure=>simp[intOf];omega
    ·rw[U]at q0;have HS:Hid (Zai o (k+1)=(Zai o k).drops p.n):=hH (by rw[I];unfold Bst.step;rw[if_neg om,if_neg om])
     clear I Y U inv;go_wp2_with fail
     refine(Qat w R (Zai o k) fp p.n _ (hb.below blw) i3 om n1 om).mono ?_;rintro e w2 ⟨rfl,J,u,j,N⟩;have HB:=hH u;have B:Hid (Below w w w2):=hH (D.trans ((((lf wr wr).alloc (lr _) _).mono Q).trans (j.below (by simp;omega) hb.fr.ge)))
     clear u j N;go_wp2;go_roundw
     case rel=>exact⟨k+1,J,by omega,by go_num,by rw[HS.out];exact HB.out,B.out⟩
     case measure=>simp[intOf];omega
   ·obtain rfl:k=o.length:=om;go_wp2_with fail
    refine(KaO w R (Zai o o.length) fp _ hb Q om i3 om).mono ?_;rintro e w2 ⟨v2,rfl,ho,j⟩;have HO:=hH ho;have B:Hid (Below w w w2):=hH (D.trans (j.below Q hb.fr.ge));clear ho j;go_wp2;go_ret;rw[HV.out];exact⟨_,rfl,HO.out,B.out⟩
 ·have HV:=hH (xaY hp);have hp:yag o=false:=by simpa using hp
  go_enter Tryz.func170,Tryz.ntmps170
  go_wp2_with fail
  refine(Xad _ o _ (h.below blw)).mono ?_;rintro e R ⟨rfl,M⟩;have s1:=M.size;(try simp at s1)
  obtain⟨hc1,hf1⟩:=jac M;go_wp2;go_ret;rw[HV.out];exact⟨_,rfl,uaf.nil,blw⟩
theorem XaG (B go z gd:Nat)(s:Bst)(fp:List Pos)(w:World)(h:Bld B w (go,0) (z,0) (gd,0) s fp)(hB:B<=w.heap.size)(hl:s.list.length<=1000000)(hd0:0<=s.drop)(hd1:s.drop<=1000000):
 Calls Tryz.prog 165 #[.pointer (some ⟨z,0,none⟩),.pointer (some ⟨go,0,none⟩),.pointer (some ⟨gd,0,none⟩)] w (Kaq B w (go,0) (z,0) (gd,0) s.flush fp):=by
 obtain⟨i0,hi,hz0,hz1,hz2⟩:=info_parts uam;obtain⟨vl,vp,fl,fq,hbl,hp_,hd_,sq,rfl,u⟩:=h.open;have rq:RdS w vp s.put:=⟨_,sq⟩;have hlen:=fun w1 ty=>rq.len Tryz.underlying31 w1 ty
 obtain⟨ap,cp,rfl⟩:=rq.isSlice;have hlb:=QaR sq.leM;have hlw:=Live.lt hbl.live;have z0l:go<w.heap.size:=hlw (go,0) (by simp[bpl])
 have z1l:z<w.heap.size:=hlw (z,0) (by simp[bpl])
 have z2l:gd<w.heap.size:=hlw (gd,0) (by simp[bpl])
 have z0:w.frozen? ⟨go,0,none⟩=false:=u.free (go,0) (by simp[bpl])
 have z1:w.frozen? ⟨z,0,none⟩=false:=u.free (z,0) (by simp[bpl])
 have z2:w.frozen? ⟨gd,0,none⟩=false:=u.free (gd,0) (by simp[bpl])
 have c0:w.cell? ⟨go,0,none⟩=some vl:=hbl.cl;have I:w.cell? ⟨z,0,none⟩=some (.slice ap s.put.length cp):=hp_;have hd:w.cell? ⟨gd,0,none⟩=some (.int .i64 s.drop):=hd_;have npd:z≠gd:=fun e=>by have:=u.nodup;simp[bpl,e]at this
 have npo_:z≠go:=fun e=>by have:=u.nodup;simp[bpl,e]at this
 have ndo_:gd≠go:=fun e=>by have:=u.nodup;simp[bpl,e]at this
 clear hp_ hd_;obtain⟨fs,hfe_,a3⟩:=hbl.row;have M:=hH hfe_;clear hfe_;by_cases a1:s.put=[]
 ·by_cases hd2:0<s.drop
  ·have HF:Hid (s.flush=⟨s.list++[⟨3,s.drop,[]⟩],[],0⟩):=hH (by simp[Bst.flush,a1,hd2])
   have hln:¬0<s.put.length:=by rw[a1];simp
   have j:Below w w (w.alloc (.cells #[.int .i64 3,s.drop,zN] 122)):=(lf _ _).alloc (lr _) _;have U:=hH (zai w 3 s.drop _ [] [] 122 Sl.nil);have k1A:s.list.length+[(⟨3,s.drop,[]⟩:zaa)].length<=BIG:=Xab (by simp;omega)
   have k2A:(s.list.length+[(⟨3,s.drop,[]⟩:zaa)].length)*40<=140737488355328:=by simp;omega
   have k3A:B<=(w.alloc (.cells #[.int .i64 3,s.drop,zN] 122)).heap.size:=by simp;omega
   have K1A:=hH k1A;have K2A:=hH k2A;have K3A:=hH k3A;clear k1A k2A k3A;have n0A:((go,0):Pos)∉rowP (GoT.n zaa) (vl):=fun J=>(ln.1 u.nodup).2.2 (go,0) (by simp[bpl]) (go,0) (by rw[M.out];first|exact lm.2 (.inl (lm.2 (.inl J)))|exact lm.2 (.inl J)) rfl
   have n1A:((z,0):Pos)∉rowP (GoT.n zaa) (vl):=fun J=>(ln.1 u.nodup).2.2 (z,0) (by simp[bpl]) (z,0) (by rw[M.out];first|exact lm.2 (.inl (lm.2 (.inl J)))|exact lm.2 (.inl J)) rfl
   have n2A:((gd,0):Pos)∉rowP (GoT.n zaa) (vl):=fun J=>(ln.1 u.nodup).2.2 (gd,0) (by simp[bpl]) (gd,0) (by rw[M.out];first|exact lm.2 (.inl (lm.2 (.inl J)))|exact lm.2 (.inl J)) rfl
   have R:∀p∈([]:List Pos),p∉rowP (GoT.n zaa) vl:=fun _ h=>(by cases h)
   have hfr2:Qaa B w (bpl (go,0) (z,0) (gd,0)++(fl++[])):=by rw[List.append_nil];exact u.pre2
   have Q:=hH a3;clear a1 h a3 hlen;go_enter Tryz.func165,Tryz.ntmps165
   go_wp2_with (at_builtin;refine qaa rfl _ _ 30 rfl Tryz.underlying30 hi hz0 hz1 hz2 rfl rfl rfl (Q.out.below j) U.out R K1A.out K2A.out K3A.out ?_)
   intro vA D a2 q N;replace N:=fun(p:Pos) (I:p∈rowP 3 vA)=>(N p.1 p.2 I)
   obtain⟨Y,Z,rfl⟩:=a2.rd.isSlice;have q0A:D.cell? ⟨go,0,none⟩=some vl:=jag j q c0 n0A;have q1A:D.frozen? ⟨go,0,none⟩=false:=(q.frozen (go,0) (lq z0l j.size)).trans ((j.frozen (p:=⟨go,0,none⟩) z0l).trans z0);have q2A:D.cell? ⟨z,0,none⟩=some (.slice ap s.put.length cp):=jag j q I n1A;have q3A:D.frozen? ⟨z,0,none⟩=false:=(q.frozen (z,0) (lq z1l j.size)).trans ((j.frozen (p:=⟨z,0,none⟩) z1l).trans z1);have q4A:D.cell? ⟨gd,0,none⟩=some (.int .i64 s.drop):=jag j q hd n2A;have q5A:D.frozen? ⟨gd,0,none⟩=false:=(q.frozen (gd,0) (lq z2l j.size)).trans ((j.frozen (p:=⟨gd,0,none⟩) z2l).trans z2);obtain⟨fl',kb,kw,kn⟩:=BL.app2 (L:=s.list) (x:=⟨3,s.drop,[]⟩) hbl hfr2 (Live.nil _) j M.out (by simpa using a2) q (fun p I=>(N p I).imp id (fun h=>by simpa using h))
   simp only[List.length_append,List.length_singleton]at kb kw;have KB:=hH kb;have KW:=hH kw;have KN:=hH kn;clear kb kw kn a2 q N;go_wp2;go_end0
   exact Kaq.done HF.out KB.out (KW.out.sub fun _ I=>Zbg I) (fun p I=>(KN.out p I).imp (fun h=>by rw[List.append_nil]at h;exact lm.2 (.inl h)) id)
  ·have hd3:s.drop=0:=om;have HF:Hid (s.flush=⟨s.list,[],0⟩):=hH (by simp[Bst.flush,a1,hd2])
   have hln:¬0<s.put.length:=by rw[a1];simp
   rw[hd3]at hd;clear a1 hd2 hd3 h hlen;go_enter Tryz.func165,Tryz.ntmps165
   go_wp2;go_end0
   exact Kaq.done HF.out hbl (Wr.refl _ _) (fun _ I=> .inl (lm.2 (.inl I)))
 ·have hln:0<s.put.length:=List.length_pos_iff.2 a1;by_cases hd2:0<s.drop
  ·have HF:Hid (s.flush=⟨s.list++[⟨2,0,s.put⟩]++[⟨3,s.drop,[]⟩],[],0⟩):=hH (by simp[Bst.flush,a1,hd2])
   have j:Below w w (w.alloc (.cells #[.int .i64 2,zI,.slice ap s.put.length cp] 122)):=(lf _ _).alloc (lr _) _;have U:=hH (zai w 2 0 _ s.put fq 122 sq);have k1A:s.list.length+[(⟨2,0,s.put⟩:zaa)].length<=BIG:=Xab (by simp;omega)
   have k2A:(s.list.length+[(⟨2,0,s.put⟩:zaa)].length)*40<=140737488355328:=by simp;omega
   have k3A:B<=(w.alloc (.cells #[.int .i64 2,zI,.slice ap s.put.length cp] 122)).heap.size:=by simp;omega
   have K1A:=hH k1A;have K2A:=hH k2A;have K3A:=hH k3A;clear k1A k2A k3A;have n0A:((go,0):Pos)∉rowP (GoT.n zaa) (vl):=fun J=>(ln.1 u.nodup).2.2 (go,0) (by simp[bpl]) (go,0) (by rw[M.out];first|exact lm.2 (.inl (lm.2 (.inl J)))|exact lm.2 (.inl J)) rfl
   have n1A:((z,0):Pos)∉rowP (GoT.n zaa) (vl):=fun J=>(ln.1 u.nodup).2.2 (z,0) (by simp[bpl]) (z,0) (by rw[M.out];first|exact lm.2 (.inl (lm.2 (.inl J)))|exact lm.2 (.inl J)) rfl
   have n2A:((gd,0):Pos)∉rowP (GoT.n zaa) (vl):=fun J=>(ln.1 u.nodup).2.2 (gd,0) (by simp[bpl]) (gd,0) (by rw[M.out];first|exact lm.2 (.inl (lm.2 (.inl J)))|exact lm.2 (.inl J)) rfl
   have R:∀p∈fq,p∉rowP (GoT.n zaa) vl:=fun p I hq=>(ln.1 (ln.1 u.nodup).2.1).2.2 p (by rw[M.out];exact lm.2 (.inl hq)) p I rfl
   have Q:=hH a3;clear a1 h a3;go_enter Tryz.func165,Tryz.ntmps165
   go_wp2_with (at_builtin;refine qaa rfl _ _ 30 rfl Tryz.underlying30 hi hz0 hz1 hz2 rfl rfl rfl (Q.out.below j) U.out R K1A.out K2A.out K3A.out ?_)
   intro vA D a2 q N;replace N:=fun(p:Pos) (I:p∈rowP 3 vA)=>(N p.1 p.2 I)
   obtain⟨Y,Z,rfl⟩:=a2.rd.isSlice;have q0A:D.cell? ⟨go,0,none⟩=some vl:=jag j q c0 n0A;have q1A:D.frozen? ⟨go,0,none⟩=false:=(q.frozen (go,0) (lq z0l j.size)).trans ((j.frozen (p:=⟨go,0,none⟩) z0l).trans z0);have q2A:D.cell? ⟨z,0,none⟩=some (.slice ap s.put.length cp):=jag j q I n1A;have q3A:D.frozen? ⟨z,0,none⟩=false:=(q.frozen (z,0) (lq z1l j.size)).trans ((j.frozen (p:=⟨z,0,none⟩) z1l).trans z1);have q4A:D.cell? ⟨gd,0,none⟩=some (.int .i64 s.drop):=jag j q hd n2A;have q5A:D.frozen? ⟨gd,0,none⟩=false:=(q.frozen (gd,0) (lq z2l j.size)).trans ((j.frozen (p:=⟨gd,0,none⟩) z2l).trans z2);obtain⟨fl',kb,kw,kn⟩:=BL.app2 (L:=s.list) (x:=⟨2,0,s.put⟩) hbl u sq.live j M.out (by simpa using a2) q (fun p I=>(N p I).imp id (fun h=>by simpa using h))
   simp only[List.length_append,List.length_singleton]at kb kw;have hLL:(s.list++[(⟨2,0,s.put⟩:zaa)]).length<=1000001:=by simp;omega
   have sBA:w<=D.heap.size:=Nat.le_trans j.size q.size;have npo:z≠go:=fun e=>by have:=u.nodup;simp[bpl,e]at this
   have ndo:gd≠go:=fun e=>by have:=u.nodup;simp[bpl,e]at this
   have c0B:(D.setCell ⟨go,0,none⟩ (.slice Y (s.list.length+1) Z)).cell? ⟨go,0,none⟩=some (.slice Y (s.list.length+1) Z):=kb.cl;have cpB:(D.setCell ⟨go,0,none⟩ (.slice Y (s.list.length+1) Z)).cell? ⟨z,0,none⟩=some (.slice ap s.put.length cp):=by rw[xaa,if_neg (by simp[npo])];exact q2A
   have cdB:(D.setCell ⟨go,0,none⟩ (.slice Y (s.list.length+1) Z)).cell? ⟨gd,0,none⟩=some (.int .i64 s.drop):=by rw[xaa,if_neg (by simp[ndo])];exact q4A
   have z0B:(D.setCell ⟨go,0,none⟩ (.slice Y (s.list.length+1) Z)).frozen? ⟨go,0,none⟩=false:=by rw[World.frozen?_setCell];exact q1A
   have z1B:(D.setCell ⟨go,0,none⟩ (.slice Y (s.list.length+1) Z)).frozen? ⟨z,0,none⟩=false:=by rw[World.frozen?_setCell];exact q3A
   have z2B:(D.setCell ⟨go,0,none⟩ (.slice Y (s.list.length+1) Z)).frozen? ⟨gd,0,none⟩=false:=by rw[World.frozen?_setCell];exact q5A
   clear a2 q N n0A n1A n2A U K1A K2A K3A Q R;clear c0 I hd z0 z1 z2;have hs2:w.heap.size<=(D.setCell ⟨go,0,none⟩ (.slice Y (s.list.length+1) Z)).heap.size:=by simpa using sBA
   have z0Bl:go<(D.setCell ⟨go,0,none⟩ (.slice Y (s.list.length+1) Z)).heap.size:=lq z0l hs2;have z1Bl:z<(D.setCell ⟨go,0,none⟩ (.slice Y (s.list.length+1) Z)).heap.size:=lq z1l hs2;have z2Bl:gd<(D.setCell ⟨go,0,none⟩ (.slice Y (s.list.length+1) Z)).heap.size:=lq z2l hs2;have hB2:B<=(D.setCell ⟨go,0,none⟩ (.slice Y (s.list.length+1) Z)).heap.size:=Nat.le_trans hB hs2;obtain⟨fs2,hfe2,hrow2⟩:=kb.row;have HFE2:=hH hfe2;have HROWB:=hH hrow2;have KB:=hH kb;have KW:=hH kw;have KN:=hH kn;have hfrB:=kb.fr;clear hfe2 hrow2 kw kn;have a0:Below (D.setCell ⟨go,0,none⟩ (.slice Y (s.list.length+1) Z)).heap.size (D.setCell ⟨go,0,none⟩ (.slice Y (s.list.length+1) Z)) ((D.setCell ⟨go,0,none⟩ (.slice Y (s.list.length+1) Z)).alloc (.cells #[.int .i64 3,s.drop,zN] 122)):=(lf _ _).alloc (lr _) _;have eB:(D.setCell ⟨go,0,none⟩ (.slice Y (s.list.length+1) Z)).heap.size=D.heap.size:=by simp
   have a4:=zai (D.setCell ⟨go,0,none⟩ (.slice Y (s.list.length+1) Z)) 3 s.drop _ [] [] 122 Sl.nil;rw[eB]at a4;have hsrcB:=hH a4;clear eB a4;have k1B:(s.list++[(⟨2,0,s.put⟩:zaa)]).length+[(⟨3,s.drop,[]⟩:zaa)].length<=BIG:=Xab (by have:=hLL;simp at this⊢;omega)
   have k2B:((s.list++[(⟨2,0,s.put⟩:zaa)]).length+[(⟨3,s.drop,[]⟩:zaa)].length)*40<=140737488355328:=by have:=hLL;simp at this⊢;omega
   have k3B:B<=((D.setCell ⟨go,0,none⟩ (.slice Y (s.list.length+1) Z)).alloc (.cells #[.int .i64 3,s.drop,zN] 122)).heap.size:=by have:=hLL;simp at this⊢;omega
   have K1B:=hH k1B;have K2B:=hH k2B;have K3B:=hH k3B;clear k1B k2B k3B;have n0B:((go,0):Pos)∉rowP (GoT.n zaa) (.slice Y (s.list.length+1) Z):=fun J=>(ln.1 hfrB.nodup).2.2 (go,0) (by simp[bpl]) (go,0) (by rw[HFE2.out];first|exact lm.2 (.inl (lm.2 (.inl J)))|exact lm.2 (.inl J)) rfl
   have n1B:((z,0):Pos)∉rowP (GoT.n zaa) (.slice Y (s.list.length+1) Z):=fun J=>(ln.1 hfrB.nodup).2.2 (z,0) (by simp[bpl]) (z,0) (by rw[HFE2.out];first|exact lm.2 (.inl (lm.2 (.inl J)))|exact lm.2 (.inl J)) rfl
   have n2B:((gd,0):Pos)∉rowP (GoT.n zaa) (.slice Y (s.list.length+1) Z):=fun J=>(ln.1 hfrB.nodup).2.2 (gd,0) (by simp[bpl]) (gd,0) (by rw[HFE2.out];first|exact lm.2 (.inl (lm.2 (.inl J)))|exact lm.2 (.inl J)) rfl
   have hdisB:∀p∈([]:List Pos),p∉rowP (GoT.n zaa) (.slice Y (s.list.length+1) Z):=fun _ h=>(by cases h)
   have hfr2:Qaa B (D.setCell ⟨go,0,none⟩ (.slice Y (s.list.length+1) Z)) (bpl (go,0) (z,0) (gd,0)++(fl'++[])):=by rw[List.append_nil];exact hfrB
   clear hLL kb hfrB u;go_wp2_with (at_builtin;refine qaa rfl _ _ 30 rfl Tryz.underlying30 hi hz0 hz1 hz2 rfl rfl rfl (HROWB.out.below a0) hsrcB.out hdisB K1B.out K2B.out K3B.out ?_)
   intro vB wB hrB hwB hnB;replace hnB:=fun(p:Pos) (I:p∈rowP 3 vB)=>(hnB p.1 p.2 I)
   obtain⟨aB,cB,rfl⟩:=hrB.rd.isSlice;have q0B:wB.cell? ⟨go,0,none⟩=some (.slice Y (s.list.length+1) Z):=jag a0 hwB c0B n0B;have q1B:wB.frozen? ⟨go,0,none⟩=false:=(hwB.frozen (go,0) (lq z0Bl a0.size)).trans ((a0.frozen (p:=⟨go,0,none⟩) z0Bl).trans z0B);have q2B:wB.cell? ⟨z,0,none⟩=some (.slice ap s.put.length cp):=jag a0 hwB cpB n1B;have q3B:wB.frozen? ⟨z,0,none⟩=false:=(hwB.frozen (z,0) (lq z1Bl a0.size)).trans ((a0.frozen (p:=⟨z,0,none⟩) z1Bl).trans z1B);have q4B:wB.cell? ⟨gd,0,none⟩=some (.int .i64 s.drop):=jag a0 hwB cdB n2B;have q5B:wB.frozen? ⟨gd,0,none⟩=false:=(hwB.frozen (gd,0) (lq z2Bl a0.size)).trans ((a0.frozen (p:=⟨gd,0,none⟩) z2Bl).trans z2B);obtain⟨fl2,kb,kw,kn⟩:=BL.app2 (L:=(s.list++[(⟨2,0,s.put⟩:zaa)])) (x:=⟨3,s.drop,[]⟩) KB.out hfr2 (Live.nil _) a0 HFE2.out (by simpa using hrB) hwB (fun p I=>(hnB p I).imp id (fun h=>by simpa using h))
   simp only[List.length_append]at kb kw;have KB2:=hH kb;have KW2:=hH (KW.out.trans2 kw fun p I=>by
    rw[List.append_nil]at I;rcases lm.1 I with I|I
    ·exact .inl (lm.2 (.inl I))
    ·exact(KN.out p I).imp (fun h=>lm.2 (.inr h)) id)
   have KN2:Hid (∀p∈fl2,p∈fl++fq\/w<=p.1):=hH fun p I=>by
    rcases kn p I with k|k
    ·rw[List.append_nil]at k;exact KN.out p k
    ·exact .inr (Nat.le_trans hs2 k)
   clear kb kw kn hrB hwB hnB;go_wp2;go_end0
   exact Kaq.done HF.out KB2.out KW2.out KN2.out
  ·have hd3:s.drop=0:=om;have HF:Hid (s.flush=⟨s.list++[⟨2,0,s.put⟩],[],0⟩):=hH (by simp[Bst.flush,a1,hd2])
   rw[hd3]at hd;clear hd3;have j:Below w w (w.alloc (.cells #[.int .i64 2,zI,.slice ap s.put.length cp] 122)):=(lf _ _).alloc (lr _) _;have U:=hH (zai w 2 0 _ s.put fq 122 sq);have k1A:s.list.length+[(⟨2,0,s.put⟩:zaa)].length<=BIG:=Xab (by simp;omega)
   have k2A:(s.list.length+[(⟨2,0,s.put⟩:zaa)].length)*40<=140737488355328:=by simp;omega
   have k3A:B<=(w.alloc (.cells #[.int .i64 2,zI,.slice ap s.put.length cp] 122)).heap.size:=by simp;omega
   have K1A:=hH k1A;have K2A:=hH k2A;have K3A:=hH k3A;clear k1A k2A k3A;have n0A:((go,0):Pos)∉rowP (GoT.n zaa) (vl):=fun J=>(ln.1 u.nodup).2.2 (go,0) (by simp[bpl]) (go,0) (by rw[M.out];first|exact lm.2 (.inl (lm.2 (.inl J)))|exact lm.2 (.inl J)) rfl
   have n1A:((z,0):Pos)∉rowP (GoT.n zaa) (vl):=fun J=>(ln.1 u.nodup).2.2 (z,0) (by simp[bpl]) (z,0) (by rw[M.out];first|exact lm.2 (.inl (lm.2 (.inl J)))|exact lm.2 (.inl J)) rfl
   have n2A:((gd,0):Pos)∉rowP (GoT.n zaa) (vl):=fun J=>(ln.1 u.nodup).2.2 (gd,0) (by simp[bpl]) (gd,0) (by rw[M.out];first|exact lm.2 (.inl (lm.2 (.inl J)))|exact lm.2 (.inl J)) rfl
   have R:∀p∈fq,p∉rowP (GoT.n zaa) vl:=fun p I hq=>(ln.1 (ln.1 u.nodup).2.1).2.2 p (by rw[M.out];exact lm.2 (.inl hq)) p I rfl
   have Q:=hH a3;clear a1 hd2 h a3;go_enter Tryz.func165,Tryz.ntmps165
   go_wp2_with (at_builtin;refine qaa rfl _ _ 30 rfl Tryz.underlying30 hi hz0 hz1 hz2 rfl rfl rfl (Q.out.below j) U.out R K1A.out K2A.out K3A.out ?_)
   intro vA D a2 q N;replace N:=fun(p:Pos) (I:p∈rowP 3 vA)=>(N p.1 p.2 I)
   obtain⟨Y,Z,rfl⟩:=a2.rd.isSlice;have q0A:D.cell? ⟨go,0,none⟩=some vl:=jag j q c0 n0A;have q1A:D.frozen? ⟨go,0,none⟩=false:=(q.frozen (go,0) (lq z0l j.size)).trans ((j.frozen (p:=⟨go,0,none⟩) z0l).trans z0);have q2A:D.cell? ⟨z,0,none⟩=some (.slice ap s.put.length cp):=jag j q I n1A;have q3A:D.frozen? ⟨z,0,none⟩=false:=(q.frozen (z,0) (lq z1l j.size)).trans ((j.frozen (p:=⟨z,0,none⟩) z1l).trans z1);have q4A:D.cell? ⟨gd,0,none⟩=some (.int .i64 0):=jag j q hd n2A;have q5A:D.frozen? ⟨gd,0,none⟩=false:=(q.frozen (gd,0) (lq z2l j.size)).trans ((j.frozen (p:=⟨gd,0,none⟩) z2l).trans z2);obtain⟨fl',kb,kw,kn⟩:=BL.app2 (L:=s.list) (x:=⟨2,0,s.put⟩) hbl u sq.live j M.out (by simpa using a2) q (fun p I=>(N p I).imp id (fun h=>by simpa using h))
   simp only[List.length_append,List.length_singleton]at kb kw;have KB:=hH kb;have KW:=hH kw;have KN:=hH kn;clear kb kw kn a2 q N;go_wp2;go_end0
   exact Kaq.done HF.out KB.out KW.out KN.out
theorem Xbd (w:World)(n q u:TypeId)(B:Nat)(z:B<=w.heap.size):
 Bld B (((w.alloc (.cells #[zN] n)).alloc (.cells #[zN] q)).alloc (.cells #[zI] u)) (w,0) (w+1,0) (w+2,0) ⟨[],[],0⟩ (bpl (w,0) (w+1,0) (w+2,0)++([]++[])):=by
 refine⟨⟨.slice none 0 0,.slice none 0 0,[],[],by simp[go_sem],by simp[go_sem],by simp[go_sem],Sl.nil,Sl.nil,rfl⟩,?_⟩
 refine⟨by simp[bpl],fun p j=> ?_,fun p j=> ?_⟩
 ·simp only[bpl,List.append_nil,List.mem_cons,List.not_mem_nil,or_false]at j;rcases j with rfl|rfl|rfl<;>simp<;>omega
 ·simp only[bpl,List.append_nil,List.mem_cons,List.not_mem_nil,or_false]at j;rcases j with rfl|rfl|rfl<;>simp[go_sem]
theorem qbc (o:List zaa):normal o=(Zai o o.length).flush.list:=by unfold normal Zai;rw[List.take_length]
theorem Bld.lt {B:Nat}{w:World}{pl z u:Pos}{s:Bst}{fp:List Pos}(h:Bld B w pl z u s fp):∀p∈fp,p.1<w:=by
 obtain⟨M,N,I,J,n,j,hd,D,rfl,q⟩:=h.open;intro p j;rcases lm.1 j with j|j
 ·exact Live.lt n.live p (lm.2 (.inl j))
 ·rcases lm.1 j with j|j
  ·exact Live.lt n.live p (lm.2 (.inr j))
  ·exact Live.lt D.live p j
theorem Kaq.below {B:Nat}{w0 w p:World}{pl n j:Pos}{s I:Bst}{fp:List Pos}{e:Ending}(h:Kaq B w pl n j s fp e p)(hb:Bld B w pl n j I fp)(u:Below B w0 w)(z:B<=w.heap.size):Below B w0 p:=by
 obtain⟨_,q,_,D,_⟩:=h;exact u.trans (D.below z hb.fr.ge)
theorem kav (v:Value)(o:List zaa)(w:World)(h:RdS w v o)(hall:o.all kab=true)(h2:o.length<=3000):Calls Tryz.prog 154 #[v] w (kaD w (normal o)):=by
 have hl:=fun D ty=>h.len Tryz.underlying30 D ty
 have ba:=h.le;obtain⟨i0,hi,hz0,hz1,hz2⟩:=info_parts uam;obtain⟨j0,hj,jz0,jz1,jz2⟩:=info_parts vau;have HALL:=hH hall;have HV:=hH (qbc o);clear hall;go_enter Tryz.func154,Tryz.ntmps154
 go_wp2;go_loopw [13] (fun i wr=>∃(k:Nat) (fp:List Pos),k<=o.length/\i= .int .i64 k/\Bld w wr (w,0) (w+1,0) (w+2,0) (Zai o k) fp/\Below w w wr) (fun i _=>o.length-(intOf i).toNat)
 case atStart=>exact⟨0,_,lz _,rfl,Xbd w _ _ _ _ (lr _),blw⟩
 case round=>
  obtain⟨k,fp,hk,rfl,hb,hbw⟩:=hrel;have hsz:=hbw.size;have inv:=JaD HALL.out k hk;have i1:=inv.len;have i2:=inv.put;have i3:=inv.d0;have i4:=inv.d1;by_cases hlt:k<o.length
  ·obtain⟨p,hx⟩:=Jaa hlt;obtain⟨b1,o1,cs,g1,g2,g3⟩:=(h.below hbw).idx Tryz.underlying30 uae k hx;obtain⟨v_signs,rfl,a0⟩:=xah g3;have q0:=g2.zero;have q1:=g2 1 _ rfl;have q2:=g2 2 _ rfl;obtain⟨aa,ca,rfl⟩:=a0.isSlice;have Z:=jaF hx;have hpo:=jat HALL.out hx;clear hx;rcases Zab hpo with⟨kx,n1,n2,n3⟩|⟨kx,n1,n2,_⟩|⟨kx,n1,n2,n3⟩
   ·rw[kx]at q0;by_cases hn0:p.n=0
    ·have HS:Hid (Zai o (k+1)=Zai o k):=hH (by rw[Z];unfold Bst.step Bst.keep;rw[if_pos kx,if_pos hn0])
     have hn1:¬0<p.n:=om;have hn2:decide (0<p.n)=false:=by simpa using hn1
     have HB:=hH hb;clear Z hpo kx inv hn0 hb;go_wp2;go_roundw
     case rel=>exact⟨k+1,fp,by omega,by go_num,by rw[HS.out];exact HB.out.below blw,blw⟩
     case measure=>simp[intOf];omega
    ·have hn1:0<p.n:=om;have HFL:=hH inv.flushed;have HK0:Hid (Zai o (k+1)=⟨yau (Zai o k).flush.list p.n,[],0⟩):=hH (by rw[Z];unfold Bst.step Bst.keep;rw[if_pos kx,if_neg hn0])
     have hfl:=QaJ (Zai o k);have hfpl:=hb.lt;have HFP:=hH hfpl;clear Z hpo kx inv hn0 hfpl;go_wp2_with fail
     refine(XaG w w (w+1) (w+2) (Zai o k) fp _ (hb.below blw) (by simp;omega) om i3 om).mono ?_
     intro e D M;have U:Hid (Below w w D):=hH (M.below (hb.below blw) blw (by simp;omega))
     obtain⟨rfl,fp',hb',hw',hn'⟩:=M;have c1:D.cell? ⟨wr.heap.size,1,none⟩=some (.int .i64 p.n):=by
      rw[hw'.cell (wr.heap.size,1) sm (fun hm=>by have:=HFP.out _ hm;simp at this)]
      simp
     have zb:wr<D.heap.size:=lq sm hw'.size;obtain⟨L,hL⟩:∃L,(Zai o k).flush.list=L:=⟨_,rfl⟩;have hfs:(Zai o k).flush=⟨L,[],0⟩:=by rw[<-hL];rfl
     rw[hfs]at hb';have HBD:Hid (∀q∈L,0<=q.n/\q.n<=400*(k:Int)):=hH (by rw[<-hL];exact HFL.out)
     have HK2:Hid (Zai o (k+1)=⟨yau L p.n,[],0⟩):=hH (by rw[<-hL];exact HK0.out)
     rw[hL]at hfl;have HB':=hH hb';obtain⟨vl,vp,fl,fq,u,N,I,sq,rfl,j⟩:=hb'.open;simp only at u N I sq;have hw1:w<=D.heap.size:=om;have hgl:w<D.heap.size:=Live.lt u.live (w,0) (by simp[bpl])
     have c0:D.cell? ⟨w.heap.size,0,none⟩=some vl:=u.cl;have z0:D.frozen? ⟨w.heap.size,0,none⟩=false:=j.free (w,0) (by simp[bpl])
     have hrl:RdS D vl L:=⟨_,u.sl⟩;have HPP:=hH N;have HPD:=hH I;clear hfs hb' HK0 HFL hL hw' hn' hb N I;rcases List.eq_nil_or_concat L with rfl|⟨m,q,rfl⟩
     ·have HK3:Hid (Zai o (k+1)=⟨[]++[⟨1,p.n,[]⟩],[],0⟩):=hH (by rw[HK2.out,jar];rfl)
      have hlen:∀Q ty,(Builtin.len_ #[30] ty #[vl]).run Tryz.prog Q= .ok (.int .i64 0) Q:=fun Q ty=>hrl.len Tryz.underlying30 Q ty
      obtain⟨fs,z,B⟩:=u.row;have HFE:=hH z;have Y:=hH B;have n0:((w,0):Pos)∉rowP (GoT.n zaa) vl:=fun hm=>(ln.1 j.nodup).2.2 (w,0) (by simp[bpl]) (w,0) (by rw[z];simp[show(w.heap.size,0)∈rowP 3 vl from hm]) rfl
      have R:Below D D (D.alloc (.cells #[.int .i64 1,p.n,zN] 122)):=(lf _ _).alloc (lr _) _;have hsrc:=hH (zai D 1 p.n _ [] [] 122 Sl.nil);clear z B;go_wp2_with (at_builtin;refine qaa rfl _ _ 30 rfl Tryz.underlying30 hi hz0 hz1 hz2 rfl rfl rfl (Y.out.below R) hsrc.out (fun _ h=>by cases h) ?c1 ?c2 ?c3 ?_)
      case c1=>exact Xab (by simp at hfl⊢;try omega)
      case c2=>simp at hfl⊢;try omega
      case c3=>simp;omega
      intro v1 Q hr hw hn;obtain⟨a1,cc1,rfl⟩:=hr.rd.isSlice;have q0:Q.cell? ⟨w.heap.size,0,none⟩=some vl:=jag R hw c0 n0;have q1:Q.frozen? ⟨w.heap.size,0,none⟩=false:=(hw.frozen (w,0) (lq hgl R.size)).trans ((R.frozen (p:=⟨w,0,none⟩) hgl).trans z0);obtain⟨fx,b1,b2,b3⟩:=Bld.app (s:=⟨[],[],0⟩) (x:=⟨1,p.n,[]⟩) u HPP.out HPD.out sq j R HFE.out (by simpa using hr) hw (fun p hp=>(hn p.1 p.2 hp).imp id (fun h=>by simpa using h))
      simp only[List.nil_append,List.length_singleton]at b1 b2;have B1:=hH b1;have B2:=hH (U.out.trans (b2.below hw1 j.ge));clear b1 b2 b3 hr hw hn u sq j;go_wp2;go_roundw
      case rel=>exact⟨k+1,_,by omega,by go_num,by rw[HK3.out];exact B1.out,B2.out⟩
      case measure=>simp[intOf];omega
     ·simp only[List.concat_eq_append]at *;by_cases hk1:q.kind=1
      ·obtain⟨b,oo,g1,g2,g3,g4,g5⟩:=Bld.lastN (s:=⟨m++[q],[],0⟩) (m:=m) (p:=q) u HPP.out HPD.out sq j rfl;have hlen:∀Q ty,(Builtin.len_ #[30] ty #[vl]).run Tryz.prog Q= .ok (.int .i64 ((m.length:Int)+1)) Q:=fun Q ty=>by
        have:=hrl.len Tryz.underlying30 Q ty;simpa using this
       have hpb:=HBD.out q sm;have HK3:Hid (Zai o (k+1)=⟨m++[⟨q.kind,q.n+p.n,q.signs⟩],[],0⟩):=hH (by rw[HK2.out,Xao m q p.n hk1])
       have hml:m.length<=1000000:=by simp at hfl;omega
       rw[hk1]at g2;have G5:=hH (g5 (q.n+p.n));have HFR:=hH j.ge;clear u sq j g5 hk1;have hs1:IntKind.i64.wrap (m.length:Int)=(m.length:Int):=IntWalk.i64_in _ om;have hs2:IntKind.i64.wrap (q.n+p.n)=q.n+p.n:=IntWalk.i64_in _ om;go_wp2;go_region_law (fail)
       all_goals
        clear hs1 hs2;have B2:Hid (Below w w (D.setCell ⟨b,oo+1,none⟩ (.int .i64 (q.n+p.n))).drew):=hH (U.out.trans (G5.out.2.below hw1 HFR.out)).drew;go_wp2;go_roundw
        case rel=>exact⟨k+1,_,by omega,by go_num,by rw[HK3.out];exact G5.out.1.drew,B2.out⟩
        case measure=>simp[intOf];omega
      ·obtain⟨b,oo,g1,g2,g3,g4,g5⟩:=Bld.lastN (s:=⟨m++[q],[],0⟩) (m:=m) (p:=q) u HPP.out HPD.out sq j rfl;have hlen:∀Q ty,(Builtin.len_ #[30] ty #[vl]).run Tryz.prog Q= .ok (.int .i64 ((m.length:Int)+1)) Q:=fun Q ty=>by
        have:=hrl.len Tryz.underlying30 Q ty;simpa using this
       have HK3:Hid (Zai o (k+1)=⟨m++[q]++[⟨1,p.n,[]⟩],[],0⟩):=hH (by rw[HK2.out,Kak m q p.n hk1])
       have hml:m.length<=1000000:=by simp at hfl;omega
       have e1:(q.kind==1)=false:=by simpa using hk1
       clear g5 hk1 g3 g4;obtain⟨fs,z,B⟩:=u.row;have HFE:=hH z;have Y:=hH B;have n0:((w,0):Pos)∉rowP (GoT.n zaa) vl:=fun hm=>(ln.1 j.nodup).2.2 (w,0) (by simp[bpl]) (w,0) (by rw[z];simp[show(w.heap.size,0)∈rowP 3 vl from hm]) rfl
       have R:Below D D (D.alloc (.cells #[.int .i64 1,p.n,zN] 122)):=(lf _ _).alloc (lr _) _;have hsrc:=hH (zai D 1 p.n _ [] [] 122 Sl.nil);clear z B;go_wp2_with (at_builtin;refine qaa rfl _ _ 30 rfl Tryz.underlying30 hi hz0 hz1 hz2 rfl rfl rfl (Y.out.below R) hsrc.out (fun _ h=>by cases h) ?c1 ?c2 ?c3 ?_)
       case c1=>exact Xab (by simp at hfl⊢;try omega)
       case c2=>simp at hfl⊢;try omega
       case c3=>simp;omega
       intro v1 Q hr hw hn;obtain⟨a1,cc1,rfl⟩:=hr.rd.isSlice;have q0:Q.cell? ⟨w.heap.size,0,none⟩=some vl:=jag R hw c0 n0;have q1:Q.frozen? ⟨w.heap.size,0,none⟩=false:=(hw.frozen (w,0) (lq hgl R.size)).trans ((R.frozen (p:=⟨w,0,none⟩) hgl).trans z0);obtain⟨fx,b1,b2,b3⟩:=Bld.app (s:=⟨m++[q],[],0⟩) (x:=⟨1,p.n,[]⟩) u HPP.out HPD.out sq j R HFE.out (by simpa using hr) hw (fun p hp=>(hn p.1 p.2 hp).imp id (fun h=>by simpa using h))
       simp only[List.length_append]at b1 b2;have B1:=hH b1;have B2:=hH (U.out.trans (b2.below hw1 j.ge));clear b1 b2 b3 hr hw hn u sq j;go_wp2;go_roundw
       case rel=>exact⟨k+1,_,by omega,by go_num,by rw[HK3.out];exact B1.out,B2.out⟩
       case measure=>simp[intOf];omega
   ·rw[kx]at q0;have HS:Hid (Zai o (k+1)=(Zai o k).puts p.signs):=hH (by rw[Z];unfold Bst.step;rw[if_neg om,if_pos kx])
    have R:Below wr wr (wr.alloc (.cells #[.int .i64 2,p.n,.slice aa p.signs.length ca] 122)):=(lf _ _).alloc (lr _) _;have hb2:=hb.below R;obtain⟨vl,vp,fl,fq,u,N,I,sq,J,j⟩:=hb2.open;have hp:wr.cell? ⟨w.heap.size+1,0,none⟩=some vp:=by
     rw[<-R.cell (p:=⟨w+1,0,none⟩) (hb.lt (w+1,0) (by rw[J];simp[bpl]))];exact N
    have z1:wr.frozen? ⟨w.heap.size+1,0,none⟩=false:=hb.fr.free (w+1,0) (by rw[J];simp[bpl])
    have hgl:w+1<wr.heap.size:=hb.lt (w+1,0) (by rw[J];simp[bpl])
    subst J;have z:fq=rowP 1 vp:=sq.flat (α:=Int) jaJ;have B:Row w (wr.alloc (.cells #[.int .i64 2,p.n,.slice aa p.signs.length ca] 122)) vp (Zai o k).put []:=by
     refine⟨?_,?_,fun _ h=>(by cases h)⟩
     ·rw[List.append_nil];show Sl BIG _ vp _ (rowP 1 vp);rw[<-z];exact sq
     ·have:=j.right.right;rw[z]at this;exact this
    have n1_:((w+1,0):Pos)∉rowP 1 vp:=fun hm=>(ln.1 j.nodup).2.2 (w+1,0) (by simp[bpl]) (w+1,0) (by rw[z];simp[hm]) rfl
    have HFE:=hH z;have Y:=hH B;have HSRC:=hH (Src.ints2 (a0.below R));have HD:=hH I;clear z B I N hb hb2 Z hpo kx inv n1;go_wp2_with (at_builtin;refine qaa rfl _ _ 31 rfl Tryz.underlying31 hj jz0 jz1 jz2 rfl rfl rfl Y.out HSRC.out (fun _ h=>by cases h) ?c1 ?c2 ?c3 ?_)
    case c1=>exact Xab om
    case c2=>omega
    case c3=>first|omega|(simp;omega)
    intro v' D hr hw hn;obtain⟨a1,cc1,rfl⟩:=hr.rd.isSlice;have q0':D.cell? ⟨w.heap.size+1,0,none⟩=some vp:=jag R hw hp n1_;have q1':D.frozen? ⟨w.heap.size+1,0,none⟩=false:=(hw.frozen (w+1,0) (by simp;omega)).trans ((R.frozen (p:=⟨w+1,0,none⟩) hgl).trans z1)
    obtain⟨fx,x1,x2,x3⟩:=Bld.puts u HD.out sq j hr hw (fun p hp=>(hn p.1 p.2 hp).imp id (fun h=>by simpa using h)) HFE.out
    simp only[List.length_append]at x1 x2;have X1:=hH x1;have X2:=hH ((hbw.trans (R.mono hsz)).trans (x2.below (by simp;omega) j.ge))
    clear hr hw hn x1 x2 x3 u sq j;go_wp2;go_roundw
    case rel=>exact⟨k+1,_,by omega,by go_num,by rw[HS.out];exact X1.out,X2.out⟩
    case measure=>simp[intOf];omega
   ·rw[kx]at q0;have HS:Hid (Zai o (k+1)=(Zai o k).drops p.n):=hH (by rw[Z];unfold Bst.step;rw[if_neg om,if_neg om])
    have HD:=hH (hb.dropd p.n);obtain⟨vl,vp,fl,fq,u,N,I,sq,J,j⟩:=hb.open;have hd:wr.cell? ⟨w.heap.size+2,0,none⟩=some (.int .i64 (Zai o k).drop):=I;have z2:wr.frozen? ⟨w.heap.size+2,0,none⟩=false:=j.free (w+2,0) (by rw[J];simp[bpl])
    have zl:w+2<wr.heap.size:=hb.lt (w+2,0) (by rw[J];simp[bpl])
    have X2:=hH (hbw.trans (HD.out.2.below hsz j.ge));clear N I hb u sq j Z hpo kx inv n3;go_wp2;go_roundw
    case rel=>exact⟨k+1,_,by omega,by go_num,by rw[HS.out];exact HD.out.1.below ((lf _ _).alloc (lr _) _),X2.out.alloc (by simp;omega) _⟩
    case measure=>simp[intOf];omega
  ·obtain rfl:k=o.length:=om;have HB:=hH hb;go_wp2_with fail
   refine(XaG w w (w+1) (w+2) (Zai o o.length) fp _ hb hsz om i3 om).mono ?_;intro e D M;have U:Hid (Below w w D):=hH (M.below HB.out hbw hsz);obtain⟨rfl,fp',hb',hw',hn'⟩:=M;obtain⟨vl,vp,fl,fq,u,N,I,sq,rfl,j⟩:=hb'.open;have c0:D.cell? ⟨w.heap.size,0,none⟩=some vl:=u.cl;have HO:Hid (uaf w D vl (Zai o o.length).flush.list):=hH ⟨fl,u.sl,u.fr.right⟩;clear N I hw' hn' hb' hb;go_wp2;go_ret;rw[HV.out];exact⟨_,rfl,HO.out,U.out⟩
theorem xaE (v:Value)(o:List zaa)(w:World)(h:RdS w v o):Calls Tryz.prog 141 #[v] w (kaD w (Qak o)):=by
 by_cases z:yag o=true
 ·obtain⟨n,I,_,_⟩:=Zae.1 z;have p:=hH n;have D:Hid (Qak o=normal o):=hH (by unfold Qak;rw[if_pos z])
  clear n;go_enter Tryz.func141,Tryz.ntmps141
  go_wp2_with fail
  refine(jad _ o _ (h.below blw)).mono ?_;rintro e Q ⟨rfl,j⟩;have B:=j.size;(try simp at B)
  obtain⟨q,u⟩:=jac j;clear q u;go_wp2_with fail
  refine(kav _ o _ (h.below blw) p.out om).mono ?_;rintro e U ⟨R,rfl,J,N⟩;have M:=hH (J.mono (B':=w) B);clear J;go_wp2;go_ret;rw[D.out];exact⟨_,rfl,M.out,blw⟩
 ·have D:=hH (xaY z);have z:yag o=false:=by simpa using z
  go_enter Tryz.func141,Tryz.ntmps141
  go_wp2_with fail
  refine(jad _ o _ (h.below blw)).mono ?_;rintro e Q ⟨rfl,j⟩;have B:=j.size;(try simp at B)
  obtain⟨q,u⟩:=jac j;go_wp2;go_ret;rw[D.out];exact⟨_,rfl,uaf.nil,blw⟩
def Jac (e:yab):Bool:=within e.client 1 8&&within e.seq 1 1000000000&&Jan e.o
theorem uaS {o:List zaa}(h:yag o=true):Jan o=decide (Qak o=o):=by simp[Jan,h]
theorem yaX {o:List zaa}(h:yag o=false):Jan o=false:=by simp[Jan,h]
theorem qaS {o:List zaa}:Jan o=true↔yag o=true/\Qak o=o:=by simp[Jan]
theorem qaV (v:Value)(o:List zaa)(w:World)(h:RdS w v o):Calls Tryz.prog 159 #[v] w (yae w (.bool (Jan o))):=by
 by_cases p:yag o=true
 ·have q:=hH (uaS p);go_enter Tryz.func159,Tryz.ntmps159
  go_wp2_with fail
  refine(Xad _ o _ (h.below blw)).mono ?_;rintro e Q ⟨rfl,j⟩;have D:=j.size;(try simp at D)
  obtain⟨z,B⟩:=jac j;go_wp2_with fail
  refine(yaD _ o _ (h.below blw)).mono ?_;rintro e Y ⟨U,rfl,M,u⟩;have R:=u.size;go_wp2_with fail
  refine(zaU _ _ _ _ _ (M.rd.below blw) (h.below blw)).mono ?_;rintro e Z ⟨rfl,n⟩;have N:=n.size;(try simp at N)
  obtain⟨I,J⟩:=jac n;go_wp2;go_ret;exact⟨jaa (by rw[q.out]),blw⟩
 ·have p:yag o=false:=by simpa using p
  have q:=hH (yaX p);go_enter Tryz.func159,Tryz.ntmps159
  go_wp2_with fail
  refine(Xad _ o _ (h.below blw)).mono ?_;rintro e Q ⟨rfl,j⟩;have D:=j.size;(try simp at D)
  obtain⟨z,B⟩:=jac j;go_wp2;go_ret;exact⟨jaa q.out.symm,blw⟩
theorem yaV (v:Value)(o:List zaa)(w:World)(h:RdS w v o):Calls Tryz.prog 110 #[v] w (yae w (.bool (Jan o))):=by
 by_cases p:yag o=true
 ·have q:=hH (uaS p);go_enter Tryz.func110,Tryz.ntmps110
  go_wp2_with fail
  refine(jad _ o _ (h.below blw)).mono ?_;rintro e Q ⟨rfl,j⟩;have D:=j.size;(try simp at D)
  obtain⟨z,B⟩:=jac j;go_wp2_with fail
  refine(xaE _ o _ (h.below blw)).mono ?_;rintro e Y ⟨U,rfl,M,u⟩;have R:=u.size;go_wp2_with fail
  refine(van _ _ _ _ _ (h.below blw) (M.rd.below blw)).mono ?_;rintro e Z ⟨rfl,n⟩;have N:=n.size;(try simp at N)
  obtain⟨I,J⟩:=jac n;go_wp2;go_ret;exact⟨jaa (by rw[q.out];exact decide_eq_decide.2 eq_comm),blw⟩
 ·have p:yag o=false:=by simpa using p
  have q:=hH (yaX p);go_enter Tryz.func110,Tryz.ntmps110
  go_wp2_with fail
  refine(jad _ o _ (h.below blw)).mono ?_;rintro e Q ⟨rfl,j⟩;have D:=j.size;(try simp at D)
  obtain⟨z,B⟩:=jac j;go_wp2;go_ret;exact⟨jaa q.out.symm,blw⟩
theorem uaK {R:Nat}(h_:R=148\/R=66)(e:yab)(J:Value)(w:World)(U:RdS w J e.o):Calls Tryz.prog R #[.agg #[e.client,e.seq,J]] w (yae w (.bool (Jac e))):=by
 rcases h_ with rfl|rfl
 have n:=hH @Zaa;have D:=hH @qaV;go_enter Tryz.func148,Tryz.ntmps148;rotate_left;have n:=hH @vaa;have D:=hH @yaV;go_enter Tryz.func66,Tryz.ntmps66;all_goals
  by_cases N:within e.client 1 8=true
  rotate_left
  ·have N:within e.client 1 8=false:=by simpa using N
   have q:Hid (Jac e=false):=hH (by simp[Jac,N])
   go_wp2_with fail
   refine(n.out _ _ _ _).mono ?_;rintro e M ⟨rfl,j⟩;have I:=j.size;(try simp at I)
   obtain⟨z,B⟩:=jac j;have z1:w<M.heap.size:=om;go_wp2;go_ret;exact⟨jaa q.out.symm,blw⟩
  by_cases Q:within e.seq 1 1000000000=true
  rotate_left
  ·have Q:within e.seq 1 1000000000=false:=by simpa using Q
   have q:Hid (Jac e=false):=hH (by simp[Jac,Q])
   go_wp2_with fail
   refine(n.out _ _ _ _).mono ?_;rintro e M ⟨rfl,j⟩;have I:=j.size;(try simp at I)
   obtain⟨z,B⟩:=jac j;have z1:w<M.heap.size:=om;go_wp2_with fail
   refine(n.out _ _ _ _).mono ?_;rintro e w2 ⟨rfl,p⟩;have s2:=p.size;(try simp at s2)
   obtain⟨Y,Z⟩:=jac p;have z2:w<w2.heap.size:=om;go_wp2;go_ret;exact⟨jaa q.out.symm,blw⟩
  have q:Hid (Jac e=Jan e.o):=hH (by simp[Jac,N,Q])
  go_wp2_with fail
  refine(n.out _ _ _ _).mono ?_;rintro e M ⟨rfl,j⟩;have I:=j.size;(try simp at I)
  obtain⟨z,B⟩:=jac j;have z1:w<M.heap.size:=om;go_wp2_with fail
  refine(n.out _ _ _ _).mono ?_;rintro e w2 ⟨rfl,p⟩;have s2:=p.size;(try simp at s2)
  obtain⟨Y,Z⟩:=jac p;have z2:w<w2.heap.size:=om;go_wp2_with fail
  refine(D.out _ e.o _ (U.below blw)).mono ?_;rintro e w3 ⟨rfl,u⟩;have s3:=u.size;(try simp at s3)
  obtain⟨hc3,hf3⟩:=jac u;go_wp2;go_ret;exact⟨jaa q.out.symm,blw⟩
def Qah:=@uaK 148 (.inl rfl)
def vah:=@uaK 66 (.inr rfl)
