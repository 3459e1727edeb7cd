/- Rows of one's own, results in new memory, slices of slices. -/
import Derived.Test.YtbonkabfmlajnaaGreatQrab
namespace Go.Proofs.YtbonkabfmlajnaaGreat
open Go.RowKit
theorem zae (W:World):∃(X:Type) (_:Nonempty X) (F:X->World),(∀x,Below W W (F x))/\(∀j,Below W W j->∃x,j=F x):=
 ⟨{j:World//Below W W j},⟨⟨W,lf _ _⟩⟩,fun x=>x.1,fun x=>x.2,fun j h=>⟨⟨j,h⟩,rfl⟩⟩
theorem uaa {P:Program}{id:Nat}{Q:Exit->Act->World->Prop}{a:Act}{w:World}{l:List Oper}{X:Type}{F:X->World}(u:P.follows .mixedOrders=true)(q:Region.lexB .any l.toArray=true)
 (p:∃x,w.drew=F x) (h:wpQuiet P l.toArray (fun n=>∃x,n=F x) (fun j=>∀x,Q .normal j (F x)) l a):(Code.region id l.toArray true).wp P Q a w:=by
 refine wp_region_quiet (C:=fun n=>∃x,n=F x) u q p ?_
 have:(fun j=>∀n,(∃x,n=F x)->Q .normal j n)=(fun j=>∀x,Q .normal j (F x)):=by
  funext j
  exact propext ⟨fun h x=>h _ ⟨x,rfl⟩,by rintro h _ ⟨x,rfl⟩;exact h x⟩
 simp only[this];exact h
theorem Calls.fam_tells {P:Program}{f:FuncId}{args:Array Value}{W:World}{X:Type}{F:X->World}(hF:∀x,Below W W (F x))(q:∀n,Below W W n->∃x,n=F x){x:X}{v:Value}
 (h:Calls P f args (F x) (yae (F x) v)):Calls P f args (F x) fun e j=>e= .returned v/\∃y,j=F y:=
 h.mono fun _ _ ⟨p,hb⟩=>⟨p,q _ ((hF x).trans (hb.mono (hF x).size))⟩
theorem At.put {w:World}{b o:Nat}{n:List Value}(h:At w b o n)(j:Nat)(p:j<n.length)(u:Value):At (w.setCell ⟨b,o+j,none⟩ u) b o (n.set j u):=by
 intro i v hi;rw[xaa];by_cases e:i=j
 ·subst e;rw[if_pos ⟨rfl,rfl⟩,h i _ (List.getElem?_eq_getElem p)];rw[List.getElem?_set_self p]at hi;exact hi
 ·rw[if_neg om];rw[List.getElem?_set_ne om]at hi;exact h i v hi
theorem Sl.put {α:Type}[GoT α]{M:Nat}{w:World}{v:Value}{l:List α}{fp:List Pos}(h:Sl M w v l fp){b o:Nat}(q:(b,o)∉fp)(u:Value):Sl M (w.setCell ⟨b,o,none⟩ u) v l fp:=
 h.keep fun p z=>World.cell?_setCell_other _ _ _ _ (fun e=>q (by
  have j:b=p.1:=congrArg Addr.block e;have n:o=p.2:=congrArg Addr.off e;rw[j,n];exact z))
theorem Sl.wr {α:Type}[GoT α]{M:Nat}{w j:World}{v:Value}{l:List α}{fp g:List Pos}(h:Sl M w v l fp)(n:Wr g w j)(hd:∀p∈fp,p∉g):Sl M j v l fp:=h.keep (n.same h.live hd)
theorem At.wr {w q:World}{b o:Nat}{n:List Value}{g:List Pos}(h:At w b o n)(u:Wr g w q)(hd:∀j<n.length,(b,o+j)∉g):At q b o n:=
 h.keep fun j p=>u.cell (b,o+j) (lk (w:=w) (a:=⟨b,o+j,none⟩) (h j _ (List.getElem?_eq_getElem p))) (hd j p)
theorem Qaa.put {B:Nat}{w:World}{fp:List Pos}(h:Qaa B w fp)(a:Addr)(u:Value):Qaa B (w.setCell a u) fp:=⟨h.nodup,h.ge,fun p j=>by rw[World.frozen?_setCell];exact h.free p j⟩
theorem Wr.put {fp:List Pos}{a w:World}(h:Wr fp a w){b o:Nat}(j:(b,o)∈fp)(v:Value):Wr fp a (w.setCell ⟨b,o,none⟩ v):=h.trans (Wr.setCell w j v)
theorem Sl.at_ {α:Type}[GoT α][GoM α]{M:Nat}{w:World}{v:Value}{l:List α}{fp:List Pos}{a b:Int}(h:Sl M w v (mkL a l) fp)(e:a=b):Sl M w v (mkL b l) fp:=e▸h
def Btw (C D:Nat)(w w':World):Prop:=∃fp,Wr fp w w'/\∀p∈fp,C<=p.1/\p.1<D
theorem Btw.below {C D:Nat}{w j:World}(h:Btw C D w j)(n:C<=w.heap.size):Below C w j:=let⟨_,h,k⟩:=h;h.below n fun p q=>(k p q).1
theorem Btw.mono {C D C' D':Nat}{w n:World}(h:Btw C D w n)(q:C'<=C)(u:D<=D'):Btw C' D' w n:=let⟨fp,h,k⟩:=h;⟨fp,h,fun p j=>⟨by have:=k p j;omega,by have:=k p j;omega⟩⟩
theorem Btw.own {α:Type}[GoT α]{C D C' D':Nat}{w n:World}{v:Value}{l:List α}(h:Btw C D w n)(u:zag C' D' w v l)(hd:D'<=C\/D<=C'):zag C' D' n v l:=by
 obtain⟨fp,h,k⟩:=h;obtain⟨g,s,f,d⟩:=u;refine⟨g,s.wr h fun p j q=> ?_,h.fresh s.live f,d⟩
 have:=k p q;have:=d p j;have:=f.ge p j;omega
theorem Btw.cell {C D:Nat}{w j:World}(h:Btw C D w j){b o:Nat}(hb:b<w.heap.size)(hd:b<C\/D<=b):j.cell? ⟨b,o,none⟩=w.cell? ⟨b,o,none⟩:=
 let⟨_,h,k⟩:=h;h.cell (b,o) hb fun n=>by have:=k _ n;simp at this;omega
theorem Btw.frozen {C D:Nat}{w j:World}(h:Btw C D w j){b o:Nat}(hb:b<w.heap.size):j.frozen? ⟨b,o,none⟩=w.frozen? ⟨b,o,none⟩:=let⟨_,h,_⟩:=h;h.frozen (b,o) hb
theorem Btw.size {C D:Nat}{w j:World}(h:Btw C D w j):w<=j.heap.size:=let⟨_,h,_⟩:=h;h.size
def ybh {α:Type}[GoT α][GoM α](C D:Nat)(w:World)(v:Value)(k:Int)(l:List α)(e:Ending)(w':World):Prop:=
 e= .returned (.int .i64 (k+ka0 l))/\zag C D w' v (mkL k l)/\Btw C D w w'
theorem Marks.b {α:Type}[GoT α][GoM α]{C D:Nat}{w:World}{v:Value}{k:Int}{l:List α}{fp:List Pos}{e:Ending}{q:World}(u:Sl BIG w v l fp)(j:Qaa C w fp)(hd:∀p∈fp,p.1<D)
 (h:Marks w v k l fp e q):ybh C D w v k l e q:=
 ⟨h.1,⟨fp,h.2.1,h.2.2.fresh u.live j,hd⟩,⟨fp,h.2.2,fun p n=>⟨j.ge p n,hd p n⟩⟩⟩
def rowP (n:Nat):Value->List Pos
 | .slice (some a) _ cap=>own a.block a.off (cap*n)
 |_=>[]
def Row {α:Type}[GoT α](B:Nat)(w:World)(v:Value)(l:List α)(fs:List Pos):Prop:=
 Sl BIG w v l (rowP (GoT.n α) v++fs)/\Qaa B w (rowP (GoT.n α) v)/\∀p∈fs,p∉rowP (GoT.n α) v
section
variable {α:Type} [GoT α] {B:Nat} {w w':World} {v:Value} {l xs:List α} {fs gs:List Pos}
theorem Row.rd (h:Row B w v l fs):RdS w v l:=⟨_,h.1⟩
theorem Row.nil (B:Nat)(w:World):Row (α:=α) B w (.slice none 0 0) [] []:=⟨Sl.nil,Qaa.nil _ _,fun _ h=>(by cases h)⟩
theorem Sl.split {M:Nat}{fp:List Pos}(h:Sl M w v l fp):∃fs,fp=rowP (GoT.n α) v++fs:=by
 rcases h with⟨j,rfl,rfl,rfl⟩|⟨b,o,cap,p,fs,rfl,_,_,_,_,_,_,rfl⟩
 ·refine⟨[],?_⟩;cases j with
  |none=>rfl
  |some a=>simp[rowP,own]
 ·exact⟨fs,rfl⟩
theorem uaf.row (h:uaf B w v l):∃fs,Row B w v l fs/\Qaa B w fs:=by
 obtain⟨fp,h,k⟩:=h;obtain⟨fs,rfl⟩:=h.split;exact⟨fs,⟨h,k.left,fun _ j n=>(ln.1 k.nodup).2.2 _ n _ j rfl⟩,k.right⟩
theorem Row.owns (h:Row B w v l fs)(j:Qaa B w fs):uaf B w v l:=
 ⟨_,h.1,h.2.1.join j fun _ n q p e=>h.2.2 q p (e▸n)⟩
theorem Row.live (h:Row B w v l fs):Live w fs:=(Live.append.1 h.1.live).2
theorem Row.mono {B':Nat}(h:Row B w v l fs)(j:B'<=B):Row B' w v l fs:=⟨h.1,h.2.1.mono j,h.2.2⟩
theorem Row.below (h:Row B w v l fs)(hb:Below w w w'):Row B w' v l fs:=by
 have j:=Live.lt h.1.live;exact⟨h.1.keep (Live.same_below hb j),h.2.1.below hb fun p n=>j p (lm.2 (.inl n)),h.2.2⟩
theorem Row.wr {g:List Pos}(h:Row B w v l fs)(j:Wr g w w')(hd:∀p∈rowP (GoT.n α) v++fs,p∉g):Row B w' v l fs:=
 ⟨h.1.wr j hd,j.fresh (Live.append.1 h.1.live).1 h.2.1,h.2.2⟩
theorem Els.flat (j:∀{M:Nat} {w:World} {c:List Value} {x:α} {f:List Pos},GoT.rd M w c x f->f=[]):∀{l:List α} {n:List Value} {fp:List Pos} {M:Nat},Els M w n l fp->fp=[]
 |[],_,_,_,h=>h.2
 |x::z,_,_,_,⟨c1,c2,f1,f2,_,p,q,u⟩=>by rw[u,j p,Els.flat j q];rfl
theorem Sl.flat (q:∀{M:Nat} {w:World} {c:List Value} {x:α} {f:List Pos},GoT.rd M w c x f->f=[]){M:Nat}{fp:List Pos}(h:Sl M w v l fp):fp=rowP (GoT.n α) v:=by
 rcases h with⟨j,rfl,rfl,rfl⟩|⟨b,o,cap,u,fs,rfl,_,_,_,_,p,_,rfl⟩
 ·cases j with
  |none=>rfl
  |some a=>simp[rowP,own]
 ·rw[p.flat q,List.append_nil];rfl
def Src {α:Type}[GoT α](w:World)(v:Value)(xs:List α)(gs:List Pos):Prop:=
 ∃ao c news,v= .slice ao xs.length c/\Els BIG w news xs gs/\((xs=[]/\ao=none/\c=0)\/∃a:Addr,ao=some a/\∀j u,news[j]? =some u->w.cell? (a.add j)=some u)
theorem addr_add (b o j:Nat):(⟨b,o,none⟩:Addr).add j=⟨b,o+j,none⟩:=by unfold Addr.add;split<;>simp_all
theorem Sl.src {fp:List Pos}(h:Sl BIG w v l fp):∃z,Src w v l z/\(∀p∈z,p∈fp)/\fp=rowP (GoT.n α) v++z:=by
 rcases h with⟨q,rfl,rfl,rfl⟩|⟨b,o,cap,D,fs,rfl,_,_,_,I,J,_,rfl⟩
 ·refine⟨[],⟨q,0,[],rfl,Els.nil,?_⟩,fun _ h=>h,?_⟩
  ·cases q with
   |none=>exact .inl ⟨rfl,rfl,rfl⟩
   |some a=>exact .inr ⟨a,rfl,fun j u B=>by simp at B⟩
  ·cases q with
   |none=>rfl
   |some a=>simp[rowP,own]
 ·exact⟨fs,⟨_,_,D,rfl,J,.inr ⟨_,rfl,fun j u B=>by rw[addr_add];exact I j u B⟩⟩,fun p M=>lm.2 (.inr M),rfl⟩
theorem Src.one {x:α}{c:List Value}{b o cap:Nat}{f:List Pos}(n:At w b o c)(q:GoT.rd BIG w c x f):Src w (.slice (some ⟨b,o,none⟩) 1 cap) [x] f:=
 ⟨_,cap,c,rfl,Els.single q,.inr ⟨_,rfl,fun j u p=>by rw[addr_add];exact n j u p⟩⟩
theorem uai {b:Nat}{fp:List Pos}:∀(vs:List Value) (o:Nat) (w:World),(∀j<vs.length,(b,o+j)∈fp)->Wr fp w (w.setCells b o vs)
 |[],_,w,_=>Wr.refl _ w
 |v::r,o,w,h=>by
  rw[World.setCells];refine(Wr.setCell w (by simpa using h 0 sm) v).trans (uai r (o+1) _ fun j n=> ?_)
  have:=h (j+1) (by simp;omega)
  rwa[show o+(j+1)=o+1+j by omega]at this
section
variable {P:Program}
theorem JaA (w:World)(T ty E:TypeId)(i:TypeInfo)(J:P.underlying T=some (.slice E))(hi:P.info? E=some i)(b o n p:Nat)
 (x:Value) (m:Nat) (news:List Value) (R:news.length=m*i.size) (U:∃I c,x= .slice I m c/\((news=[]/\I=none/\c=0/\m=0)\/∃a:Addr,I=some a/\∀j u,news[j]? =some u->w.cell? (a.add j)=some u)) (M:∀u∈news,u.oneCell'=true)
 (B:n+m<=p) (N:∀j,j<news.length->(w.cell? ⟨b,o+n*i.size+j,none⟩).isSome=true) (Q:∀j,j<news.length->w.frozen? ⟨b,o+n*i.size+j,none⟩=false):
 (Builtin.append_ #[T,T] ty #[.slice (some ⟨b,o,none⟩) n p,x]).run P w= .ok (.slice (some ⟨b,o,none⟩) (n+m) p) (w.setCells b (o+n*i.size) news):=by
 obtain⟨I,c,rfl,⟨rfl,rfl,rfl,rfl⟩|⟨a,rfl,z⟩⟩:=U
 ·have q:=run_firstCells_none (P:=P) (w:=w) i.size 0 0 0;simp[Builtin.append_,run_underlying J,sizeOf,typeInfo,hi,Builtin.lenOf,q,World.setCells,storeCells];intro Y;omega
 ·have q:=run_firstCells_some (P:=P) w i.size m a m c news R z;have D:=run_storeCells_cells (P:=P) b (o+n*i.size) news 0 w (by simpa using N) (by simpa using Q) M
  simp only[Nat.add_zero]at D;simp[Builtin.append_,run_underlying J,sizeOf,typeInfo,hi,Builtin.lenOf,B,q,Addr.add_lit,D]
theorem xba {E:TypeId}{os q zs:List Value}{cap:Nat}(I:Els BIG w os l fs)(M:Els BIG w q xs gs)(hz:zs.length=(cap-(l.length+xs.length))*GoT.n α)(U:l.length+xs.length<=cap)(Y:cap<=maxLen)
 (D:l.length+xs.length<=BIG) (R:B<=w.heap.size):
 Row B (w.drew.alloc (.cells (os.toArray++q.toArray++zs.toArray) E)) (.slice (some ⟨w,0,none⟩) (l.length+xs.length) cap) (l++xs) (fs++gs):=by
 have hb:Below w w (w.drew.alloc (.cells (os.toArray++q.toArray++zs.toArray) E)):=((lf _ _).drew).alloc (lr _) _;have J:(w.drew.alloc (.cells (os.toArray++q.toArray++zs.toArray) E)).heap[w.heap.size]? =some (.cells (os++(q++zs)).toArray E (0,0)):=by
  have:=heap_alloc_new w.drew (.cells (os.toArray++q.toArray++zs.toArray) E);simpa using this
 have l1:=I.length;have l2:=M.length;have N:os.length+(q.length+zs.length)=cap*GoT.n α:=by
  rw[l1,l2,hz,<-Nat.add_mul,<-Nat.add_mul];congr 1;omega
 have u:∀p∈own w 0 (cap*GoT.n α),((w.drew.alloc (.cells (os.toArray++q.toArray++zs.toArray) E)).cell? ⟨p.1,p.2,none⟩).isSome=true:=by
  intro p j;obtain⟨Q,e2,e3⟩:=Kaa.1 j;rw[Q,xao J,List.getElem?_eq_getElem (by simp;omega)]
  rfl
 have f1:=Live.lt I.live;have f2:=Live.lt M.live;have z:∀p∈fs++gs,p∉own w 0 (cap*GoT.n α):=by
  intro p j Z;have:=(Kaa.1 Z).1;rcases lm.1 j with j|j
  ·have:=f1 p j;omega
  ·have:=f2 p j;omega
 refine⟨.inr ⟨w,0,cap,os++q,fs++gs,by rw[List.length_append],by rw[List.length_append];exact U,Y,by rw[List.length_append];exact D,?_,?_,u,rfl⟩,⟨jau _ _ _,fun p j=> ?_,fun p j=> ?_⟩,z⟩
 ·have:=va5 (c1:=[]) (c2:=os++q) (c3:=zs) (E:=E) (fr:=(0,0)) (by rw[List.nil_append,List.append_assoc];exact J)
  simpa using this
 ·exact Els.append.2 ⟨os,q,fs,gs,rfl,I.keep (Live.same_below hb f1),M.keep (Live.same_below hb f2),rfl⟩
 ·rw[(Kaa.1 j).1];exact R
 ·rw[(Kaa.1 j).1];exact Zal J
theorem qak (z:Array Value)(n:Nat):∃zs:List Value,Builtin.zeroCells z n=zs.toArray/\zs.length=n*z.size:=⟨(Builtin.zeroCells z n).toList,by simp,by simp[size_zeroCells]⟩
theorem zaz {T ty E:TypeId}{i:TypeInfo}{z x:Value}{bytes:Nat}(ht:P.underlying T=some (.slice E))(hi:P.info? E=some i)(hz:i.zero=some z)(q:i.size=GoT.n α)(hby:i.bytes=bytes)(hzs:z.cells.size=GoT.n α)
 (h:Row B w v l fs) (hs:Src w x xs gs) (hd:∀p∈gs,p∉rowP (GoT.n α) v) (N:l.length+xs.length<=BIG) (D:(l.length+xs.length)*bytes<=140737488355328) (hB:B<=w.heap.size):
 ∃v' w',(Builtin.append_ #[T,T] ty #[v,x]).run P w= .ok v' w'/\Row B w' v' (l++xs) (fs++gs)/\Wr (rowP (GoT.n α) v) w w'/\(∀p∈rowP (GoT.n α) v',p∈rowP (GoT.n α) v\/w<=p.1):=by
 subst hby;have hlb:=QaR N;have hlm:l.length+xs.length<=maxLen:=by unfold maxLen;omega
 obtain⟨ao,c,news,rfl,Q,U⟩:=hs;have Y:=Q.length;have hone:=Q.one;have R:∀o:Obj,Wr (rowP (GoT.n α) v) w (w.drew.alloc o):=fun o=>Wr.of_below (((lf _ _).drew).alloc (lr _) o)
 obtain⟨hsl,hfr,hdis⟩:=h;rcases hsl with⟨bo,rfl,rfl,hfe⟩|⟨b,o,cap,cs,fs',rfl,h1,h2,h3,ha,he,hlv,hfe⟩
 ·have hfs:fs=[]:=(List.append_eq_nil_iff.1 hfe).2;subst hfs;by_cases hm:xs=[]
  ·subst hm;have hn:news=[]:=List.eq_nil_of_length_eq_zero (by simpa using Y)
   subst hn;have hgs:gs=[]:=Q.2;subst hgs;refine⟨.slice bo 0 0,w,?_,⟨.inl ⟨bo,rfl,rfl,by cases bo<;>simp[rowP,own]⟩,hfr,fun _ M=>(by cases M)⟩,Wr.refl _ _,fun p M=> .inl M⟩
   cases bo<;>rcases U with⟨_,rfl,rfl⟩|⟨a,rfl,_⟩<;>simp[Builtin.append_,run_underlying ht,sizeOf,typeInfo,hi,Builtin.lenOf,Builtin.firstCells,loadCells,loadCellsFrom,storeCells]
  ·have hpos:0<xs.length:=List.length_pos_iff.2 hm;rcases U with⟨hx,_⟩|⟨a,rfl,I⟩
   ·exact absurd hx hm
   ·simp only[List.length_nil,Nat.zero_add]at N D hlb hlm;obtain⟨zs,hze,hzl⟩:=qak z.cells (grownCap w xs.length 0 E-xs.length);have hge:=grownCap_ge w xs.length 0 E;have hcm:=grownCap_le_maxLen w xs.length 0 E hlm;have hrow:=xba (E:=E) (l:=[]) (os:=[]) (fs:=[]) (B:=B) (zs:=zs) (cap:=grownCap w xs.length 0 E) Els.nil Q (by rw[hzl,hzs];simp) (by simpa using hge) hcm (by simpa using N) hB
    simp only[List.length_nil,Nat.zero_add,List.nil_append,Array.empty_append]at hrow;have hnb:∀p∈rowP (GoT.n α) (.slice (some ⟨w,0,none⟩) xs.length (grownCap w xs.length 0 E)),p∈rowP (GoT.n α) (.slice bo 0 0)\/w<=p.1:=fun p M=> .inr (by rw[(Kaa.1 M).1];exact lr _)
    cases bo with
    |none=>
     have hr:=run_append_nil (P:=P) w T ty E i z ht hi hz a xs.length c news (by rw[Y,q]) I hpos om om
     rw[hze]at hr;exact⟨_,_,hr,hrow,R _,hnb⟩
    |some b0=>
     have hr:=run_append_grow (P:=P) w T ty E i z ht hi hz b0 0 0 [] sm (fun j u hu=>by simp at hu) a xs.length c news (by rw[Y,q]) I om om (growslice_fits om (by simpa using D))
     simp only[Nat.zero_add,Array.empty_append]at hr;rw[hze]at hr;exact⟨_,_,hr,hrow,R _,hnb⟩
 ·have hfe':fs=fs':=List.append_cancel_left hfe;subst hfe';have hcl:=he.length;by_cases J:l.length+xs.length<=cap
  ·have hin:∀j<news.length,(b,o+l.length*GoT.n α+j)∈own b o (cap*GoT.n α):=by
    intro j Z;have:=Nat.mul_le_mul_right (GoT.n α) J;rw[Nat.add_mul]at this;exact Kaa.2 ⟨rfl,by simp;omega,by simp;omega⟩
   have hr:=JaA (P:=P) w T ty E i ht hi b o l.length cap (.slice ao xs.length c) xs.length news (by rw[Y,q]) ⟨ao,c,rfl,U.imp (fun⟨h1,h2,h3⟩=>⟨List.eq_nil_of_length_eq_zero (by rw[Y,h1];simp),h2,h3,by rw[h1];rfl⟩) id⟩ hone J
    (fun j Z=>by rw[q];exact hlv _ (hin j Z)) (fun j Z=>by rw[q];exact hfr.free _ (hin j Z))
   rw[q]at hr;have hw:Wr (own b o (cap*GoT.n α)) w (w.setCells b (o+l.length*GoT.n α) news):=uai news _ w hin;have hl2:∀p∈fs,p∉own b o (cap*GoT.n α):=hdis;have hlive':Live (w.setCells b (o+l.length*GoT.n α) news) (own b o (cap*GoT.n α)):=by
    intro p M;obtain⟨e1,e2,e3⟩:=Kaa.1 M;by_cases hi2:o+l.length*GoT.n α<=p.2/\p.2<o+l.length*GoT.n α+news.length
    ·have:=World.cell?_setCells_in b news (o+l.length*GoT.n α) w (fun j Z=>hlv _ (hin j Z)) (p.2-(o+l.length*GoT.n α)) om
     rw[show o+l.length*GoT.n α+(p.2-(o+l.length*GoT.n α))=p.2 by omega]at this
     rw[e1,this];rfl
    ·rw[World.cell?_setCells_out b news _ w ⟨p.1,p.2,none⟩ (fun _ _=>by simp;omega)]
     exact hlv p M
   refine⟨_,_,hr,⟨.inr ⟨b,o,cap,cs++news,fs++gs,by rw[List.length_append],by rw[List.length_append];exact J,h2,by rw[List.length_append];exact N,?_,?_,hlive',rfl⟩,hw.fresh hlv hfr,?_⟩,hw,fun p M=> .inl M⟩
   ·refine At.append.2 ⟨ha.keep fun j Z=> ?_,?_⟩
    ·exact World.cell?_setCells_out b news _ w ⟨b,o+j,none⟩ (fun _ _=>by simp;omega)
    ·rw[hcl];intro j u Z;have hjl:=(lg.1 Z).1;rw[World.cell?_setCells_in b news (o+l.length*GoT.n α) w (fun j Z=>hlv _ (hin j Z)) j hjl,<-Z,List.getElem?_eq_getElem hjl]
   ·exact Els.append.2 ⟨cs,news,fs,gs,rfl,he.keep (hw.same he.live hl2),Q.keep (hw.same Q.live hd),rfl⟩
   ·intro p M;rcases lm.1 M with M|M
    ·exact hl2 p M
    ·exact hd p M
  ·rcases U with⟨rfl,_⟩|⟨a,rfl,I⟩
   ·simp at J;omega
   ·obtain⟨zs,hze,hzl⟩:=qak z.cells (grownCap w (l.length+xs.length) cap E-(l.length+xs.length));have hge:=grownCap_ge w (l.length+xs.length) cap E;have hcm:=grownCap_le_maxLen w (l.length+xs.length) cap E hlm;have hr:=run_append_grow (P:=P) w T ty E i z ht hi hz ⟨b,o,none⟩ l.length cap cs (by rw[hcl,q]) (fun j u hu=>by rw[addr_add];exact ha j u hu) a xs.length c news (by rw[Y,q]) I om om (growslice_fits om D)
    rw[hze]at hr;exact⟨_,_,hr,xba he Q (by rw[hzl,hzs]) hge hcm N hB,R _,fun p M=> .inr (by rw[(Kaa.1 M).1];exact lr _)⟩
end
theorem qaa {P:Program}{D:Array Oper}{rest:List Oper}{o:Oper}{a:Act}{Q:Exit->Act->World->Prop}(R:o.guard=none)(s y:Operand)(T:TypeId)
 (ho:o.op= .call {callee:= .builtin .append,args:= #[s,y],argTypes:= #[T,T]}) {E:TypeId} {i:TypeInfo} {z:Value} {bytes:Nat} (ht:P.underlying T=some (.slice E)) (hi:P.info? E=some i) (hz:i.zero=some z)
 (q:i.size=GoT.n α) (N:i.bytes=bytes) (U:z.cells.size=GoT.n α) {x:Value} (hv:a.eval s=v) (hx:a.eval y=x)
 (h:Row B w v l fs) (hs:Src w x xs gs) (hd:∀p∈gs,p∉rowP (GoT.n α) v) (u:l.length+xs.length<=BIG) (j:(l.length+xs.length)*bytes<=140737488355328) (hB:B<=w.heap.size)
 (hK:∀I J,Row B J I (l++xs) (fs++gs)->Wr (rowP (GoT.n α) v) w J->(∀p∈rowP (GoT.n α) I,p∈rowP (GoT.n α) v\/w<=p.1)->wpList P D Q rest (a.put o.dst I) J):wpList P D Q (o::rest) a w:=by
 refine wpList_plain R fun K M=> ?_
 obtain⟨I,J,hr,Y,Z,h4⟩:=zaz (P:=P) (ty:=o.type) ht hi hz q N U h hs hd u j hB;unfold Oper.wp;simp[execOp,ho,resolve,invoke,builtin,hv,hx,hr,Result.andThen];exact M _ _ (hK I J Y Z h4)
end
def Kept (fp:List Pos)(a w:World):Prop:=∀p∈fp,w.cell? ⟨p.1,p.2,none⟩=a.cell? ⟨p.1,p.2,none⟩/\w.frozen? ⟨p.1,p.2,none⟩=a.frozen? ⟨p.1,p.2,none⟩
theorem Kept.refl (fp:List Pos)(a:World):Kept fp a a:=fun _ _=>⟨rfl,rfl⟩
theorem Kept.below {fp:List Pos}{a w q:World}{C:Nat}(h:Kept fp a w)(hb:Below C w q)(n:∀p∈fp,p.1<C):Kept fp a q:=fun p j=>
 ⟨(hb.cell (p:=⟨p.1,p.2,none⟩) (n p j)).trans (h p j).1,(hb.frozen (p:=⟨p.1,p.2,none⟩) (n p j)).trans (h p j).2⟩
theorem Kept.wr {fp g:List Pos}{a w u:World}(h:Kept fp a w)(q:Wr g w u)(n:∀p∈fp,p.1<w)(hd:∀p∈fp,p∉g):Kept fp a u:=fun p j=>
 ⟨(q.cell p (n p j) (hd p j)).trans (h p j).1,(q.frozen p (n p j)).trans (h p j).2⟩
theorem Kept.sub {fp g:List Pos}{a w:World}(h:Kept fp a w)(n:∀p∈g,p∈fp):Kept g a w:=fun p j=>h p (n p j)
theorem ybi {w j:World}{b o:Nat}{v:Value}(hb:Below w w j)(c:w.cell? ⟨b,o,none⟩=some v):j.cell? ⟨b,o,none⟩=some v:=(hb.cell (p:=⟨b,o,none⟩) (lk (w:=w) (a:=⟨b,o,none⟩) c)).trans c
theorem jag {w W j:World}{g:List Pos}{b o:Nat}{v:Value}(hb:Below w w W)(p:Wr g W j)(c:w.cell? ⟨b,o,none⟩=some v)(n:(b,o)∉g):j.cell? ⟨b,o,none⟩=some v:=
 (p.cell (b,o) (lq (lk (w:=w) (a:=⟨b,o,none⟩) c) hb.size) n).trans (ybi hb c)
theorem Zaf {B C:Nat}{a W j:World}(h:Below B a W)(hb:Below C W j)(n:B<=C):Below B a j:=h.trans (hb.mono n)
theorem Qaa.dis {B:Nat}{w:World}{f g:List Pos}(h:Qaa B w (f++g)):∀p∈f,p∉g:=fun _ j n=>(ln.1 h.nodup).2.2 _ j _ n rfl
theorem Sl.belowW {α:Type}[GoT α]{M:Nat}{w W:World}{v:Value}{l:List α}{f:List Pos}(h:Sl M w v l f)(hb:Below w w W):Sl M W v l f:=h.keep (Live.same_below hb (Live.lt h.live))
theorem Sl.wr2 {α:Type}[GoT α]{M:Nat}{w W j:World}{v:Value}{l:List α}{f g:List Pos}(h:Sl M w v l f)(hb:Below w w W)(n:Wr g W j)(hd:∀p∈f,p∉g):Sl M j v l f:=(h.belowW hb).wr n hd
theorem Qaa.belowL {B:Nat}{w W:World}{f:List Pos}(h:Qaa B w f)(hb:Below w w W)(j:∀p∈f,p.1<w):Qaa B W f:=h.below hb j
theorem Qaa.wr2 {B:Nat}{w W q:World}{f g:List Pos}(h:Qaa B w f)(hb:Below w w W)(u:Wr g W q)(n:∀p∈f,p.1<w):Qaa B q f:=
 ⟨h.nodup,h.ge,fun p j=>(u.frozen p (lq (n p j) hb.size)).trans ((hb.frozen (p:=⟨p.1,p.2,none⟩) (n p j)).trans (h.free p j))⟩
theorem Kept.wr2 {fp g:List Pos}{a w W n:World}(h:Kept fp a w)(hb:Below w w W)(u:Wr g W n)(j:∀p∈fp,p.1<w)(hd:∀p∈fp,p∉g):Kept fp a n:=
 (h.below hb j).wr u (fun p q=>lq (j p q) hb.size) hd
theorem wrs {w W j:World}{g:List Pos}(n:Wr g W j)(hb:Below w w W):w<=j.heap.size:=Nat.le_trans hb.size n.size
theorem wrb {w W q:World}{g:List Pos}{C:Nat}(u:Wr g W q)(hb:Below w w W)(n:C<=w.heap.size)(j:∀p∈g,C<=p.1):Below C w q:=(hb.mono n).trans (u.below (Nat.le_trans n hb.size) j)
theorem Qaa.pre2 {B:Nat}{w:World}{a b c:List Pos}(h:Qaa B w (a++(b++c))):Qaa B w (a++b):=by rw[<-List.append_assoc]at h;exact h.left
def Ka7 (w:World)(y0:qac)(y1:Bool)(e:Ending)(w':World):Prop:=
 e= .returned (.tuple #[.agg #[y0.client,y0.seq,y0.rev],y1])/\Below w w w'
def uay (w:World)(y0:List Int)(y1:Bool)(e:Ending)(w':World):Prop:=
 ∃v0 f0,e= .returned (.tuple #[v0,y1])/\Sl BIG w' v0 y0 f0/\Qaa w w' f0/\Below w w w'
def KaX (w:World)(y0:List (List zaa))(y1:Bool)(e:Ending)(w':World):Prop:=
 ∃v0 f0,e= .returned (.tuple #[v0,y1])/\Sl BIG w' v0 y0 f0/\Qaa w w' f0/\Below w w w'
def qat (w:World)(y0:vac)(e:Ending)(w':World):Prop:=
 ∃v0_list f0_list,e= .returned (.agg #[y0.cap,y0.next,y0.out,v0_list])/\Sl BIG w' v0_list y0.list f0_list/\Qaa w w' f0_list/\Below w w w'
def zau (w:World)(y0:vac)(y1:Bool)(e:Ending)(w':World):Prop:=
 ∃v0_list f0_list,e= .returned (.tuple #[.agg #[y0.cap,y0.next,y0.out,v0_list],y1])/\Sl BIG w' v0_list y0.list f0_list/\Qaa w w' f0_list/\Below w w w'
def xae (w:World)(y0:vac)(y1:List yab)(y2:Int)(e:Ending)(w':World):Prop:=
 ∃v0_list v1 f0_list f1,e= .returned (.tuple #[.agg #[y0.cap,y0.next,y0.out,v0_list],v1,y2])/\Sl BIG w' v0_list y0.list f0_list/\Sl BIG w' v1 y1 f1/\Qaa w w' (f0_list++f1)/\Below w w w'
def vaC (w:World)(y0:Xac)(y1:Bool)(e:Ending)(w':World):Prop:=
 ∃v0_text v0_list v0_seen f0_text f0_list f0_seen,e= .returned (.tuple #[.agg #[y0.name,y0.from_,v0_text,v0_list,v0_seen],y1])/\Sl BIG w' v0_text y0.text f0_text/\Sl BIG w' v0_list y0.list f0_list/\Sl BIG w' v0_seen y0.seen f0_seen/\y0.name.size<=BIG/\Qaa w w' (f0_text++(f0_list++f0_seen))/\Below w w w'
def zbd (w:World)(y0:List Int)(e:Ending)(w':World):Prop:=
 ∃v0 f0,e= .returned (v0)/\Sl BIG w' v0 y0 f0/\Qaa w w' f0/\Below w w w'
def kaY (w:World)(y0:List yab)(y1:Int)(e:Ending)(w':World):Prop:=
 ∃v0 f0,e= .returned (.tuple #[v0,y1])/\Sl BIG w' v0 y0 f0/\Qaa w w' f0/\Below w w w'
def Za2 (w:World)(y0:List zaa)(y1:Int)(e:Ending)(w':World):Prop:=
 ∃v0 f0,e= .returned (.tuple #[v0,y1])/\Sl BIG w' v0 y0 f0/\Qaa w w' f0/\Below w w w'
def Zar (w:World)(y0:Xac)(y1:Int)(y2:Int)(e:Ending)(w':World):Prop:=
 ∃v0_text v0_list v0_seen f0_text f0_list f0_seen,e= .returned (.tuple #[.agg #[y0.name,y0.from_,v0_text,v0_list,v0_seen],y1,y2])/\Sl BIG w' v0_text y0.text f0_text/\Sl BIG w' v0_list y0.list f0_list/\Sl BIG w' v0_seen y0.seen f0_seen/\y0.name.size<=BIG/\Qaa w w' (f0_text++(f0_list++f0_seen))/\Below w w w'
def xau (w:World)(y0:qae)(y1:Int)(e:Ending)(w':World):Prop:=
 ∃v0_docs v0_subs f0_docs f0_subs,e= .returned (.tuple #[.agg #[y0.shut,v0_docs,v0_subs,y0.last],y1])/\Sl BIG w' v0_docs y0.docs f0_docs/\Sl BIG w' v0_subs y0.subs f0_subs/\Qaa w w' (f0_docs++f0_subs)/\Below w w w'
def Xar (w:World)(y0:qae)(y1:Int)(y2:Int)(e:Ending)(w':World):Prop:=
 ∃v0_docs v0_subs f0_docs f0_subs,e= .returned (.tuple #[.agg #[y0.shut,v0_docs,v0_subs,y0.last],y1,y2])/\Sl BIG w' v0_docs y0.docs f0_docs/\Sl BIG w' v0_subs y0.subs f0_subs/\Qaa w w' (f0_docs++f0_subs)/\Below w w w'
def jaq (w:World)(y0:qae)(y1:List yab)(y2:Int)(e:Ending)(w':World):Prop:=
 ∃v0_docs v0_subs v1 f0_docs f0_subs f1,e= .returned (.tuple #[.agg #[y0.shut,v0_docs,v0_subs,y0.last],v1,y2])/\Sl BIG w' v0_docs y0.docs f0_docs/\Sl BIG w' v0_subs y0.subs f0_subs/\Sl BIG w' v1 y1 f1/\Qaa w w' (f0_docs++(f0_subs++f1))/\Below w w w'
def qaq (w:World)(y0:qae)(y1:List Int)(y2:Int)(y3:Int)(e:Ending)(w':World):Prop:=
 ∃v0_docs v0_subs v1 f0_docs f0_subs f1,e= .returned (.tuple #[.agg #[y0.shut,v0_docs,v0_subs,y0.last],v1,y2,y3])/\Sl BIG w' v0_docs y0.docs f0_docs/\Sl BIG w' v0_subs y0.subs f0_subs/\Sl BIG w' v1 y1 f1/\Qaa w w' (f0_docs++(f0_subs++f1))/\Below w w w'
def qap (w:World)(y0:qae)(y1:Kal)(e:Ending)(w':World):Prop:=
 ∃v0_docs v0_subs v1_text v1_list f0_docs f0_subs f1_text f1_list,e= .returned (.tuple #[.agg #[y0.shut,v0_docs,v0_subs,y0.last],.agg #[y1.code,y1.rev,v1_text,v1_list]])/\Sl BIG w' v0_docs y0.docs f0_docs/\Sl BIG w' v0_subs y0.subs f0_subs/\Sl BIG w' v1_text y1.text f1_text/\Sl BIG w' v1_list y1.list f1_list/\Qaa w w' (f0_docs++(f0_subs++(f1_text++f1_list)))/\Below w w w'
def kau (w:World)(y0:Kal)(e:Ending)(w':World):Prop:=
 ∃v0_text v0_list f0_text f0_list,e= .returned (.agg #[y0.code,y0.rev,v0_text,v0_list])/\Sl BIG w' v0_text y0.text f0_text/\Sl BIG w' v0_list y0.list f0_list/\Qaa w w' (f0_text++f0_list)/\Below w w w'
theorem tb {P:Program}{f:Nat}{args:Array Value}{w W:World}{b j:Bool}(h:Calls P f args w (yae W (.bool b)))(e:b=j):Calls P f args w (yae W (.bool j)):=e▸h
theorem Kam {B b:Nat}{a w:World}{j n q u:Value}(h:Below B a w)(hb:B<=b):Below B a ((((w.setCell ⟨b,0,none⟩ j).setCell ⟨b,1,none⟩ n).setCell ⟨b,2,none⟩ q).setCell ⟨b,3,none⟩ u):=
 (((h.setCell (p:=⟨b,0,none⟩) hb _).setCell (p:=⟨b,1,none⟩) hb _).setCell (p:=⟨b,2,none⟩) hb _).setCell (p:=⟨b,3,none⟩) hb _
theorem kar {B b:Nat}{a w:World}{j n q u z:Value}(h:Below B a w)(hb:B<=b):Below B a (((((w.setCell ⟨b,0,none⟩ j).setCell ⟨b,1,none⟩ n).setCell ⟨b,2,none⟩ q).setCell ⟨b,3,none⟩ u).setCell ⟨b,4,none⟩ z):=
 (Kam h hb).setCell (p:=⟨b,4,none⟩) hb _
def Bx (w:World)(b:Nat)(vs:List Value):Prop:=b<w.heap.size/\∀j v,vs[j]? =some v->w.cell? ⟨b,j,none⟩=some v/\w.frozen? ⟨b,j,none⟩=false
section
variable {w w':World} {b C:Nat} {vs:List Value}
theorem Bx.lt (h:Bx w b vs):b<w.heap.size:=h.1
theorem Bx.new {c:Array Value}{t:TypeId}(hb:b=w.heap.size):Bx (w.alloc (.cells c t)) b c.toList:=by
 subst hb;exact⟨by simp,fun j v n=>⟨by rw[World.cell?_alloc_at _ _ _ _ rfl];simpa using n,World.frozen?_alloc_at _ _ _ _ rfl⟩⟩
theorem Bx.below (h:Bx w b vs)(hb:Below C w w')(n:b<C):Bx w' b vs:=
 ⟨lq h.1 hb.size,fun j v q=>⟨(hb.cell (p:=⟨b,j,none⟩) n).trans (h.2 j v q).1,(hb.frozen (p:=⟨b,j,none⟩) n).trans (h.2 j v q).2⟩⟩
theorem Bx.at (h:Bx w b vs)(hb:Below w w w'):Bx w' b vs:=h.below hb h.1
theorem Bx.alloc (h:Bx w b vs)(o:Obj):Bx (w.alloc o) b vs:=h.at ((lf _ _).alloc (lr _) o)
theorem Bx.drew (h:Bx w b vs):Bx w.drew b vs:=h
theorem Bx.drewN (h:Bx w b vs)(n:Nat):Bx (w.drewN n) b vs:=h
theorem Bx.setO {n o:Nat}{u:Value}(h:Bx w b vs)(q:b≠n):Bx (w.setCell ⟨n,o,none⟩ u) b vs:=
 ⟨by simpa using h.1,fun j v p=>⟨by rw[xaa,if_neg (fun e=>q e.1)];exact(h.2 j v p).1,by rw[World.frozen?_setCell];exact(h.2 j v p).2⟩⟩
theorem Bx.set (h:Bx w b vs)(k:Nat)(u:Value):Bx (w.setCell ⟨b,k,none⟩ u) b (vs.set k u):=by
 refine⟨by simpa using h.1,fun j v n=> ?_⟩
 rw[World.frozen?_setCell,xaa];by_cases e:j=k
 ·subst e;have p:j<vs.length:=by have:=(lg.1 n).1;simpa using this
  rw[List.getElem?_set_self p]at n;obtain⟨D,B⟩:=Jaa p;obtain⟨q,z⟩:=h.2 j D B;rw[if_pos ⟨rfl,rfl⟩,q];exact⟨by simpa using n,z⟩
 ·rw[List.getElem?_set_ne (Ne.symm e)]at n;rw[if_neg (fun g=>e g.2)]
  exact h.2 j v n
theorem Bx.wr {fp:List Pos}(h:Bx w b vs)(n:Wr fp w w')(z:∀p∈fp,p.1≠b):Bx w' b vs:=
 ⟨lq h.1 n.size,fun j v q=>⟨(n.cell (b,j) h.1 fun u=>z _ u rfl).trans (h.2 j v q).1,(n.frozen (b,j) h.1).trans (h.2 j v q).2⟩⟩
end
section
variable {w:World} {b:Nat} {v0 v1 v2 v3 v4 v5 v6:Value}
theorem Bx.o1 (h:Bx w b [v0]):b<w.heap.size/\w.cell? ⟨b,0,none⟩=some v0:=⟨h.1,(h.2 0 _ rfl).1⟩
theorem Bx.q1 (h:Bx w b [v0]):b<w.heap.size/\w.cell? ⟨b,0,none⟩=some v0/\w.frozen? ⟨b,0,none⟩=false:=⟨h.1,(h.2 0 _ rfl).1,(h.2 0 _ rfl).2⟩
theorem Bx.o2 (h:Bx w b [v0,v1]):b<w.heap.size/\w.cell? ⟨b,0,none⟩=some v0/\w.cell? ⟨b,1,none⟩=some v1:=⟨h.1,(h.2 0 _ rfl).1,(h.2 1 _ rfl).1⟩
theorem Bx.q2 (h:Bx w b [v0,v1]):b<w.heap.size/\w.cell? ⟨b,0,none⟩=some v0/\w.cell? ⟨b,1,none⟩=some v1/\w.frozen? ⟨b,0,none⟩=false/\w.frozen? ⟨b,1,none⟩=false:=⟨h.1,(h.2 0 _ rfl).1,(h.2 1 _ rfl).1,(h.2 0 _ rfl).2,(h.2 1 _ rfl).2⟩
theorem Bx.o3 (h:Bx w b [v0,v1,v2]):b<w.heap.size/\w.cell? ⟨b,0,none⟩=some v0/\w.cell? ⟨b,1,none⟩=some v1/\w.cell? ⟨b,2,none⟩=some v2:=⟨h.1,(h.2 0 _ rfl).1,(h.2 1 _ rfl).1,(h.2 2 _ rfl).1⟩
theorem Bx.q3 (h:Bx w b [v0,v1,v2]):b<w.heap.size/\w.cell? ⟨b,0,none⟩=some v0/\w.cell? ⟨b,1,none⟩=some v1/\w.cell? ⟨b,2,none⟩=some v2/\w.frozen? ⟨b,0,none⟩=false/\w.frozen? ⟨b,1,none⟩=false/\w.frozen? ⟨b,2,none⟩=false:=⟨h.1,(h.2 0 _ rfl).1,(h.2 1 _ rfl).1,(h.2 2 _ rfl).1,(h.2 0 _ rfl).2,(h.2 1 _ rfl).2,(h.2 2 _ rfl).2⟩
theorem Bx.o4 (h:Bx w b [v0,v1,v2,v3]):b<w.heap.size/\w.cell? ⟨b,0,none⟩=some v0/\w.cell? ⟨b,1,none⟩=some v1/\w.cell? ⟨b,2,none⟩=some v2/\w.cell? ⟨b,3,none⟩=some v3:=⟨h.1,(h.2 0 _ rfl).1,(h.2 1 _ rfl).1,(h.2 2 _ rfl).1,(h.2 3 _ rfl).1⟩
theorem Bx.q4 (h:Bx w b [v0,v1,v2,v3]):b<w.heap.size/\w.cell? ⟨b,0,none⟩=some v0/\w.cell? ⟨b,1,none⟩=some v1/\w.cell? ⟨b,2,none⟩=some v2/\w.cell? ⟨b,3,none⟩=some v3/\w.frozen? ⟨b,0,none⟩=false/\w.frozen? ⟨b,1,none⟩=false/\w.frozen? ⟨b,2,none⟩=false/\w.frozen? ⟨b,3,none⟩=false:=⟨h.1,(h.2 0 _ rfl).1,(h.2 1 _ rfl).1,(h.2 2 _ rfl).1,(h.2 3 _ rfl).1,(h.2 0 _ rfl).2,(h.2 1 _ rfl).2,(h.2 2 _ rfl).2,(h.2 3 _ rfl).2⟩
theorem Bx.o5 (h:Bx w b [v0,v1,v2,v3,v4]):b<w.heap.size/\w.cell? ⟨b,0,none⟩=some v0/\w.cell? ⟨b,1,none⟩=some v1/\w.cell? ⟨b,2,none⟩=some v2/\w.cell? ⟨b,3,none⟩=some v3/\w.cell? ⟨b,4,none⟩=some v4:=⟨h.1,(h.2 0 _ rfl).1,(h.2 1 _ rfl).1,(h.2 2 _ rfl).1,(h.2 3 _ rfl).1,(h.2 4 _ rfl).1⟩
theorem Bx.q5 (h:Bx w b [v0,v1,v2,v3,v4]):b<w.heap.size/\w.cell? ⟨b,0,none⟩=some v0/\w.cell? ⟨b,1,none⟩=some v1/\w.cell? ⟨b,2,none⟩=some v2/\w.cell? ⟨b,3,none⟩=some v3/\w.cell? ⟨b,4,none⟩=some v4/\w.frozen? ⟨b,0,none⟩=false/\w.frozen? ⟨b,1,none⟩=false/\w.frozen? ⟨b,2,none⟩=false/\w.frozen? ⟨b,3,none⟩=false/\w.frozen? ⟨b,4,none⟩=false:=⟨h.1,(h.2 0 _ rfl).1,(h.2 1 _ rfl).1,(h.2 2 _ rfl).1,(h.2 3 _ rfl).1,(h.2 4 _ rfl).1,(h.2 0 _ rfl).2,(h.2 1 _ rfl).2,(h.2 2 _ rfl).2,(h.2 3 _ rfl).2,(h.2 4 _ rfl).2⟩
theorem Bx.o6 (h:Bx w b [v0,v1,v2,v3,v4,v5]):b<w.heap.size/\w.cell? ⟨b,0,none⟩=some v0/\w.cell? ⟨b,1,none⟩=some v1/\w.cell? ⟨b,2,none⟩=some v2/\w.cell? ⟨b,3,none⟩=some v3/\w.cell? ⟨b,4,none⟩=some v4/\w.cell? ⟨b,5,none⟩=some v5:=⟨h.1,(h.2 0 _ rfl).1,(h.2 1 _ rfl).1,(h.2 2 _ rfl).1,(h.2 3 _ rfl).1,(h.2 4 _ rfl).1,(h.2 5 _ rfl).1⟩
theorem Bx.q6 (h:Bx w b [v0,v1,v2,v3,v4,v5]):b<w.heap.size/\w.cell? ⟨b,0,none⟩=some v0/\w.cell? ⟨b,1,none⟩=some v1/\w.cell? ⟨b,2,none⟩=some v2/\w.cell? ⟨b,3,none⟩=some v3/\w.cell? ⟨b,4,none⟩=some v4/\w.cell? ⟨b,5,none⟩=some v5/\w.frozen? ⟨b,0,none⟩=false/\w.frozen? ⟨b,1,none⟩=false/\w.frozen? ⟨b,2,none⟩=false/\w.frozen? ⟨b,3,none⟩=false/\w.frozen? ⟨b,4,none⟩=false/\w.frozen? ⟨b,5,none⟩=false:=⟨h.1,(h.2 0 _ rfl).1,(h.2 1 _ rfl).1,(h.2 2 _ rfl).1,(h.2 3 _ rfl).1,(h.2 4 _ rfl).1,(h.2 5 _ rfl).1,(h.2 0 _ rfl).2,(h.2 1 _ rfl).2,(h.2 2 _ rfl).2,(h.2 3 _ rfl).2,(h.2 4 _ rfl).2,(h.2 5 _ rfl).2⟩
theorem Bx.o7 (h:Bx w b [v0,v1,v2,v3,v4,v5,v6]):b<w.heap.size/\w.cell? ⟨b,0,none⟩=some v0/\w.cell? ⟨b,1,none⟩=some v1/\w.cell? ⟨b,2,none⟩=some v2/\w.cell? ⟨b,3,none⟩=some v3/\w.cell? ⟨b,4,none⟩=some v4/\w.cell? ⟨b,5,none⟩=some v5/\w.cell? ⟨b,6,none⟩=some v6:=⟨h.1,(h.2 0 _ rfl).1,(h.2 1 _ rfl).1,(h.2 2 _ rfl).1,(h.2 3 _ rfl).1,(h.2 4 _ rfl).1,(h.2 5 _ rfl).1,(h.2 6 _ rfl).1⟩
theorem Bx.q7 (h:Bx w b [v0,v1,v2,v3,v4,v5,v6]):b<w.heap.size/\w.cell? ⟨b,0,none⟩=some v0/\w.cell? ⟨b,1,none⟩=some v1/\w.cell? ⟨b,2,none⟩=some v2/\w.cell? ⟨b,3,none⟩=some v3/\w.cell? ⟨b,4,none⟩=some v4/\w.cell? ⟨b,5,none⟩=some v5/\w.cell? ⟨b,6,none⟩=some v6/\w.frozen? ⟨b,0,none⟩=false/\w.frozen? ⟨b,1,none⟩=false/\w.frozen? ⟨b,2,none⟩=false/\w.frozen? ⟨b,3,none⟩=false/\w.frozen? ⟨b,4,none⟩=false/\w.frozen? ⟨b,5,none⟩=false/\w.frozen? ⟨b,6,none⟩=false:=⟨h.1,(h.2 0 _ rfl).1,(h.2 1 _ rfl).1,(h.2 2 _ rfl).1,(h.2 3 _ rfl).1,(h.2 4 _ rfl).1,(h.2 5 _ rfl).1,(h.2 6 _ rfl).1,(h.2 0 _ rfl).2,(h.2 1 _ rfl).2,(h.2 2 _ rfl).2,(h.2 3 _ rfl).2,(h.2 4 _ rfl).2,(h.2 5 _ rfl).2,(h.2 6 _ rfl).2⟩
theorem Bx.c1 (h:Bx w b [v0]):w.cell? ⟨b,0,none⟩=some v0:=(h.2 0 _ rfl).1
theorem Bx.f1 (h:Bx w b [v0]):w.frozen? ⟨b,0,none⟩=false:=(h.2 0 _ rfl).2
theorem Bx.c2 (h:Bx w b [v0,v1]):w.cell? ⟨b,0,none⟩=some v0/\w.cell? ⟨b,1,none⟩=some v1:=⟨(h.2 0 _ rfl).1,(h.2 1 _ rfl).1⟩
theorem Bx.f2 (h:Bx w b [v0,v1]):w.frozen? ⟨b,0,none⟩=false/\w.frozen? ⟨b,1,none⟩=false:=⟨(h.2 0 _ rfl).2,(h.2 1 _ rfl).2⟩
theorem Bx.c3 (h:Bx w b [v0,v1,v2]):w.cell? ⟨b,0,none⟩=some v0/\w.cell? ⟨b,1,none⟩=some v1/\w.cell? ⟨b,2,none⟩=some v2:=⟨(h.2 0 _ rfl).1,(h.2 1 _ rfl).1,(h.2 2 _ rfl).1⟩
theorem Bx.f3 (h:Bx w b [v0,v1,v2]):w.frozen? ⟨b,0,none⟩=false/\w.frozen? ⟨b,1,none⟩=false/\w.frozen? ⟨b,2,none⟩=false:=⟨(h.2 0 _ rfl).2,(h.2 1 _ rfl).2,(h.2 2 _ rfl).2⟩
theorem Bx.c4 (h:Bx w b [v0,v1,v2,v3]):w.cell? ⟨b,0,none⟩=some v0/\w.cell? ⟨b,1,none⟩=some v1/\w.cell? ⟨b,2,none⟩=some v2/\w.cell? ⟨b,3,none⟩=some v3:=⟨(h.2 0 _ rfl).1,(h.2 1 _ rfl).1,(h.2 2 _ rfl).1,(h.2 3 _ rfl).1⟩
theorem Bx.f4 (h:Bx w b [v0,v1,v2,v3]):w.frozen? ⟨b,0,none⟩=false/\w.frozen? ⟨b,1,none⟩=false/\w.frozen? ⟨b,2,none⟩=false/\w.frozen? ⟨b,3,none⟩=false:=⟨(h.2 0 _ rfl).2,(h.2 1 _ rfl).2,(h.2 2 _ rfl).2,(h.2 3 _ rfl).2⟩
theorem Bx.c5 (h:Bx w b [v0,v1,v2,v3,v4]):w.cell? ⟨b,0,none⟩=some v0/\w.cell? ⟨b,1,none⟩=some v1/\w.cell? ⟨b,2,none⟩=some v2/\w.cell? ⟨b,3,none⟩=some v3/\w.cell? ⟨b,4,none⟩=some v4:=⟨(h.2 0 _ rfl).1,(h.2 1 _ rfl).1,(h.2 2 _ rfl).1,(h.2 3 _ rfl).1,(h.2 4 _ rfl).1⟩
theorem Bx.f5 (h:Bx w b [v0,v1,v2,v3,v4]):w.frozen? ⟨b,0,none⟩=false/\w.frozen? ⟨b,1,none⟩=false/\w.frozen? ⟨b,2,none⟩=false/\w.frozen? ⟨b,3,none⟩=false/\w.frozen? ⟨b,4,none⟩=false:=⟨(h.2 0 _ rfl).2,(h.2 1 _ rfl).2,(h.2 2 _ rfl).2,(h.2 3 _ rfl).2,(h.2 4 _ rfl).2⟩
theorem Bx.c6 (h:Bx w b [v0,v1,v2,v3,v4,v5]):w.cell? ⟨b,0,none⟩=some v0/\w.cell? ⟨b,1,none⟩=some v1/\w.cell? ⟨b,2,none⟩=some v2/\w.cell? ⟨b,3,none⟩=some v3/\w.cell? ⟨b,4,none⟩=some v4/\w.cell? ⟨b,5,none⟩=some v5:=⟨(h.2 0 _ rfl).1,(h.2 1 _ rfl).1,(h.2 2 _ rfl).1,(h.2 3 _ rfl).1,(h.2 4 _ rfl).1,(h.2 5 _ rfl).1⟩
theorem Bx.c7 (h:Bx w b [v0,v1,v2,v3,v4,v5,v6]):w.cell? ⟨b,0,none⟩=some v0/\w.cell? ⟨b,1,none⟩=some v1/\w.cell? ⟨b,2,none⟩=some v2/\w.cell? ⟨b,3,none⟩=some v3/\w.cell? ⟨b,4,none⟩=some v4/\w.cell? ⟨b,5,none⟩=some v5/\w.cell? ⟨b,6,none⟩=some v6:=⟨(h.2 0 _ rfl).1,(h.2 1 _ rfl).1,(h.2 2 _ rfl).1,(h.2 3 _ rfl).1,(h.2 4 _ rfl).1,(h.2 5 _ rfl).1,(h.2 6 _ rfl).1⟩
theorem Bx.f7 (h:Bx w b [v0,v1,v2,v3,v4,v5,v6]):w.frozen? ⟨b,0,none⟩=false/\w.frozen? ⟨b,1,none⟩=false/\w.frozen? ⟨b,2,none⟩=false/\w.frozen? ⟨b,3,none⟩=false/\w.frozen? ⟨b,4,none⟩=false/\w.frozen? ⟨b,5,none⟩=false/\w.frozen? ⟨b,6,none⟩=false:=⟨(h.2 0 _ rfl).2,(h.2 1 _ rfl).2,(h.2 2 _ rfl).2,(h.2 3 _ rfl).2,(h.2 4 _ rfl).2,(h.2 5 _ rfl).2,(h.2 6 _ rfl).2⟩
end
section
variable {X:Type} {F:X->World} {w:World} {b:Nat} {v0 v1 v2 v3 v4 v5 v6:Value}
theorem Bx.x1 (h:Bx w b [v0])(hF:∀x,Below w w (F x)):(∀x,(F x).cell? ⟨b,0,none⟩=some v0):=fun x=>((h.at (hF x)).2 0 _ rfl).1
theorem Bx.x2 (h:Bx w b [v0,v1])(hF:∀x,Below w w (F x)):(∀x,(F x).cell? ⟨b,0,none⟩=some v0)/\(∀x,(F x).cell? ⟨b,1,none⟩=some v1):=⟨fun x=>((h.at (hF x)).2 0 _ rfl).1,fun x=>((h.at (hF x)).2 1 _ rfl).1⟩
theorem Bx.x3 (h:Bx w b [v0,v1,v2])(hF:∀x,Below w w (F x)):(∀x,(F x).cell? ⟨b,0,none⟩=some v0)/\(∀x,(F x).cell? ⟨b,1,none⟩=some v1)/\(∀x,(F x).cell? ⟨b,2,none⟩=some v2):=⟨fun x=>((h.at (hF x)).2 0 _ rfl).1,fun x=>((h.at (hF x)).2 1 _ rfl).1,fun x=>((h.at (hF x)).2 2 _ rfl).1⟩
theorem Bx.x4 (h:Bx w b [v0,v1,v2,v3])(hF:∀x,Below w w (F x)):(∀x,(F x).cell? ⟨b,0,none⟩=some v0)/\(∀x,(F x).cell? ⟨b,1,none⟩=some v1)/\(∀x,(F x).cell? ⟨b,2,none⟩=some v2)/\(∀x,(F x).cell? ⟨b,3,none⟩=some v3):=⟨fun x=>((h.at (hF x)).2 0 _ rfl).1,fun x=>((h.at (hF x)).2 1 _ rfl).1,fun x=>((h.at (hF x)).2 2 _ rfl).1,fun x=>((h.at (hF x)).2 3 _ rfl).1⟩
theorem Bx.x5 (h:Bx w b [v0,v1,v2,v3,v4])(hF:∀x,Below w w (F x)):(∀x,(F x).cell? ⟨b,0,none⟩=some v0)/\(∀x,(F x).cell? ⟨b,1,none⟩=some v1)/\(∀x,(F x).cell? ⟨b,2,none⟩=some v2)/\(∀x,(F x).cell? ⟨b,3,none⟩=some v3)/\(∀x,(F x).cell? ⟨b,4,none⟩=some v4):=⟨fun x=>((h.at (hF x)).2 0 _ rfl).1,fun x=>((h.at (hF x)).2 1 _ rfl).1,fun x=>((h.at (hF x)).2 2 _ rfl).1,fun x=>((h.at (hF x)).2 3 _ rfl).1,fun x=>((h.at (hF x)).2 4 _ rfl).1⟩
theorem Bx.x6 (h:Bx w b [v0,v1,v2,v3,v4,v5])(hF:∀x,Below w w (F x)):(∀x,(F x).cell? ⟨b,0,none⟩=some v0)/\(∀x,(F x).cell? ⟨b,1,none⟩=some v1)/\(∀x,(F x).cell? ⟨b,2,none⟩=some v2)/\(∀x,(F x).cell? ⟨b,3,none⟩=some v3)/\(∀x,(F x).cell? ⟨b,4,none⟩=some v4)/\(∀x,(F x).cell? ⟨b,5,none⟩=some v5):=⟨fun x=>((h.at (hF x)).2 0 _ rfl).1,fun x=>((h.at (hF x)).2 1 _ rfl).1,fun x=>((h.at (hF x)).2 2 _ rfl).1,fun x=>((h.at (hF x)).2 3 _ rfl).1,fun x=>((h.at (hF x)).2 4 _ rfl).1,fun x=>((h.at (hF x)).2 5 _ rfl).1⟩
theorem Bx.x7 (h:Bx w b [v0,v1,v2,v3,v4,v5,v6])(hF:∀x,Below w w (F x)):(∀x,(F x).cell? ⟨b,0,none⟩=some v0)/\(∀x,(F x).cell? ⟨b,1,none⟩=some v1)/\(∀x,(F x).cell? ⟨b,2,none⟩=some v2)/\(∀x,(F x).cell? ⟨b,3,none⟩=some v3)/\(∀x,(F x).cell? ⟨b,4,none⟩=some v4)/\(∀x,(F x).cell? ⟨b,5,none⟩=some v5)/\(∀x,(F x).cell? ⟨b,6,none⟩=some v6):=⟨fun x=>((h.at (hF x)).2 0 _ rfl).1,fun x=>((h.at (hF x)).2 1 _ rfl).1,fun x=>((h.at (hF x)).2 2 _ rfl).1,fun x=>((h.at (hF x)).2 3 _ rfl).1,fun x=>((h.at (hF x)).2 4 _ rfl).1,fun x=>((h.at (hF x)).2 5 _ rfl).1,fun x=>((h.at (hF x)).2 6 _ rfl).1⟩
end
def zbi (k:Int):UInt8:=UInt8.ofNat (48+k % 10).toNat
def mDig:Nat->Int->ByteArray->ByteArray
 |0,_,s=>s
 |f+1,k,s=>if 0<k then mDig f (k/10) (⟨#[zbi k]⟩++s)else s
def zbh (k:Int):ByteArray:=if 0<k then⟨#[109]⟩++mDig 20 k ⟨#[]⟩else⟨#[109,48]⟩
section
variable {α:Type} [GoT α] {M:Nat} {w:World} {v:Value} {l:List α} {fp:List Pos}
theorem Els.cut {p:List Value}{fs:List Pos}{lo hi:Nat}(h:Els M w p l fs)(B:lo<=hi)(J:hi<=l.length):
 ∃c1 c2 c3 f1 f2 f3,p=c1++(c2++c3)/\fs=f1++(f2++f3)/\Els M w c1 (l.take lo) f1/\Els M w c2 ((l.take hi).drop lo) f2/\Els M w c3 (l.drop hi) f3/\c1.length=lo*GoT.n α:=by
 have e:l=l.take lo++((l.take hi).drop lo++l.drop hi):=by
  rw[<-List.append_assoc];have:l.take lo++(l.take hi).drop lo=l.take hi:=by
   have:=List.take_append_drop lo (l.take hi);rwa[List.take_take,Nat.min_eq_left B]at this
  rw[this,List.take_append_drop]
 rw[e]at h;obtain⟨c1,u,f1,z,rfl,q,j,rfl⟩:=Els.append.1 h;obtain⟨c2,c3,f2,f3,rfl,D,I,rfl⟩:=Els.append.1 j;exact⟨c1,c2,c3,f1,f2,f3,rfl,rfl,q,D,I,by rw[q.length,List.length_take,Nat.min_eq_left om]⟩
def cutV (v:Value)(n lo hi m:Nat):Value:=match v with
 | .slice a _ _=> .slice (if m=lo then a else a.map (·.add (lo*n))) (hi-lo) (m-lo)
 |u=>u
def vaA (v:Value):Nat:=match v with
 | .slice _ _ c=>c
 |_=>0
theorem Sl.cap (h:Sl M w v l fp):l.length<=vaA v:=by
 rcases h with⟨n,rfl,rfl,_⟩|⟨b,o,cap,p,fs,rfl,j,_⟩
 ·exact lr _
 ·exact j
theorem Sl.cut (h:Sl M w v l fp){lo hi m:Nat}(h1:lo<=hi)(I:hi<=l.length)(h3:hi<=m)(R:m<=vaA v):
 ∃D,Sl M w (cutV v (GoT.n α) lo hi m) ((l.take hi).drop lo) D/\(∀p∈D,p∈fp)/\(fp.Nodup->D.Nodup):=by
 have j:((l.take hi).drop lo).length=hi-lo:=by rw[List.length_drop,List.length_take,Nat.min_eq_left I]
 rcases h with⟨Z,rfl,rfl,rfl⟩|⟨b,o,cap,cs,fs,rfl,k1,k2,k3,ha,he,N,rfl⟩
 ·simp only[List.length_nil]at I;simp only[vaA]at R;obtain rfl:hi=0:=om;obtain rfl:lo=0:=om;obtain rfl:m=0:=om;exact⟨[],.inl ⟨Z,by simp[cutV],by simp,rfl⟩,fun _ h=>h,fun h=>h⟩
 ·simp only[vaA]at R;obtain⟨c1,c2,c3,f1,f2,f3,rfl,rfl,e1,e2,e3,J⟩:=he.cut h1 I;by_cases U:m=lo
  ·subst U;obtain rfl:hi=m:=om;refine⟨[],?_,fun _ h=>(by cases h),fun _=>List.nodup_nil⟩
   refine .inl ⟨some ⟨b,o,none⟩,?_,?_,rfl⟩
   ·simp[cutV]
   ·exact List.eq_nil_of_length_eq_zero (by rw[j];omega)
  ·have hn:=GoT.pos (α:=α);have Y:lo*GoT.n α+(m-lo)*GoT.n α<=cap*GoT.n α:=by
    rw[<-Nat.add_mul];exact Nat.mul_le_mul_right _ om
   have z:∀p∈own b (o+lo*GoT.n α) ((m-lo)*GoT.n α),p∈own b o (cap*GoT.n α):=by
    intro p u;obtain⟨q1,q2,q3⟩:=Kaa.1 u;exact Kaa.2 ⟨q1,by omega,by omega⟩
   refine⟨own b (o+lo*GoT.n α) ((m-lo)*GoT.n α)++f2,.inr ⟨b,o+lo*GoT.n α,m-lo,c2,f2,?_,by rw[j];omega,by omega,by rw[j];omega,?_,e2,fun p u=>N p (z p u),rfl⟩,?_,?_⟩
   ·simp only[cutV,if_neg U,Option.map_some,addr_add,j]
   ·obtain⟨_,B⟩:=At.append.1 ha;obtain⟨Q,_⟩:=At.append.1 B;rw[J]at Q;exact Q
   ·intro p u;rcases lm.1 u with u|u
    ·exact lm.2 (.inl (z p u))
    ·exact lm.2 (.inr (lm.2 (.inr (lm.2 (.inl u)))))
   ·intro nd;obtain⟨_,nf,dis⟩:=ln.1 nd;obtain⟨_,n23,_⟩:=ln.1 nf;obtain⟨n2,_,_⟩:=ln.1 n23;exact ln.2 ⟨jau _ _ _,n2,fun p u q hq=>dis p (z p u) q (by simp[hq])⟩
variable {P:Program} {T E:TypeId}
theorem Sl.isS (h:Sl M w v l fp):∃a c,v= .slice a l.length c:=by
 rcases h with⟨j,rfl,rfl,_⟩|⟨b,o,cap,n,fs,rfl,_⟩<;>exact⟨_,_,rfl⟩
theorem Sl.run_lh (h:Sl M w v l fp)(u:P.underlying T=some (.slice E))(B:∀j,(sizeOf E).run P j= .ok (GoT.n α) j){lo hi:Nat}(I:lo<=hi)(J:hi<=l.length)(j:World):
 (Instr.sliceAt T v (some (.int .i64 lo)) (some (.int .i64 hi)) none).run P j= .ok (cutV v (GoT.n α) lo hi (vaA v)) j:=by
 have z:=h.cap;obtain⟨a,c,rfl⟩:=h.isS;simp only[vaA]at z;have p:(Instr.sliceBound (.int .i64 (hi:Int)) c .sliceAcap).run P j= .ok hi j:=by rw[run_sliceBound _ _ _ _ _ om om];rfl
 have q:(Instr.sliceBound (.int .i64 (lo:Int)) hi .sliceB).run P j= .ok lo j:=by rw[run_sliceBound _ _ _ _ _ om om];rfl
 simp[Instr.sliceAt,Instr.slice,run_underlying u,Instr.sliceBounds,p,q,B,cutV,vaA];by_cases D:c=lo<;>simp[D]
theorem Sl.run_l (h:Sl M w v l fp)(q:P.underlying T=some (.slice E))(u:∀j,(sizeOf E).run P j= .ok (GoT.n α) j){lo:Nat}(B:lo<=l.length)(j:World):
 (Instr.sliceAt T v (some (.int .i64 lo)) none none).run P j= .ok (cutV v (GoT.n α) lo l.length (vaA v)) j:=by
 obtain⟨a,c,rfl⟩:=h.isS;have p:(Instr.sliceBound (.int .i64 (lo:Int)) l.length .sliceB).run P j= .ok lo j:=by rw[run_sliceBound _ _ _ _ _ om om];rfl
 simp[Instr.sliceAt,Instr.slice,run_underlying q,Instr.sliceBounds,p,u,cutV,vaA];by_cases z:c=lo<;>simp[z]
theorem Sl.run_h (h:Sl M w v l fp)(q:P.underlying T=some (.slice E))(z:∀j,(sizeOf E).run P j= .ok (GoT.n α) j){hi:Nat}(B:hi<=l.length)(j:World):
 (Instr.sliceAt T v none (some (.int .i64 hi)) none).run P j= .ok (cutV v (GoT.n α) 0 hi (vaA v)) j:=by
 have u:=h.cap;obtain⟨a,c,rfl⟩:=h.isS;simp only[vaA]at u;have p:(Instr.sliceBound (.int .i64 (hi:Int)) c .sliceAcap).run P j= .ok hi j:=by rw[run_sliceBound _ _ _ _ _ om om];rfl
 simp[Instr.sliceAt,Instr.slice,run_underlying q,Instr.sliceBounds,p,z,cutV,vaA]
theorem Sl.run_hm (h:Sl M w v l fp)(z:P.underlying T=some (.slice E))(B:∀j,(sizeOf E).run P j= .ok (GoT.n α) j){hi m:Nat}(D:hi<=m)(u:m<=vaA v)(j:World):
 (Instr.sliceAt T v none (some (.int .i64 hi)) (some (.int .i64 m))).run P j= .ok (cutV v (GoT.n α) 0 hi m) j:=by
 obtain⟨a,c,rfl⟩:=h.isS;simp only[vaA]at u;have p:(Instr.sliceBound (.int .i64 (m:Int)) c .slice3Acap).run P j= .ok m j:=by rw[run_sliceBound _ _ _ _ _ om om];rfl
 have q:(Instr.sliceBound (.int .i64 (hi:Int)) m .slice3B).run P j= .ok hi j:=by rw[run_sliceBound _ _ _ _ _ om om];rfl
 simp[Instr.sliceAt,Instr.slice,run_underlying z,Instr.sliceBounds,p,q,B,cutV]
end
theorem RdS.cut {α:Type}[GoT α]{w:World}{v:Value}{l:List α}(h:RdS w v l){P:Program}{T E:TypeId}(z:P.underlying T=some (.slice E))(B:∀j,(sizeOf E).run P j= .ok (GoT.n α) j){lo hi:Nat}(q:lo<=hi)(p:hi<=l.length):
 ∃u,(∀j,(Instr.sliceAt T v (some (.int .i64 lo)) (some (.int .i64 hi)) none).run P j= .ok u j)/\RdS w u ((l.take hi).drop lo):=by
 obtain⟨fp,h⟩:=h;obtain⟨D,k,_,_⟩:=h.cut q p (Nat.le_trans p h.cap) (lr _);exact⟨_,h.run_lh z B q p,_,k⟩
theorem RdS.cutl {α:Type}[GoT α]{w:World}{v:Value}{l:List α}(h:RdS w v l){P:Program}{T E:TypeId}(u:P.underlying T=some (.slice E))(z:∀j,(sizeOf E).run P j= .ok (GoT.n α) j){lo:Nat}(p:lo<=l.length):
 ∃q,(∀j,(Instr.sliceAt T v (some (.int .i64 lo)) none none).run P j= .ok q j)/\RdS w q (l.drop lo):=by
 obtain⟨fp,h⟩:=h;obtain⟨B,k,_,_⟩:=h.cut (hi:=l.length) p (lr _) h.cap (lr _);rw[List.take_length]at k;exact⟨_,h.run_l u z p,_,k⟩
theorem RdS.cuth {α:Type}[GoT α]{w:World}{v:Value}{l:List α}(h:RdS w v l){P:Program}{T E:TypeId}(u:P.underlying T=some (.slice E))(z:∀j,(sizeOf E).run P j= .ok (GoT.n α) j){hi:Nat}(p:hi<=l.length):
 ∃q,(∀j,(Instr.sliceAt T v none (some (.int .i64 hi)) none).run P j= .ok q j)/\RdS w q (l.take hi):=by
 obtain⟨fp,h⟩:=h;obtain⟨B,k,_,_⟩:=h.cut (lo:=0) (lz _) p (Nat.le_trans p h.cap) (lr _);exact⟨_,h.run_h u z p,_,by simpa using k⟩
theorem RdS.src {α:Type}[GoT α]{w:World}{v:Value}{l:List α}(h:RdS w v l):∃j,Src w v l j:=let⟨_,h⟩:=h;let⟨j,k,_⟩:=h.src;⟨j,k⟩
theorem Sl.parts {α:Type}[GoT α]{M:Nat}{w:World}{v:Value}{l:List α}{fp:List Pos}(h:Sl M w v l fp)(I:fp.Nodup){k:Nat}(hk:k<=l.length):
 ∃f1 f2,Sl M w (cutV v (GoT.n α) 0 k k) (l.take k) f1/\Sl M w (cutV v (GoT.n α) k l.length (vaA v)) (l.drop k) f2/\(f1++f2).Nodup/\∀p∈f1++f2,p∈fp:=by
 rcases h with⟨Y,rfl,rfl,rfl⟩|⟨b,o,cap,cs,fs,rfl,k1,k2,k3,ha,he,D,rfl⟩
 ·obtain rfl:k=0:=by simpa using hk
  exact⟨[],[],.inl ⟨Y,by simp[cutV],by simp,rfl⟩,.inl ⟨Y,by simp[cutV,vaA],by simp,rfl⟩,by simp,fun _ h=>h⟩
 ·rw[<-List.take_append_drop k l]at he;obtain⟨c1,c2,R,N,rfl,Q,Z,rfl⟩:=Els.append.1 he;have q:(l.take k).length=k:=by simp;omega
  have z:(l.drop k).length=l.length-k:=by simp
  have B:=Q.length;rw[q]at B;obtain⟨a1,J⟩:=At.append.1 ha;rw[B]at J;have u:cap*GoT.n α=k*GoT.n α+(cap-k)*GoT.n α:=by rw[<-Nat.add_mul];congr 1;omega
  rw[u,vaS]at I D;rw[u,vaS];obtain⟨v1,U⟩:=Live.append.1 D;by_cases h0:k=0
  ·subst h0;obtain⟨rfl,rfl⟩:c1=[]/\R=[]:=by have:=Q;rw[List.take_zero]at this;exact this
   have e0:own b o 0=[]:=rfl;simp only[Nat.zero_mul,Nat.add_zero,Nat.sub_zero,e0,List.nil_append]at I J U⊢;refine⟨[],own b o (cap*GoT.n α)++N,.inl ⟨some ⟨b,o,none⟩,by simp[cutV],by simp,rfl⟩,.inr ⟨b,o,cap,c2,N,?_,by simpa using k1,k2,by simpa using k3,by simpa using J,Z,by simpa using U,rfl⟩,?_,?_⟩
   ·by_cases hc:cap=0<;>simp[cutV,vaA,hc,addr_add]
   ·exact I
   ·exact fun _ h=>h
  ·have s1:Sl M w (cutV (.slice (some ⟨b,o,none⟩) l.length cap) (GoT.n α) 0 k k) (l.take k) (own b o (k*GoT.n α)++R):=by
    refine .inr ⟨b,o,k,c1,R,?_,by rw[q];exact lr _,by omega,by rw[q];omega,a1,Q,v1,rfl⟩
    simp only[cutV,if_neg h0,Option.map_some,addr_add,q];simp
   by_cases hm:cap=k
   ·obtain rfl:cap=k:=hm;have:l.length=cap:=om;refine⟨_,[],s1,.inl ⟨some ⟨b,o,none⟩,?_,by simp;omega,rfl⟩,?_,?_⟩
    ·simp[cutV,vaA,this]
    ·rw[List.append_nil];simp only[ln,lm]at I⊢;grind
    ·intro p j;simp only[List.append_nil,lm]at j⊢;rcases j with j|j<;>simp[j]
   ·refine⟨_,own b (o+k*GoT.n α) ((cap-k)*GoT.n α)++N,s1,.inr ⟨b,o+k*GoT.n α,cap-k,c2,N,?_,by rw[z];omega,by omega,by rw[z];omega,J,Z,U,rfl⟩,?_,?_⟩
    ·simp only[cutV,vaA,if_neg hm,Option.map_some,addr_add,z]
    ·simp only[ln,lm]at I⊢;grind
    ·intro p j;simp only[lm]at j⊢;rcases j with(j|j)|j|j<;>simp[j]
theorem Row.grown {α:Type}[GoT α]{B:Nat}{w0 W z:World}{v M:Value}{l N:List α}{fs j:List Pos}(h:Row B w0 v l fs)(U:Qaa B w0 fs)(hb:Below w0 w0 W)(D:Qaa w0 W j)(u:Live W j)(R:B<=w0.heap.size)
 (hr:Row B z M (l++N) (fs++j)) (J:Wr (rowP (GoT.n α) v) W z):uaf B z M (l++N):=by
 have I:=Live.lt h.live;refine hr.owns ((U.wr2 hb J I).join ((J.fresh u D).mono R) fun p Y q Z e=> ?_)
 have Q:=I p Y;have h2:=D.ge q Z;rw[e]at Q;omega
theorem uaf.empty {α:Type}[GoT α](B:Nat)(w:World)(j:Option Addr):uaf (α:=α) B w (.slice j 0 0) []:=⟨[],.inl ⟨_,rfl,rfl,rfl⟩,Qaa.nil _ _⟩
theorem jaM {α:Type}[GoT α]{W:World}{g:Nat}{j:List Value}{l:List α}{fs:List Pos}{E:TypeId}{fr:Nat×Nat}(u:W.heap[g]? =some (.cells j.toArray E fr))(q:Els BIG W j l fs)(z:l.length<=BIG):
 Sl BIG W (.slice (some ⟨g,0,none⟩) l.length l.length) l (own g 0 (l.length*GoT.n α)++fs):=by
 have M:=q.length;refine .inr ⟨g,0,l.length,j,fs,rfl,lr _,by have:=QaR z;unfold maxLen;omega,z,?_,q,?_,rfl⟩
 ·have:=va5 (c1:=[]) (c2:=j) (c3:=[]) (w:=W) (E:=E) (fr:=fr) (by simpa using u)
  simpa using this
 ·intro p D;obtain⟨B,I,J⟩:=Kaa.1 D;rw[B,xao u,List.getElem?_eq_getElem om];rfl
theorem va9 {α:Type}[GoT α]{w:World}{c:List Value}{x:α}{f:List Pos}(E:TypeId)(h:GoT.rd BIG w c x f):RdS (w.alloc (.cells c.toArray E)) (.slice (some ⟨w,0,none⟩) 1 1) [x]:=by
 have hb:Below w w (w.alloc (.cells c.toArray E)):=(lf _ _).alloc (lr _) _;have j:Els BIG (w.alloc (.cells c.toArray E)) c [x] f:=Els.single (GoT.keep h (Live.same_below hb (Live.lt (GoT.live h))));exact⟨_,jaM (heap_alloc_new w (.cells c.toArray E)) j (Xab sm)⟩
instance:GoM zaa where
 cnt:=fun x=>2+ka0 x.signs
 mrk:=fun k x=>⟨k,k+1,mkL (k+2) x.signs⟩
 cnt_mk:=fun k x=>by simp[zav]
 mk_mk:=fun k x=>by simp[JaE]
instance:GoM yab where
 cnt:=fun x=>2+ka0 x.o
 mrk:=fun k x=>⟨k,k+1,mkL (k+2) x.o⟩
 cnt_mk:=fun k x=>by simp[zav]
 mk_mk:=fun k x=>by simp[JaE]
instance:GoM qac where
 cnt:=fun _=>3
 mrk:=fun k _=>⟨k,k+1,k+2⟩
 cnt_mk:=fun _ _=>rfl
 mk_mk:=fun _ _=>rfl
instance:GoM Xac where
 cnt:=fun x=>2+ka0 x.text+ka0 x.list+ka0 x.seen
 mrk:=fun k x=>⟨zbh k,k+1,mkL (k+2) x.text,mkL (k+2+ka0 x.text) x.list,mkL (k+2+ka0 x.text+ka0 x.list) x.seen⟩
 cnt_mk:=fun k x=>by simp[zav]
 mk_mk:=fun k x=>by simp[zav,JaE]
instance:GoM yai where
 cnt:=fun x=>5+ka0 x.r.list
 mrk:=fun k x=>⟨k,zbh (k+1),⟨k+2,k+3,decide ((k+4) % 3=0),mkL (k+5) x.r.list⟩⟩
 cnt_mk:=fun k x=>by simp[zav]
 mk_mk:=fun k x=>by simp[JaE]
