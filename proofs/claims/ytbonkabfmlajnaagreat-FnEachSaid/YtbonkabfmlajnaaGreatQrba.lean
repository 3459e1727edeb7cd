/- slices.Insert: one element laid into a row of one's own. -/
import Derived.Test.YtbonkabfmlajnaaGreatQrag
import Derived.Lib.Overlaps
import Derived.Lib.AppendZerosOnto
import Derived.Lib.SlBuf
set_option maxHeartbeats 4000000
set_option maxRecDepth 100000
namespace Go.Proofs.YtbonkabfmlajnaaGreat
open Go.RowKit
section
variable {P:Program}
theorem zaj (w:World)(J Z ty elem:TypeId)(i:TypeInfo)(b o q z:Nat)(a:Addr)(n u m:Nat)(p:List Value)(Y:P.underlying J=some (.slice elem))(hi:P.info? elem=some i)(U:m=Nat.min n q)(R:p.length=m*i.size)
 (B:∀j v,p[j]? =some v->w.cell? (a.add j)=some v) (N:∀j,j<p.length->(w.cell? ⟨b,o+j,none⟩).isSome=true) (Q:∀j,j<p.length->w.frozen? ⟨b,o+j,none⟩=false) (M:∀v∈p,v.oneCell'=true):
 (Builtin.copy_ #[J,Z] ty #[.slice (some ⟨b,o,none⟩) q z,.slice (some a) n u]).run P w= .ok (goInt m) (w.setCells b o p):=by
 have D:=run_firstCells_some (P:=P) (w:=w) i.size m a n u p R B;have I:=run_storeCells_cells (P:=P) b o p 0 w (by simpa using N) (by simpa using Q) M
 simp[Builtin.copy_,run_underlying Y,Builtin.lenOf,sizeOf,typeInfo,hi,<-U,D,I]
theorem uaq {j:Array Oper}{o:Oper}{a:Act}{w:World}{K:Act->World->Prop}{Q:Exit->Act->World->Prop}{E:Prop}(D:o.guard=none)(d x:Operand)(p q:TypeId)(n:o.op=Op.call {callee:=Callee.builtin Builtin.copy,args:= #[d,x],argTypes:= #[p,q]})
 (v u:Value) (hd:a.eval d=v) (M:a.eval x=u) {z:Value} {B:World} (I:(Builtin.copy_ #[p,q] o.type #[v,u]).run P w= .ok z B) (hK:K (a.put o.dst z) B):if Region.wanted o (yielded j a.tmps)=true then Oper.wp P o a w K Q else E:=by
 have J:Region.wanted o (yielded j a.tmps)=true:=by simp[Region.wanted,D]
 rw[if_pos J];unfold Oper.wp;simp[execOp,n,resolve,invoke,builtin,hd,M,I,Result.andThen];exact hK
end
theorem wpList_append_run {P:Program}{w:World}{j:Array Oper}{rest:List Oper}{o:Oper}{a:Act}{Q:Exit->Act->World->Prop}(p:o.guard=none)(s y:Operand)(T q:TypeId)
 (D:o.op= .call {callee:= .builtin .append,args:= #[s,y],argTypes:= #[T,q]}) (v u:Value) (J:a.eval s=v) (M:a.eval y=u) {z:Value} {B:World} (I:(Builtin.append_ #[T,q] o.type #[v,u]).run P w= .ok z B)
 (hK:wpList P j Q rest (a.put o.dst z) B):wpList P j Q (o::rest) a w:=by
 refine wpList_plain p fun K n=> ?_
 unfold Oper.wp;simp[execOp,D,resolve,invoke,builtin,J,M,I,Result.andThen];exact n _ _ hK
theorem Xaf (b:Nat)(vs:List Value)(o:Nat)(w:World)(h:∀j,j<vs.length->(w.cell? ⟨b,o+j,none⟩).isSome=true)(k:Nat)(p:(w.cell? ⟨b,k,none⟩).isSome=true):((w.setCells b o vs).cell? ⟨b,k,none⟩).isSome=true:=by
 by_cases n:o<=k/\k<o+vs.length
 ·have:=World.cell?_setCells_in b vs o w h (k-o) om;rw[show o+(k-o)=k by omega]at this
  rw[this];rfl
 ·rw[World.cell?_setCells_out b vs o w ⟨b,k,none⟩ (fun _ _=>by show k<o\/o+vs.length<=k;omega)]
  exact p
theorem Zak {b o:Nat}{vs:List Value}{w:World}(h:∀j,j<vs.length->(w.cell? ⟨b,o+j,none⟩).isSome=true):At (w.setCells b o vs) b o vs:=by
 intro j u p;have n:=(lg.1 p).1;rw[World.cell?_setCells_in b vs o w h j n,<-p,List.getElem?_eq_getElem n]
theorem At.setCellsO {b o n:Nat}{p vs:List Value}{w:World}(h:At w b o p)(hd:o+p.length<=n\/n+vs.length<=o):At (w.setCells b n vs) b o p:=by
 intro j u q;have z:=(lg.1 q).1;rw[World.cell?_setCells_out b vs n w ⟨b,o+j,none⟩ (fun _ _=>by show o+j<n\/n+vs.length<=o+j;omega)]
 exact h j u q
theorem jaD {w:World}{b o:Nat}(h:(w.cell? ⟨b,o,none⟩).isSome=true):∃t k,w.shape? b=some (t,k)/\k≠0:=by
 unfold World.cell? at h;unfold World.shape?;cases hb:w.heap[b]? with
 |none=>rw[hb]at h;cases h
 |some ob=>
  rw[hb]at h;by_cases j:∃c t fr,ob= .cells c t fr
  ·obtain⟨c,t,fr,rfl⟩:=j;refine⟨t,c.size,rfl,fun e=> ?_⟩
   rw[Option.isSome_iff_exists]at h;obtain⟨u,n⟩:=h;have:=(Array.getElem?_eq_some_iff.1 (show c[o]? =some u from n)).1;omega
  ·exfalso;revert h
   cases ob<;>simp_all
def Ins {α:Type}[GoT α](B:Nat)(w:World)(v:Value)(l:List α)(fs gs:List Pos)(k:Nat)(x:α)(e:Ending)(w':World):Prop:=
 ∃v' fs',e= .returned v'/\Row B w' v' (l.take k++x::l.drop k) fs'/\fs'.Perm (fs++gs)/\Wr (rowP (GoT.n α) v) w w'/\∀p∈rowP (GoT.n α) v',p∈rowP (GoT.n α) v\/w<=p.1
theorem Ins.owns {α:Type}[GoT α]{B:Nat}{w z:World}{v:Value}{l:List α}{fs D:List Pos}{k:Nat}{x:α}{e:Ending}(h:Ins B w v l fs D k x e z)(U:Qaa B w (fs++D))(Y:Live w (fs++D)):
 ∃I fp,e= .returned I/\Sl BIG z I (l.take k++x::l.drop k) fp/\Qaa B z fp/\Wr (rowP (GoT.n α) v) w z/\∀p∈fp,p∈rowP (GoT.n α) v\/w<=p.1\/p∈fs++D:=by
 obtain⟨I,J,rfl,N,u,Q,Z⟩:=h;have M:=Q.fresh Y U;have R:Qaa B z J:=⟨u.nodup_iff.2 M.nodup,fun p j=>M.ge p (u.mem_iff.1 j),fun p j=>M.free p (u.mem_iff.1 j)⟩
 refine⟨I,_,rfl,N.1,N.2.1.join R fun p u q j e=>N.2.2 q j (e▸u),Q,fun p j=> ?_⟩
 rcases lm.1 j with j|j
 ·exact(Z p j).imp_right .inl
 ·exact .inr (.inr (u.mem_iff.1 j))
theorem KaI (a b c:List Pos):(a++(b++c)).Perm (a++c++b):=by
 rw[List.append_assoc];exact List.Perm.append_left a List.perm_append_comm
theorem Els.ins {α:Type}[GoT α]{M:Nat}{w:World}{c1 c2 c3:List Value}{f1 f2 f3:List Pos}{l:List α}{x:α}{k:Nat}(j:Els M w c1 (l.take k) f1)(n:GoT.rd M w c2 x f2)(p:Els M w c3 (l.drop k) f3):Els M w (c1++(c2++c3)) (l.take k++x::l.drop k) (f1++(f2++f3)):=
 Els.append.2 ⟨c1,c2++c3,f1,f2++f3,rfl,j,⟨c2,c3,f2,f3,rfl,n,p,rfl⟩,rfl⟩
section
variable {P:Program} {T E:TypeId} {n:Nat}
theorem Xam (B:P.underlying T=some (.slice E))(D:∀j,(sizeOf E).run P j= .ok n j)(b o len cap lo:Nat)(z:Int)(J:z=lo)(h:lo<=len)(M:lo<cap)(q:len<=maxLen)(j:World):
 (Instr.sliceAt T (.slice (some ⟨b,o,none⟩) len cap) (some (.int .i64 z)) none none).run P j= .ok (.slice (some ⟨b,o+lo*n,none⟩) (len-lo) (cap-lo)) j:=by
 subst J;have u:=q;unfold maxLen at u;have p:(Instr.sliceBound (.int .i64 (lo:Int)) len .sliceB).run P j= .ok lo j:=by rw[run_sliceBound _ _ _ _ _ om om];rfl
 simp[Instr.sliceAt,Instr.slice,run_underlying B,Instr.sliceBounds,p,D];have I:¬cap=lo:=om;simp[I,addr_add]
theorem JaI (B:P.underlying T=some (.slice E))(D:∀j,(sizeOf E).run P j= .ok n j)(b o len cap hi:Nat)(z:Int)(I:z=hi)(J:hi<=cap)(q:cap<=maxLen)(j:World):
 (Instr.sliceAt T (.slice (some ⟨b,o,none⟩) len cap) none (some (.int .i64 z)) none).run P j= .ok (.slice (some ⟨b,o,none⟩) hi cap) j:=by
 subst I;have u:=q;unfold maxLen at u;have p:(Instr.sliceBound (.int .i64 (hi:Int)) cap .sliceAcap).run P j= .ok hi j:=by rw[run_sliceBound _ _ _ _ _ om om];rfl
 simp[Instr.sliceAt,Instr.slice,run_underlying B,Instr.sliceBounds,p,D];exact fun _=>by rw[addr_add];rfl
end
theorem kaW:(Tryz.prog.info? 67).map (fun i=>(i.zero,i.size,i.bytes))=some (some (.agg #[.string ⟨#[]⟩,zI,zN,zN,zN]),5,96):=by kernel_rfl
theorem uaY {B:Nat}(v:Value)(l:List Xac)(fs:List Pos)(k:Nat)(x:Xac)(Q:List Value)(gs:List Pos)(w:World)(h:Row B w v l fs)(hk:k<=l.length)(hx:GoT.rd BIG w Q x gs)(hd:∀p∈gs,p∉rowP (GoT.n Xac) v)(hlen:l.length<=1000)(hB:B<=w.heap.size):
 Calls Tryz.prog 44 #[v,k,.slice (some ⟨w,0,none⟩) 1 1] (w.alloc (.cells Q.toArray 67)) (Ins B (w.alloc (.cells Q.toArray 67)) v l fs gs k x):=by
 obtain⟨W,hW⟩:∃W:World,W=w.alloc (.cells Q.toArray 67):=⟨_,rfl⟩;have hWB:Below w w W:=by rw[hW];exact(lf _ _).alloc (lr _) _
 have sW:W=w.heap.size+1:=by rw[hW];simp
 have hsrc:Src W (.slice (some ⟨w,0,none⟩) 1 1) [x] gs:=by rw[hW];exact Zac 67 hx
 have hg:W.heap[w.heap.size]? =some (.cells Q.toArray 67 (0,0)):=by rw[hW];exact heap_alloc_new w (.cells Q.toArray 67)
 have Z:=GoT.len hx;have hn:GoT.n Xac=5:=rfl;have hxv:∀j u,Q[j]? =some u->W.cell? ⟨w.heap.size,j,none⟩=some u:=fun j u J=>by rw[xao hg];exact J
 have hxr:GoT.rd BIG W Q x gs:=GoT.keep hx (Live.same_below hWB (Live.lt (GoT.live hx)));have hgl:=Live.lt (GoT.live hx);have hvl:=Live.lt h.1.live;replace h:=h.below hWB;obtain⟨i0,hi,hz0,a4,hz2⟩:=info_parts kaW;rw[<-hW];have HW:=hH hW;clear hW;by_cases hke:k=l.length
 ·subst hke;have hls:=fun w1 ty=>h.rd.len Tryz.underlying23 w1 ty
  obtain⟨v0,hcut,_⟩:=h.rd.cutl Tryz.underlying23 (E:=67) (fun _=>by kernel_rfl) (lr l.length)
  have HROW:=hH h;have HSRC:=hH hsrc;have HFR:=hH hd;obtain⟨av,cv,rfl⟩:=h.rd.isSlice;have hB1:B<=W.heap.size:=om;clear h hsrc hd hxv hg hgl hvl Z sW;go_enter Tryz.func44,Tryz.ntmps44
  go_wp2_with (at_builtin;refine qaa rfl _ _ 23 rfl Tryz.underlying23 hi hz0 a4 hz2 rfl rfl rfl HROW.out HSRC.out HFR.out ?c1 ?c2 ?c3 ?_)
  case c1=>exact Xab (by simp;omega)
  case c2=>simp;omega
  case c3=>exact hB1
  intro v1 w1 h1 h2 h3;have H1:=hH h1;have H2:=hH h2;have H3:=hH h3;clear h1 h2 h3;go_wp2;go_ret;exact⟨v1,_,rfl,by simpa using H1.out,List.Perm.refl _,H2.out,fun p q=>H3.out p.1 p.2 q⟩
 ·have hlt:k<l.length:=om;obtain⟨hsl,hfr,I⟩:=h;rcases hsl with⟨ao,rfl,rfl,hfe⟩|⟨b,o,cap,cs,fs',rfl,k1,k2,k3,ha,he,a2,hfe⟩
  ·simp at hlt
  have hfe':fs=fs':=List.append_cancel_left hfe;subst hfe';have hso:=jaD (a2 (b,o) (Kaa.2 ⟨rfl,by simp,by rw[hn];simp;omega⟩))
  obtain⟨tB,kB,hsB,hkB⟩:=hso;have hsA:W.shape? w=some (67,5):=by unfold World.shape?;rw[hg];simp[Z,hn]
  have hbn:b≠w.heap.size:=by
   have:=hvl (b,o) (lu _ (Kaa.2 ⟨rfl,by simp,by rw[hn];simp;omega⟩))
   simp only at this;omega
  have hfA:∀j,W.frozen? ⟨w.heap.size,j,none⟩=false:=fun j=>Zal hg
  rw[<-List.take_append_drop k l]at he;obtain⟨c1,c3,f1,f3,rfl,e1,e3,rfl⟩:=Els.append.1 he;have Y:=e1.length;have hc3:=e3.length;rw[List.length_take,Nat.min_eq_left hk,hn]at Y;rw[List.length_drop,hn]at hc3;obtain⟨a1,a3⟩:=At.append.1 ha;rw[Y]at a3;rw[hn]at a2 hfr I hd;have hrp:rowP (GoT.n Xac) (.slice (some ⟨b,o,none⟩) l.length cap)=own b o (cap*5):=rfl;have hd:∀p∈gs,p∉own b o (cap*5):=hd;have I:∀p∈f1++f3,p∉own b o (cap*5):=I;have hfr:Qaa B W (own b o (cap*5)):=hfr;rw[hn]at Z;have o1:=e1.one;have o3:=e3.one;have ox:=GoT.one hx;have l1:=e1.live;have l3:=e3.live;have lx:=GoT.live hxr;unfold maxLen at k2;have hls:∀w1 ty,(Builtin.len_ #[23] ty #[.slice (some ⟨b,o,none⟩) l.length cap]).run Tryz.prog w1= .ok (.int .i64 l.length) w1:=fun w1 ty=>by simp[Builtin.len_,run_underlying Tryz.underlying23,goInt]
  have hwk:IntKind.i64.wrap ((k:Int)+1)=(k:Int)+1:=by rw[IntKind.wrap_i64];omega
  have hwn:IntKind.i64.wrap ((l.length:Int)+1)=(l.length:Int)+1:=by rw[IntKind.wrap_i64];omega
  obtain⟨oK,hoK⟩:∃oK,oK=o+k*5:=⟨_,rfl⟩;obtain⟨oA,hoA⟩:∃oA,oA=o+(k+1)*5:=⟨_,rfl⟩;have M:∀w1,(sizeOf 67).run Tryz.prog w1= .ok 5 w1:=fun _=>by kernel_rfl
  have hB1:B<=W.heap.size:=om;have hrw:Wr (own b o (cap*5)) W W.drew:=Wr.of_below (lf _ _).drew;by_cases hroom:l.length+1<=cap
  ·have hk2':cap<=maxLen:=by unfold maxLen;omega
   have s1:=Xam (P:=Tryz.prog) (n:=5) Tryz.underlying23 M b o l.length cap k (k:Int) rfl hk om om;have s2:=JaI (P:=Tryz.prog) (n:=5) Tryz.underlying23 M b o l.length cap (l.length+1) ((l.length:Int)+1) sm hroom hk2';have s3:=Xam (P:=Tryz.prog) (n:=5) Tryz.underlying23 M b o (l.length+1) cap (k+1) ((k:Int)+1) sm om om om;have s4:=Xam (P:=Tryz.prog) (n:=5) Tryz.underlying23 M b o (l.length+1) cap k (k:Int) rfl om om om;rw[<-hoK]at s1 s4;rw[<-hoA,Nat.add_sub_add_right]at s3;have hm1:∀j<c3.length,(b,oA+j)∈own b o (cap*5):=fun j J=>Kaa.2 ⟨rfl,by simp only;omega,by simp only;omega⟩
   have hm2:∀j<Q.length,(b,oK+j)∈own b o (cap*5):=fun j J=>Kaa.2 ⟨rfl,by simp only;omega,by simp only;omega⟩
   have hov:∀lb cb,(callFunc 78 #[.slice (some ⟨w,0,none⟩) 1 1,.slice (some ⟨b,oA,none⟩) lb cb]).run Tryz.prog W= .ok (.value (.bool false)) W:=fun lb cb=>by
    rw[run_callFunc_extern (fn:=Tryz.f78) (by kernel_rfl) (by kernel_rfl) (by kernel_rfl) (by kernel_rfl) (e:=Extern.SlicesOverlaps.overlaps #[23,23] #[4]) (by kernel_rfl),
     Lib.run_overlaps_apart W 23 4 67 Tryz.underlying23 5 M ⟨w,0,none⟩ ⟨b,oA,none⟩ 1 1 lb cb (Ne.symm hbn) 67 tB 5 kB hsA hsB hkB (hfA 0) (hfA 5)]
    rfl
   have R:∀j<c3.length,(W.drew.cell? ⟨b,oA+j,none⟩).isSome=true:=fun j J=>a2 _ (hm1 j J)
   obtain⟨U,D⟩:∃U,U=W.drew.setCells b oA c3:=⟨_,rfl⟩;have a0:∀j<Q.length,(U.cell? ⟨b,oK+j,none⟩).isSome=true:=fun j J=>by rw[D];exact Xaf b c3 oA _ R _ (a2 _ (hm2 j J))
   have hcp1:∀ty dc sc,(Builtin.copy_ #[23,23] ty #[.slice (some ⟨b,oA,none⟩) (l.length-k) dc,.slice (some ⟨b,oK,none⟩) (l.length+1-k) sc]).run Tryz.prog W.drew= .ok (goInt ((l.length-k:Nat):Int)) U:=fun ty dc sc=>by
    rw[D];refine zaj W.drew _ _ ty 67 i0 b oA (l.length-k) dc ⟨b,oK,none⟩ (l.length+1-k) sc (l.length-k) c3 Tryz.underlying23 hi (by simp only[Nat.min_def];split<;>omega) (by rw[hc3,a4]) (fun j u J=> ?_) R (fun j J=>hfr.free _ (hm1 j J)) o3
    rw[addr_add,hoK];exact a3 j u J
   have hcp2:∀W',W'=U->∀ty dc,(Builtin.copy_ #[23,23] ty #[.slice (some ⟨b,oK,none⟩) (l.length+1-k) dc,.slice (some ⟨w,0,none⟩) 1 1]).run Tryz.prog W'= .ok (goInt 1) (U.setCells b oK Q):=fun W' hW' ty dc=>by
    rw[hW'];refine zaj U _ _ ty 67 i0 b oK (l.length+1-k) dc ⟨w,0,none⟩ 1 1 1 Q Tryz.underlying23 hi (by simp only[Nat.min_def];split<;>omega) (by rw[Z,a4]) (fun j u J=> ?_) a0 (fun j J=>by rw[D,World.frozen?_setCells];exact hfr.free _ (hm2 j J)) ox
    rw[addr_add,D,World.cell?_setCells_out b c3 oA _ _ (fun h _=>absurd h (Ne.symm hbn)),Nat.zero_add];exact hxv j u J
   obtain⟨W2,z⟩:∃W2,W2=U.setCells b oK Q:=⟨_,rfl⟩;have hwA:Wr (own b o (cap*5)) W W2:=by
    rw[z,D];exact(hrw.trans (uai c3 oA _ hm1)).trans (uai Q oK _ hm2)
   have hAt:At W2 b o (c1++(Q++c3)):=by
    rw[z];refine At.append.2 ⟨?_,At.append.2 ⟨?_,?_⟩⟩
    ·rw[D];exact(At.setCellsO (w:=W.drew) a1 om).setCellsO om
    ·rw[Y,<-hoK];exact Zak a0
    ·rw[Y,Z,show o+k*5+5=oA by omega,D]
     exact(Zak R).setCellsO om
   have hRow:Row B W2 (.slice (some ⟨b,o,none⟩) (l.length+1) cap) (l.take k++x::l.drop k) (f1++(gs++f3)):=by
    have hll:(l.take k++x::l.drop k).length=l.length+1:=by simp;omega
    refine⟨.inr ⟨b,o,cap,_,f1++(gs++f3),by rw[hll],by rw[hll];exact hroom,by unfold maxLen;omega,by rw[hll];exact Xab om,hAt,Els.ins (e1.keep (hwA.same l1 fun p q=>I p (by simp[q]))) (GoT.keep hxr (hwA.same lx hd)) (e3.keep (hwA.same l3 fun p q=>I p (by simp[q]))),(fun p q=>by
     obtain⟨q1,_,_⟩:=Kaa.1 q;rw[z,q1];exact Xaf b Q oK _ a0 _ (by rw[D];exact Xaf b c3 oA _ R _ (by have:=a2 p q;rwa[q1]at this))),rfl⟩,hwA.fresh a2 hfr,fun p q=> ?_⟩
    rcases lm.1 q with q|q
    ·exact I p (by simp[q])
    ·rcases lm.1 q with q|q
     ·exact hd p q
     ·exact I p (by simp[q])
   rw[<-z]at hcp2;have HROW:=hH hRow;have HWA:=hH hwA;have HP:=hH (KaI f1 gs f3);have hz1':¬((1:Int)=0):=by decide
   have hk0:¬((k:Int)=(l.length:Int)):=om;have hcap:∀w1 ty,(Builtin.cap_ #[23] ty #[.slice (some ⟨b,o,none⟩) l.length cap]).run Tryz.prog w1= .ok (.int .i64 cap) w1:=fun w1 ty=>by simp[Builtin.cap_,run_underlying Tryz.underlying23,goInt]
   have hng:¬((cap:Int)<(l.length:Int)+1):=om;clear hRow hwA hAt D z hm1 hm2 R a0 hoK hoA a1 a3 e1 e3 l1 l3 lx o1 o3 ox Y hc3 Z hd I hfr a2 hrp ha hxr hxv hg hgl hvl hsrc hx hi hz0 a4 hz2 hn hfA hsA hsB sW;go_enter Tryz.func44,Tryz.ntmps44
   go_wp2_with (simp only[hov])
   go_region_law (refine uaq rfl _ _ 23 23 rfl _ _ (by simp[Act.eval,Act.put]) (by simp[Act.eval,Act.put]) (hcp1 _ _ _) ?_)
   go_wp2_with (with_reducible refine Lib.wpList_copy_run _ rfl _ _ 23 23 rfl _ _ rfl rfl (hcp2 _ rfl _ _) ?_)
   go_ret;exact⟨_,_,rfl,HROW.out,HP.out,HWA.out,fun p q=> .inl q⟩
  ·obtain rfl:cap=l.length:=om;have hk2':l.length<=maxLen:=by unfold maxLen;omega
   have s1:=Xam (P:=Tryz.prog) (n:=5) Tryz.underlying23 M b o l.length l.length k (k:Int) rfl hk hlt hk2';have s2:=JaI (P:=Tryz.prog) (n:=5) Tryz.underlying23 M b o l.length l.length k (k:Int) rfl hk hk2';rw[<-hoK]at s1;obtain⟨N,hN⟩:∃N,N=W.heap.size:=⟨_,rfl⟩;obtain⟨G,hG⟩:∃G,G=grownCap W (l.length+1) l.length 67:=⟨_,rfl⟩;have hkk:k+(l.length+1-k)=l.length+1:=om;have hap:=Lib.run_append_grow_zeros (P:=Tryz.prog) W 23 3 23 67 i0 _ .i64 .i64 Tryz.underlying23 Tryz.underlying3 hi hz0 (some ⟨b,o,none⟩) k l.length c1
    (by rw[a4];exact run_firstCells_some W.drew 5 k ⟨b,o,none⟩ k l.length c1 Y (fun j u J=>by rw[addr_add];exact a1 j u J)) (l.length+1-k) om (by rw[a4];decide) om om (by rw[hz2];omega) (by rw[hz2,hkk];exact growslice_fits om om)
   rw[hkk,<-hG]at hap;have hGn:l.length+1<=G:=by rw[hG];exact grownCap_ge W _ _ _
   have hGm:G<=maxLen:=by rw[hG];exact grownCap_le_maxLen W _ _ _ (by unfold maxLen;omega)
   obtain⟨zs,hzs,hzl⟩:=qak (.agg #[.string ⟨#[]⟩,zI,zN,zN,zN]:Value).cells (l.length+1-k);obtain⟨ys,hys,hyl⟩:=qak (.agg #[.string ⟨#[]⟩,zI,zN,zN,zN]:Value).cells (G-(l.length+1));rw[hzs,hys,<-hN]at hap;have hzc:(.agg #[.string ⟨#[]⟩,zI,zN,zN,zN]:Value).cells.size=5:=by kernel_rfl
   rw[hzc]at hzl hyl;obtain⟨U,D⟩:∃U,U=W.drew.alloc (.cells (c1.toArray++zs.toArray++ys.toArray) 67):=⟨_,rfl⟩;rw[<-D]at hap;have hb1:Below W W U:=by rw[D];exact((lf _ _).drew).alloc (lr _) _
   have hg1:U.heap[N]? =some (.cells (c1++(zs++ys)).toArray 67 (0,0)):=by
    have:=heap_alloc_new W.drew (.cells (c1.toArray++zs.toArray++ys.toArray) 67);rw[D,hN];simpa using this
   have hsz1:(c1++(zs++ys)).length=G*5:=by simp only[List.length_append,Y,hzl,hyl];omega
   have hlv1:∀j,j<G*5->(U.cell? ⟨N,j,none⟩).isSome=true:=fun j J=>by rw[xao hg1,List.getElem?_eq_getElem om];rfl
   have hfr1:∀j,U.frozen? ⟨N,j,none⟩=false:=fun j=>Zal hg1
   have hbN:b<N:=by rw[hN];have:=a2.lt (b,o) (Kaa.2 ⟨rfl,by simp,by simp;omega⟩);exact this
   have hNb:∀p∈f1++f3,p.1<N:=fun p q=>by rw[hN];rcases lm.1 q with q|q;exact l1.lt p q;exact l3.lt p q
   have hNg:∀p∈gs,p.1<N:=fun p q=>by rw[hN];exact lx.lt p q
   obtain⟨oN,hoN⟩:∃oN,oN=0+k*5:=⟨_,rfl⟩;obtain⟨oB,hoB⟩:∃oB,oB=0+(k+1)*5:=⟨_,rfl⟩;have s3:=Xam (P:=Tryz.prog) (n:=5) Tryz.underlying23 M N 0 (l.length+1) G k (k:Int) rfl om om (by unfold maxLen;omega)
   have s4:=Xam (P:=Tryz.prog) (n:=5) Tryz.underlying23 M N 0 (l.length+1) G (k+1) ((k:Int)+1) sm om om (by unfold maxLen;omega)
   rw[<-hoN]at s3;rw[<-hoB,Nat.add_sub_add_right]at s4;have hm1:∀j<Q.length,(N,oN+j)∈own N 0 (G*5):=fun j J=>Kaa.2 ⟨rfl,by simp only;omega,by simp only;omega⟩
   have hm2:∀j<c3.length,(N,oB+j)∈own N 0 (G*5):=fun j J=>Kaa.2 ⟨rfl,by simp only;omega,by simp only;omega⟩
   have R:∀j<Q.length,(U.cell? ⟨N,oN+j,none⟩).isSome=true:=fun j J=>hlv1 _ om
   obtain⟨W2,z⟩:∃W2,W2=U.setCells N oN Q:=⟨_,rfl⟩;have a0:∀j<c3.length,(W2.drew.cell? ⟨N,oB+j,none⟩).isSome=true:=fun j J=>by rw[z];exact Xaf N Q oN _ R _ (hlv1 _ om)
   have hcp1:∀ty dc,(Builtin.copy_ #[23,23] ty #[.slice (some ⟨N,oN,none⟩) (l.length+1-k) dc,.slice (some ⟨w,0,none⟩) 1 1]).run Tryz.prog U= .ok (goInt 1) W2:=fun ty dc=>by
    rw[z];refine zaj U _ _ ty 67 i0 N oN (l.length+1-k) dc ⟨w,0,none⟩ 1 1 1 Q Tryz.underlying23 hi (by simp only[Nat.min_def];split<;>omega) (by rw[Z,a4]) (fun j u J=> ?_) R (fun j _=>hfr1 _) ox
    rw[addr_add,Nat.zero_add,hb1.cell (p:=⟨w,j,none⟩) (show w<W.heap.size by omega)];exact hxv j u J
   have hcp2:∀ty dc sc,(Builtin.copy_ #[23,23] ty #[.slice (some ⟨N,oB,none⟩) (l.length-k) dc,.slice (some ⟨b,oK,none⟩) (l.length-k) sc]).run Tryz.prog W2.drew= .ok (goInt ((l.length-k:Nat):Int)) (W2.drew.setCells N oB c3):=fun ty dc sc=>by
    refine zaj W2.drew _ _ ty 67 i0 N oB (l.length-k) dc ⟨b,oK,none⟩ (l.length-k) sc (l.length-k) c3 Tryz.underlying23 hi sm (by rw[hc3,a4]) (fun j u J=> ?_) a0 (fun j _=>by show W2.frozen? _=false;rw[z,World.frozen?_setCells];exact hfr1 _) o3
    rw[addr_add];show W2.cell? _=_;rw[z,World.cell?_setCells_out N Q oN _ _ (fun h _=>by simp only at h;omega),hb1.cell (p:=⟨b,oK+j,none⟩) (show b<W.heap.size by omega),hoK]
    exact a3 j u J
   obtain⟨W3,hW3⟩:∃W3,W3=W2.drew.setCells N oB c3:=⟨_,rfl⟩;have hwN:Wr (own N 0 (G*5)) U W3:=by
    rw[hW3,z];exact((uai Q oN _ hm1).trans (Wr.of_below (lf _ _).drew)).trans (uai c3 oB _ hm2)
   have hb3:Below W W W3:=hb1.trans (hwN.below hb1.size fun p q=>by rw[(Kaa.1 q).1,hN];exact lr _)
   have hAt:At W3 N 0 (c1++(Q++c3)):=by
    rw[hW3];refine At.append.2 ⟨?_,At.append.2 ⟨?_,?_⟩⟩
    ·refine At.setCellsO ?_ om;rw[z];refine At.setCellsO (w:=U) ?_ om;intro j u J;have hjl:=(lg.1 J).1;rw[xao hg1,Nat.zero_add,List.getElem?_append_left hjl];exact J
    ·refine At.setCellsO ?_ om;rw[Y,<-hoN,z];exact Zak (w:=U) R
    ·rw[Y,Z,show 0+k*5+5=oB by omega]
     exact Zak a0
   have hRow:Row B W3 (.slice (some ⟨N,0,none⟩) (l.length+1) G) (l.take k++x::l.drop k) (f1++(gs++f3)):=by
    have hll:(l.take k++x::l.drop k).length=l.length+1:=by simp;omega
    refine⟨.inr ⟨N,0,G,_,f1++(gs++f3),by rw[hll],by rw[hll];exact hGn,hGm,by rw[hll];exact Xab om,hAt,Els.ins (e1.keep (Live.same_below hb3 l1.lt)) (GoT.keep hxr (Live.same_below hb3 lx.lt)) (e3.keep (Live.same_below hb3 l3.lt)),(fun p q=>by
     obtain⟨q1,_,q3⟩:=Kaa.1 q;rw[Nat.zero_add]at q3;rw[hW3,q1];exact Xaf N c3 oB _ a0 _ (by show(W2.cell? _).isSome=true;rw[z];exact Xaf N Q oN _ R _ (hlv1 _ q3))),rfl⟩,⟨jau _ _ _,fun p q=>by rw[(Kaa.1 q).1,hN];exact hB1,fun p q=>by
      rw[hW3,(Kaa.1 q).1,World.frozen?_setCells];show W2.frozen? _=false;rw[z,World.frozen?_setCells];exact hfr1 _⟩,fun p q hq=> ?_⟩
    have hpN:p.1=N:=(Kaa.1 hq).1;rcases lm.1 q with q|q
    ·have:=hNb p (by simp[q]);omega
    ·rcases lm.1 q with q|q
     ·have:=hNg p q;omega
     ·have:=hNb p (by simp[q]);omega
   rw[<-hW3]at hcp2;have HROW:=hH hRow;have HWA:Hid (Wr (rowP (GoT.n Xac) (.slice (some ⟨b,o,none⟩) l.length l.length)) W W3):=hH (Wr.of_below hb3);have HP:=hH (KaI f1 gs f3);have HN:Hid (∀p∈rowP (GoT.n Xac) (.slice (some ⟨N,0,none⟩) (l.length+1) G),W<=p.1):=hH fun p q=>by rw[(Kaa.1 q).1,hN];exact lr _
   have hz1':¬((1:Int)=0):=by decide
   have hk0:¬((k:Int)=(l.length:Int)):=om;have hcap:∀w1 ty,(Builtin.cap_ #[23] ty #[.slice (some ⟨b,o,none⟩) l.length l.length]).run Tryz.prog w1= .ok (.int .i64 l.length) w1:=fun w1 ty=>by simp[Builtin.cap_,run_underlying Tryz.underlying23,goInt]
   have hng:(l.length:Int)<(l.length:Int)+1:=om;have hsb:IntKind.i64.wrap ((l.length:Int)+1-(k:Int))=(l.length:Int)+1-(k:Int):=by rw[IntKind.wrap_i64];omega
   have hcast:((l.length+1-k:Nat):Int)=(l.length:Int)+1-(k:Int):=om;rw[hcast]at hap;have hb0:(0:Int)<=(l.length:Int)+1-(k:Int):=om;clear hRow hb3 hwN hAt D z hW3 hm1 hm2 R a0 hoK hoA a1 a3 e1 e3 l1 l3 lx o1 o3 ox Y hc3 Z hd I hfr a2 hrp ha hxr hxv hg hgl hvl hsrc hx hi hz0 a4 hz2 hn hfA hsA hsB sW hG hGm hzs hys hzl hyl hzc hb1 hg1 hsz1 hlv1 hfr1 hbN hNb hNg hoN hoB hN hcast hrw;go_enter Tryz.func44,Tryz.ntmps44
   go_wp2_with (first|(at_builtin;refine wpList_append_run rfl _ _ 23 3 rfl _ _ rfl rfl hap ?_)|(with_reducible refine Lib.wpList_copy_run _ rfl _ _ 23 23 rfl _ _ rfl rfl (hcp1 _ _) ?_))
   go_region_law (refine uaq rfl _ _ 23 23 rfl _ _ (by simp[Act.eval,Act.put]) (by simp[Act.eval,Act.put]) (hcp2 _ _ _) ?_)
   go_wp2;go_ret;exact⟨_,_,rfl,HROW.out,HP.out,HWA.out,fun p q=> .inr (HN.out p q)⟩
theorem ZaQ:(Tryz.prog.info? 119).map (fun i=>(i.zero,i.size,i.bytes))=some (some (.agg #[zI,zI,zI]),3,24):=by kernel_rfl
theorem KaC {B:Nat}(v:Value)(l:List qac)(fs:List Pos)(k:Nat)(x:qac)(Q:List Value)(gs:List Pos)(w:World)(h:Row B w v l fs)(hk:k<=l.length)(hx:GoT.rd BIG w Q x gs)(hd:∀p∈gs,p∉rowP (GoT.n qac) v)(hlen:l.length<=1000)(hB:B<=w.heap.size):
 Calls Tryz.prog 83 #[v,k,.slice (some ⟨w,0,none⟩) 1 1] (w.alloc (.cells Q.toArray 119)) (Ins B (w.alloc (.cells Q.toArray 119)) v l fs gs k x):=by
 obtain⟨W,hW⟩:∃W:World,W=w.alloc (.cells Q.toArray 119):=⟨_,rfl⟩;have hWB:Below w w W:=by rw[hW];exact(lf _ _).alloc (lr _) _
 have sW:W=w.heap.size+1:=by rw[hW];simp
 have hsrc:Src W (.slice (some ⟨w,0,none⟩) 1 1) [x] gs:=by rw[hW];exact Zac 119 hx
 have hg:W.heap[w.heap.size]? =some (.cells Q.toArray 119 (0,0)):=by rw[hW];exact heap_alloc_new w (.cells Q.toArray 119)
 have Z:=GoT.len hx;have hn:GoT.n qac=3:=rfl;have hxv:∀j u,Q[j]? =some u->W.cell? ⟨w.heap.size,j,none⟩=some u:=fun j u J=>by rw[xao hg];exact J
 have hxr:GoT.rd BIG W Q x gs:=GoT.keep hx (Live.same_below hWB (Live.lt (GoT.live hx)));have hgl:=Live.lt (GoT.live hx);have hvl:=Live.lt h.1.live;replace h:=h.below hWB;obtain⟨i0,hi,hz0,a4,hz2⟩:=info_parts ZaQ;rw[<-hW];have HW:=hH hW;clear hW;by_cases hke:k=l.length
 ·subst hke;have hls:=fun w1 ty=>h.rd.len Tryz.underlying65 w1 ty
  obtain⟨v0,hcut,_⟩:=h.rd.cutl Tryz.underlying65 (E:=119) (fun _=>by kernel_rfl) (lr l.length)
  have HROW:=hH h;have HSRC:=hH hsrc;have HFR:=hH hd;obtain⟨av,cv,rfl⟩:=h.rd.isSlice;have hB1:B<=W.heap.size:=om;clear h hsrc hd hxv hg hgl hvl Z sW;go_enter Tryz.func83,Tryz.ntmps83
  go_wp2_with (at_builtin;refine qaa rfl _ _ 65 rfl Tryz.underlying65 hi hz0 a4 hz2 rfl rfl rfl HROW.out HSRC.out HFR.out ?c1 ?c2 ?c3 ?_)
  case c1=>exact Xab (by simp;omega)
  case c2=>simp;omega
  case c3=>exact hB1
  intro v1 w1 h1 h2 h3;have H1:=hH h1;have H2:=hH h2;have H3:=hH h3;clear h1 h2 h3;go_wp2;go_ret;exact⟨v1,_,rfl,by simpa using H1.out,List.Perm.refl _,H2.out,fun p q=>H3.out p.1 p.2 q⟩
 ·have hlt:k<l.length:=om;obtain⟨hsl,hfr,I⟩:=h;rcases hsl with⟨ao,rfl,rfl,hfe⟩|⟨b,o,cap,cs,fs',rfl,k1,k2,k3,ha,he,a2,hfe⟩
  ·simp at hlt
  have hfe':fs=fs':=List.append_cancel_left hfe;subst hfe';have hso:=jaD (a2 (b,o) (Kaa.2 ⟨rfl,by simp,by rw[hn];simp;omega⟩))
  obtain⟨tB,kB,hsB,hkB⟩:=hso;have hsA:W.shape? w=some (119,3):=by unfold World.shape?;rw[hg];simp[Z,hn]
  have hbn:b≠w.heap.size:=by
   have:=hvl (b,o) (lu _ (Kaa.2 ⟨rfl,by simp,by rw[hn];simp;omega⟩))
   simp only at this;omega
  have hfA:∀j,W.frozen? ⟨w.heap.size,j,none⟩=false:=fun j=>Zal hg
  rw[<-List.take_append_drop k l]at he;obtain⟨c1,c3,f1,f3,rfl,e1,e3,rfl⟩:=Els.append.1 he;have Y:=e1.length;have hc3:=e3.length;rw[List.length_take,Nat.min_eq_left hk,hn]at Y;rw[List.length_drop,hn]at hc3;obtain⟨a1,a3⟩:=At.append.1 ha;rw[Y]at a3;rw[hn]at a2 hfr I hd;have hrp:rowP (GoT.n qac) (.slice (some ⟨b,o,none⟩) l.length cap)=own b o (cap*3):=rfl;have hd:∀p∈gs,p∉own b o (cap*3):=hd;have I:∀p∈f1++f3,p∉own b o (cap*3):=I;have hfr:Qaa B W (own b o (cap*3)):=hfr;rw[hn]at Z;have o1:=e1.one;have o3:=e3.one;have ox:=GoT.one hx;have l1:=e1.live;have l3:=e3.live;have lx:=GoT.live hxr;unfold maxLen at k2;have hls:∀w1 ty,(Builtin.len_ #[65] ty #[.slice (some ⟨b,o,none⟩) l.length cap]).run Tryz.prog w1= .ok (.int .i64 l.length) w1:=fun w1 ty=>by simp[Builtin.len_,run_underlying Tryz.underlying65,goInt]
  have hwk:IntKind.i64.wrap ((k:Int)+1)=(k:Int)+1:=by rw[IntKind.wrap_i64];omega
  have hwn:IntKind.i64.wrap ((l.length:Int)+1)=(l.length:Int)+1:=by rw[IntKind.wrap_i64];omega
  obtain⟨oK,hoK⟩:∃oK,oK=o+k*3:=⟨_,rfl⟩;obtain⟨oA,hoA⟩:∃oA,oA=o+(k+1)*3:=⟨_,rfl⟩;have M:∀w1,(sizeOf 119).run Tryz.prog w1= .ok 3 w1:=fun _=>by kernel_rfl
  have hB1:B<=W.heap.size:=om;have hrw:Wr (own b o (cap*3)) W W.drew:=Wr.of_below (lf _ _).drew;by_cases hroom:l.length+1<=cap
  ·have hk2':cap<=maxLen:=by unfold maxLen;omega
   have s1:=Xam (P:=Tryz.prog) (n:=3) Tryz.underlying65 M b o l.length cap k (k:Int) rfl hk om om;have s2:=JaI (P:=Tryz.prog) (n:=3) Tryz.underlying65 M b o l.length cap (l.length+1) ((l.length:Int)+1) sm hroom hk2';have s3:=Xam (P:=Tryz.prog) (n:=3) Tryz.underlying65 M b o (l.length+1) cap (k+1) ((k:Int)+1) sm om om om;have s4:=Xam (P:=Tryz.prog) (n:=3) Tryz.underlying65 M b o (l.length+1) cap k (k:Int) rfl om om om;rw[<-hoK]at s1 s4;rw[<-hoA,Nat.add_sub_add_right]at s3;have hm1:∀j<c3.length,(b,oA+j)∈own b o (cap*3):=fun j J=>Kaa.2 ⟨rfl,by simp only;omega,by simp only;omega⟩
   have hm2:∀j<Q.length,(b,oK+j)∈own b o (cap*3):=fun j J=>Kaa.2 ⟨rfl,by simp only;omega,by simp only;omega⟩
   have hov:∀lb cb,(callFunc 120 #[.slice (some ⟨w,0,none⟩) 1 1,.slice (some ⟨b,oA,none⟩) lb cb]).run Tryz.prog W= .ok (.value (.bool false)) W:=fun lb cb=>by
    rw[run_callFunc_extern (fn:=Tryz.f120) (by kernel_rfl) (by kernel_rfl) (by kernel_rfl) (by kernel_rfl) (e:=Extern.SlicesOverlaps.overlaps #[65,65] #[4]) (by kernel_rfl),
     Lib.run_overlaps_apart W 65 4 119 Tryz.underlying65 3 M ⟨w,0,none⟩ ⟨b,oA,none⟩ 1 1 lb cb (Ne.symm hbn) 119 tB 3 kB hsA hsB hkB (hfA 0) (hfA 3)]
    rfl
   have R:∀j<c3.length,(W.drew.cell? ⟨b,oA+j,none⟩).isSome=true:=fun j J=>a2 _ (hm1 j J)
   obtain⟨U,D⟩:∃U,U=W.drew.setCells b oA c3:=⟨_,rfl⟩;have a0:∀j<Q.length,(U.cell? ⟨b,oK+j,none⟩).isSome=true:=fun j J=>by rw[D];exact Xaf b c3 oA _ R _ (a2 _ (hm2 j J))
   have hcp1:∀ty dc sc,(Builtin.copy_ #[65,65] ty #[.slice (some ⟨b,oA,none⟩) (l.length-k) dc,.slice (some ⟨b,oK,none⟩) (l.length+1-k) sc]).run Tryz.prog W.drew= .ok (goInt ((l.length-k:Nat):Int)) U:=fun ty dc sc=>by
    rw[D];refine zaj W.drew _ _ ty 119 i0 b oA (l.length-k) dc ⟨b,oK,none⟩ (l.length+1-k) sc (l.length-k) c3 Tryz.underlying65 hi (by simp only[Nat.min_def];split<;>omega) (by rw[hc3,a4]) (fun j u J=> ?_) R (fun j J=>hfr.free _ (hm1 j J)) o3
    rw[addr_add,hoK];exact a3 j u J
   have hcp2:∀W',W'=U->∀ty dc,(Builtin.copy_ #[65,65] ty #[.slice (some ⟨b,oK,none⟩) (l.length+1-k) dc,.slice (some ⟨w,0,none⟩) 1 1]).run Tryz.prog W'= .ok (goInt 1) (U.setCells b oK Q):=fun W' hW' ty dc=>by
    rw[hW'];refine zaj U _ _ ty 119 i0 b oK (l.length+1-k) dc ⟨w,0,none⟩ 1 1 1 Q Tryz.underlying65 hi (by simp only[Nat.min_def];split<;>omega) (by rw[Z,a4]) (fun j u J=> ?_) a0 (fun j J=>by rw[D,World.frozen?_setCells];exact hfr.free _ (hm2 j J)) ox
    rw[addr_add,D,World.cell?_setCells_out b c3 oA _ _ (fun h _=>absurd h (Ne.symm hbn)),Nat.zero_add];exact hxv j u J
   obtain⟨W2,z⟩:∃W2,W2=U.setCells b oK Q:=⟨_,rfl⟩;have hwA:Wr (own b o (cap*3)) W W2:=by
    rw[z,D];exact(hrw.trans (uai c3 oA _ hm1)).trans (uai Q oK _ hm2)
   have hAt:At W2 b o (c1++(Q++c3)):=by
    rw[z];refine At.append.2 ⟨?_,At.append.2 ⟨?_,?_⟩⟩
    ·rw[D];exact(At.setCellsO (w:=W.drew) a1 om).setCellsO om
    ·rw[Y,<-hoK];exact Zak a0
    ·rw[Y,Z,show o+k*3+3=oA by omega,D]
     exact(Zak R).setCellsO om
   have hRow:Row B W2 (.slice (some ⟨b,o,none⟩) (l.length+1) cap) (l.take k++x::l.drop k) (f1++(gs++f3)):=by
    have hll:(l.take k++x::l.drop k).length=l.length+1:=by simp;omega
    refine⟨.inr ⟨b,o,cap,_,f1++(gs++f3),by rw[hll],by rw[hll];exact hroom,by unfold maxLen;omega,by rw[hll];exact Xab om,hAt,Els.ins (e1.keep (hwA.same l1 fun p q=>I p (by simp[q]))) (GoT.keep hxr (hwA.same lx hd)) (e3.keep (hwA.same l3 fun p q=>I p (by simp[q]))),(fun p q=>by
     obtain⟨q1,_,_⟩:=Kaa.1 q;rw[z,q1];exact Xaf b Q oK _ a0 _ (by rw[D];exact Xaf b c3 oA _ R _ (by have:=a2 p q;rwa[q1]at this))),rfl⟩,hwA.fresh a2 hfr,fun p q=> ?_⟩
    rcases lm.1 q with q|q
    ·exact I p (by simp[q])
    ·rcases lm.1 q with q|q
     ·exact hd p q
     ·exact I p (by simp[q])
   rw[<-z]at hcp2;have HROW:=hH hRow;have HWA:=hH hwA;have HP:=hH (KaI f1 gs f3);have hz1':¬((1:Int)=0):=by decide
   have hk0:¬((k:Int)=(l.length:Int)):=om;have hcap:∀w1 ty,(Builtin.cap_ #[65] ty #[.slice (some ⟨b,o,none⟩) l.length cap]).run Tryz.prog w1= .ok (.int .i64 cap) w1:=fun w1 ty=>by simp[Builtin.cap_,run_underlying Tryz.underlying65,goInt]
   have hng:¬((cap:Int)<(l.length:Int)+1):=om;clear hRow hwA hAt D z hm1 hm2 R a0 hoK hoA a1 a3 e1 e3 l1 l3 lx o1 o3 ox Y hc3 Z hd I hfr a2 hrp ha hxr hxv hg hgl hvl hsrc hx hi hz0 a4 hz2 hn hfA hsA hsB sW;go_enter Tryz.func83,Tryz.ntmps83
   go_wp2_with (simp only[hov])
   go_region_law (refine uaq rfl _ _ 65 65 rfl _ _ (by simp[Act.eval,Act.put]) (by simp[Act.eval,Act.put]) (hcp1 _ _ _) ?_)
   go_wp2_with (with_reducible refine Lib.wpList_copy_run _ rfl _ _ 65 65 rfl _ _ rfl rfl (hcp2 _ rfl _ _) ?_)
   go_ret;exact⟨_,_,rfl,HROW.out,HP.out,HWA.out,fun p q=> .inl q⟩
  ·obtain rfl:cap=l.length:=om;have hk2':l.length<=maxLen:=by unfold maxLen;omega
   have s1:=Xam (P:=Tryz.prog) (n:=3) Tryz.underlying65 M b o l.length l.length k (k:Int) rfl hk hlt hk2';have s2:=JaI (P:=Tryz.prog) (n:=3) Tryz.underlying65 M b o l.length l.length k (k:Int) rfl hk hk2';rw[<-hoK]at s1;obtain⟨N,hN⟩:∃N,N=W.heap.size:=⟨_,rfl⟩;obtain⟨G,hG⟩:∃G,G=grownCap W (l.length+1) l.length 119:=⟨_,rfl⟩;have hkk:k+(l.length+1-k)=l.length+1:=om;have hap:=Lib.run_append_grow_zeros (P:=Tryz.prog) W 65 3 65 119 i0 _ .i64 .i64 Tryz.underlying65 Tryz.underlying3 hi hz0 (some ⟨b,o,none⟩) k l.length c1
    (by rw[a4];exact run_firstCells_some W.drew 3 k ⟨b,o,none⟩ k l.length c1 Y (fun j u J=>by rw[addr_add];exact a1 j u J)) (l.length+1-k) om (by rw[a4];decide) om om (by rw[hz2];omega) (by rw[hz2,hkk];exact growslice_fits om om)
   rw[hkk,<-hG]at hap;have hGn:l.length+1<=G:=by rw[hG];exact grownCap_ge W _ _ _
   have hGm:G<=maxLen:=by rw[hG];exact grownCap_le_maxLen W _ _ _ (by unfold maxLen;omega)
   obtain⟨zs,hzs,hzl⟩:=qak (.agg #[zI,zI,zI]:Value).cells (l.length+1-k);obtain⟨ys,hys,hyl⟩:=qak (.agg #[zI,zI,zI]:Value).cells (G-(l.length+1));rw[hzs,hys,<-hN]at hap;have hzc:(.agg #[zI,zI,zI]:Value).cells.size=3:=by kernel_rfl
   rw[hzc]at hzl hyl;obtain⟨U,D⟩:∃U,U=W.drew.alloc (.cells (c1.toArray++zs.toArray++ys.toArray) 119):=⟨_,rfl⟩;rw[<-D]at hap;have hb1:Below W W U:=by rw[D];exact((lf _ _).drew).alloc (lr _) _
   have hg1:U.heap[N]? =some (.cells (c1++(zs++ys)).toArray 119 (0,0)):=by
    have:=heap_alloc_new W.drew (.cells (c1.toArray++zs.toArray++ys.toArray) 119);rw[D,hN];simpa using this
   have hsz1:(c1++(zs++ys)).length=G*3:=by simp only[List.length_append,Y,hzl,hyl];omega
   have hlv1:∀j,j<G*3->(U.cell? ⟨N,j,none⟩).isSome=true:=fun j J=>by rw[xao hg1,List.getElem?_eq_getElem om];rfl
   have hfr1:∀j,U.frozen? ⟨N,j,none⟩=false:=fun j=>Zal hg1
   have hbN:b<N:=by rw[hN];have:=a2.lt (b,o) (Kaa.2 ⟨rfl,by simp,by simp;omega⟩);exact this
   have hNb:∀p∈f1++f3,p.1<N:=fun p q=>by rw[hN];rcases lm.1 q with q|q;exact l1.lt p q;exact l3.lt p q
   have hNg:∀p∈gs,p.1<N:=fun p q=>by rw[hN];exact lx.lt p q
   obtain⟨oN,hoN⟩:∃oN,oN=0+k*3:=⟨_,rfl⟩;obtain⟨oB,hoB⟩:∃oB,oB=0+(k+1)*3:=⟨_,rfl⟩;have s3:=Xam (P:=Tryz.prog) (n:=3) Tryz.underlying65 M N 0 (l.length+1) G k (k:Int) rfl om om (by unfold maxLen;omega)
   have s4:=Xam (P:=Tryz.prog) (n:=3) Tryz.underlying65 M N 0 (l.length+1) G (k+1) ((k:Int)+1) sm om om (by unfold maxLen;omega)
   rw[<-hoN]at s3;rw[<-hoB,Nat.add_sub_add_right]at s4;have hm1:∀j<Q.length,(N,oN+j)∈own N 0 (G*3):=fun j J=>Kaa.2 ⟨rfl,by simp only;omega,by simp only;omega⟩
   have hm2:∀j<c3.length,(N,oB+j)∈own N 0 (G*3):=fun j J=>Kaa.2 ⟨rfl,by simp only;omega,by simp only;omega⟩
   have R:∀j<Q.length,(U.cell? ⟨N,oN+j,none⟩).isSome=true:=fun j J=>hlv1 _ om
   obtain⟨W2,z⟩:∃W2,W2=U.setCells N oN Q:=⟨_,rfl⟩;have a0:∀j<c3.length,(W2.drew.cell? ⟨N,oB+j,none⟩).isSome=true:=fun j J=>by rw[z];exact Xaf N Q oN _ R _ (hlv1 _ om)
   have hcp1:∀ty dc,(Builtin.copy_ #[65,65] ty #[.slice (some ⟨N,oN,none⟩) (l.length+1-k) dc,.slice (some ⟨w,0,none⟩) 1 1]).run Tryz.prog U= .ok (goInt 1) W2:=fun ty dc=>by
    rw[z];refine zaj U _ _ ty 119 i0 N oN (l.length+1-k) dc ⟨w,0,none⟩ 1 1 1 Q Tryz.underlying65 hi (by simp only[Nat.min_def];split<;>omega) (by rw[Z,a4]) (fun j u J=> ?_) R (fun j _=>hfr1 _) ox
    rw[addr_add,Nat.zero_add,hb1.cell (p:=⟨w,j,none⟩) (show w<W.heap.size by omega)];exact hxv j u J
   have hcp2:∀ty dc sc,(Builtin.copy_ #[65,65] ty #[.slice (some ⟨N,oB,none⟩) (l.length-k) dc,.slice (some ⟨b,oK,none⟩) (l.length-k) sc]).run Tryz.prog W2.drew= .ok (goInt ((l.length-k:Nat):Int)) (W2.drew.setCells N oB c3):=fun ty dc sc=>by
    refine zaj W2.drew _ _ ty 119 i0 N oB (l.length-k) dc ⟨b,oK,none⟩ (l.length-k) sc (l.length-k) c3 Tryz.underlying65 hi sm (by rw[hc3,a4]) (fun j u J=> ?_) a0 (fun j _=>by show W2.frozen? _=false;rw[z,World.frozen?_setCells];exact hfr1 _) o3
    rw[addr_add];show W2.cell? _=_;rw[z,World.cell?_setCells_out N Q oN _ _ (fun h _=>by simp only at h;omega),hb1.cell (p:=⟨b,oK+j,none⟩) (show b<W.heap.size by omega),hoK]
    exact a3 j u J
   obtain⟨W3,hW3⟩:∃W3,W3=W2.drew.setCells N oB c3:=⟨_,rfl⟩;have hwN:Wr (own N 0 (G*3)) U W3:=by
    rw[hW3,z];exact((uai Q oN _ hm1).trans (Wr.of_below (lf _ _).drew)).trans (uai c3 oB _ hm2)
   have hb3:Below W W W3:=hb1.trans (hwN.below hb1.size fun p q=>by rw[(Kaa.1 q).1,hN];exact lr _)
   have hAt:At W3 N 0 (c1++(Q++c3)):=by
    rw[hW3];refine At.append.2 ⟨?_,At.append.2 ⟨?_,?_⟩⟩
    ·refine At.setCellsO ?_ om;rw[z];refine At.setCellsO (w:=U) ?_ om;intro j u J;have hjl:=(lg.1 J).1;rw[xao hg1,Nat.zero_add,List.getElem?_append_left hjl];exact J
    ·refine At.setCellsO ?_ om;rw[Y,<-hoN,z];exact Zak (w:=U) R
    ·rw[Y,Z,show 0+k*3+3=oB by omega]
     exact Zak a0
   have hRow:Row B W3 (.slice (some ⟨N,0,none⟩) (l.length+1) G) (l.take k++x::l.drop k) (f1++(gs++f3)):=by
    have hll:(l.take k++x::l.drop k).length=l.length+1:=by simp;omega
    refine⟨.inr ⟨N,0,G,_,f1++(gs++f3),by rw[hll],by rw[hll];exact hGn,hGm,by rw[hll];exact Xab om,hAt,Els.ins (e1.keep (Live.same_below hb3 l1.lt)) (GoT.keep hxr (Live.same_below hb3 lx.lt)) (e3.keep (Live.same_below hb3 l3.lt)),(fun p q=>by
     obtain⟨q1,_,q3⟩:=Kaa.1 q;rw[Nat.zero_add]at q3;rw[hW3,q1];exact Xaf N c3 oB _ a0 _ (by show(W2.cell? _).isSome=true;rw[z];exact Xaf N Q oN _ R _ (hlv1 _ q3))),rfl⟩,⟨jau _ _ _,fun p q=>by rw[(Kaa.1 q).1,hN];exact hB1,fun p q=>by
      rw[hW3,(Kaa.1 q).1,World.frozen?_setCells];show W2.frozen? _=false;rw[z,World.frozen?_setCells];exact hfr1 _⟩,fun p q hq=> ?_⟩
    have hpN:p.1=N:=(Kaa.1 hq).1;rcases lm.1 q with q|q
    ·have:=hNb p (by simp[q]);omega
    ·rcases lm.1 q with q|q
     ·have:=hNg p q;omega
     ·have:=hNb p (by simp[q]);omega
   rw[<-hW3]at hcp2;have HROW:=hH hRow;have HWA:Hid (Wr (rowP (GoT.n qac) (.slice (some ⟨b,o,none⟩) l.length l.length)) W W3):=hH (Wr.of_below hb3);have HP:=hH (KaI f1 gs f3);have HN:Hid (∀p∈rowP (GoT.n qac) (.slice (some ⟨N,0,none⟩) (l.length+1) G),W<=p.1):=hH fun p q=>by rw[(Kaa.1 q).1,hN];exact lr _
   have hz1':¬((1:Int)=0):=by decide
   have hk0:¬((k:Int)=(l.length:Int)):=om;have hcap:∀w1 ty,(Builtin.cap_ #[65] ty #[.slice (some ⟨b,o,none⟩) l.length l.length]).run Tryz.prog w1= .ok (.int .i64 l.length) w1:=fun w1 ty=>by simp[Builtin.cap_,run_underlying Tryz.underlying65,goInt]
   have hng:(l.length:Int)<(l.length:Int)+1:=om;have hsb:IntKind.i64.wrap ((l.length:Int)+1-(k:Int))=(l.length:Int)+1-(k:Int):=by rw[IntKind.wrap_i64];omega
   have hcast:((l.length+1-k:Nat):Int)=(l.length:Int)+1-(k:Int):=om;rw[hcast]at hap;have hb0:(0:Int)<=(l.length:Int)+1-(k:Int):=om;clear hRow hb3 hwN hAt D z hW3 hm1 hm2 R a0 hoK hoA a1 a3 e1 e3 l1 l3 lx o1 o3 ox Y hc3 Z hd I hfr a2 hrp ha hxr hxv hg hgl hvl hsrc hx hi hz0 a4 hz2 hn hfA hsA hsB sW hG hGm hzs hys hzl hyl hzc hb1 hg1 hsz1 hlv1 hfr1 hbN hNb hNg hoN hoB hN hcast hrw;go_enter Tryz.func83,Tryz.ntmps83
   go_wp2_with (first|(at_builtin;refine wpList_append_run rfl _ _ 65 3 rfl _ _ rfl rfl hap ?_)|(with_reducible refine Lib.wpList_copy_run _ rfl _ _ 65 65 rfl _ _ rfl rfl (hcp1 _ _) ?_))
   go_region_law (refine uaq rfl _ _ 65 65 rfl _ _ (by simp[Act.eval,Act.put]) (by simp[Act.eval,Act.put]) (hcp2 _ _ _) ?_)
   go_wp2;go_ret;exact⟨_,_,rfl,HROW.out,HP.out,HWA.out,fun p q=> .inr (HN.out p q)⟩
