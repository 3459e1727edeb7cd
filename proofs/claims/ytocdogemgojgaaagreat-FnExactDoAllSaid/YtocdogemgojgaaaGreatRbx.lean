/- Doing calls on a hub one behind the other. -/
import Derived.Test.YtocdogemgojgaaaGreatRbw
set_option maxHeartbeats 8000000
set_option maxRecDepth 100000
set_option linter.defProp false
set_option linter.unusedSimpArgs false
namespace Go.Proofs.YtocdogemgojgaaaGreat
open Go.RowKit
def Kam (z:vaf):List xah->vaf×List Zad
 |[]=>(z,[])
 |c::l=>((Kam (Kag z c).1 l).1,(Kag z c).2::(Kam (Kag z c).1 l).2)
theorem ZaS (c:xah):∀(l:List xah) (z:vaf),Kam z (l++[c])=((Kag (Kam z l).1 c).1,(Kam z l).2++[(Kag (Kam z l).1 c).2])
 |[],_=>rfl
 |x::l,z=>by
  rw[List.cons_append];unfold Kam;rw[ZaS c l (Kag z x).1];rfl
theorem qbc {z y n:vaf}{a:List Zad}{j:Zad}{l:List xah}{k:Nat}{c:xah}(p:l[k]? =some c)(hy:Kam z (l.take k)=(y,a))(hd:Kag y c=(n,j)):Kam z (l.take (k+1))=(n,a++[j]):=by
 rw[List.take_add_one,p,Option.toList_some,ZaS,hy];simp only[hd]
theorem zbg {d:Jac}{client seq base:Int}{o:List zaa}(h:(Xae d client seq base o).2.2=0):zae (Xae d client seq base o).1=true:=by
 unfold Xae at h⊢;split at h<;>rename_i j
 ·rw[if_pos j];split at h<;>rename_i p
  ·rw[if_pos p];exact j.1
  ·rw[if_neg p];split at h<;>rename_i u
   ·rw[if_pos u];split at h<;>rename_i n
    ·rw[if_pos n];split at h<;>rename_i q
     ·rw[if_pos q];have r:=uav n;exact(Qbd j.1 j.2.1 j.2.2.1 r.2.1 r.2.2 q).1
     ·simp at h
    ·exact absurd h n
   ·simp at h
 ·simp at h
theorem kai:Xau yal:=⟨by simp[yal],by simp[yal],by simp[yal],by simp[yal]⟩
theorem xbm {r:kac}{e:xab}(h:Zac r=true):szL (Xah r e).list<=4000000:=by
 have u:=(Qav h).1;by_cases j:Zac r=true/\Kac e=true/\r.out=false
 rotate_left
 ·rw[Qaw j];exact u
 by_cases n:(r.list.length:Int)=r.cap
 ·rw[XaF j n];simp[szL,szs]
 ·rw[kay j n];have p:(r.list++[e]).all Kac=true:=by
   simp only[Zac,Bool.and_eq_true]at h;rw[List.all_append,h.2];simp[j.2.1]
  have q:=jaH p;rw[List.length_append,List.length_singleton]at q;have:=(Qav h).2;show szL (r.list++[e])<=_;omega
theorem Jbg {z:vaf}(j:Xau z)(c:xah):Xau (Kag z c).1:=by
 by_cases h:kae z=true/\Qac c=true
 rotate_left
 ·rw[kap h];exact j
 by_cases D:c.kind=3\/c.kind=4
 ·rw[vap h D];exact j
 by_cases M:(vaq z c).2.code=0
 rotate_left
 ·rw[qaE h D M];exact j
 rw[zaA h D M];have p:=kad.1 h.1;have N:=p.nd;have p2:=p.ns;have u:∀(k:Nat) (s:kah) (b:Bool) (n:Int),szL s.r.list<=4000000->Xau ⟨b,z.docs,z.subs.set k s,n⟩:=fun k s b n q=>
  ⟨j.nd,by simpa using j.ns,j.docs,fun x I=>(List.mem_or_eq_of_mem_set I).elim (j.subs x) fun e=>e▸q⟩
 clear D M;unfold vaq;split
 ·unfold jai;simp only;split
  ·rename_i B
   split
   ·exact kai
   ·split
    ·exact kai
    ·split
     ·exact kai
     ·refine⟨by simp;omega,j.ns,fun d hd=> ?_,j.subs⟩
      rcases lm.1 hd with hd|hd
      ·exact j.docs d (List.mem_of_mem_take hd)
      ·rcases List.mem_cons.1 hd with rfl|hd
       ·unfold Qat at B⊢;split
        ·rename_i J;exact vaQ J
        ·rename_i J;rw[if_neg J]at B;simp at B
       ·exact j.docs d (List.mem_of_mem_drop hd)
  ·exact kai
 ·split
  ·unfold Kae;simp only;split
   ·split
    ·exact kai
    ·split
     ·exact kai
     ·split
      ·exact kai
      ·rename_i d hd
       split
       ·rename_i B
        refine⟨by simpa using j.nd,?_,fun y hy=>(List.mem_or_eq_of_mem_set hy).elim (j.docs y) fun e=>e▸vaQ (zbg B),?_⟩
        ·show List.length (if _ then _ else _)<=_
         split
         ·exact j.ns
         ·simpa using j.ns
        ·intro s q;simp only at q;split at q
         ·exact j.subs s q
         ·obtain⟨x,I,rfl⟩:=List.mem_map.1 q;unfold JaB;split
          ·exact xbm (p.ring I)
          ·exact j.subs x I
       ·exact kai
   ·exact kai
  ·split
   ·unfold yae;simp only;split
    ·split
     ·exact kai
     ·split
      ·exact kai
      ·split
       ·exact kai
       ·refine⟨j.nd,by simp;omega,j.docs,fun s q=> ?_⟩
        rcases lm.1 q with q|q
        ·exact j.subs s q
        ·rw[List.mem_singleton.1 q,qaJ];simp[szL,szs]
    ·exact kai
   ·split
    ·unfold Zal;simp only;split
     ·split
      ·exact kai
      ·split
       ·rename_i s q
        split
        ·refine u _ _ _ _ ?_;show szL (qac s.r c.n).1.list<=_;have:=j.subs s (List.mem_of_getElem? q);unfold qac;split
         ·split
          ·exact this
          ·simp only;exact Nat.le_trans (kaW _ _) this
         ·exact this
        ·exact kai
       ·exact kai
     ·exact kai
    ·split
     ·unfold yah;simp only;split
      ·split
       ·split
        ·exact kai
        ·refine u _ _ _ _ ?_;show szL (zam _ _).1.list<=_;rw[JaM];simp[szL,szs]
       ·exact kai
      ·exact kai
     ·unfold van;simp only;split
      ·split
       ·exact kai
       ·exact⟨j.nd,j.ns,j.docs,j.subs⟩
      ·exact kai
theorem Qa7:∀(l:List xah) {z:vaf},Xau z->Xau (Kam z l).1
 |[],_,h=>h
 |c::l,_,h=>Qa7 l (Jbg h c)
theorem Ka1:∀(l:List xah) (z:vaf),(Kam z l).2.length=l.length
 |[],_=>rfl
 |c::l,z=>by unfold Kam;simp[Ka1 l]
def Rw (ob B D:Nat)(w:World)(va:Value)(l:List Zad):Prop:=∃M,Row B w va l M/\uaa B w M/\∀p∈rowP (GoT.n Zad) va++M,p.1≠ob/\p.1<D
def Nh (C D:Nat)(w:World)(vd vs vt vl:Value)(y:vaf)(a:Zad):Prop:=∃fd fs ft fl,Sl BIG w vd y.docs fd/\Sl BIG w vs y.subs fs/\Sl BIG w vt a.text ft/\Sl BIG w vl a.list fl/\uaa C w (fd++(fs++(ft++fl)))/\∀p∈fd++(fs++(ft++fl)),p.1<D
def DA (ob B:Nat)(w:World)(vd vs va:Value)(y:vaf)(l:List Zad):Prop:=∃fd fs M,Sl BIG w vd y.docs fd/\Sl BIG w vs y.subs fs/\Row B w va l M/\uaa B w (fd++(fs++(rowP (GoT.n Zad) va++M)))/\∀p∈fd++(fs++(rowP (GoT.n Zad) va++M)),p.1≠ob
section
variable {ob B C D:Nat} {w w':World} {vd vs vt vl va:Value} {y:vaf} {a:Zad} {l:List Zad}
theorem uaa.blk {f:List Pos}(h:uaa B w f)(n:∀p∈f,w'.heap[p.1]? =w.heap[p.1]?):uaa B w' f:=
 ⟨h.nodup,h.ge,fun p j=>by have:=h.free p j;simp only[World.frozen?]at *;rw[n p j];exact this⟩
theorem Sl.blk {α:Type}[GoT α]{v:Value}{x:List α}{f:List Pos}(h:Sl BIG w v x f)(n:∀p∈f,w'.heap[p.1]? =w.heap[p.1]?):Sl BIG w' v x f:=
 h.keep fun p j=>by simp only[World.cell?];rw[n p j]
theorem Row.blk {f:List Pos}(h:Row B w va l f)(j:∀p∈rowP (GoT.n Zad) va++f,w'.heap[p.1]? =w.heap[p.1]?):Row B w' va l f:=
 ⟨h.1.blk j,h.2.1.blk fun p q=>j p (lu _ q),h.2.2⟩
theorem Rw.block (h:Rw ob B D w va l)(q:∀k,B<=k->k≠ob->k<D->w'.heap[k]? =w.heap[k]?):Rw ob B D w' va l:=by
 obtain⟨M,r,f,n⟩:=h;have hb:∀p∈rowP (GoT.n Zad) va++M,w'.heap[p.1]? =w.heap[p.1]? :=fun p j=>q _ ((lm.1 j).elim (r.2.1.ge p) (f.ge p)) (n p j).1 (n p j).2
 exact⟨M,r.blk hb,f.blk fun p j=>hb p (lw _ j),n⟩
theorem Rw.below (h:Rw ob B D w va l)(hb:Below D w w'):Rw ob B D w' va l:=h.block fun k _ _ j=>hb.block k j
theorem Rw.alloc (h:Rw ob B D w va l)(j:D<=w.heap.size)(o:Obj):Rw ob B D (w.alloc o) va l:=h.below ((lf _ _).alloc j o)
theorem Rw.setCell {o:Nat}(h:Rw ob B D w va l)(u:Value):Rw ob B D (w.setCell ⟨ob,o,none⟩ u) va l:=h.block fun k _ j _=>Below.heap_setCell w ⟨ob,o,none⟩ u k j
theorem Nh.block (h:Nh C D w vd vs vt vl y a)(u:∀k,C<=k->k<D->w'.heap[k]? =w.heap[k]?):Nh C D w' vd vs vt vl y a:=by
 obtain⟨fd,fs,q,n,z,B,I,J,f,d⟩:=h;have hb:∀p∈fd++(fs++(q++n)),w'.heap[p.1]? =w.heap[p.1]? :=fun p j=>u _ (f.ge p j) (d p j)
 exact⟨fd,fs,q,n,z.blk fun p j=>hb p (by simp[j]),B.blk fun p j=>hb p (by simp[j]),I.blk fun p j=>hb p (by simp[j]),J.blk fun p j=>hb p (by simp[j]),f.blk hb,d⟩
theorem Nh.alloc (h:Nh C D w vd vs vt vl y a)(j:D<=w.heap.size)(o:Obj):Nh C D (w.alloc o) vd vs vt vl y a:=h.block fun k _ n=>((lf _ _).alloc j o).block k n
theorem Nh.setCell {b o:Nat}(h:Nh C D w vd vs vt vl y a)(n:b<C)(u:Value):Nh C D (w.setCell ⟨b,o,none⟩ u) vd vs vt vl y a:=h.block fun k j _=>Below.heap_setCell w ⟨b,o,none⟩ u k (by show k≠b;omega)
theorem DA.rw (h:DA ob B w vd vs va y l):Rw ob B w w va l:=by
 obtain⟨fd,fs,M,_,_,r,f,n⟩:=h;exact⟨M,r,f.right.right.right,fun p j=>⟨n p (by simp only[lm]at *;exact .inr (.inr j)),Live.lt r.1.live p j⟩⟩
theorem DA.rd1 (h:DA ob B w vd vs va y l):RdS w vd y.docs:=let⟨fd,_,_,s,_⟩:=h;⟨fd,s⟩
theorem DA.rd2 (h:DA ob B w vd vs va y l):RdS w vs y.subs:=let⟨_,fs,_,_,s,_⟩:=h;⟨fs,s⟩
theorem DA.setCell {b o:Nat}(h:DA ob B w vd vs va y l)(j:b<B)(u:Value):DA ob B (w.setCell ⟨b,o,none⟩ u) vd vs va y l:=by
 obtain⟨fd,fs,M,z,D,r,f,n⟩:=h;have hb:∀p∈fd++(fs++(rowP (GoT.n Zad) va++M)),(w.setCell ⟨b,o,none⟩ u).heap[p.1]? =w.heap[p.1]? :=fun p q=>Below.heap_setCell w ⟨b,o,none⟩ u p.1 (by show p.1≠b;have:=f.ge p q;omega)
 exact⟨fd,fs,M,z.blk fun p j=>hb p (by simp[j]),D.blk fun p j=>hb p (by simp[j]),r.blk fun p j=>hb p (by simp only[lm]at *;exact .inr (.inr j)),f.blk hb,n⟩
theorem DA.out {w0:World}(h:DA ob B w' vd vs va y l)(j:w0.heap.size<=B)(hb:Below w0 w0 w'):jat w0 y l (.returned (.tuple #[.agg #[y.shut,vd,vs,y.last],va])) w':=
 let⟨fd,fs,_,n,p,r,f,_⟩:=h
 ⟨vd,vs,va,fd,fs,_,rfl,n,p,r.1,f.mono j,hb⟩
theorem DA.first {j:Option Addr}(h:uab C D w vd vs y.docs y.subs)(q:B<=C)(J:D<=ob):DA ob B w vd vs (.slice j 0 0) y []:=by
 obtain⟨fd,fs,z,I,f,d⟩:=h;have e:rowP (GoT.n Zad) (.slice j 0 0)=[]:=by cases j<;>simp[rowP,own]
 refine⟨fd,fs,[],z,I,Row.empty _ _ _,?_,?_⟩
 ·rw[e];simpa using f.mono q
 ·rw[e];intro p u;have:=d p (by simpa using u);omega
theorem DA.step {W Wn:World}{M I z fd fs:List Pos}{v':Value}(hr:Row B W va l M)(hM:uaa B W M)(hn:∀p∈rowP (GoT.n Zad) va++M,p.1≠ob/\p.1<D)(s1:Sl BIG W vd y.docs fd)(s2:Sl BIG W vs y.subs fs)(hf:uaa C W (fd++(fs++(I++z))))(hl:Live W (fd++(fs++(I++z))))(hDC:D<=C)(hob:ob<D)(hBD:B<=D)(hDW:D<=W.heap.size)
 (hb:Below W W Wn) (hw:Wr (rowP (GoT.n Zad) va) Wn w') (U:Row B w' v' (l++[a]) (M++(I++z))) (a0:∀p∈rowP (GoT.n Zad) v',p∈rowP (GoT.n Zad) va\/Wn<=p.1):DA ob B w' vd vs v' y (l++[a]):=by
 have Z:=Live.lt hl;have Y:=Live.lt hr.1.live;have hsz:=hb.size;have kp:uaa C w' (fd++(fs++(I++z))):=hf.wr2 hb hw Z;have kM:uaa B w' M:=hM.wr2 hb hw fun p j=>Y p (lw _ j)
 have off:∀p∈fd++(fs++(I++z)),p∉rowP (GoT.n Zad) va:=fun p j u=>by
  have:=hf.ge p j;have:=(hn p (lu _ u)).2;omega
 have t1:=s1.wr2 hb hw fun p j u=>off p (by simp[j]) u
 have t2:=s2.wr2 hb hw fun p j u=>off p (by simp[j]) u
 have k1:=kp.right.right;have J:∀p∈fd++(fs++(I++z)),p∉rowP (GoT.n Zad) v':=fun p j u=>by
  rcases a0 p u with h|h
  ·exact off p j h
  ·have:=Z p j;omega
 have Q:∀p∈fd++(fs++(I++z)),p∉M:=fun p j u=>by
  have:=hf.ge p j;have:=(hn p (lw _ u)).2;omega
 have nd:=ln.1 kp.nodup;have ns:=ln.1 nd.2.1;have N:B<=C:=om;have fin:uaa B w' (rowP (GoT.n Zad) v'++(M++(I++z))):=by
  refine U.2.1.join (kM.join (k1.mono N) fun p j q u e=> ?_) fun p j q u e=>U.2.2 q u (e▸j)
  subst e;exact Q p (by simp only[lm]at *;exact .inr (.inr u)) j
 refine⟨fd,fs,M++(I++z),t1,t2,U,(kp.left.mono N).join ((kp.right.left.mono N).join fin fun p j q u e=> ?_) fun p j q u e=> ?_,fun p j e=> ?_⟩
 ·subst e;rcases lm.1 u with u|u
  ·exact J p (by simp[j]) u
  ·rcases lm.1 u with u|u
   ·exact Q p (by simp[j]) u
   ·exact ns.2.2 p j p u rfl
 ·subst e;rcases lm.1 u with u|u
  ·exact nd.2.2 p j p (lu _ u) rfl
  ·rcases lm.1 u with u|u
   ·exact J p (by simp[j]) u
   ·rcases lm.1 u with u|u
    ·exact Q p (by simp[j]) u
    ·exact nd.2.2 p j p (lw _ u) rfl
 ·have R:∀q∈fd++(fs++(I++z)),q.1≠ob:=fun q u e=>by have:=hf.ge q u;omega
  rcases lm.1 j with j|j
  ·exact R p (by simp[j]) e
  ·rcases lm.1 j with j|j
   ·exact R p (by simp[j]) e
   ·rcases lm.1 j with j|j
    ·rcases a0 p j with h|h
     ·exact(hn p (lu _ h)).1 e
     ·omega
    ·rcases lm.1 j with j|j
     ·exact(hn p (lw _ j)).1 e
     ·exact R p (by simp only[lm]at *;exact .inr (.inr j)) e
end
theorem Qbk:(Tryz.prog.info? 36).map (fun i=>(i.zero,i.size,i.bytes))=some (some (.agg #[zI,zI,zN,zN]),4,64):=by kernel_rfl
theorem ya2 {N_:Nat}(h_:N_=33\/N_=35)(z:vaf)(l:List xah)(a5 a6 v_l:Value)(w:World)(h_docs:RdS w a5 z.docs)(h_subs:RdS w a6 z.subs)(h_l:RdS w v_l l)(hz:Xau z):Calls Tryz.prog N_ #[.agg #[z.shut,a5,a6,z.last],v_l] w (jat w (Kam z l).1 (Kam z l).2):=by
 rcases h_ with rfl|rfl
 have k_0:Unit:=();have k_1:=hH @jaf;have k_2:=hH @xbi;go_enter Tryz.func33,Tryz.ntmps33;rotate_left;have k_0:Bool:=true;have k_1:=hH @kaf;have k_2:=hH @Qbe;go_enter Tryz.func35,Tryz.ntmps35;all_goals
  go_wp2_with fail
  refine(k_1.out z _ _ _ (h_docs.below (((lf w w).alloc om _).alloc om _)) (h_subs.below (((lf w w).alloc om _).alloc om _)) hz).mono ?_;rintro e' B ⟨_,rfl,ho1,hb1⟩;obtain⟨vd,vs,rfl,ap⟩:=uab.of_own ho1;obtain⟨ad,cd,rfl⟩:=ap.rd1.isSlice;obtain⟨av,aA,rfl⟩:=ap.rd2.isSlice;have ac:=hH (ap.mono (C':=w+2) om);clear ho1 ap;have s1:w+2<=B.heap.size:=szl hb1;have u:=hH ((((lf w w).alloc om _).alloc om _).trans (hb1.mono om));have HXz:Hid (Bx B w [z.shut,a5,a6,z.last]):=hH (((Bx.new (by first|rfl|simp|omega)).alloc _).at hb1)
  have Kz:=HXz.out.o4;have j:Hid (Bx B (w+1) [false,zN,zN,zI]):=hH ((Bx.new (by first|rfl|simp|omega)).at hb1)
  obtain⟨Zr,Z,a0,a2,a3,N,Q,R,Y⟩:=j.out.q4;clear hb1;go_upto_region 3 with(fail)
  first
  |have:Unit:=k_0
   clear this;obtain⟨V,hV⟩:∃V:World,V=((B.alloc (.cells #[z.shut,.slice ad z.docs.length cd,.slice av z.subs.length aA,z.last] 26)).alloc (.cells #[] 36)):=⟨_,rfl⟩;have sV:B+2<=V.heap.size:=by rw[hV];first|(simp;done)|(simp;omega)
   replace u:Hid (Below w w V):=hH (by rw[hV];exact((u.out.alloc om _).alloc om _))
   replace ac:Hid (uab (w+2) B V (.slice ad z.docs.length cd) (.slice av z.subs.length aA) (z.docs) (z.subs)):=hH (by rw[hV];exact((ac.out.alloc om _).alloc om _))
   replace j:Hid (Bx V (w+1) [false,zN,zN,zI]):=hH (by rw[hV];exact((j.out.alloc _).alloc _))
  |obtain⟨V,hV⟩:∃V:World,V=(B.alloc (.cells #[z.shut,.slice ad z.docs.length cd,.slice av z.subs.length aA,z.last] 26)):=⟨_,rfl⟩
   have sV:B+1<=V.heap.size:=by rw[hV];first|(simp;done)|(simp;omega)
   replace u:Hid (Below w w V):=hH (by rw[hV];exact(u.out.alloc om _))
   replace ac:Hid (uab (w+2) B V (.slice ad z.docs.length cd) (.slice av z.subs.length aA) (z.docs) (z.subs)):=hH (by rw[hV];exact(ac.out.alloc om _))
   replace j:Hid (Bx V (w+1) [false,zN,zN,zI]):=hH (by rw[hV];exact(j.out.alloc _))
  clear Zr Z a0 a2 a3 N Q R Y;obtain⟨Zr,Z,a0,a2,a3,N,Q,R,Y⟩:=j.out.q4;first
  |have:Unit:=k_0
   clear this;have n:Hid (Bx V B [z.shut,.slice ad z.docs.length cd,.slice av z.subs.length aA,z.last]):=hH (by rw[hV];exact((Bx.new (by first|rfl|simp|omega)).alloc _))
  |have n:Hid (Bx V B [z.shut,.slice ad z.docs.length cd,.slice av z.subs.length aA,z.last]):=hH (by rw[hV];exact(Bx.new (by first|rfl|simp|omega)))
  obtain⟨Zo,af,ag,ah,ai,a7,a8,a9,aa⟩:=n.out.q4;rw[<-hV];clear hV;have hll:=fun B ty=>h_l.len Tryz.underlying28 B ty
  have hL:=hH h_l;clear h_l;have bL:=hL.out.le;obtain⟨i0,hi,hz0,hz1,hz2⟩:=info_parts Qbk;go_wp2_with fail
  first
  |have:Unit:=k_0
   clear this;go_loopw [7,17] (fun t i wr=>∃(k:Nat) (vd vs va:Value),va=t/\k<=l.length/\i= .int .i64 k/\DA B (w+2) wr vd vs va (Kam z (l.take k)).1 (Kam z (l.take k)).2/\Bx wr B [.bool (Kam z (l.take k)).1.shut,vd,vs,(Kam z (l.take k)).1.last]/\Bx wr (w+1) [false,zN,zN,zI]/\Below w w wr) (fun _ i _=>l.length-(intOf i).toNat)
  |go_loopw [7,16] (fun t i wr=>∃(k:Nat) (vd vs va:Value),va=t/\k<=l.length/\i= .int .i64 k/\DA B (w+2) wr vd vs va (Kam z (l.take k)).1 (Kam z (l.take k)).2/\Bx wr B [.bool (Kam z (l.take k)).1.shut,vd,vs,(Kam z (l.take k)).1.last]/\Bx wr (w+1) [false,zN,zN,zI]/\Below w w wr) (fun _ i _=>l.length-(intOf i).toNat)
  case atStart=>exact⟨0,_,_,_,rfl,lz _,rfl,DA.first ac.out om om,n.out,j.out,u.out⟩
  case round=>
   obtain⟨k,vd,vs,va,rfl,hk,rfl,hda,ho,hr,hbw⟩:=hrel;obtain⟨⟨y,a⟩,hy⟩:∃r,Kam z (l.take k)=r:=⟨_,rfl⟩;rw[hy]at hda ho;simp only at hda ho;have hys:Xau y:=by have:=Qa7 (l.take k) hz;rw[hy]at this;exact this
   obtain⟨ay,cy,rfl⟩:=hda.rd1.isSlice;obtain⟨az,cz,rfl⟩:=hda.rd2.isSlice;have sr:=hbw.size;have HY:=hH hy;have HDA:=hH hda;replace u:=hH hbw;replace n:=hH ho;replace j:=hH hr;clear hy hda ho hr hbw Zo af ag ah ai a7 a8 a9 aa Zr Z a0 a2 a3 N Q R Y;obtain⟨Zo,af,ag,ah,ai,a7,a8,a9,aa⟩:=n.out.q4;obtain⟨Zr,Z,a0,a2,a3,N,Q,R,Y⟩:=j.out.q4;have sob:=n.out.lt;by_cases hlt:k<l.length
   rotate_left
   ·obtain rfl:k=l.length:=om;have hfin:Kam z l=(y,a):=by have:=HY.out;rwa[List.take_length]at this
    go_wp2;exact bodyPost_ret (v:= .tuple #[.agg #[y.shut,.slice ay y.docs.length cy,.slice az y.subs.length cz,y.last],va]) (by simp[results,Tryz.results33,Tryz.results35,go_sem,xaa, *]) rfl (by rw[hfin];exact DA.out ((((HDA.out.setCell om _).setCell om _).setCell om _).setCell om _) om ((((u.out.setCell (p:=⟨w+1,0,none⟩) om _).setCell (p:=⟨w+1,1,none⟩) om _).setCell (p:=⟨w+1,2,none⟩) om _).setCell (p:=⟨w+1,3,none⟩) om _))
   obtain⟨c,hc⟩:=jaa hlt;obtain⟨b1,o1,cs,g1,g2,g3⟩:=(hL.out.below u.out).idx Tryz.underlying28 ZaD k hc;obtain⟨v_o,v_text,rfl,nd,r_o,a4⟩:=xaG g3;have q0:=g2.zero;have q1:=g2 1 _ rfl;have q2:=g2 2 _ rfl;have q3:=g2 3 _ rfl;have q4:=g2 4 _ rfl;have q5:=g2 5 _ rfl;have q6:=g2 6 _ rfl;obtain⟨ao,co,rfl⟩:=r_o.isSlice;obtain⟨at_,ct,rfl⟩:=a4.isSlice
   obtain⟨⟨I,J⟩,hd⟩:∃r,Kag y c=r:=⟨_,rfl⟩;have HSN:=hH (qbc hc HY.out hd);have HD:=hH hd;have hl2:(k:Int)<(l.length:Int):=om;clear g2 g3 hc hd;have HRW:=hH HDA.out.rw;go_wp2_with fail
   refine(k_2.out y c _ _ _ _ _ (HDA.out.rd1.below ((lf wr wr).alloc om _)) (HDA.out.rd2.below ((lf wr wr).alloc om _)) (r_o.below ((lf wr wr).alloc om _)) (a4.below ((lf wr wr).alloc om _)) hys).mono ?_;rintro e' w2 ⟨vd1,vs1,vt1,vl1,fd1,fs1,ft1,fl1,rfl,Sd,Ss,St,ar,FR,hb2⟩;rw[HD.out];rw[HD.out]at Sd Ss St ar;simp only at Sd Ss St ar⊢;obtain⟨aj,al,rfl⟩:=Sd.isS;obtain⟨ak,am,rfl⟩:=Ss.isS;obtain⟨aw,aB,rfl⟩:=St.isS;obtain⟨au,ax,rfl⟩:=ar.isS;have HNH:Hid (Nh (wr+1) w2 w2 (.slice aj I.docs.length al) (.slice ak I.subs.length am) (.slice aw J.text.length aB) (.slice au J.list.length ax) I J):=hH ⟨fd1,fs1,ft1,fl1,Sd,Ss,St,ar,FR.mono (by first|exact lr _|(simp;done)|(simp;omega)),Live.lt (Live.append.2 ⟨Sd.live,Live.append.2 ⟨Ss.live,Live.append.2 ⟨St.live,ar.live⟩⟩⟩)⟩
   clear Sd Ss St ar FR q0 q1 q2 q3 q4 q5 q6 r_o a4 g1;have s2:wr+1<=w2.heap.size:=szl hb2;replace u:=hH ((u.out.alloc om _).trans (hb2.mono om));replace HRW:Hid (Rw B (w+2) wr w2 va a):=hH (((HRW.out.alloc om _).below (hb2.mono om)));replace j:=hH ((j.out.alloc _).at hb2);clear Zr Z a0 a2 a3 N Q R Y;obtain⟨Zr,Z,a0,a2,a3,N,Q,R,Y⟩:=j.out.q4;replace n:=hH ((n.out.alloc _).at hb2);clear Zo af ag ah ai a7 a8 a9 aa;obtain⟨Zo,af,ag,ah,ai,a7,a8,a9,aa⟩:=n.out.q4;clear hb2;go_upto_region 8 with(fail)
   obtain⟨U,hU⟩:∃U:World,U=((((((w2.setCell ⟨B,0,none⟩ I.shut).setCell ⟨B,1,none⟩ (.slice aj I.docs.length al)).setCell ⟨B,2,none⟩ (.slice ak I.subs.length am)).setCell ⟨B,3,none⟩ I.last).alloc (.cells #[I.shut,.slice aj I.docs.length al,.slice ak I.subs.length am,I.last] 26)).alloc (.cells #[J.code,J.rev,.slice aw J.text.length aB,.slice au J.list.length ax] 36)):=⟨_,rfl⟩;have sU:w2+2<=U.heap.size:=by rw[hU];first|(simp;done)|(simp;omega)
   replace u:Hid (Below w w U):=hH (by rw[hU];exact((((((u.out.setCell (p:=⟨B,0,none⟩) om _).setCell (p:=⟨B,1,none⟩) om _).setCell (p:=⟨B,2,none⟩) om _).setCell (p:=⟨B,3,none⟩) om _).alloc om _).alloc om _))
   replace HRW:Hid (Rw B (w+2) wr U va a):=hH (by rw[hU];exact((((((HRW.out.setCell _).setCell _).setCell _).setCell _).alloc om _).alloc om _))
   replace HNH:Hid (Nh (wr+1) w2 U (.slice aj I.docs.length al) (.slice ak I.subs.length am) (.slice aw J.text.length aB) (.slice au J.list.length ax) I J):=hH (by rw[hU];exact((((((HNH.out.setCell om _).setCell om _).setCell om _).setCell om _).alloc om _).alloc om _))
   replace j:Hid (Bx U (w+1) [false,zN,zN,zI]):=hH (by rw[hU];exact((((((j.out.setO om).setO om).setO om).setO om).alloc _).alloc _))
   clear Zr Z a0 a2 a3 N Q R Y;obtain⟨Zr,Z,a0,a2,a3,N,Q,R,Y⟩:=j.out.q4;replace n:Hid (Bx U B [I.shut,.slice aj I.docs.length al,.slice ak I.subs.length am,I.last]):=hH (by rw[hU];exact((((((n.out.set 0 I.shut).set 1 (.slice aj I.docs.length al)).set 2 (.slice ak I.subs.length am)).set 3 I.last).alloc _).alloc _))
   clear Zo af ag ah ai a7 a8 a9 aa;obtain⟨Zo,af,ag,ah,ai,a7,a8,a9,aa⟩:=n.out.q4;have HXa:Hid (Bx U (w2+1) [J.code,J.rev,.slice aw J.text.length aB,.slice au J.list.length ax]):=hH (by rw[hU];exact(Bx.new (by first|rfl|simp|omega)))
   have Ka:=HXa.out.q4;rw[<-hU];clear hU;obtain⟨M,hrow,hM,hn⟩:=HRW.out;obtain⟨fd,fs,ft,fl,s1,s2,s3,s4,hf,hlt2⟩:=HNH.out;have ae:=hH hrow;have HM:=hH hM;have HN:=hH hn;have S1:=hH s1;have S2:=hH s2;have HF:=hH hf;have HGD:Hid (GoT.rd BIG U [J.code,J.rev,.slice aw J.text.length aB,.slice au J.list.length ax] J (ft++fl)):=hH ⟨_,_,ft,fl,rfl,s3,s4,rfl⟩;have HLV:=hH (Live.append.2 ⟨s1.live,Live.append.2 ⟨s2.live,Live.append.2 ⟨s3.live,s4.live⟩⟩⟩);have HTL:Hid (a.length=k):=hH (by have:=Ka1 (l.take k) z;rw[HY.out]at this;simp at this;omega)
   clear hrow hM hn s1 s2 s3 s4 hf hlt2;have HBC:Hid (Below U U (U.alloc (.cells #[J.code,J.rev,.slice aw J.text.length aB,.slice au J.list.length ax] 36))):=hH ((lf U U).alloc om _);go_wp2_with (at_builtin;refine kaa rfl _ _ 66 rfl Tryz.underlying66 hi hz0 hz1 hz2 rfl rfl rfl (ae.out.below HBC.out) (zaf (x:=J) 36 HGD.out) (fun q hq hm=>by have e1:=HF.out.ge q (by simp only[lm]at *;exact .inr (.inr hq));have e2:=(HN.out q (lu _ hm)).2;omega) ?c1 ?c2 ?c3 ?_)
   case c1=>rw[HTL.out];simp;exact Nat.le_trans om bL
   case c2=>rw[HTL.out];simp;unfold BIG at bL;omega
   case c3=>simp;omega
   intro v3 w3 hr3 hw3 hn3;have HDN:=hH (DA.step (ob:=B) (D:=wr) ae.out HM.out HN.out S1.out S2.out HF.out HLV.out om om om om HBC.out hw3 hr3 (fun p hp=>by have:=hn3 p.1 p.2 hp;simpa using this))
   have s3:U+1<=w3.heap.size:=by have:=hw3.size;(try simp at this);omega
   replace u:Hid (Below w w w3):=hH ((u.out.alloc om _).trans (hw3.below (by simp;omega) (fun p hp=>by have:=ae.out.2.1.ge p hp;omega)))
   replace j:Hid (Bx w3 (w+1) [false,zN,zN,zI]):=hH ((j.out.alloc _).wr hw3 (fun p hp e=>by have:=ae.out.2.1.ge p hp;have:=(HN.out p (lu _ hp)).1;omega))
   clear Zr Z a0 a2 a3 N Q R Y;obtain⟨Zr,Z,a0,a2,a3,N,Q,R,Y⟩:=j.out.q4;replace n:Hid (Bx w3 B [I.shut,.slice aj I.docs.length al,.slice ak I.subs.length am,I.last]):=hH ((n.out.alloc _).wr hw3 (fun p hp e=>by have:=ae.out.2.1.ge p hp;have:=(HN.out p (lu _ hp)).1;omega))
   clear Zo af ag ah ai a7 a8 a9 aa;obtain⟨Zo,af,ag,ah,ai,a7,a8,a9,aa⟩:=n.out.q4;clear hr3 hw3 hn3;go_wp2;go_roundw
   case rel=>exact⟨k+1,_,_,_,rfl,by omega,by go_num,by rw[HSN.out];exact HDN.out,by rw[HSN.out];exact n.out,j.out,u.out⟩
   case measure=>simp[intOf];omega
def ua3:=@ya2 33 (.inl rfl)
def Qa1:=@ya2 35 (.inr rfl)
