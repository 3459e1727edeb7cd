/- A submission to a hub: what is computed, and the memory that it lays anew. -/
import Derived.Test.YtocdogemgojgaaaGreatRaz
import Derived.Test.YtocdogemgojgaaaGreatRao
import Derived.Test.YtocdogemgojgaaaGreatRbm
namespace Go.Proofs.YtocdogemgojgaaaGreat
open Go.RowKit
def JaB (name:ByteArray)(e:xab)(s:kah):kah:=if s.doc=name then⟨s.id,s.doc,Xah s.r e⟩else s
def uas (l:List kah)(name:ByteArray)(e:xab)(k:Nat):List kah:=(l.take k).map (JaB name e)++l.drop k
theorem xa6 (l:List kah)(name:ByteArray)(e:xab):uas l name e 0=l:=by simp[uas]
theorem kbc {l:List kah}{k:Nat}(name:ByteArray)(e:xab)(h:k=l.length):uas l name e k=l.map (JaB name e):=by subst h;simp[uas]
theorem XaT {l:List kah}{k:Nat}{s:kah}(name:ByteArray)(e:xab)(h:l[k]? =some s):(uas l name e k)[k]? =some s:=by
 have j:=(lg.1 h).1;unfold uas;rw[List.getElem?_append_right (by simp;omega)]
 simp only[List.length_map,List.length_take,List.getElem?_drop];rw[show k+(k-min k l.length)=k by omega]
 exact h
theorem zaM {l:List kah}{k:Nat}{s:kah}(name:ByteArray)(e:xab)(h:l[k]? =some s):uas l name e (k+1)=(uas l name e k).set k (JaB name e s):=by
 have j:=(lg.1 h).1;have hd:l.drop k=s::l.drop (k+1):=by rw[List.drop_eq_getElem_cons j];congr 1;exact(lg.1 h).2
 unfold uas;rw[hd,kag h,List.set_append_right _ _ (by simp;omega)]
 simp only[List.length_map,List.length_take,List.map_append,List.map_cons,List.map_nil,List.append_assoc,List.singleton_append];rw[show k-min k l.length=0 by omega]
 rfl
theorem Ja4 {l:List kah}{k:Nat}{s:kah}{name:ByteArray}{e:xab}(h:l[k]? =some s)(p:¬s.doc=name):uas l name e (k+1)=uas l name e k:=by
 have n:=XaT name e h;obtain⟨j,q⟩:=lg.1 n;rw[zaM name e h,show JaB name e s=s from if_neg p,<-q];exact List.set_getElem_self j
theorem qa5 {l:List kah}{k:Nat}{s:kah}{name:ByteArray}{e:xab}(h:l[k]? =some s)(j:s.doc=name):uas l name e (k+1)=(uas l name e k).set k ⟨s.id,s.doc,Xah s.r e⟩:=by
 rw[zaM name e h,show JaB name e s=_ from if_pos j]
def Kae (z:vaf)(name:ByteArray)(client seq base:Int)(o:List zaa):vaf×Int×Int:=
 if kae z=true then(if z.shut=true then(yal,0,12)else if xae z name<0 then(yal,0,6)else
  match z.docs[(xae z name).toNat]? with
  |none=>(yal,0,6)
  |some d=>if(Xae d client seq base o).2.2=0 then
   (⟨z.shut,z.docs.set (xae z name).toNat (Xae d client seq base o).1,if yaa (Xae d client seq base o).1=yaa d then z.subs else z.subs.map (JaB name (zab client seq (Jaa d base o).1)),z.last⟩,(Xae d client seq base o).2.1,0)
   else(yal,0,(Xae d client seq base o).2.2))
 else(yal,0,1)
section
variable {z:vaf} {name:ByteArray} {client seq base:Int} {o:List zaa}
theorem jaJ (h:kae z=false):Kae z name client seq base o=(yal,0,1):=by simp[Kae,h]
theorem QaA (h:kae z=true)(j:z.shut=true):Kae z name client seq base o=(yal,0,12):=by simp[Kae,h,j]
theorem yaE (h:kae z=true)(j:z.shut=false)(n:xae z name<0):Kae z name client seq base o=(yal,0,6):=by simp[Kae,h,j,n]
theorem KaA {k:Nat}{d:Jac}(h:kae z=true)(j:z.shut=false)(p:xae z name=k)(hd:z.docs[k]? =some d)(n:¬(Xae d client seq base o).2.2=0):Kae z name client seq base o=(yal,0,(Xae d client seq base o).2.2):=by
 unfold Kae;rw[if_pos h,if_neg (by simp[j]),if_neg om,p,Int.toNat_natCast,hd]
 simp only;rw[if_neg n]
theorem jaB {k:Nat}{d:Jac}(h:kae z=true)(j:z.shut=false)(q:xae z name=k)(hd:z.docs[k]? =some d)(n:(Xae d client seq base o).2.2=0)(p:yaa (Xae d client seq base o).1=yaa d):
 Kae z name client seq base o=(⟨false,z.docs.set k (Xae d client seq base o).1,z.subs,z.last⟩,(Xae d client seq base o).2.1,0):=by
 unfold Kae;rw[if_pos h,if_neg (by simp[j]),if_neg om,q,Int.toNat_natCast,hd]
 simp only;rw[if_pos n,if_pos p,j]
theorem qaF {k:Nat}{d:Jac}(h:kae z=true)(j:z.shut=false)(q:xae z name=k)(hd:z.docs[k]? =some d)(n:(Xae d client seq base o).2.2=0)(p:¬yaa (Xae d client seq base o).1=yaa d):
 Kae z name client seq base o=(⟨false,z.docs.set k (Xae d client seq base o).1,z.subs.map (JaB name (zab client seq (Jaa d base o).1)),z.last⟩,(Xae d client seq base o).2.1,0):=by
 unfold Kae;rw[if_pos h,if_neg (by simp[j]),if_neg om,q,Int.toNat_natCast,hd]
 simp only;rw[if_pos n,if_neg p,j]
end
theorem za6 (d:Jac)(client seq:Int)(x:List zaa):∃n,n<=d.list.length/\(yag d client seq x).list.length=n+1/\(yag d client seq x).list[n]? =some (zab client seq x)/\yaa (yag d client seq x)=yaa d+1:=by
 unfold yag;split
 ·rename_i h
  simp only[List.length_append,List.length_singleton]at h;refine⟨d.list.length-1,Nat.sub_le _ _,?_,?_,?_⟩
  ·simp;omega
  ·simp only[List.getElem?_drop];rw[show 1+(d.list.length-1)=d.list.length by omega,List.getElem?_append_right om]
   simp
  ·simp[yaa];omega
 ·exact⟨d.list.length,lr _,by simp,by simp,by simp[yaa];omega⟩
theorem ua4 (d:Jac)(client seq:Int)(x:List zaa):d.from_<=(yag d client seq x).from_/\(yag d client seq x).from_<=d.from_+1:=by
 unfold yag;split<;>simp only<;>omega
theorem uaI {d:Jac}{client seq base:Int}{o:List zaa}(h:(Xae d client seq base o).2.2=0):zae d=true/\Qag o=true/\((Xae d client seq base o).1=d\/((Jaa d base o).2=0/\yaa d<999999000/\(Xae d client seq base o).1=yag d client seq (Jaa d base o).1)):=by
 unfold Xae at h⊢;split at h
 ·rename_i n
  rw[if_pos n];refine⟨n.1,n.2.2.2,?_⟩;split at h
  ·rename_i p;rw[if_pos p];exact .inl rfl
  ·rename_i p
   rw[if_neg p];split at h
   ·rename_i u
    rw[if_pos u];split at h
    ·rename_i j
     rw[if_pos j];split at h
     ·rename_i q;rw[if_pos q];exact .inr ⟨j,q,rfl⟩
     ·simp at h
    ·rename_i j;exact absurd h j
   ·simp at h
 ·simp at h
def Zah (B L:Nat)(w:World)(vt vl vz:Value)(x:Jac):Prop:=∃ft fl fs,Sl BIG w vt x.text ft/\Sl BIG w vl x.list fl/\Sl BIG w vz x.seen fs/\uaa B w (ft++(fl++fs))/\∀p∈ft++(fl++fs),p.1<L
section
variable {B L:Nat} {w w':World} {vt vl vz:Value} {x:Jac}
theorem Zah.rdT (h:Zah B L w vt vl vz x):RdS w vt x.text:=let⟨j,_,_,a,_⟩:=h;⟨j,a⟩
theorem Zah.rdL (h:Zah B L w vt vl vz x):RdS w vl x.list:=let⟨_,j,_,_,b,_⟩:=h;⟨j,b⟩
theorem Zah.rdS (h:Zah B L w vt vl vz x):RdS w vz x.seen:=let⟨_,_,fs,_,_,c,_⟩:=h;⟨fs,c⟩
theorem Zah.block (h:Zah B L w vt vl vz x)(z:∀k,B<=k->k<L->w'.heap[k]? =w.heap[k]?):Zah B L w' vt vl vz x:=by
 obtain⟨q,n,fs,a,b,c,d,e⟩:=h;have u:∀p∈q++(n++fs),w'.cell? ⟨p.1,p.2,none⟩=w.cell? ⟨p.1,p.2,none⟩:=fun p j=>by simp only[World.cell?];rw[z p.1 (d.ge p j) (e p j)]
 have D:∀p∈q++(n++fs),w'.frozen? ⟨p.1,p.2,none⟩=w.frozen? ⟨p.1,p.2,none⟩:=fun p j=>by simp only[World.frozen?];rw[z p.1 (d.ge p j) (e p j)]
 exact⟨q,n,fs,a.keep fun p j=>u p (by simp[j]),b.keep fun p j=>u p (by simp[j]),c.keep fun p j=>u p (by simp[j]),⟨d.nodup,d.ge,fun p j=>(D p j).trans (d.free p j)⟩,e⟩
theorem Zah.below (h:Zah B L w vt vl vz x)(hb:Below L w w'):Zah B L w' vt vl vz x:=h.block fun k _ j=>hb.block k j
theorem Zah.alloc (h:Zah B L w vt vl vz x)(j:L<=w.heap.size)(o:Obj):Zah B L (w.alloc o) vt vl vz x:=h.below ((lf _ _).alloc j o)
theorem Zah.drew (h:Zah B L w vt vl vz x):Zah B L w.drew vt vl vz x:=h.block fun _ _ _=>rfl
theorem Zah.setCell {b o:Nat}(h:Zah B L w vt vl vz x)(p:b<B\/L<=b)(u:Value):Zah B L (w.setCell ⟨b,o,none⟩ u) vt vl vz x:=h.block fun k j n=>Below.heap_setCell w ⟨b,o,none⟩ u k (by show k≠b;omega)
def Low {α:Type}[GoT α](L:Nat)(w:World)(v:Value)(l:List α):Prop:=∃f,Sl BIG w v l f/\∀p∈f,p.1<L
theorem Low.rd {α:Type}[GoT α]{L:Nat}{w:World}{v:Value}{l:List α}(h:Low L w v l):RdS w v l:=let⟨f,a,_⟩:=h;⟨f,a⟩
theorem Low.below {α:Type}[GoT α]{L:Nat}{w j:World}{v:Value}{l:List α}(h:Low L w v l)(hb:Below L w j):Low L j v l:=let⟨f,a,c⟩:=h;⟨f,a.keep fun p n=>hb.cell (p:=⟨p.1,p.2,none⟩) (c p n),c⟩
theorem Low.alloc {α:Type}[GoT α]{L:Nat}{w:World}{v:Value}{l:List α}(h:Low L w v l)(j:L<=w.heap.size)(o:Obj):Low L (w.alloc o) v l:=h.below ((lf _ _).alloc j o)
theorem Low.drew {α:Type}[GoT α]{L:Nat}{w:World}{v:Value}{l:List α}(h:Low L w v l):Low L w.drew v l:=let⟨f,a,c⟩:=h;⟨f,a.keep fun _ _=>rfl,c⟩
theorem Low.setCell {α:Type}[GoT α]{L:Nat}{w:World}{v:Value}{l:List α}{b o:Nat}(h:Low L w v l)(j:L<=b)(u:Value):Low L (w.setCell ⟨b,o,none⟩ u) v l:=h.below ((lf _ _).setCell (p:=⟨b,o,none⟩) j u)
theorem Zah.entry (h:Zah B L w vt vl vz x){P:Program}{T E:TypeId}(U:P.underlying T=some (.slice E))(hl:∀q,(sizeOf E).run P q= .ok (GoT.n xab) q){k:Nat}{e:xab}(Z:x.list[k]? =some e):
 ∃b o a c,(∀q,(Instr.indexAt T vl (.int .i64 k)).run P q= .ok (.pointer (some ⟨b,o,none⟩)) q)/\w.cell? ⟨b,o,none⟩=some (.int .i64 e.client)/\w.cell? ⟨b,o+1,none⟩=some (.int .i64 e.seq)/\w.cell? ⟨b,o+2,none⟩=some (.slice a e.o.length c)/\B<=b/\b<L/\Low L w (.slice a e.o.length c) e.o:=by
 obtain⟨ft,I,fs,_,sl,_,Y,R⟩:=h;have hF:uaa B w I:=Y.right.left;obtain⟨b,o,cs,fo,M,z,⟨v_o,_,rfl,J,rfl⟩,N,Q,_⟩:=sl.lens hF.nodup U hl k Z;have D:=(N 0 (by decide)).1
 rw[Nat.add_zero]at D;obtain⟨a,c,rfl⟩:=J.isS;have j:∀p∈I,B<=p.1/\p.1<L:=fun p u=>⟨hF.ge p u,R p (by simp[u])⟩
 have c0:w.cell? ⟨b,o,none⟩=some _:=z.zero;exact⟨b,o,a,c,M,c0,z 1 _ rfl,z 2 _ rfl,(j _ D).1,(j _ D).2,_,J,fun p u=>(j p (Q p u)).2⟩
end
section
variable {C D:Nat} {w:World} {vd vs:Value} {docs:List Jac} {subs:List kah}
theorem uab.dset (h:uab C D w vd vs docs subs){B L ob:Nat}{x:Jac}{vt vl vz:Value}(hd:Zah B L w vt vl vz x)(hL:L<=C)(hB:B<=C)(hCD:C<=D)(hO:D<=ob)(nn:x.name.size<=BIG){P:Program}{T E:TypeId}(hT:P.underlying T=some (.slice E))(hl:∀M,(sizeOf E).run P M= .ok (GoT.n Jac) M){k:Nat}{d:Jac}(hk:docs[k]? =some d):
 ∃b o u0 u1 u2 u3 u4,(∀M,(Instr.indexAt T vd (.int .i64 k)).run P M= .ok (.pointer (some ⟨b,o,none⟩)) M)/\C<=b/\b<D/\b<w.heap.size/\At w b o [u0,u1,u2,u3,u4]/\(∀j<5,w.frozen? ⟨b,o+j,none⟩=false)/\(∀p∈rowP (GoT.n kah) vs,C<=p.1/\p.1<D)/\
  jah ob B (((((w.setCell ⟨b,o,none⟩ x.name).setCell ⟨b,o+1,none⟩ x.from_).setCell ⟨b,o+2,none⟩ vt).setCell ⟨b,o+3,none⟩ vl).setCell ⟨b,o+4,none⟩ vz) vd vs (docs.set k x) subs:=by
 obtain⟨fd,fs,sd,ss,hf,hD⟩:=h;have nd:=ln.1 hf.nodup;obtain⟨b,o,cap,c2,f2,rfl,ha,hrd,hin,hsub,Q⟩:=sd.el (hf.left.mono hB) hk;have hlt:=(lg.1 hk).1;have hi:∀M,(Instr.indexAt T (.slice (some ⟨b,o,none⟩) docs.length cap) (.int .i64 k)).run P M= .ok (.pointer (some ⟨b,o+k*GoT.n Jac,none⟩)) M:=fun M=>by
  have hi:¬docs.length<=k:=om;simp[Instr.indexAt,run_underlying hT,asIntOf,hl,Addr.add_lit,Result.andThen];intro hh;exact absurd hh hi
 obtain⟨vt0,vl0,vs0,ft0,fl0,fs0,rfl,_⟩:=hrd;have h5:GoT.n Jac=5:=rfl;rw[h5]at hin Q ha hi;have m:∀j<5,(b,o+k*5+j)∈fd:=fun j I=>hin j I
 have hb:=m 0 (by decide)
 have hbC:=hf.left.ge _ hb;have hbD:=hD _ (lu _ hb);have hbw:=Live.lt sd.live _ hb;obtain⟨Y,U,Z,a1,a2,a3,a4,a5⟩:=hd;have hne:∀p∈Y++(U++Z),p.1≠b:=fun p z=>by have:=a5 p z;simp only at hbC;omega
 refine⟨b,o+k*5,_,_,_,_,_,hi,hbC,hbD,hbw,ha,fun j I=>hf.left.free _ (m j I),?_,?_⟩
 ·obtain⟨gs,e⟩:=ss.split;intro p z;have:p∈fs:=by rw[e];exact lu _ z
  exact⟨hf.right.ge p this,hD p (lw _ this)⟩
 generalize hQ:o+k*5=q at *;have mo:∀j<5,(b,q+j)∈own b q 5:=fun j I=>Zaa.2 ⟨rfl,by simp,by simp;omega⟩
 have R:Wr (own b q 5) w (((((w.setCell ⟨b,q,none⟩ x.name).setCell ⟨b,q+1,none⟩ x.from_).setCell ⟨b,q+2,none⟩ vt).setCell ⟨b,q+3,none⟩ vl).setCell ⟨b,q+4,none⟩ vz):=
  (((((Wr.refl _ _).put (mo 0 (by decide)) _).put (mo 1 (by decide)) _).put (mo 2 (by decide)) _).put (mo 3 (by decide)) _).put (mo 4 (by decide)) _
 have hfN:∀p∈Y++(U++Z),p∉own b q 5:=fun p z J=>hne p z (Zaa.1 J).1
 obtain⟨w',hw'⟩:∃w':World,w'=(((((w.setCell ⟨b,q,none⟩ x.name).setCell ⟨b,q+1,none⟩ x.from_).setCell ⟨b,q+2,none⟩ vt).setCell ⟨b,q+3,none⟩ vl).setCell ⟨b,q+4,none⟩ vz):=⟨_,rfl⟩;rw[<-hw']at R⊢;have hat:At w' b q [x.name,x.from_,vt,vl,vz]:=by
  intro j u I;have c0:w.cell? ⟨b,q,none⟩=some _:=ha.zero;have c1:w.cell? ⟨b,q+1,none⟩=some _:=ha 1 _ rfl;have c2:w.cell? ⟨b,q+2,none⟩=some _:=ha 2 _ rfl;have c3:w.cell? ⟨b,q+3,none⟩=some _:=ha 3 _ rfl;have c4:w.cell? ⟨b,q+4,none⟩=some _:=ha 4 _ rfl;rw[hw'];match j,I with
  |0,I=>simp at I;subst I;simp[xaa,c0]
  |1,I=>simp at I;subst I;simp[xaa,c1]
  |2,I=>simp at I;subst I;simp[xaa,c2]
  |3,I=>simp at I;subst I;simp[xaa,c3]
  |4,I=>simp at I;subst I;simp[xaa,c4]
 have s1:=a1.wr R fun p z J=>hfN p (by simp[z]) J
 have s2:=a2.wr R fun p z J=>hfN p (by simp[z]) J
 have s3:=a3.wr R fun p z J=>hfN p (by simp[z]) J
 have hlive:Live w (Y++(U++Z)):=Live.append.2 ⟨a1.live,Live.append.2 ⟨a2.live,a3.live⟩⟩;have hF:uaa B w' (Y++(U++Z)):=R.fresh hlive a4;have N:∀p∈Y++(U++Z),p∉fd++fs:=fun p z J=>by have:=a5 p z;have:=hf.ge p J;omega
 obtain⟨fp',g1,g2,g3⟩:=Q w' _ x (Y++(U++Z)) R hat ⟨vt,vl,vz,Y,U,Z,rfl,nn,s1,s2,s3,rfl⟩ hF (fun p z=> .inl fun J=>N p z (lu _ J))
 have hown:∀p∈own b q 5,p∈fd:=fun p z=>by
  obtain⟨q1,q2,q3⟩:=Zaa.1 z;have:=m (p.2-q) om;have e:(b,q+(p.2-q))=p:=Prod.ext q1.symm (Nat.add_sub_cancel' q2);rwa[e]at this
 have ss':=ss.wr R (fun p z J=>nd.2.2 p (hown p J) p z rfl)
 refine⟨fp',fs,g1,ss',g2.join ((R.fresh ss.live hf.right).mono hB) fun p z r hr e=> ?_,fun p z=> ?_⟩
 ·subst e;rcases g3 p z with z|z
  ·exact nd.2.2 p z p hr rfl
  ·exact N p z (lw _ hr)
 ·rcases lm.1 z with z|z
  ·rcases g3 p z with z|z
   ·have:=hD p (lu _ z);omega
   ·have:=a5 p z;omega
  ·have:=hD p (lw _ z);omega
end
theorem jah.rd2 {ob B:Nat}{w:World}{p vs:Value}{docs:List Jac}{j:List kah}(h:jah ob B w p vs docs j):RdS w vs j:=let⟨_,fs,_,n,_⟩:=h;⟨fs,n⟩
theorem jah.below {ob B:Nat}{w I:World}{D vs:Value}{docs:List Jac}{j:List kah}(h:jah ob B w D vs docs j)(hb:Below w w I):jah ob B I D vs docs j:=by
 obtain⟨fd,fs,u,z,J,q⟩:=h;have n:∀p∈fd++fs,p.1<w:=Live.lt (Live.append.2 ⟨u.live,z.live⟩);exact⟨fd,fs,u.belowW hb,z.belowW hb,J.belowL hb n,q⟩
theorem jah.sset {ob B:Nat}{w:World}{vd vs:Value}{docs:List Jac}{z:List kah}(h:jah ob B w vd vs docs z)(ho:ob<w.heap.size)(hB:B<=w.heap.size){P:Program}{T E:TypeId}(hT:P.underlying T=some (.slice E))(hl:∀I,(sizeOf E).run P I= .ok (GoT.n kah) I){k:Nat}{s:kah}(hk:z[k]? =some s):
 ∃b o a c,(∀I,(Instr.indexAt T vs (.int .i64 k)).run P I= .ok (.pointer (some ⟨b,o,none⟩)) I)/\b<w.heap.size/\At w b o [s.id,s.doc,s.r.cap,s.r.next,s.r.out,.slice a s.r.list.length c]/\RdS w (.slice a s.r.list.length c) s.r.list/\(∀j<6,w.frozen? ⟨b,o+j,none⟩=false)/\(∀p∈own b o 6,p∈rowP (GoT.n kah) vs)/\
  ∀(N:World) (r:kac) (v':Value) (Q:List Pos),Wr (own b o 6) w N->At N b o [s.id,s.doc,r.cap,r.next,r.out,v']->Sl BIG N v' r.list Q->uaa w N Q->jah ob B N vd vs docs (z.set k ⟨s.id,s.doc,r⟩):=by
 obtain⟨fd,fs,sd,ss,hf,Y⟩:=h;have nd:=ln.1 hf.nodup;obtain⟨b,o,cap,c2,f2,rfl,ha,hrd,M,hsub,a0⟩:=ss.el hf.right hk;have hlt:=(lg.1 hk).1;have hi:∀I,(Instr.indexAt T (.slice (some ⟨b,o,none⟩) z.length cap) (.int .i64 k)).run P I= .ok (.pointer (some ⟨b,o+k*GoT.n kah,none⟩)) I:=fun I=>by
  have hi:¬z.length<=k:=om;simp[Instr.indexAt,run_underlying hT,asIntOf,hl,Addr.add_lit,Result.andThen];intro hh;exact absurd hh hi
 obtain⟨cr,fr,rfl,nn,⟨vl,fl,rfl,sl,rfl⟩,rfl⟩:=hrd;have R:GoT.n kah=6:=rfl;obtain⟨a,c,rfl⟩:=sl.isS;have hb:=M 0 (by rw[R];omega)
 have hbw:=Live.lt ss.live _ hb;have U:∀p∈fd++fs,p.1<w:=Live.lt (Live.append.2 ⟨sd.live,ss.live⟩);have hcap:(k+1)*6<=cap*6:=Nat.mul_le_mul_right _ (by have:=ss.cap;simp[ZaC]at this;omega)
 refine⟨b,o+k*GoT.n kah,a,c,hi,hbw,ha,⟨_,sl⟩,fun j hj=>hf.right.free _ (M j (by rw[R];omega)),fun p u=> ?_,?_⟩
 ·obtain⟨q1,q2,q3⟩:=Zaa.1 u;rw[R]at q2 q3;show p∈own b o (cap*6);have h66:(k+1)*6=k*6+6:=Nat.succ_mul _ _;generalize k*6=x6 at *;generalize cap*6=y6 at *;exact Zaa.2 ⟨q1,by omega,by omega⟩
 intro N r v' Q hw ha' s0 k0;have J:∀p∈Q,p∉fd++fs:=fun p u D=>by have:=k0.ge p u;have:=U p D;omega
 obtain⟨fp',g1,g2,g3⟩:=a0 N _ ⟨s.id,s.doc,r⟩ Q hw ha' ⟨_,_,rfl,nn,⟨v',Q,rfl,s0,rfl⟩,rfl⟩ (k0.mono hB) (fun p u=> .inl fun D=>J p u (lw _ D))
 have Z:∀p∈own b (o+k*GoT.n kah) 6,p∈fs:=fun p u=>by
  obtain⟨q1,q2,q3⟩:=Zaa.1 u;have:=M (p.2-(o+k*GoT.n kah)) (by rw[R];rw[R]at q2 q3;omega)
  have e:(b,o+k*GoT.n kah+(p.2-(o+k*GoT.n kah)))=p:=Prod.ext q1.symm (Nat.add_sub_cancel' q2);rwa[e]at this
 have sd':=sd.wr hw (fun p u D=>nd.2.2 p u p (Z p D) rfl)
 refine⟨fd,fp',sd',g1,(hw.fresh sd.live hf.left).join g2 fun p u q D e=> ?_,fun p u=> ?_⟩
 ·subst e;rcases g3 p D with D|D
  ·exact nd.2.2 p u p D rfl
  ·exact J p D (lu _ u)
 ·rcases lm.1 u with u|u
  ·exact Y p (lu _ u)
  ·rcases g3 p u with u|u
   ·exact Y p (lw _ u)
   ·have:=k0.ge p u;omega
theorem kaF (name:ByteArray)(e:xab):∀l:List kah,jab (l.map (JaB name e))<=5*szL l+l.length*(15+5*szL e.o)
 |[]=>by simp[jab]
 |s::l=>by
  have D:=kaF name e l;have B:GoM.cnt (JaB name e s)<=5*GoS.sz s+5+(15+5*szL e.o):=by
   have n:GoM.cnt s=5+jab s.r.list:=rfl;have p:=zag s.r.list;have q:GoS.sz s=s.doc.size+szL s.r.list:=rfl;unfold JaB;split
   ·have u:GoM.cnt (⟨s.id,s.doc,Xah s.r e⟩:kah)=5+jab (Xah s.r e).list:=rfl;have z:=ka1 s.r e;omega
   ·omega
  have j:szL (s::l)=1+GoS.sz s+szL l:=by simp[szL,szs];omega
  simp only[List.map_cons,jab,List.length_cons,Nat.add_mul,j];omega
