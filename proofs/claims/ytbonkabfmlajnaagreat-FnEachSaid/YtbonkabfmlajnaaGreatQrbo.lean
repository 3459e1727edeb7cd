/- A submission to a hub: what is computed, and the memory that it lays anew. -/
import Derived.Test.YtbonkabfmlajnaaGreatQray
import Derived.Test.YtbonkabfmlajnaaGreatQrbk
import Derived.Test.YtbonkabfmlajnaaGreatQrbi
namespace Go.Proofs.YtbonkabfmlajnaaGreat
open Go.RowKit
def uaF (name:ByteArray)(e:yab)(s:yai):yai:=if s.doc=name then⟨s.id,s.doc,Jai s.r e⟩else s
def Zas (l:List yai)(name:ByteArray)(e:yab)(k:Nat):List yai:=(l.take k).map (uaF name e)++l.drop k
theorem za3 (l:List yai)(name:ByteArray)(e:yab):Zas l name e 0=l:=by simp[Zas]
theorem za8 {l:List yai}{k:Nat}(name:ByteArray)(e:yab)(h:k=l.length):Zas l name e k=l.map (uaF name e):=by subst h;simp[Zas]
theorem KaQ {l:List yai}{k:Nat}{s:yai}(name:ByteArray)(e:yab)(h:l[k]? =some s):(Zas l name e k)[k]? =some s:=by
 have j:=(lg.1 h).1;unfold Zas;rw[List.getElem?_append_right (by simp;omega)]
 simp only[List.length_map,List.length_take,List.getElem?_drop];rw[show k+(k-min k l.length)=k by omega]
 exact h
theorem vaM {l:List yai}{k:Nat}{s:yai}(name:ByteArray)(e:yab)(h:l[k]? =some s):Zas l name e (k+1)=(Zas l name e k).set k (uaF name e s):=by
 have j:=(lg.1 h).1;have hd:l.drop k=s::l.drop (k+1):=by rw[List.drop_eq_getElem_cons j];congr 1;exact(lg.1 h).2
 unfold Zas;rw[hd,Zag h,List.set_append_right _ _ (by simp;omega)]
 simp only[List.length_map,List.length_take,List.map_append,List.map_cons,List.map_nil,List.append_assoc,List.singleton_append];rw[show k-min k l.length=0 by omega]
 rfl
theorem ua2 {l:List yai}{k:Nat}{s:yai}{name:ByteArray}{e:yab}(h:l[k]? =some s)(p:¬s.doc=name):Zas l name e (k+1)=Zas l name e k:=by
 have n:=KaQ name e h;obtain⟨j,q⟩:=lg.1 n;rw[vaM name e h,show uaF name e s=s from if_neg p,<-q];exact List.set_getElem_self j
theorem qa1 {l:List yai}{k:Nat}{s:yai}{name:ByteArray}{e:yab}(h:l[k]? =some s)(j:s.doc=name):Zas l name e (k+1)=(Zas l name e k).set k ⟨s.id,s.doc,Jai s.r e⟩:=by
 rw[vaM name e h,show uaF name e s=_ from if_pos j]
def Kac (z:qae)(name:ByteArray)(client seq base:Int)(o:List zaa):qae×Int×Int:=
 if Qac z=true then(if z.shut=true then(zao,0,12)else if zad z name<0 then(zao,0,6)else
  match z.docs[(zad z name).toNat]? with
  |none=>(zao,0,6)
  |some d=>if(Jae d client seq base o).2.2=0 then
   (⟨z.shut,z.docs.set (zad z name).toNat (Jae d client seq base o).1,if yaa (Jae d client seq base o).1=yaa d then z.subs else z.subs.map (uaF name (jab client seq (Xaa d base o).1)),z.last⟩,(Jae d client seq base o).2.1,0)
   else(zao,0,(Jae d client seq base o).2.2))
 else(zao,0,1)
section
variable {z:qae} {name:ByteArray} {client seq base:Int} {o:List zaa}
theorem jaY (h:Qac z=false):Kac z name client seq base o=(zao,0,1):=by simp[Kac,h]
theorem yaP (h:Qac z=true)(j:z.shut=true):Kac z name client seq base o=(zao,0,12):=by simp[Kac,h,j]
theorem XaU (h:Qac z=true)(j:z.shut=false)(n:zad z name<0):Kac z name client seq base o=(zao,0,6):=by simp[Kac,h,j,n]
theorem KaP {k:Nat}{d:Xac}(h:Qac z=true)(j:z.shut=false)(p:zad z name=k)(hd:z.docs[k]? =some d)(n:¬(Jae d client seq base o).2.2=0):Kac z name client seq base o=(zao,0,(Jae d client seq base o).2.2):=by
 unfold Kac;rw[if_pos h,if_neg (by simp[j]),if_neg om,p,Int.toNat_natCast,hd]
 simp only;rw[if_neg n]
theorem uaP {k:Nat}{d:Xac}(h:Qac z=true)(j:z.shut=false)(q:zad z name=k)(hd:z.docs[k]? =some d)(n:(Jae d client seq base o).2.2=0)(p:yaa (Jae d client seq base o).1=yaa d):
 Kac z name client seq base o=(⟨false,z.docs.set k (Jae d client seq base o).1,z.subs,z.last⟩,(Jae d client seq base o).2.1,0):=by
 unfold Kac;rw[if_pos h,if_neg (by simp[j]),if_neg om,q,Int.toNat_natCast,hd]
 simp only;rw[if_pos n,if_pos p,j]
theorem zaW {k:Nat}{d:Xac}(h:Qac z=true)(j:z.shut=false)(q:zad z name=k)(hd:z.docs[k]? =some d)(n:(Jae d client seq base o).2.2=0)(p:¬yaa (Jae d client seq base o).1=yaa d):
 Kac z name client seq base o=(⟨false,z.docs.set k (Jae d client seq base o).1,z.subs.map (uaF name (jab client seq (Xaa d base o).1)),z.last⟩,(Jae d client seq base o).2.1,0):=by
 unfold Kac;rw[if_pos h,if_neg (by simp[j]),if_neg om,q,Int.toNat_natCast,hd]
 simp only;rw[if_pos n,if_neg p,j]
end
theorem va3 (d:Xac)(client seq:Int)(x:List zaa):∃n,n<=d.list.length/\(xag d client seq x).list.length=n+1/\(xag d client seq x).list[n]? =some (jab client seq x)/\yaa (xag d client seq x)=yaa d+1:=by
 unfold xag;split
 ·rename_i h
  simp only[List.length_append,List.length_singleton]at h;refine⟨d.list.length-1,Nat.sub_le _ _,?_,?_,?_⟩
  ·simp;omega
  ·simp only[List.getElem?_drop];rw[show 1+(d.list.length-1)=d.list.length by omega,List.getElem?_append_right om]
   simp
  ·simp[yaa];omega
 ·exact⟨d.list.length,lr _,by simp,by simp,by simp[yaa];omega⟩
theorem Za1 (d:Xac)(client seq:Int)(x:List zaa):d.from_<=(xag d client seq x).from_/\(xag d client seq x).from_<=d.from_+1:=by
 unfold xag;split<;>simp only<;>omega
theorem jaG {d:Xac}{client seq base:Int}{o:List zaa}(h:(Jae d client seq base o).2.2=0):Qad d=true/\yag o=true/\((Jae d client seq base o).1=d\/((Xaa d base o).2=0/\yaa d<999999000/\(Jae d client seq base o).1=xag d client seq (Xaa d base o).1)):=by
 unfold Jae at h⊢;split at h
 ·rename_i n
  rw[if_pos n];refine⟨n.1,n.2.2.2,?_⟩;split at h
  ·rename_i p;rw[if_pos p];exact .inl rfl
  ·rename_i p
   rw[if_neg p];split at h
   ·rename_i u
    rw[if_pos u];split at h
    ·rename_i j
     rw[if_pos j];split at h
     ·rename_i q;rw[if_pos q];exact .inr ⟨j,q,rfl⟩
     ·simp at h
    ·rename_i j;exact absurd h j
   ·simp at h
 ·simp at h
def yah (B L:Nat)(w:World)(vt vl vz:Value)(x:Xac):Prop:=∃ft fl fs,Sl BIG w vt x.text ft/\Sl BIG w vl x.list fl/\Sl BIG w vz x.seen fs/\Qaa B w (ft++(fl++fs))/\∀p∈ft++(fl++fs),p.1<L
section
variable {B L:Nat} {w w':World} {vt vl vz:Value} {x:Xac}
theorem yah.rdT (h:yah B L w vt vl vz x):RdS w vt x.text:=let⟨j,_,_,a,_⟩:=h;⟨j,a⟩
theorem yah.rdL (h:yah B L w vt vl vz x):RdS w vl x.list:=let⟨_,j,_,_,b,_⟩:=h;⟨j,b⟩
theorem yah.rdS (h:yah B L w vt vl vz x):RdS w vz x.seen:=let⟨_,_,fs,_,_,c,_⟩:=h;⟨fs,c⟩
theorem yah.block (h:yah B L w vt vl vz x)(z:∀k,B<=k->k<L->w'.heap[k]? =w.heap[k]?):yah B L w' vt vl vz x:=by
 obtain⟨q,n,fs,a,b,c,d,e⟩:=h;have u:∀p∈q++(n++fs),w'.cell? ⟨p.1,p.2,none⟩=w.cell? ⟨p.1,p.2,none⟩:=fun p j=>by simp only[World.cell?];rw[z p.1 (d.ge p j) (e p j)]
 have D:∀p∈q++(n++fs),w'.frozen? ⟨p.1,p.2,none⟩=w.frozen? ⟨p.1,p.2,none⟩:=fun p j=>by simp only[World.frozen?];rw[z p.1 (d.ge p j) (e p j)]
 exact⟨q,n,fs,a.keep fun p j=>u p (by simp[j]),b.keep fun p j=>u p (by simp[j]),c.keep fun p j=>u p (by simp[j]),⟨d.nodup,d.ge,fun p j=>(D p j).trans (d.free p j)⟩,e⟩
theorem yah.below (h:yah B L w vt vl vz x)(hb:Below L w w'):yah B L w' vt vl vz x:=h.block fun k _ j=>hb.block k j
theorem yah.alloc (h:yah B L w vt vl vz x)(j:L<=w.heap.size)(o:Obj):yah B L (w.alloc o) vt vl vz x:=h.below ((lf _ _).alloc j o)
theorem yah.drew (h:yah B L w vt vl vz x):yah B L w.drew vt vl vz x:=h.block fun _ _ _=>rfl
theorem yah.setCell {b o:Nat}(h:yah B L w vt vl vz x)(p:b<B\/L<=b)(u:Value):yah B L (w.setCell ⟨b,o,none⟩ u) vt vl vz x:=h.block fun k j n=>Below.heap_setCell w ⟨b,o,none⟩ u k (by show k≠b;omega)
def Low {α:Type}[GoT α](L:Nat)(w:World)(v:Value)(l:List α):Prop:=∃f,Sl BIG w v l f/\∀p∈f,p.1<L
theorem Low.rd {α:Type}[GoT α]{L:Nat}{w:World}{v:Value}{l:List α}(h:Low L w v l):RdS w v l:=let⟨f,a,_⟩:=h;⟨f,a⟩
theorem Low.below {α:Type}[GoT α]{L:Nat}{w j:World}{v:Value}{l:List α}(h:Low L w v l)(hb:Below L w j):Low L j v l:=let⟨f,a,c⟩:=h;⟨f,a.keep fun p n=>hb.cell (p:=⟨p.1,p.2,none⟩) (c p n),c⟩
theorem Low.alloc {α:Type}[GoT α]{L:Nat}{w:World}{v:Value}{l:List α}(h:Low L w v l)(j:L<=w.heap.size)(o:Obj):Low L (w.alloc o) v l:=h.below ((lf _ _).alloc j o)
theorem Low.drew {α:Type}[GoT α]{L:Nat}{w:World}{v:Value}{l:List α}(h:Low L w v l):Low L w.drew v l:=let⟨f,a,c⟩:=h;⟨f,a.keep fun _ _=>rfl,c⟩
theorem Low.setCell {α:Type}[GoT α]{L:Nat}{w:World}{v:Value}{l:List α}{b o:Nat}(h:Low L w v l)(j:L<=b)(u:Value):Low L (w.setCell ⟨b,o,none⟩ u) v l:=h.below ((lf _ _).setCell (p:=⟨b,o,none⟩) j u)
theorem yah.entry (h:yah B L w vt vl vz x){P:Program}{T E:TypeId}(U:P.underlying T=some (.slice E))(hl:∀q,(sizeOf E).run P q= .ok (GoT.n yab) q){k:Nat}{e:yab}(Z:x.list[k]? =some e):
 ∃b o a c,(∀q,(Instr.indexAt T vl (.int .i64 k)).run P q= .ok (.pointer (some ⟨b,o,none⟩)) q)/\w.cell? ⟨b,o,none⟩=some (.int .i64 e.client)/\w.cell? ⟨b,o+1,none⟩=some (.int .i64 e.seq)/\w.cell? ⟨b,o+2,none⟩=some (.slice a e.o.length c)/\B<=b/\b<L/\Low L w (.slice a e.o.length c) e.o:=by
 obtain⟨ft,I,fs,_,sl,_,Y,R⟩:=h;have hF:Qaa B w I:=Y.right.left;obtain⟨b,o,cs,fo,M,z,⟨v_o,_,rfl,J,rfl⟩,N,Q,_⟩:=sl.lens hF.nodup U hl k Z;have D:=(N 0 (by decide)).1
 rw[Nat.add_zero]at D;obtain⟨a,c,rfl⟩:=J.isS;have j:∀p∈I,B<=p.1/\p.1<L:=fun p u=>⟨hF.ge p u,R p (by simp[u])⟩
 have c0:w.cell? ⟨b,o,none⟩=some _:=z.zero;exact⟨b,o,a,c,M,c0,z 1 _ rfl,z 2 _ rfl,(j _ D).1,(j _ D).2,_,J,fun p u=>(j p (Q p u)).2⟩
end
section
variable {C D:Nat} {w:World} {vd vs:Value} {docs:List Xac} {subs:List yai}
theorem Qab.dset (h:Qab C D w vd vs docs subs){B L ob:Nat}{x:Xac}{vt vl vz:Value}(hd:yah B L w vt vl vz x)(hL:L<=C)(hB:B<=C)(hCD:C<=D)(hO:D<=ob)(nn:x.name.size<=BIG){P:Program}{T E:TypeId}(hT:P.underlying T=some (.slice E))(hl:∀M,(sizeOf E).run P M= .ok (GoT.n Xac) M){k:Nat}{d:Xac}(hk:docs[k]? =some d):
 ∃b o u0 u1 u2 u3 u4,(∀M,(Instr.indexAt T vd (.int .i64 k)).run P M= .ok (.pointer (some ⟨b,o,none⟩)) M)/\C<=b/\b<D/\b<w.heap.size/\At w b o [u0,u1,u2,u3,u4]/\(∀j<5,w.frozen? ⟨b,o+j,none⟩=false)/\(∀p∈rowP (GoT.n yai) vs,C<=p.1/\p.1<D)/\
  vag ob B (((((w.setCell ⟨b,o,none⟩ x.name).setCell ⟨b,o+1,none⟩ x.from_).setCell ⟨b,o+2,none⟩ vt).setCell ⟨b,o+3,none⟩ vl).setCell ⟨b,o+4,none⟩ vz) vd vs (docs.set k x) subs:=by
 obtain⟨fd,fs,sd,ss,hf,hD⟩:=h;have nd:=ln.1 hf.nodup;obtain⟨b,o,cap,c2,f2,rfl,ha,hrd,hin,hsub,Q⟩:=sd.el (hf.left.mono hB) hk;have hlt:=(lg.1 hk).1;have hi:∀M,(Instr.indexAt T (.slice (some ⟨b,o,none⟩) docs.length cap) (.int .i64 k)).run P M= .ok (.pointer (some ⟨b,o+k*GoT.n Xac,none⟩)) M:=fun M=>by
  have hi:¬docs.length<=k:=om;simp[Instr.indexAt,run_underlying hT,asIntOf,hl,Addr.add_lit,Result.andThen];intro hh;exact absurd hh hi
 obtain⟨vt0,vl0,vs0,ft0,fl0,fs0,rfl,_⟩:=hrd;have h5:GoT.n Xac=5:=rfl;rw[h5]at hin Q ha hi;have m:∀j<5,(b,o+k*5+j)∈fd:=fun j I=>hin j I
 have hb:=m 0 (by decide)
 have hbC:=hf.left.ge _ hb;have hbD:=hD _ (lu _ hb);have hbw:=Live.lt sd.live _ hb;obtain⟨Y,U,Z,a1,a2,a3,a4,a5⟩:=hd;have hne:∀p∈Y++(U++Z),p.1≠b:=fun p z=>by have:=a5 p z;simp only at hbC;omega
 refine⟨b,o+k*5,_,_,_,_,_,hi,hbC,hbD,hbw,ha,fun j I=>hf.left.free _ (m j I),?_,?_⟩
 ·obtain⟨gs,e⟩:=ss.split;intro p z;have:p∈fs:=by rw[e];exact lu _ z
  exact⟨hf.right.ge p this,hD p (lw _ this)⟩
 generalize hQ:o+k*5=q at *;have mo:∀j<5,(b,q+j)∈own b q 5:=fun j I=>Kaa.2 ⟨rfl,by simp,by simp;omega⟩
 have R:Wr (own b q 5) w (((((w.setCell ⟨b,q,none⟩ x.name).setCell ⟨b,q+1,none⟩ x.from_).setCell ⟨b,q+2,none⟩ vt).setCell ⟨b,q+3,none⟩ vl).setCell ⟨b,q+4,none⟩ vz):=
  (((((Wr.refl _ _).put (mo 0 (by decide)) _).put (mo 1 (by decide)) _).put (mo 2 (by decide)) _).put (mo 3 (by decide)) _).put (mo 4 (by decide)) _
 have hfN:∀p∈Y++(U++Z),p∉own b q 5:=fun p z J=>hne p z (Kaa.1 J).1
 obtain⟨w',hw'⟩:∃w':World,w'=(((((w.setCell ⟨b,q,none⟩ x.name).setCell ⟨b,q+1,none⟩ x.from_).setCell ⟨b,q+2,none⟩ vt).setCell ⟨b,q+3,none⟩ vl).setCell ⟨b,q+4,none⟩ vz):=⟨_,rfl⟩;rw[<-hw']at R⊢;have hat:At w' b q [x.name,x.from_,vt,vl,vz]:=by
  intro j u I;have c0:w.cell? ⟨b,q,none⟩=some _:=ha.zero;have c1:w.cell? ⟨b,q+1,none⟩=some _:=ha 1 _ rfl;have c2:w.cell? ⟨b,q+2,none⟩=some _:=ha 2 _ rfl;have c3:w.cell? ⟨b,q+3,none⟩=some _:=ha 3 _ rfl;have c4:w.cell? ⟨b,q+4,none⟩=some _:=ha 4 _ rfl;rw[hw'];match j,I with
  |0,I=>simp at I;subst I;simp[xaa,c0]
  |1,I=>simp at I;subst I;simp[xaa,c1]
  |2,I=>simp at I;subst I;simp[xaa,c2]
  |3,I=>simp at I;subst I;simp[xaa,c3]
  |4,I=>simp at I;subst I;simp[xaa,c4]
 have s1:=a1.wr R fun p z J=>hfN p (by simp[z]) J
 have s2:=a2.wr R fun p z J=>hfN p (by simp[z]) J
 have s3:=a3.wr R fun p z J=>hfN p (by simp[z]) J
 have hlive:Live w (Y++(U++Z)):=Live.append.2 ⟨a1.live,Live.append.2 ⟨a2.live,a3.live⟩⟩;have hF:Qaa B w' (Y++(U++Z)):=R.fresh hlive a4;have N:∀p∈Y++(U++Z),p∉fd++fs:=fun p z J=>by have:=a5 p z;have:=hf.ge p J;omega
 obtain⟨fp',g1,g2,g3⟩:=Q w' _ x (Y++(U++Z)) R hat ⟨vt,vl,vz,Y,U,Z,rfl,nn,s1,s2,s3,rfl⟩ hF (fun p z=> .inl fun J=>N p z (lu _ J))
 have hown:∀p∈own b q 5,p∈fd:=fun p z=>by
  obtain⟨q1,q2,q3⟩:=Kaa.1 z;have:=m (p.2-q) om;have e:(b,q+(p.2-q))=p:=Prod.ext q1.symm (Nat.add_sub_cancel' q2);rwa[e]at this
 have ss':=ss.wr R (fun p z J=>nd.2.2 p (hown p J) p z rfl)
 refine⟨fp',fs,g1,ss',g2.join ((R.fresh ss.live hf.right).mono hB) fun p z r hr e=> ?_,fun p z=> ?_⟩
 ·subst e;rcases g3 p z with z|z
  ·exact nd.2.2 p z p hr rfl
  ·exact N p z (lw _ hr)
 ·rcases lm.1 z with z|z
  ·rcases g3 p z with z|z
   ·have:=hD p (lu _ z);omega
   ·have:=a5 p z;omega
  ·have:=hD p (lw _ z);omega
end
theorem vag.rd2 {ob B:Nat}{w:World}{p vs:Value}{docs:List Xac}{j:List yai}(h:vag ob B w p vs docs j):RdS w vs j:=let⟨_,fs,_,n,_⟩:=h;⟨fs,n⟩
theorem vag.below {ob B:Nat}{w I:World}{D vs:Value}{docs:List Xac}{j:List yai}(h:vag ob B w D vs docs j)(hb:Below w w I):vag ob B I D vs docs j:=by
 obtain⟨fd,fs,u,z,J,q⟩:=h;have n:∀p∈fd++fs,p.1<w:=Live.lt (Live.append.2 ⟨u.live,z.live⟩);exact⟨fd,fs,u.belowW hb,z.belowW hb,J.belowL hb n,q⟩
theorem vag.sset {ob B:Nat}{w:World}{vd vs:Value}{docs:List Xac}{z:List yai}(h:vag ob B w vd vs docs z)(ho:ob<w.heap.size)(hB:B<=w.heap.size){P:Program}{T E:TypeId}(hT:P.underlying T=some (.slice E))(hl:∀I,(sizeOf E).run P I= .ok (GoT.n yai) I){k:Nat}{s:yai}(hk:z[k]? =some s):
 ∃b o a c,(∀I,(Instr.indexAt T vs (.int .i64 k)).run P I= .ok (.pointer (some ⟨b,o,none⟩)) I)/\b<w.heap.size/\At w b o [s.id,s.doc,s.r.cap,s.r.next,s.r.out,.slice a s.r.list.length c]/\RdS w (.slice a s.r.list.length c) s.r.list/\(∀j<6,w.frozen? ⟨b,o+j,none⟩=false)/\(∀p∈own b o 6,p∈rowP (GoT.n yai) vs)/\
  ∀(N:World) (r:vac) (v':Value) (Q:List Pos),Wr (own b o 6) w N->At N b o [s.id,s.doc,r.cap,r.next,r.out,v']->Sl BIG N v' r.list Q->Qaa w N Q->vag ob B N vd vs docs (z.set k ⟨s.id,s.doc,r⟩):=by
 obtain⟨fd,fs,sd,ss,hf,Y⟩:=h;have nd:=ln.1 hf.nodup;obtain⟨b,o,cap,c2,f2,rfl,ha,hrd,M,hsub,a0⟩:=ss.el hf.right hk;have hlt:=(lg.1 hk).1;have hi:∀I,(Instr.indexAt T (.slice (some ⟨b,o,none⟩) z.length cap) (.int .i64 k)).run P I= .ok (.pointer (some ⟨b,o+k*GoT.n yai,none⟩)) I:=fun I=>by
  have hi:¬z.length<=k:=om;simp[Instr.indexAt,run_underlying hT,asIntOf,hl,Addr.add_lit,Result.andThen];intro hh;exact absurd hh hi
 obtain⟨cr,fr,rfl,nn,⟨vl,fl,rfl,sl,rfl⟩,rfl⟩:=hrd;have R:GoT.n yai=6:=rfl;obtain⟨a,c,rfl⟩:=sl.isS;have hb:=M 0 (by rw[R];omega)
 have hbw:=Live.lt ss.live _ hb;have U:∀p∈fd++fs,p.1<w:=Live.lt (Live.append.2 ⟨sd.live,ss.live⟩);have hcap:(k+1)*6<=cap*6:=Nat.mul_le_mul_right _ (by have:=ss.cap;simp[vaA]at this;omega)
 refine⟨b,o+k*GoT.n yai,a,c,hi,hbw,ha,⟨_,sl⟩,fun j hj=>hf.right.free _ (M j (by rw[R];omega)),fun p u=> ?_,?_⟩
 ·obtain⟨q1,q2,q3⟩:=Kaa.1 u;rw[R]at q2 q3;show p∈own b o (cap*6);have h66:(k+1)*6=k*6+6:=Nat.succ_mul _ _;generalize k*6=x6 at *;generalize cap*6=y6 at *;exact Kaa.2 ⟨q1,by omega,by omega⟩
 intro N r v' Q hw ha' s0 k0;have J:∀p∈Q,p∉fd++fs:=fun p u D=>by have:=k0.ge p u;have:=U p D;omega
 obtain⟨fp',g1,g2,g3⟩:=a0 N _ ⟨s.id,s.doc,r⟩ Q hw ha' ⟨_,_,rfl,nn,⟨v',Q,rfl,s0,rfl⟩,rfl⟩ (k0.mono hB) (fun p u=> .inl fun D=>J p u (lw _ D))
 have Z:∀p∈own b (o+k*GoT.n yai) 6,p∈fs:=fun p u=>by
  obtain⟨q1,q2,q3⟩:=Kaa.1 u;have:=M (p.2-(o+k*GoT.n yai)) (by rw[R];rw[R]at q2 q3;omega)
  have e:(b,o+k*GoT.n yai+(p.2-(o+k*GoT.n yai)))=p:=Prod.ext q1.symm (Nat.add_sub_cancel' q2);rwa[e]at this
 have sd':=sd.wr hw (fun p u D=>nd.2.2 p u p (Z p D) rfl)
 refine⟨fd,fp',sd',g1,(hw.fresh sd.live hf.left).join g2 fun p u q D e=> ?_,fun p u=> ?_⟩
 ·subst e;rcases g3 p D with D|D
  ·exact nd.2.2 p u p D rfl
  ·exact J p D (lu _ u)
 ·rcases lm.1 u with u|u
  ·exact Y p (lu _ u)
  ·rcases g3 p u with u|u
   ·exact Y p (lw _ u)
   ·have:=k0.ge p u;omega
end Go.Proofs.YtbonkabfmlajnaaGreat
namespace Go.Proofs.YtbonkabfmlajnaaGreat
open Go.RowKit
def Xap (s:qac)(a:List qac×Bool)(y:qac):List qac×Bool:=
 if y.client=s.client then a else if a.2=false/\s.client<y.client then(a.1++[s]++[y],true)else(a.1++[y],a.2)
def ka3 (s:qac)(a:List qac×Bool):List qac:=if a.2=false then a.1++[s]else a.1
def qa0 (l:List qac)(s:qac)(k:Nat):List qac×Bool:=(l.take k).foldl (Xap s) ([],false)
theorem QaZ {l:List qac}{s y:qac}{k:Nat}(h:l[k]? =some y):qa0 l s (k+1)=Xap s (qa0 l s k) y:=by
 unfold qa0;rw[Zag h,List.foldl_append];rfl
def jbh:List qac->Prop
 |[]=>True
 |x::l=>(∀y∈l,x.client<y.client)/\jbh l
theorem jba (s:qac):∀(l:List qac) (j:List qac),(∀y∈l,s.client<y.client)->l.foldl (Xap s) (j,true)=(j++l,true)
 |[],j,_=>by simp
 |y::l,j,h=>by
  have p:=h y sm;have e:Xap s (j,true) y=(j++[y],true):=by unfold Xap;rw[if_neg om,if_neg sm]
  rw[List.foldl_cons,e,jba s l _ fun z n=>h z (by simp[n])]
  simp
theorem KaT {s:qac}:∀{l:List qac},(∀y∈l,s.client<y.client)->kaa l s=s::l
 |[],_=>rfl
 |y::l,h=>by
  have:=h y sm;unfold kaa;rw[if_neg om,if_neg om]
theorem Ja5 (s:qac):∀(l:List qac) (j:List qac),(∀y∈l,s.client<y.client)->ka3 s (l.foldl (Xap s) (j,false))=j++s::l
 |[],j,_=>by simp[ka3]
 |y::l,j,h=>by
  have n:=h y sm;have e:Xap s (j,false) y=(j++[s]++[y],true):=by unfold Xap;rw[if_neg om,if_pos ⟨rfl,n⟩]
  rw[List.foldl_cons,e,jba s l _ fun z p=>h z (by simp[p])]
  simp[ka3]
theorem Zbe (s:qac):∀(l:List qac) (j:List qac),jbh l->ka3 s (l.foldl (Xap s) (j,false))=j++kaa l s
 |[],j,_=>by simp[ka3,kaa]
 |y::l,j,h=>by
  by_cases u:y.client<s.client
  ·have e:Xap s (j,false) y=(j++[y],false):=by unfold Xap;rw[if_neg om,if_neg (by simp;omega)]
   have q:kaa (y::l) s=y::kaa l s:=by rw[kaa,if_pos u]
   rw[List.foldl_cons,e,Zbe s l _ h.2,q];simp
  ·by_cases B:y.client=s.client
   ·have e:Xap s (j,false) y=(j,false):=by unfold Xap;rw[if_pos B]
    have q:kaa (y::l) s=s::l:=by rw[kaa,if_neg u,if_pos B]
    rw[List.foldl_cons,e,Ja5 s l _ fun z p=>by have:=h.1 z p;omega,q]
   ·have n:∀z∈y::l,s.client<z.client:=fun z p=>by
     rcases List.mem_cons.1 p with rfl|p
     ·omega
     ·have:=h.1 z p;omega
    rw[Ja5 s (y::l) j n,KaT n]
theorem Xa9:∀{l:List qac},(∀j a b,l[j]? =some a->l[j+1]? =some b->a.client<b.client)->jbh l
 |[],_=>trivial
 |x::l,h=>by
  have n:jbh l:=Xa9 fun j a b q hb=>h (j+1) a b (by simpa using q) (by simpa using hb)
  refine⟨fun y hy=> ?_,n⟩
  cases l with
  |nil=>cases hy
  |cons z l=>
   have p:=h 0 x z rfl rfl;rcases List.mem_cons.1 hy with rfl|hy
   ·exact p
   ·have:=n.1 y hy;omega
theorem Ja1 {hd:Int}{l:List qac}(h:qas hd l=true):jbh l:=Xa9 fun j a b p hb=>by
 have n:=kak.1 h (j+1) b hb;simp only[Zan,p,Bool.and_eq_true,decide_eq_true_eq]at n;exact n.2
theorem ya8 {hd:Int}{l:List qac}(h:qas hd l=true)(s:qac):ka3 s (qa0 l s l.length)=kaa l s:=by
 unfold qa0;rw[List.take_length,Zbe s l [] (Ja1 h),List.nil_append]
theorem ZaT (l:List qac)(s:qac):∀k,k<=l.length->(qa0 l s k).1.length<=2*k
 |0,_=>by simp[qa0]
 |k+1,j=>by
  obtain⟨y,hy⟩:=Jaa (l:=l) (k:=k) om;have n:=ZaT l s k om;rw[QaZ hy];unfold Xap;split
  ·omega
  ·split<;>simp<;>omega
end Go.Proofs.YtbonkabfmlajnaaGreat
namespace Go.Proofs.YtbonkabfmlajnaaGreat
open Go.RowKit
theorem QaO (w:World)(s:qac):GoT.rd BIG w [s.client,s.seq,s.rev] s []:=⟨rfl,rfl⟩
theorem QaS {M:Nat}{w:World}{c:List Value}{x:qac}{f:List Pos}(h:GoT.rd M w c x f):f=[]:=h.2
theorem Xak {w0 j:World}{n m:Int}(hb:Below w0 w0 j):Zar w0 Xa3 n m (.returned (.tuple #[.agg #[.string ⟨#[]⟩,zI,zN,zN,zN],n,m])) j:=
 ⟨_,_,_,[],[],[],rfl,Sl.nil,Sl.nil,Sl.nil,by decide,Qaa.nil _ _,hb⟩
section
variable {d:Xac} {client seq base:Int} {o:List zaa}
theorem Qap (h:¬(Qad d=true/\within client 1 8=true/\within seq 1 1000000000=true/\yag o=true)):Jae d client seq base o=(Xa3,0,1):=if_neg h
variable (h:Qad d=true/\within client 1 8=true/\within seq 1 1000000000=true/\yag o=true)
include h
theorem JaK (j:(uab d client).1.seq=seq):Jae d client seq base o=(d,(uab d client).1.rev,0):=by unfold Jae;rw[if_pos h,if_pos j]
theorem JaR (j:¬(uab d client).1.seq=seq)(n:¬(uab d client).1.seq+1=seq):Jae d client seq base o=(Xa3,0,4):=by unfold Jae;rw[if_pos h,if_neg j,if_neg n]
theorem XaM (j:¬(uab d client).1.seq=seq)(n:(uab d client).1.seq+1=seq)(p:¬(Xaa d base o).2=0):Jae d client seq base o=(Xa3,0,(Xaa d base o).2):=by unfold Jae;rw[if_pos h,if_neg j,if_pos n,if_neg p]
theorem QaH (j:¬(uab d client).1.seq=seq)(n:(uab d client).1.seq+1=seq)(p:(Xaa d base o).2=0)(q:¬yaa d<999999000):Jae d client seq base o=(Xa3,0,5):=by unfold Jae;rw[if_pos h,if_neg j,if_pos n,if_pos p,if_neg q]
theorem yaS (j:¬(uab d client).1.seq=seq)(n:(uab d client).1.seq+1=seq)(p:(Xaa d base o).2=0)(q:yaa d<999999000):Jae d client seq base o=(xag d client seq (Xaa d base o).1,yaa d+1,0):=by unfold Jae;rw[if_pos h,if_neg j,if_pos n,if_pos p,if_pos q]
end
theorem Qau {d:Xac}(h:Qad d=true)(client:Int):0<=(uab d client).1.seq/\(uab d client).1.seq<=1000000000/\((uab d client).2=false->(uab d client).1.seq=0):=by
 unfold uab;rcases hf:d.seen.find? (fun s=>decide (s.client=client))with _|s
 ·rw[hf];exact⟨Int.le_refl _,by show(0:Int)<=1000000000;decide,fun _=>rfl⟩
 ·have p:=List.mem_of_find?_eq_some hf;obtain⟨k,n⟩:=List.getElem?_of_mem p;have j:=kak.1 (jaf.1 h).seen k s n;unfold Zan at j;simp only[Bool.and_eq_true]at j;have:=within_iff.1 j.1.1.2;rw[hf];exact⟨by show 0<=s.seq;omega,by show s.seq<=1000000000;omega,fun h=>by cases h⟩
theorem kaZ {d:Xac}(h:Qad d=true):d.text.length<=4000000/\szL d.list<=4000000/\d.seen.length<=4000000:=⟨by have:=(jaf.1 h).tlen;omega,by have:=(jaf.1 h).sz;omega,by have:=(jaf.1 h).slen;omega⟩
