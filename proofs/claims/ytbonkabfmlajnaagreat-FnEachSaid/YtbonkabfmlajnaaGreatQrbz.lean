/- Rows of drawn calls. -/
import Derived.Test.YtbonkabfmlajnaaGreatQrbw
import Derived.Test.YtbonkabfmlajnaaGreatQrby
set_option maxHeartbeats 8000000
set_option maxRecDepth 100000
namespace Go.Proofs.YtbonkabfmlajnaaGreat
open Go.RowKit
def Xa2 {α:Type}[GoT α](C D:Nat)(w:World)(v:Value)(l:List α):Prop:=∃fs,Row C w v l fs/\∀p∈fs,D<=p.1
section
variable {α:Type} [GoT α] {C D:Nat} {w w':World} {v:Value} {l:List α}
theorem Xa2.below (h:Xa2 C D w v l)(hb:Below w w w'):Xa2 C D w' v l:=let⟨fs,a,b⟩:=h;⟨fs,a.below hb,b⟩
theorem Xa2.wr {f:List Pos}(h:Xa2 C D w v l)(u:Wr f w w')(n:∀p∈f,p.1<C/\p.1<D):Xa2 C D w' v l:=
 let⟨fs,a,b⟩:=h
 ⟨fs,a.wr u fun p j q=>by
  have z:=n p q;rcases lm.1 j with j|j
  ·have:=a.2.1.ge p j;omega
  ·have:=b p j;omega,b⟩
theorem Xa2.empty {j:Option Addr}(h:D<=C):Xa2 C D w (.slice j 0 0) ([]:List α):=let⟨fs,a,b⟩:=(uaf.empty C w j).row;⟨fs,a,fun p n=>Nat.le_trans h (b.ge p n)⟩
theorem Xa2.rdG (h:Xa2 C D w v l)(n:D<=C):RdG D w v l:=
 let⟨_,a,b⟩:=h
 ⟨_,a.1,fun p j=>(lm.1 j).elim (fun j=>Nat.le_trans n (a.2.1.ge p j)) (b p)⟩
end
structure ja0 (w0:World)(bc:Nat)(vb:Value)(bs:List zah)(w:World)(b4:Nat)(wr:World)(u:Value)(l:List Jag)(z:qae)(vd vs:Value):Prop where
 cu:kac w0 bc vb bs w wr
 lc:bc<w.heap.size
 lb:w.heap.size<=b4
 x4:Bx wr b4 [z.shut,vd,vs,z.last]
 ok:Qac z=true
 hdh:∃fd fs,Sl BIG wr vd z.docs fd/\Sl BIG wr vs z.subs fs/\∀p∈fd++fs,p.1≠bc/\p.1≠b4/\p∉rowP 7 u
 row:Xa2 (b4+1) (b4+1) wr u l
section
variable {w0 w wr w':World} {bc b4:Nat} {vb vd vs u:Value} {bs:List zah} {z:qae} {l:List Jag}
theorem ja0.d (h:ja0 w0 bc vb bs w b4 wr u l z vd vs):DH (· ≠bc) wr z vd vs:=let⟨fd,fs,a,b,c⟩:=h.hdh;⟨fd,fs,a,b,fun p j=>(c p j).1⟩
theorem ja0.draw (h:ja0 w0 bc vb bs w b4 wr u l z vd vs)(n:kac w0 bc vb bs wr w'):ja0 w0 bc vb bs w b4 w' u l z vd vs:=by
 have D:=h.lc;have I:=h.lb;obtain⟨fd,fs,a,b,c⟩:=h.hdh;have B:∀p∈[(bc,1),(bc,2)],p.1=bc:=fun p j=>by simp only[List.mem_cons,List.not_mem_nil,or_false]at j;rcases j with rfl|rfl<;>rfl
 exact⟨h.cu.trans n,D,I,h.x4.wr n.2 (Jau om),h.ok,⟨fd,fs,a.wr n.2 fun p j q=>(c p (lu _ j)).1 (B p q),b.wr n.2 fun p j q=>(c p (lw _ j)).1 (B p q),c⟩,h.row.wr n.2 fun p j=>by have:=B p j;omega⟩
theorem ja0.below (h:ja0 w0 bc vb bs w b4 wr u l z vd vs)(hb:Below wr wr w'):ja0 w0 bc vb bs w b4 w' u l z vd vs:=
 let⟨fd,fs,a,b,c⟩:=h.hdh
 ⟨h.cu.below_ hb,h.lc,h.lb,h.x4.at hb,h.ok,⟨fd,fs,a.belowW hb,b.belowW hb,c⟩,h.row.below hb⟩
theorem ja0.app (h:ja0 w0 bc vb bs w b4 wr u l z vd vs){I:Value}{c:Jag}{fs f:List Pos}(D:Qaa (b4+1) wr (rowP 7 u))(q:∀p∈fs,b4+1<=p.1)(R:∀p∈f,b4+1<=p.1)(Z:Row (b4+1) w' I (l++[c]) (fs++f))(n:Wr (rowP 7 u) wr w')(Y:∀p∈rowP 7 I,p∈rowP 7 u\/wr<=p.1):ja0 w0 bc vb bs w b4 w' I (l++[c]) z vd vs:=by
 obtain⟨fd,M,a,b,e⟩:=h.hdh;have N:=h.lc;have Q:=h.lb;have lo:=h.cu.1.o;have B:=D.ge;refine⟨⟨h.cu.1.wr n fun p j=>by have:=B p j;omega,uaw h.cu.2 n fun p j=>by have:=B p j;omega⟩,N,Q,h.x4.wr n fun p j=>by have:=B p j;omega,h.ok,⟨fd,M,a.wr n fun p j=>(e p (lu _ j)).2.2,b.wr n fun p j=>(e p (lw _ j)).2.2,fun p j=>⟨(e p j).1,(e p j).2.1,fun U=> ?_⟩⟩,⟨_,Z,fun p j=>(lm.1 j).elim (q p) (R p)⟩⟩
 rcases Y p U with J|J
 ·exact(e p j).2.2 J
 ·have:=Live.lt (Live.append.2 ⟨a.live,b.live⟩) p j;omega
theorem ja0.put (h:ja0 w0 bc vb bs w b4 wr u l z vd vs)(hb:Below wr wr w'){y:qae}{I J:Value}{fd fs:List Pos}(hy:Qac y=true)(Y:Sl BIG w' I y.docs fd)(Z:Sl BIG w' J y.subs fs)(B:∀p∈fd++fs,wr<=p.1):ja0 w0 bc vb bs w b4 ((((w'.setCell ⟨b4,0,none⟩ y.shut).setCell ⟨b4,1,none⟩ I).setCell ⟨b4,2,none⟩ J).setCell ⟨b4,3,none⟩ y.last) u l y I J:=by
 have n:=h.lc;have q:=h.lb;have h3:=h.x4.lt;have h5:=h.cu.1.lt;have k:=h.below hb;have N:Wr [(b4,0),(b4,1),(b4,2),(b4,3)] w' ((((w'.setCell ⟨b4,0,none⟩ y.shut).setCell ⟨b4,1,none⟩ I).setCell ⟨b4,2,none⟩ J).setCell ⟨b4,3,none⟩ y.last):=((((Wr.refl _ w').put (b:=b4) (o:=0) sm _).put (b:=b4) (o:=1) sm _).put (b:=b4) (o:=2) sm _).put (b:=b4) (o:=3) sm _;have M:∀p∈[(b4,0),(b4,1),(b4,2),(b4,3)],p.1=b4:=fun p j=>by simp only[List.mem_cons,List.not_mem_nil,or_false]at j;rcases j with rfl|rfl|rfl|rfl<;>rfl
 obtain⟨fr,U,Q⟩:=h.row;have R:=Live.lt U.1.live;refine⟨(((k.cu.set q n _).set q n _).set q n _).set q n _,n,q,(((k.x4.set 0 _).set 1 _).set 2 _).set 3 _,hy,⟨fd,fs,Y.wr N fun p j D=> ?_,Z.wr N fun p j D=> ?_,fun p j=>⟨by have:=B p j;omega,by have:=B p j;omega,fun D=> ?_⟩⟩,k.row.wr N fun p j=>by have:=M p j;omega⟩
 ·have:=B p (lu _ j);have:=M p D;omega
 ·have:=B p (lw _ j);have:=M p D;omega
 ·have h6:=B p j;have h7:=R p (lu _ D);omega
end
theorem qaL (w0:World)(bc:Nat)(vb:Value)(bs:List zah)(z:qae)(vd vs:Value)(w:World)(hc:Cu w0 bc vb bs w)(hz:Qac z=true)(hh:DH (· ≠bc) w z vd vs):
 Calls Tryz.prog 22 #[.pointer (some ⟨bc,0,none⟩),.agg #[z.shut,vd,vs,z.last],.int .i64 9] w (fun e w'=>∃(v:Value) (l:List Jag),e= .returned v/\l.length<=9/\RdG w w' v l/\Cu w0 bc vb bs w'):=by
 obtain⟨i0,hi,hz0,hz1,hz2⟩:=info_parts xaR;obtain⟨ad,cd,rfl⟩:=hh.d.isSlice;obtain⟨Y,cs,rfl⟩:=hh.s.isSlice;have hbl:=hc.lt;have N:Below w w ((w.alloc (.cells #[z.shut,.slice ad z.docs.length cd,.slice Y z.subs.length cs,z.last] 26)).alloc (.cells #[] 33)):=((lf _ _).alloc (lr _) _).alloc om _;obtain⟨fd,fz,sd,ss,B⟩:=hh;have R:Hid (ja0 w0 bc vb bs w w ((w.alloc (.cells #[z.shut,.slice ad z.docs.length cd,.slice Y z.subs.length cs,z.last] 26)).alloc (.cells #[] 33)) (.slice (some ⟨w+1,0,none⟩) 0 0) [] z _ _):=hH ⟨⟨hc.below N,Wr.of_below N⟩,hbl,lr _,(Bx.new sm).alloc _,hz,⟨fd,fz,sd.belowW N,ss.belowW N,fun p h=>⟨B p h,by have:=(lm.1 h).elim (Live.lt sd.live p) (Live.lt ss.live p);omega,fun hm=>by simp[rowP,own]at hm⟩⟩,Xa2.empty (lr _)⟩
 clear hc N sd ss B hz;go_enter Tryz.func22,Tryz.ntmps22
 go_upto_region 2 with(fail)
 obtain⟨W0,hW0⟩:∃W0,(w.alloc (.cells #[z.shut,.slice ad z.docs.length cd,.slice Y z.subs.length cs,z.last] 26)).alloc (.cells #[] 33)=W0:=⟨_,rfl⟩;rw[hW0]at R;(try rw[hW0])
 clear hW0;go_wp2_with fail
 refine(xab w0 bc vb bs 10 _ R.out.cu.1).mono ?_;rintro e' w2 ⟨x,rfl,hx,hc1⟩;obtain⟨hx0,hx1⟩:=hx.1 om;obtain⟨k0,rfl⟩:∃k:Nat,x=k:=⟨x.toNat,by omega⟩
 have HL1:=hH (R.out.draw hc1);obtain⟨b4,hb4⟩:∃b4,w.heap.size=b4:=⟨_,rfl⟩;have l4:w.heap.size<=b4:=Nat.le_of_eq hb4;clear hx hc1 R;go_upto_region 3 with(fail)
 rw[hb4]at HL1;(try rw[hb4])
 go_loopw [7,8] (fun u i wr=>∃(u':Value) (l:List Jag) (k:Nat) (z:qae) (vd vs:Value),u'=u/\i= .int .i64 k/\l.length+k<=9/\ja0 w0 bc vb bs w b4 wr u' l z vd vs) (fun _ i _=>(intOf i).toNat)
 case atStart=>exact⟨_,[],k0,z,_,_,rfl,rfl,by simp;omega,HL1.out⟩
 case round=>
  clear HL1;obtain⟨u,l,k,z,vd,vs,rfl,rfl,hlk,hl⟩:=hrel;obtain⟨ad,cd,rfl⟩:=hl.d.d.isSlice;obtain⟨Y,cs,rfl⟩:=hl.d.s.isSlice;have Q:=hH hl;clear hl;obtain⟨z4,k0,k1,k2,k3⟩:=Q.out.x4.o4;by_cases hk:0<k
  ·have hk2:(0:Int)<(k:Int):=om;go_wp2_with fail
   refine(JaO w0 bc vb bs z _ _ _ Q.out.cu.1 Q.out.ok Q.out.d).mono ?_;rintro e' w3 ⟨c,vo,vt,rfl,hc3,hcd,ho,ht⟩;obtain⟨ao,co,rfl⟩:=ho.rd.isSlice;obtain⟨at_,ct,rfl⟩:=ht.rd.isSlice
   have HL3:=hH (Q.out.draw hc3);have s3:=hc3.2.size;have HN:Hid (Below w3 w3 (w3.alloc (.cells #[c.kind,c.doc,c.client,c.seq,c.n,.slice ao c.o.length co,.slice at_ c.text.length ct] 33))):=hH ((lf _ _).alloc (lr _) _)
   have J:Hid (Bx (w3.alloc (.cells #[c.kind,c.doc,c.client,c.seq,c.n,.slice ao c.o.length co,.slice at_ c.text.length ct] 33)) w3 [c.kind,c.doc,c.client,c.seq,c.n,.slice ao c.o.length co,.slice at_ c.text.length ct]):=hH (Bx.new sm)
   have U:=hH (HL3.out.below HN.out);have HO:=hH (ho.below HN.out);have HT:=hH (ht.below HN.out);clear hc3 ho ht HL3 k0 k1 k2 k3 z4;go_upto_region 6 with(fail)
   obtain⟨W,hW⟩:∃W,w3.alloc (.cells #[c.kind,c.doc,c.client,c.seq,c.n,.slice ao c.o.length co,.slice at_ c.text.length ct] 33)=W:=⟨_,rfl⟩
   obtain⟨b9,Z⟩:∃b9,w3.heap.size=b9:=⟨_,rfl⟩;have sW:b9+1<=W.heap.size:=by rw[<-hW,<-Z];simp
   rw[hW]at J U HO HT;rw[Z]at J s3;(try rw[hW])
   (try rw[Z])
   clear hW Z HN;obtain⟨z9,m0,m1,m2,m3,m4,m5,m6⟩:=J.out.o7;have hrow0:=U.out.row;have hwl:∀p∈rowP 7 u,p.1<wr:=fun p B=>let⟨_,r,_⟩:=Q.out.row;Live.lt r.1.live p (lu _ B)
   obtain⟨f1,so,hf1⟩:=HO.out;obtain⟨f2,st,hf2⟩:=HT.out;have HSO:=hH so;have HST:=hH st;have HF1:=hH hf1;have HF2:=hH hf2;have I:=hH hwl;have hlw:=Q.out.x4.lt;clear so st hf1 hf2 hwl;obtain⟨fs,hrow,hfs⟩:=hrow0;have D:=hH hrow;have HFS:=hH hfs;have HSR:=hH (Zac (w:=W) (c:=[c.kind,c.doc,c.client,c.seq,c.n,.slice ao c.o.length co,.slice at_ c.text.length ct]) (x:=c) (f:=f1++f2) 33 ⟨_,_,f1,f2,rfl,hcd,HSO.out,HST.out,rfl⟩)
   clear hrow hfs;go_wp2_with (at_builtin;go_must (refine qaa rfl _ _ 28 rfl Tryz.underlying28 hi hz0 hz1 hz2 rfl rfl rfl (D.out.below ((lf _ _).alloc (lr _) _)) HSR.out (fun q hq hm=>by have:=I.out q hm;exact(lm.1 hq).elim (fun h=>by have:=HF1.out q h;omega) (fun h=>by have:=HF2.out q h;omega)) ?c1 ?c2 ?c3 ?_))
   case c1=>exact Xab (by simp;omega)
   case c2=>simp;omega
   case c3=>simp;omega
   intro v4 w4 hr4 M hn4;have j:=hH ((U.out.below ((lf _ _).alloc (lr _) _)).app (D.out.below ((lf _ _).alloc (lr _) _)).2.1 HFS.out (fun p B=>(lm.1 B).elim (fun h=>by have:=HF1.out p h;omega) (fun h=>by have:=HF2.out p h;omega)) hr4 M fun p B=>(hn4 p.1 p.2 B).imp id fun h=>by simpa using h)
   have HX9':=hH ((J.out.alloc _).wr M fun p B=>by have:=I.out p B;omega)
   have HO4:=hH ((HO.out.below ((lf _ _).alloc (lr _) _)).wr M I.out).rd;have HT4:=hH ((HT.out.below ((lf _ _).alloc (lr _) _)).wr M I.out).rd;obtain⟨z9,m0,m1,m2,m3,m4,m5,m6⟩:=HX9'.out.o7;obtain⟨z4,k0,k1,k2,k3⟩:=j.out.x4.o4;clear hr4 M hn4 J HX9' HO HT U D HFS HSR HSO HST HF1 HF2 I Q;go_wp2_with fail
   refine(zba z c _ _ _ _ _ j.out.d.d j.out.d.s HO4.out HT4.out (yaT j.out.ok)).mono ?_;rintro e' w5 ⟨vd1,vs1,vt1,vl1,fd,fz,ft,fl,rfl,sd,ss,_,_,fr,hb⟩;have a0:=qaY j.out.ok c;obtain⟨⟨y,a⟩,hy⟩:∃r,Xai z c=r:=⟨_,rfl⟩;rw[hy]at sd ss a0;rw[hy];simp only at sd ss a0;obtain⟨ad1,cd1,rfl⟩:=sd.isS;obtain⟨as1,cs1,rfl⟩:=ss.isS;have HP:=hH (j.out.put hb a0 sd ss fun p B=>fr.ge p (by simp only[lm]at *;rcases B with h|h<;>simp[h]))
   obtain⟨_,j0,j1,j2,j3,g0,g1,g2,g3⟩:=(j.out.below hb).x4.q4;clear hy sd ss fr hb a0 j HO4 HT4;go_wp2;go_roundw
   case rel=>exact⟨_,l++[c],k-1,y,_,_,rfl,by first|go_num|(congr 1;omega),by simp;omega,HP.out⟩
   case measure=>simp[intOf];omega
  ·have hk0:k=0:=om;subst hk0;go_wp2;go_ret;exact⟨u,l,rfl,by omega,(Q.out.row.rdG (lr _)).mono om,Q.out.cu.1⟩
theorem RdS.toDH {w:World}{z:qae}{j vs:Value}(hd:RdS w j z.docs)(q:RdS w vs z.subs):DH (· <w.heap.size) w z j vs:=let⟨fd,a⟩:=hd;let⟨fs,b⟩:=q;⟨fd,fs,a,b,fun p n=>(lm.1 n).elim (Live.lt a.live p) (Live.lt b.live p)⟩
theorem jaI (vb:Value)(bs:List zah)(z:qae)(vd vs:Value)(w:World)(hb:RdS w vb bs)(hz:Qac z=true)(hd:RdS w vd z.docs)(hs:RdS w vs z.subs):
 Calls Tryz.prog 6 #[vb,.agg #[z.shut,vd,vs,z.last]] w (fun e w'=>∃(v:Value) (l:List Jag),e= .returned v/\RdG w w' v l/\(∀c∈l,xac c=true)/\Below w w w'):=by
 obtain⟨i0,hi,hz0,hz1,hz2⟩:=info_parts xaR;obtain⟨ad,cd,rfl⟩:=hd.isSlice;obtain⟨as_,cs,rfl⟩:=hs.isSlice;obtain⟨W,hW⟩:∃W,w.alloc (.cells #[z.shut,.slice ad z.docs.length cd,.slice as_ z.subs.length cs,z.last] 26)=W:=⟨_,rfl⟩;have hwb:Below w w W:=by rw[<-hW];exact((lf _ _).alloc (lr _) _)
 have R:Hid (Bx W w [z.shut,.slice ad z.docs.length cd,.slice as_ z.subs.length cs,z.last]):=hH (by rw[<-hW];exact Bx.new sm)
 have HB:=hH (hb.below hwb);have a2:=hH ((hd.toDH hs).below hwb);have HWB:=hH hwb;have l1:=R.out.lt;clear hb hd hs hwb;go_enter Tryz.func6,Tryz.ntmps6
 go_upto_region 1 with(fail)
 (try rw[hW])
 clear hW;go_wp2_with fail
 refine(qaD vb bs W HB.out).mono ?_;rintro e' w1 ⟨bc,rfl,Y,hb1⟩;obtain⟨i,n,hx,hin⟩:=Y.bx;have lo:=Y.o;have lb:=Y.lt;replace R:=hH (R.out.at hb1);replace a2:=hH (a2.out.below hb1);obtain⟨n1,hn1⟩:∃n1,IntKind.i64.wrap (n+31)=n1:=⟨_,rfl⟩;have hw:Wr [(bc,1),(bc,2)] w1 (w1.setCell ⟨bc,2,none⟩ n1):=(Wr.refl _ w1).put sm _;have HCU:=hH ((Y.step hw (hx.set 2 n1) hin).below ((lf _ _).alloc (lr _) (.cells #[] 33)));have D:=hH ((R.out.wr hw (Jau om)).alloc (.cells #[] 33));have M:=hH ((a2.out.wr hw fun p hp hk=>by simp only[List.mem_cons,List.not_mem_nil,or_false]at hp;rcases hp with rfl|rfl<;>(simp only at hk;omega)).below ((lf _ _).alloc (lr _) (.cells #[] 33)))
 obtain⟨zc,c0,c1,c2,g0,g1,g2⟩:=hx.q3;clear hx Y hb1 hw R a2 HB;go_upto_region 4 with(fail)
 (try rw[hn1])
 obtain⟨V,hV⟩:∃V,(w1.setCell ⟨bc,2,none⟩ n1).alloc (.cells #[] 33)=V:=⟨_,rfl⟩;rw[hV]at HCU D M;(try rw[hV])
 clear hV hn1 c0 c1 c2 g0 g1 g2 zc;obtain⟨z3,k0,k1,k2,k3⟩:=D.out.o4;have lV:=D.out.lt;go_wp2_with fail
 refine(qaL W bc vb bs z _ _ _ HCU.out hz (M.out.imp fun k hk=>by omega)).mono ?_
 rintro e' V2 ⟨v,l,rfl,hl9,hr,hc2⟩;have HBW:=hH (HWB.out.trans (hc2.bel.mono HWB.out.size));have s2:=hc2.bel.size;obtain⟨al,cl,rfl⟩:=hr.rd.isSlice;have hll:=fun w1 ty=>hr.rd.len Tryz.underlying28 w1 ty
 have HR:=hH (hr.mono (C:=w) om);clear hr hc2 HWB HCU D M k0 k1 k2 k3 z3;go_wp2_with fail
 go_loopw [6,24] (fun u i wr=>∃(u':Value) (Z:List Jag) (k:Nat),u'=u/\i= .int .i64 k/\k<=l.length/\Z.length<=k/\(∀c∈Z,xac c=true)/\Xa2 V2 w wr u' Z/\Below V2 V2 wr) (fun _ i _=>l.length-(intOf i).toNat)
 case atStart=>exact⟨_,[],0,rfl,rfl,lz _,lr _,(fun _ h=>by cases h),Xa2.empty om,lf _ _⟩
 case round=>
  obtain⟨u,Z,k,rfl,rfl,hkl,hlk,hco,hru,hbw⟩:=hrel;obtain⟨au,cu,rfl⟩:=RdS.isSlice (w:=wr) (v:=u) (l:=Z) (let⟨_,r,_⟩:=hru;r.rd)
  have a1:=hH hco;have HRU:=hH hru;have a0:=hH hbw;have sr:=hbw.size;clear hco hru hbw;by_cases hlt:k<l.length
  ·obtain⟨c,hc⟩:=Jaa hlt;obtain⟨fL,sL,hfL⟩:=HR.out;have hlL:=Live.lt sL.live;obtain⟨b1,o1,c7,f,h1,h2,h3,hff⟩:=(sL.belowW a0.out).idx Tryz.underlying28 ya0 k hc;obtain⟨vo,vt,f1,f2,rfl,hcd,so,st,rfl⟩:=h3;obtain⟨ao,co,rfl⟩:=so.isS;obtain⟨at_,ct,rfl⟩:=st.isS
   have q0:=h2.zero;have q1:=h2 1 _ rfl;have q2:=h2 2 _ rfl;have q3:=h2 3 _ rfl;have q4:=h2 4 _ rfl;have q5:=h2 5 _ rfl;have q6:=h2 6 _ rfl;have l7:b1<wr.heap.size:=lk (w:=wr) (a:=⟨b1,o1,none⟩) q0;have HN:Hid (Below wr wr (wr.alloc (.cells #[c.kind,c.doc,c.client,c.seq,c.n,.slice ao c.o.length co,.slice at_ c.text.length ct] 33))):=hH ((lf _ _).alloc (lr _) _)
   have U:Hid (Bx (wr.alloc (.cells #[c.kind,c.doc,c.client,c.seq,c.n,.slice ao c.o.length co,.slice at_ c.text.length ct] 33)) wr [c.kind,c.doc,c.client,c.seq,c.n,.slice ao c.o.length co,.slice at_ c.text.length ct]):=hH (Bx.new sm)
   have HFF:Hid (∀p∈f1++f2,w<=p.1/\p.1<V2):=hH fun p hp=>⟨hfL p (hff p hp),hlL p (hff p hp)⟩
   have a3:=hH (so.belowW HN.out);have a4:=hH (st.belowW HN.out);have N:=hH (HRU.out.below HN.out);have I:=hH (a0.out.trans (HN.out.mono sr));have hcl:=List.mem_of_getElem? hc;clear h2 so st hfL hlL hff sL hc HRU a0;go_upto_region 7 with(fail)
   obtain⟨W4,a5⟩:∃W4,wr.alloc (.cells #[c.kind,c.doc,c.client,c.seq,c.n,.slice ao c.o.length co,.slice at_ c.text.length ct] 33)=W4:=⟨_,rfl⟩
   obtain⟨b8,a6⟩:∃b8,wr.heap.size=b8:=⟨_,rfl⟩;have sW:b8+1<=W4.heap.size:=by rw[<-a5,<-a6];simp
   rw[a5]at U a3 a4 N I;rw[a6]at U sr;(try rw[a5])
   (try rw[a6])
   clear a5 a6 HN q0 q1 q2 q3 q4 q5 q6;obtain⟨z8,m0,m1,m2,m3,m4,m5,m6⟩:=U.out.o7;go_wp2_with fail
   refine(xaC c _ _ _ ⟨_,a3.out⟩ ⟨_,a4.out⟩).mono ?_;rintro e' w5 ⟨rfl,j⟩;have HX8':=hH (U.out.at j);have HSO':=hH (a3.out.belowW j);have HST':=hH (a4.out.belowW j);have Q:=hH (N.out.below j);have J:=hH (I.out.trans (j.mono om));have s5:=j.size;clear j U a3 a4 N I m0 m1 m2 m3 m4 m5 m6 z8;obtain⟨z8,m0,m1,m2,m3,m4,m5,m6⟩:=HX8'.out.o7;cases hok:xac c
   ·go_wp2;go_roundw
    case rel=>exact⟨_,Z,k+1,rfl,by first|go_num|(congr 1;omega),by omega,by omega,a1.out,Q.out,J.out⟩
    case measure=>simp[intOf];omega
   ·go_upto_region 8 with(fail)
    obtain⟨fs,hrow,hfs⟩:=Q.out;have B:=hH hrow;have HFS:=hH hfs;have HSR:=hH (Zac (w:=w5) (c:=[c.kind,c.doc,c.client,c.seq,c.n,.slice ao c.o.length co,.slice at_ c.text.length ct]) (x:=c) (f:=f1++f2) 33 ⟨_,_,f1,f2,rfl,hcd,HSO'.out,HST'.out,rfl⟩)
    clear hrow hfs;go_wp2_with (at_builtin;go_must (refine qaa rfl _ _ 28 rfl Tryz.underlying28 hi hz0 hz1 hz2 rfl rfl rfl (B.out.below ((lf _ _).alloc (lr _) _)) HSR.out (fun q hq hm=>by have:=B.out.2.1.ge q hm;have:=HFF.out q hq;omega) ?c1 ?c2 ?c3 ?_))
    case c1=>exact Xab (by simp;omega)
    case c2=>simp;omega
    case c3=>simp;omega
    intro v4 w4 hr4 hw4 hn4;have HRW:Hid (Xa2 V2 w w4 v4 (Z++[c])):=hH ⟨_,hr4,fun p hp=>(lm.1 hp).elim (HFS.out p) fun h=>(HFF.out p h).1⟩
    have HBR6:Hid (Below V2 V2 w4):=hH ((J.out.alloc om _).trans (hw4.below (by simp;omega) fun p hp=>B.out.2.1.ge p hp))
    have HOK:Hid (∀x∈Z++[c],xac x=true):=hH fun x hx=>(lm.1 hx).elim (a1.out x) fun h=>(List.mem_singleton.1 h)▸hok
    clear hr4 hw4 hn4 B HFS HSR a1 Q J HX8' HSO' HST' HFF;go_wp2;go_roundw
    case rel=>exact⟨_,Z++[c],k+1,rfl,by first|go_num|(congr 1;omega),by omega,by simp;omega,HOK.out,HRW.out,HBR6.out⟩
    case measure=>simp[intOf];omega
  ·obtain rfl:k=l.length:=om;go_wp2;go_ret;exact⟨_,Z,rfl,HRU.out.rdG om,a1.out,HBW.out.trans (a0.out.mono om)⟩
