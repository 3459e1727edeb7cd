/- A drawn call. -/
import Derived.Test.YtbonkabfmlajnaaGreatQrbv
set_option maxHeartbeats 16000000
set_option maxRecDepth 100000
namespace Go.Proofs.YtbonkabfmlajnaaGreat
open Go.RowKit
def Jbh (w0:World)(bc:Nat)(vb:Value)(bs:List zah)(w:World)(e:Ending)(w':World):Prop:=∃(c:Jag) (vo vt:Value),e= .returned (.agg #[c.kind,c.doc,c.client,c.seq,c.n,vo,vt])/\kac w0 bc vb bs w w'/\c.doc.size<=BIG/\RdG w w' vo c.o/\RdG w w' vt c.text
theorem RdG.blk {α:Type}[GoT α]{B:Nat}{w n:World}{v:Value}{l:List α}(h:RdG B w v l)(q:∀k,B<=k->k<w.heap.size->n.heap[k]? =w.heap[k]?):RdG B n v l:=
 let⟨f,s,k⟩:=h
 ⟨f,s.keep fun p j=>by have:=Live.lt s.live p j;simp only[World.cell?];rw[q p.1 (k p j) this],k⟩
theorem RdG.below {α:Type}[GoT α]{B:Nat}{w j:World}{v:Value}{l:List α}(h:RdG B w v l)(hb:Below w w j):RdG B j v l:=h.blk fun k _ n=>hb.block k n
theorem RdG.wr {α:Type}[GoT α]{B:Nat}{w j:World}{v:Value}{l:List α}{f:List Pos}(h:RdG B w v l)(z:Wr f w j)(n:∀p∈f,p.1<B):RdG B j v l:=h.blk fun k D q=>z.block k q fun p u e=>by have:=n p u;omega
theorem RdG.nil {α:Type}[GoT α]{B:Nat}{w:World}:RdG B w (.slice none 0 0) ([]:List α):=⟨[],Sl.nil,fun _ h=>by cases h⟩
theorem ybe {w0 a w:World}{bc b B:Nat}{vb R U:Value}{bs:List zah}(c:Jag)(Q:kac w0 bc vb bs a w)(Y:bc<a.heap.size)(hb:a.heap.size<=b)(hB:b<B)(Z:c.doc.size<=BIG)(ho:RdG B w R c.o)(ht:RdG B w U c.text){u z D I J M N:Value}:
 kac w0 bc vb bs a (((((((w.setCell ⟨b,0,none⟩ u).setCell ⟨b,1,none⟩ z).setCell ⟨b,2,none⟩ D).setCell ⟨b,3,none⟩ I).setCell ⟨b,4,none⟩ J).setCell ⟨b,5,none⟩ M).setCell ⟨b,6,none⟩ N)/\c.doc.size<=BIG/\RdG a (((((((w.setCell ⟨b,0,none⟩ u).setCell ⟨b,1,none⟩ z).setCell ⟨b,2,none⟩ D).setCell ⟨b,3,none⟩ I).setCell ⟨b,4,none⟩ J).setCell ⟨b,5,none⟩ M).setCell ⟨b,6,none⟩ N) R c.o/\RdG a (((((((w.setCell ⟨b,0,none⟩ u).setCell ⟨b,1,none⟩ z).setCell ⟨b,2,none⟩ D).setCell ⟨b,3,none⟩ I).setCell ⟨b,4,none⟩ J).setCell ⟨b,5,none⟩ M).setCell ⟨b,6,none⟩ N) U c.text:=by
 have q:Wr [(b,0),(b,1),(b,2),(b,3),(b,4),(b,5),(b,6)] w (((((((w.setCell ⟨b,0,none⟩ u).setCell ⟨b,1,none⟩ z).setCell ⟨b,2,none⟩ D).setCell ⟨b,3,none⟩ I).setCell ⟨b,4,none⟩ J).setCell ⟨b,5,none⟩ M).setCell ⟨b,6,none⟩ N):=(((((((Wr.refl _ w).put (b:=b) (o:=0) sm _).put (b:=b) (o:=1) sm _).put (b:=b) (o:=2) sm _).put (b:=b) (o:=3) sm _).put (b:=b) (o:=4) sm _).put (b:=b) (o:=5) sm _).put (b:=b) (o:=6) sm _;have n:∀p∈[(b,0),(b,1),(b,2),(b,3),(b,4),(b,5),(b,6)],p.1=b:=fun p j=>by simp only[List.mem_cons,List.not_mem_nil,or_false]at j;rcases j with rfl|rfl|rfl|rfl|rfl|rfl|rfl<;>rfl
 have lo:=Q.1.o;exact⟨⟨Q.1.wr q fun p j=>by have:=n p j;omega,uaw Q.2 q fun p j=>by have:=n p j;omega⟩,Z,(ho.wr q fun p j=>by have:=n p j;omega).mono om,(ht.wr q fun p j=>by have:=n p j;omega).mono om⟩
structure zbe (w0:World)(bc:Nat)(vb:Value)(bs:List zah)(W:World)(b4 b7:Nat)(d:Xac)(vt vl vz:Value)(wr:World):Prop where
 cu:kac w0 bc vb bs W wr
 lc:bc<W.heap.size
 l4:W.heap.size<=b4
 l7:b4<b7
 x4:Bx wr b4 [zI,.string ⟨#[]⟩,zI,zI,zI,zN,zN]
 x7:Bx wr b7 [d.name,d.from_,vt,vl,vz]
 d3:D3 bc wr d vt vl vz
 db:DrB d
 sb:∀client,0<=(uab d client).1.seq/\(uab d client).1.seq<=1000000000
section
variable {w0 W wr w':World} {bc b4 b7:Nat} {vb vt vl vz:Value} {bs:List zah} {d:Xac}
theorem zbe.draw (h:zbe w0 bc vb bs W b4 b7 d vt vl vz wr)(j:kac w0 bc vb bs wr w'):zbe w0 bc vb bs W b4 b7 d vt vl vz w':=
 have n:=h.lc;have p:=h.l4;have q:=h.l7
 ⟨h.cu.trans j,n,p,q,h.x4.wr j.2 (Jau om),h.x7.wr j.2 (Jau om),h.d3.draw j,h.db,h.sb⟩
theorem zbe.below (h:zbe w0 bc vb bs W b4 b7 d vt vl vz wr)(hb:Below wr wr w'):zbe w0 bc vb bs W b4 b7 d vt vl vz w':=
 ⟨h.cu.below_ hb,h.lc,h.l4,h.l7,h.x4.at hb,h.x7.at hb,h.d3.below hb,h.db,h.sb⟩
theorem zbe.fin (h:zbe w0 bc vb bs W b4 b7 d vt vl vz wr){D vs:Value}{j n p q u z B:Value}(c:Jag)(I:c.doc.size<=BIG)(J:RdG (b4+1) wr D c.o)(M:RdG (b4+1) wr vs c.text):
 kac w0 bc vb bs W (((((((wr.setCell ⟨b4,0,none⟩ j).setCell ⟨b4,1,none⟩ n).setCell ⟨b4,2,none⟩ p).setCell ⟨b4,3,none⟩ q).setCell ⟨b4,4,none⟩ u).setCell ⟨b4,5,none⟩ z).setCell ⟨b4,6,none⟩ B)/\c.doc.size<=BIG/\RdG W (((((((wr.setCell ⟨b4,0,none⟩ j).setCell ⟨b4,1,none⟩ n).setCell ⟨b4,2,none⟩ p).setCell ⟨b4,3,none⟩ q).setCell ⟨b4,4,none⟩ u).setCell ⟨b4,5,none⟩ z).setCell ⟨b4,6,none⟩ B) D c.o/\RdG W (((((((wr.setCell ⟨b4,0,none⟩ j).setCell ⟨b4,1,none⟩ n).setCell ⟨b4,2,none⟩ p).setCell ⟨b4,3,none⟩ q).setCell ⟨b4,4,none⟩ u).setCell ⟨b4,5,none⟩ z).setCell ⟨b4,6,none⟩ B) vs c.text:=ybe c h.cu h.lc h.l4 (ls _) I J M
end
theorem JaO (w0:World)(bc:Nat)(vb:Value)(bs:List zah)(z:qae)(vd vs:Value)(w:World)(hc:Cu w0 bc vb bs w)(hz:Qac z=true)(hh:DH (· ≠bc) w z vd vs):
 Calls Tryz.prog 57 #[.pointer (some ⟨bc,0,none⟩),.agg #[z.shut,vd,vs,z.last]] w (Jbh w0 bc vb bs w):=by
 obtain⟨ad,cd,rfl⟩:=hh.d.isSlice;obtain⟨as_,cs,rfl⟩:=hh.s.isSlice;have hbl:=hc.lt;have hls:=fun w1 ty=>hh.d.len Tryz.underlying23 w1 ty
 go_enter Tryz.func57,Tryz.ntmps57
 go_upto_region 1 with(fail)
 obtain⟨V,hV⟩:∃V,(w.alloc (.cells #[z.shut,.slice ad z.docs.length cd,.slice as_ z.subs.length cs,z.last] 26)).alloc (.cells #[zI,.string ⟨#[]⟩,zI,zI,zI,zN,zN] 33)=V:=⟨_,rfl⟩;have hwb:Below w w V:=by rw[<-hV];exact((lf _ _).alloc (lr _) _).alloc om _
 have sV:w+2<=V.heap.size:=by rw[<-hV];simp
 have I:Hid (Bx V w [z.shut,.slice ad z.docs.length cd,.slice as_ z.subs.length cs,z.last]):=hH (by rw[<-hV];exact(Bx.new rfl).alloc _)
 have J:Hid (Bx V (w+1) [zI,.string ⟨#[]⟩,zI,zI,zI,zN,zN]):=hH (by rw[<-hV];exact Bx.new sm)
 have M:=hH (hh.lt.below hwb);have B:Hid (kac w0 bc vb bs w V):=hH ⟨hc.below hwb,Wr.of_below hwb⟩;(try rw[hV])
 have nP:¬(bc≠bc/\bc<w.heap.size):=fun h=>h.1 rfl
 clear hV hwb hc hh;go_wp2_with fail
 refine(jap w0 bc vb bs _ B.out.1).mono ?_;rintro Y w1 ⟨Q,rfl,hn,hn8,hc1⟩;have hnb:Q.size<=BIG:=Xab om;replace B:=hH (B.out.trans hc1);replace I:=hH (I.out.wr hc1.2 (Jau om));replace J:=hH (J.out.wr hc1.2 (Jau om));replace M:=hH (M.out.draw hc1 nP);clear hc1 hn hn8;have hqk:=vad.1 hz;have hDR:∀d∈z.docs,Qad d=true:=fun d hd=>hqk.doc hd
 clear hqk;obtain⟨z3,k0,k1,k2,k3⟩:=I.out.o4;have sw1:w+2<=w1.heap.size:=by have:=J.out.lt;omega
 go_upto_region 2 with(fail)
 go_cut [23]from 15 to 22 (fun v wx=>∃b:Bool,v= .bool b/\(b=true->0<z.docs.length)/\kac w0 bc vb bs w1 wx)
 case first=>
  by_cases h0:z.docs.length=0
  ·have h0b:¬(0:Int)<(z.docs.length:Int):=om;clear h0;go_wp2_with fail
   go_meet
   exact⟨_,rfl,(fun h=>by cases h),B.out.1,Wr.refl _ _⟩
  ·have h0b:(0:Int)<(z.docs.length:Int):=om;go_wp2_with fail
   refine(jah w0 bc vb bs 6 _ B.out.1).mono ?_;rintro Y w2 ⟨b,rfl,hc2⟩;go_wp2_with fail
   go_meet
   exact⟨_,rfl,fun _=>by omega,hc2⟩
 case rest=>
  obtain⟨b,rfl,hbl0,D⟩:=hcut;obtain⟨V1,hV1⟩:∃V1,V1=wc:=⟨_,rfl⟩;subst hV1;replace B:=hH (B.out.trans D);replace I:=hH (I.out.wr D.2 (Jau om));replace J:=hH (J.out.wr D.2 (Jau om));replace M:=hH (M.out.draw D nP);have sw2:w+2<=V1.heap.size:=by have:=J.out.lt;omega
  clear D k0 k1 k2 k3 z3;obtain⟨z3,k0,k1,k2,k3⟩:=I.out.o4;go_upto_if 23 with(fail)
  go_cut [5]from 24 to 33 (fun v wx=>∃Q:ByteArray,v= .string Q/\Q.size<=BIG/\kac w0 bc vb bs V1 wx)
  case first=>
   cases b
   ·go_wp2_with fail
    go_meet
    exact⟨_,rfl,hnb,B.out.1,Wr.refl _ _⟩
   ·have h0:=hbl0 rfl;have h0b:(0:Int)<(z.docs.length:Int):=om;have n1:¬(bc=w.heap.size):=om;have HC3:Hid (kac w0 bc vb bs V1 V1):=hH ⟨B.out.1,Wr.refl _ _⟩;go_upto_region 3 with(fail)
    go_region_held3 (fun w'=>w'.cell? ⟨w.heap.size,0,none⟩=some (.bool z.shut)/\w'.cell? ⟨w.heap.size,1,none⟩=some (.slice ad z.docs.length cd)/\w'.cell? ⟨w.heap.size,2,none⟩=some (.slice as_ z.subs.length cs)/\w'.cell? ⟨w.heap.size,3,none⟩=some (.int .i64 z.last)/\∀b o,b<V1.heap.size->b≠bc->w'.cell? ⟨b,o,none⟩=V1.cell? ⟨b,o,none⟩) ((refine⟨?_,?_,?_,?_,?_⟩;(iterate 4 focus (first|(go_keep;done)|(simp[xaa, *];done)));(with_reducible exact(kac.below_ HC3.out blw).cell))) ((first|(go_at_call 55;refine(xab w0 bc vb bs (z.docs.length:Int) _ (B.out.below_ blw).1).mono ?_;rintro Y yb ⟨kx,rfl,hxb,hcb⟩;obtain⟨xb0,xb1⟩:=hxb.1 om;obtain⟨k,rfl⟩:∃k:Nat,kx=k:=⟨kx.toNat,by omega⟩;have HC4:Hid (kac w0 bc vb bs V1 yb):=hH ((HC3.out.below_ blw).trans hcb);obtain⟨z3,k0,k1,k2,k3⟩:=(I.out.wr HC4.out.2 (Jau om)).o4;clear HC3;have HC3:=HC4;obtain⟨d,hd⟩:=Jaa (l:=z.docs) (k:=k) om;have hdn:=(DrB.of (hDR d (List.mem_of_getElem? hd))).name;obtain⟨b1,o1,vt,vl,vz,g1,gl,gP,Z,h3⟩:=M.out.doc Tryz.underlying23 uag hd;have gn:=gP.1;have q0:=Z.zero;clear hd Z h3 hcb hxb gP)))
    all_goals
     go_wp2_with fail
     go_meet
     exact⟨_,rfl,hdn,HC3.out.below_ blw⟩
  case rest=>
   obtain⟨Q,rfl,hnb,D⟩:=hcut;obtain⟨V2,hV2⟩:∃V2,V2=wc:=⟨_,rfl⟩;subst hV2;replace B:=hH (B.out.trans D);replace I:=hH (I.out.wr D.2 (Jau om));replace J:=hH (J.out.wr D.2 (Jau om));replace M:=hH (M.out.draw D nP);clear D k0 k1 k2 k3 z3;obtain⟨z3,k0,k1,k2,k3⟩:=I.out.o4;go_wp2_with fail
   refine(vaj z _ (.slice as_ z.subs.length cs) Q _ M.out.d).mono ?_;rintro Y w2 ⟨rfl,hb2⟩;replace B:=hH (B.out.below_ hb2);replace I:=hH (I.out.at hb2);replace J:=hH (J.out.at hb2);replace M:=hH (M.out.below hb2);clear hb2 k0 k1 k2 k3 z3;obtain⟨z3,k0,k1,k2,k3⟩:=I.out.o4;have s2:=J.out.lt;obtain⟨hd0,hd1⟩:=Jav (fun d=>decide (d.name=Q)) z.docs
   rw[show firstIdx (fun d=>decide (d.name=Q)) z.docs=zad z Q from rfl]at hd0 hd1
   obtain⟨kx,hkx⟩:∃kx,zad z Q=kx:=⟨_,rfl⟩;rw[hkx]at hd0 hd1;rw[hkx];clear hkx;have HN7:Hid (Below w2 w2 (w2.alloc (.cells #[.string ⟨#[]⟩,zI,zN,zN,zN] 67))):=hH ((lf _ _).alloc (lr _) _);have HX7:Hid (Bx (w2.alloc (.cells #[.string ⟨#[]⟩,zI,zN,zN,zN] 67)) w2 [.string ⟨#[]⟩,zI,zN,zN,zN]):=hH (Bx.new sm);go_upto_if 39 with(fail)
   go_cut [7]from 40 to 44 (fun v wx=>∃(d:Xac) (vt vl vz:Value),v= .pointer (some ⟨w2,0,none⟩)/\zbe w0 bc vb bs w (w+1) w2 d vt vl vz wx)
   case first=>
    by_cases hk:0<=kx
    ·obtain⟨k,rfl⟩:∃k:Nat,kx=k:=⟨kx.toNat,by omega⟩
     obtain⟨d,hd⟩:=Jaa (l:=z.docs) (k:=k) om;have hdk:=hDR d (List.mem_of_getElem? hd);have a1:=DrB.of hdk;obtain⟨b1,o1,vt,vl,vz,g1,gl,_,Z,h3⟩:=M.out.doc Tryz.underlying23 uag hd;have n12:¬(b1=w2.heap.size):=om;have h3d:=h3.d3 (bc:=bc) (fun k hk=>hk.1)
     obtain⟨at_,ct,rfl⟩:=h3d.t.isSlice
     obtain⟨al,cl,rfl⟩:=h3d.l.isSlice;obtain⟨az,cz,rfl⟩:=h3d.s.isSlice;have q0:=Z.zero;have q1:=Z 1 _ rfl;have q2:=Z 2 _ rfl;have q3:=Z 3 _ rfl;have q4:=Z 4 _ rfl;clear Z hd;go_wp2_with fail
     go_meet
     exact⟨d,_,_,_,rfl,B.out.below_ ((lf _ _).alloc (lr _) _),hbl,by omega,by omega,J.out.at ((lf _ _).alloc (lr _) _),Bx.new sm,h3d.below ((lf _ _).alloc (lr _) _),a1,fun client=>⟨(Qau hdk client).1,(Qau hdk client).2.1⟩⟩
    ·go_wp2_with fail
     go_meet
     exact⟨⟨⟨#[]⟩,0,[],[],[]⟩,_,_,_,rfl,B.out.below_ HN7.out,hbl,by omega,by omega,J.out.at HN7.out,HX7.out,⟨[],[],[],Sl.nil,Sl.nil,Sl.nil,fun _ h=>by cases h⟩,⟨by decide,by decide,by decide,by decide⟩,fun client=>by unfold uab;simp⟩
   case rest=>
    obtain⟨d,vt,vl,vz,rfl,R⟩:=hcut;obtain⟨V3,hV3⟩:∃V3,V3=wc:=⟨_,rfl⟩;subst hV3;obtain⟨b7,hb7⟩:∃b7,w2.heap.size=b7:=⟨_,rfl⟩;obtain⟨b4,hb4⟩:∃b4,w.heap.size+1=b4:=⟨_,rfl⟩;rw[hb7,hb4]at R;rw[hb7];try rw[hb4]
    obtain⟨at_,ct,rfl⟩:=R.d3.t.isSlice
    obtain⟨al,cl,rfl⟩:=R.d3.l.isSlice;obtain⟨az,cz,rfl⟩:=R.d3.s.isSlice;have a1:=R.db;have hsb:=R.sb;have df0:=a1.f0;have df1:=a1.f1;have dl8:=a1.len;have l4:=R.l4;have l7:=R.l7;have H:=hH R;clear R HN7 HX7 I J M B k0 k1 k2 k3 z3 hd0 hd1;go_wp2_with fail
    refine(xab w0 bc vb bs 14 _ H.out.cu.1).mono ?_;rintro Y y8 ⟨x,rfl,hx,hc8⟩;obtain⟨x0,x1⟩:=hx.1 (by decide)
    replace H:=hH (H.out.draw hc8);clear hx hc8;go_upto_block 0 with fail
    go_cut [5]from 47 to 92 (fun v wx=>v= .string Q/\kac w0 bc vb bs y8 wx)
    case first=>
     have HJ:=H;rcases(show x=0\/x=1\/x=2\/x=3\/(x=4\/x=5)\/x=6\/7<=x by omega)with rfl|rfl|rfl|rfl|h45|rfl|h7
     ·go_wp2_with fail
      refine(jap w0 bc vb bs _ H.out.cu.1).mono ?_;rintro Y y9 ⟨nm2,rfl,_,hn8,p⟩;replace H:=hH (H.out.draw p);clear p;have hnb2:nm2.size<=BIG:=Xab om;have lz:=H.out.x7.lt;go_wp2_with fail
      refine(xal w0 bc vb bs 4 _ H.out.cu.1 om).mono ?_;rintro Y y10 ⟨vt,t,rfl,ht,htl,hts,a0⟩;replace H:=hH (H.out.draw a0);clear a0;obtain⟨aq,cq,rfl⟩:=ht.rd.isSlice;have HT:=hH (ht.rdG.mono (C:=b4+1) om);clear ht;obtain⟨z4,m0,m1,m2,m3,m4,m5,m6,g0,g1,Z,g3,g4,g5,g6⟩:=H.out.x4.q7;go_wp2;exact bodyPost_ret (v:= .agg #[.int .i64 1,nm2,.int .i64 (0),.int .i64 (0),.int .i64 (0),zN,.slice aq t.length cq]) (by simp[results,Tryz.results57,go_sem,xaa, *]) rfl ⟨⟨1,nm2,0,0,0,[],t⟩,_,_,rfl,H.out.fin ⟨1,nm2,0,0,0,[],t⟩ hnb2 (RdG.nil) (HT.out)⟩
     ·obtain⟨z7,k0,k1,k2,k3,k4⟩:=H.out.x7.o5;go_wp2_with fail
      refine(xaA w0 bc vb bs d (.slice at_ d.text.length ct) (.slice al d.list.length cl) (.slice az d.seen.length cz) _ H.out.cu.1 a1 H.out.d3).mono ?_
      rintro Y y9 ⟨base,rfl,p⟩;replace H:=hH (H.out.draw p);clear p;clear z7 k0 k1 k2 k3 k4;obtain⟨z4,m0,m1,m2,m3,m4,m5,m6,g0,g1,Z,g3,g4,g5,g6⟩:=H.out.x4.q7;go_wp2;exact bodyPost_ret (v:= .agg #[.int .i64 3,Q,.int .i64 (0),.int .i64 (0),(base),zN,zN]) (by simp[results,Tryz.results57,go_sem,xaa, *]) rfl ⟨⟨3,Q,0,0,base,[],[]⟩,_,_,rfl,H.out.fin ⟨3,Q,0,0,base,[],[]⟩ hnb (RdG.nil) (RdG.nil)⟩
     ·obtain⟨z4,m0,m1,m2,m3,m4,m5,m6,g0,g1,Z,g3,g4,g5,g6⟩:=H.out.x4.q7;go_wp2;exact bodyPost_ret (v:= .agg #[.int .i64 4,Q,.int .i64 (0),.int .i64 (0),.int .i64 (0),zN,zN]) (by simp[results,Tryz.results57,go_sem,xaa, *]) rfl ⟨⟨4,Q,0,0,0,[],[]⟩,_,_,rfl,H.out.fin ⟨4,Q,0,0,0,[],[]⟩ hnb (RdG.nil) (RdG.nil)⟩
     ·go_wp2_with fail
      refine(xab w0 bc vb bs 3 _ H.out.cu.1).mono ?_;rintro Y y9 ⟨u,rfl,N,p⟩;replace H:=hH (H.out.draw p);clear p;obtain⟨u0,u1⟩:=N.1 (by decide)
      have eu:IntKind.i64.wrap (1+u)=1+u:=IntWalk.i64_in _ om;clear N;obtain⟨z4,m0,m1,m2,m3,m4,m5,m6,g0,g1,Z,g3,g4,g5,g6⟩:=H.out.x4.q7;go_wp2;exact bodyPost_ret (v:= .agg #[.int .i64 5,Q,.int .i64 (0),.int .i64 (0),.int .i64 (1+u),zN,zN]) (by simp[results,Tryz.results57,go_sem,xaa, *]) rfl ⟨⟨5,Q,0,0,1+u,[],[]⟩,_,_,rfl,H.out.fin ⟨5,Q,0,0,1+u,[],[]⟩ hnb (RdG.nil) (RdG.nil)⟩
     ·rcases h45 with rfl|rfl
      all_goals
       go_wp2_with fail
       refine(xab w0 bc vb bs 3 _ H.out.cu.1).mono ?_;rintro Y y9 ⟨u,rfl,N,p⟩;replace H:=hH (H.out.draw p);clear p;obtain⟨u0,u1⟩:=N.1 (by decide)
       have eu:IntKind.i64.wrap (1+u)=1+u:=IntWalk.i64_in _ om;clear N;go_wp2_with fail
       refine(xab w0 bc vb bs 3 _ H.out.cu.1).mono ?_;rintro Y y10 ⟨v,rfl,hxv,a0⟩;replace H:=hH (H.out.draw a0);clear a0;obtain⟨v0,v1⟩:=hxv.1 (by decide)
       have ev:IntKind.i64.wrap (1+v)=1+v:=IntWalk.i64_in _ om;clear hxv;obtain⟨z4,m0,m1,m2,m3,m4,m5,m6,g0,g1,Z,g3,g4,g5,g6⟩:=H.out.x4.q7;go_wp2;exact bodyPost_ret (v:= .agg #[.int .i64 6,.string ⟨#[]⟩,.int .i64 (1+u),.int .i64 (0),.int .i64 (1+v),zN,zN]) (by simp[results,Tryz.results57,go_sem,xaa, *]) rfl ⟨⟨6,⟨#[]⟩,1+u,0,1+v,[],[]⟩,_,_,rfl,H.out.fin ⟨6,⟨#[]⟩,1+u,0,1+v,[],[]⟩ (lz _) (RdG.nil) (RdG.nil)⟩
     ·go_wp2_with fail
      refine(xab w0 bc vb bs 3 _ H.out.cu.1).mono ?_;rintro Y y9 ⟨u,rfl,N,p⟩;replace H:=hH (H.out.draw p);clear p;obtain⟨u0,u1⟩:=N.1 (by decide)
      have eu:IntKind.i64.wrap (1+u)=1+u:=IntWalk.i64_in _ om;clear N;obtain⟨z4,m0,m1,m2,m3,m4,m5,m6,g0,g1,Z,g3,g4,g5,g6⟩:=H.out.x4.q7;go_wp2;exact bodyPost_ret (v:= .agg #[.int .i64 7,.string ⟨#[]⟩,.int .i64 (1+u),.int .i64 (0),.int .i64 (0),zN,zN]) (by simp[results,Tryz.results57,go_sem,xaa, *]) rfl ⟨⟨7,⟨#[]⟩,1+u,0,0,[],[]⟩,_,_,rfl,H.out.fin ⟨7,⟨#[]⟩,1+u,0,0,[],[]⟩ (lz _) (RdG.nil) (RdG.nil)⟩
     ·have hn:∀j:Int,j<7->(x==j)=false:=fun j hj=>by simp;omega
      have n0:=hn 0 (by decide)
      have n1:=hn 1 (by decide)
      have n2:=hn 2 (by decide)
      have n3:=hn 3 (by decide)
      have n4:=hn 4 (by decide)
      have n5:=hn 5 (by decide)
      have n6:=hn 6 (by decide)
      clear hn;by_cases h8:x=7
      ·have n7:(x==7)=true:=by simp[h8]
       clear h7 h8;go_wp2_with fail
       refine(jah w0 bc vb bs 4 _ H.out.cu.1).mono ?_;rintro Y y9 ⟨b,rfl,p⟩;have HC8:=hH p;replace H:=hH (H.out.draw p);clear p;cases b
       ·go_wp2_with fail
        go_meet
        exact⟨rfl,HC8.out⟩
       ·obtain⟨z4,m0,m1,m2,m3,m4,m5,m6,g0,g1,Z,g3,g4,g5,g6⟩:=H.out.x4.q7;go_wp2;exact bodyPost_ret (v:= .agg #[.int .i64 8,.string ⟨#[]⟩,.int .i64 (0),.int .i64 (0),.int .i64 (0),zN,zN]) (by simp[results,Tryz.results57,go_sem,xaa, *]) rfl ⟨⟨8,⟨#[]⟩,0,0,0,[],[]⟩,_,_,rfl,H.out.fin ⟨8,⟨#[]⟩,0,0,0,[],[]⟩ (lz _) (RdG.nil) (RdG.nil)⟩
      ·have n7:(x==7)=false:=by simpa using h8
       clear h7 h8;go_wp2_with fail
       go_meet
       exact⟨rfl,H.out.cu.1,Wr.refl _ _⟩
    case rest=>
     obtain⟨rfl,D⟩:=hcut;obtain⟨V4,hV4⟩:∃V4,V4=wc:=⟨_,rfl⟩;subst hV4;replace H:=hH (H.out.draw D);clear D;have SB:Hid (∀client,0<=(uab d client).1.seq/\(uab d client).1.seq<=1000000000):=hH hsb;go_wp2_with fail
     refine(xab w0 bc vb bs 3 _ H.out.cu.1).mono ?_;rintro Y y9 ⟨u,rfl,N,p⟩;replace H:=hH (H.out.draw p);clear p;obtain⟨u0,u1⟩:=N.1 (by decide)
     have eu:IntKind.i64.wrap (1+u)=1+u:=IntWalk.i64_in _ om;clear N;obtain⟨z7,k0,k1,k2,k3,k4⟩:=H.out.x7.o5;go_wp2_with fail
     refine(Zav d (.slice at_ d.text.length ct) (.slice al d.list.length cl) (.slice az d.seen.length cz) (1+u) _ H.out.d3.s).mono ?_
     rintro Y y10 ⟨rfl,hb10⟩;obtain⟨q,hq'⟩:∃q,(uab d (1+u)).1=q:=⟨_,rfl⟩;obtain⟨sq0,sq1⟩:=SB.out (1+u);rw[hq']at sq0 sq1;rw[hq'];have e5:IntKind.i64.wrap (q.seq+1)=q.seq+1:=IntWalk.i64_in _ om;replace H:=hH (H.out.below hb10);have hb11:Below y10 y10 (y10.alloc (.cells #[q.client,q.seq,q.rev] 119)):=(lf _ _).alloc (lr _) _;replace H:=hH (H.out.below hb11);clear SB hq' hb10 hb11 z7 k0 k1 k2 k3 k4;go_upto_region 28 with(fail)
     obtain⟨U,hU⟩:∃U,y10.alloc (.cells #[q.client,q.seq,q.rev] 119)=U:=⟨_,rfl⟩;rw[hU]at H;(try rw[hU])
     clear hU;go_wp2_with fail
     refine(jah w0 bc vb bs 8 _ H.out.cu.1).mono ?_;rintro Y y12 ⟨b,rfl,hc12⟩;replace H:=hH (H.out.draw hc12);clear hc12;go_upto_if 106 with(fail)
     go_cut [11]from 107 to 109 (fun v wx=>∃n:Int,v= .int .i64 n/\kac w0 bc vb bs y12 wx)
     case first=>
      cases b
      ·go_wp2_with fail
       go_meet
       exact⟨_,rfl,H.out.cu.1,Wr.refl _ _⟩
      ·go_wp2_with fail
       refine(xab w0 bc vb bs 2 _ H.out.cu.1).mono ?_;rintro Y y13 ⟨v,rfl,hxv,hc13⟩;obtain⟨v0,v1⟩:=hxv.1 (by decide)
       have ev:IntKind.i64.wrap (1+v)=1+v:=IntWalk.i64_in _ om;clear hxv;go_wp2_with fail
       go_meet
       exact⟨_,rfl,hc13⟩
     case rest=>
      obtain⟨seq,rfl,D⟩:=hcut;obtain⟨V5,hV5⟩:∃V5,V5=wc:=⟨_,rfl⟩;subst hV5;replace H:=hH (H.out.draw D);clear D e5 sq0 sq1;obtain⟨z7,k0,k1,k2,k3,k4⟩:=H.out.x7.o5;go_wp2_with fail
      refine(xaA w0 bc vb bs d (.slice at_ d.text.length ct) (.slice al d.list.length cl) (.slice az d.seen.length cz) _ H.out.cu.1 a1 H.out.d3).mono ?_
      rintro Y y14 ⟨base,rfl,hc14⟩;replace H:=hH (H.out.draw hc14);clear hc14;clear z7 k0 k1 k2 k3 k4;obtain⟨z7,k0,k1,k2,k3,k4⟩:=H.out.x7.o5;have lz:=H.out.x7.lt;go_wp2_with fail
      refine(yaG w0 bc vb bs d (.slice at_ d.text.length ct) (.slice al d.list.length cl) (.slice az d.seen.length cz) base _ H.out.cu.1 a1 H.out.d3).mono ?_
      rintro Y y15 ⟨vo,o,rfl,ho,hc15⟩;replace H:=hH (H.out.draw hc15);clear hc15;obtain⟨aq,cq,rfl⟩:=ho.rd.isSlice;have HO:=hH (ho.mono (C:=b4+1) om);clear ho z7 k0 k1 k2 k3 k4;obtain⟨z4,m0,m1,m2,m3,m4,m5,m6,g0,g1,Z,g3,g4,g5,g6⟩:=H.out.x4.q7;go_wp2;exact bodyPost_ret (v:= .agg #[.int .i64 2,Q,.int .i64 (1+u),(seq),(base),.slice aq o.length cq,zN]) (by simp[results,Tryz.results57,go_sem,xaa, *]) rfl ⟨⟨2,Q,1+u,seq,base,o,[]⟩,_,_,rfl,H.out.fin ⟨2,Q,1+u,seq,base,o,[]⟩ hnb (HO.out) (RdG.nil)⟩
