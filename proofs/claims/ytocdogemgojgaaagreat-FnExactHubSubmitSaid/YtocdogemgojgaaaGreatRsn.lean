/- The program's cursor: the next part. -/
import Derived.Test.YtocdogemgojgaaaGreatCst
import Derived.Test.YtocdogemgojgaaaGreatTls
import Derived.Test.YtocdogemgojgaaaGreatPr
import Derived.Deep.LoopGhost
set_option maxHeartbeats 4000000
set_option maxRecDepth 100000
namespace Go.Proofs.YtocdogemgojgaaaGreat
open Go.RowKit
theorem Sl.tail {P:Program}{T E:TypeId}(I:P.underlying T=some (.slice E))(J:∀j,(sizeOf E).run P j= .ok 3 j){w:World}{v:Value}{p:DPart}{l:List DPart}{f:List Pos}(h:Sl BIG w v (p::l) f):
 ∃z n,(∀j,(Instr.sliceAt T v (some (.int .i64 1)) none none).run P j= .ok z j)/\Sl BIG w z l n/\∀q∈n,q∈f:=by
 have u:1<=(p::l).length:=by simp
 obtain⟨n,B,D,_⟩:=h.cut (lo:=1) (hi:=(p::l).length) (m:=capV v) u (lr _) h.cap (lr _);refine⟨_,n,fun j=>h.run_l I J (lo:=1) u j,?_,D⟩
 simpa using B
theorem nsz_bd {p:DPart}(h:partOk p=true):0<=p.n/\p.n<=1000000/\p.signs.length<=1000000:=by
 rcases partOk_cases h with⟨k,q,u,j⟩|⟨k,q,u,j⟩|⟨k,q,u,j⟩
 ·rw[j];simp;omega
 ·omega
 ·rw[j];simp;omega
theorem Wr.tr_below {fp:List Pos}{a b c:World}(h:Wr fp a b)(k:Below a.heap.size b c):Wr fp a c:=
 ⟨k.os.trans h.os,k.tape.trans h.tape,k.output.trans h.output,Nat.le_trans h.size k.size,fun p j n=>(k.cell (p:=⟨p.1,p.2,none⟩) j).trans (h.cell p j n),fun p j=>(k.frozen (p:=⟨p.1,p.2,none⟩) j).trans (h.frozen p j),fun q u n=>(k.block q u).trans (h.block q u n)⟩
theorem next_end {w W wr:World}{b:Nat}{q:Value}{l:List DPart}{u:List Pos}(x y z:Value)(n:Below w.heap.size w W)(hb:b<w.heap.size)(N:Bx wr b [q])(J:Sl BIG wr q l u)(D:∀p∈u,p.1<w.heap.size)(M:Wr [(b,0)] W wr):
 Bx (((wr.setCell ⟨w.heap.size,0,none⟩ x).setCell ⟨w.heap.size,1,none⟩ y).setCell ⟨w.heap.size,2,none⟩ z) b [q]/\Sl BIG (((wr.setCell ⟨w.heap.size,0,none⟩ x).setCell ⟨w.heap.size,1,none⟩ y).setCell ⟨w.heap.size,2,none⟩ z) q l u/\Wr [(b,0)] w (((wr.setCell ⟨w.heap.size,0,none⟩ x).setCell ⟨w.heap.size,1,none⟩ y).setCell ⟨w.heap.size,2,none⟩ z)/\
 (Below W.heap.size W wr->Below w.heap.size w (((wr.setCell ⟨w.heap.size,0,none⟩ x).setCell ⟨w.heap.size,1,none⟩ y).setCell ⟨w.heap.size,2,none⟩ z))/\∀{B:Value} {t:List Int} {g:List Pos},Sl BIG wr B t g->(∀p∈g,p.1<w.heap.size)->RdS (((wr.setCell ⟨w.heap.size,0,none⟩ x).setCell ⟨w.heap.size,1,none⟩ y).setCell ⟨w.heap.size,2,none⟩ z) B t:=by
 have j:Below w.heap.size wr (((wr.setCell ⟨w.heap.size,0,none⟩ x).setCell ⟨w.heap.size,1,none⟩ y).setCell ⟨w.heap.size,2,none⟩ z):=(((lf _ _).setCell (p:=⟨w.heap.size,0,none⟩) (lr _) _).setCell (p:=⟨w.heap.size,1,none⟩) (lr _) _).setCell (p:=⟨w.heap.size,2,none⟩) (lr _) _;exact⟨N.below j hb,J.keep (Live.same_below j D),(((Wr.of_below n).trans M).tr_below j),fun h=>(n.trans (h.mono n.size)).trans j,fun h I=>⟨_,h.keep (Live.same_below j I)⟩⟩
theorem impl_next_c (b:Nat)(v:Value)(r:List DPart)(f:List Pos)(w:World)(hX:Bx w b [v])(hr:Sl BIG w v r f)(hf:∀p∈f,p.1≠b)(z:r.all partOk=true):
 Calls Tryz.prog 253 #[.pointer (some ⟨b,0,none⟩)] w (fun e w'=>∃Q R vh,e= .returned (.agg #[.int .i64 (hd (skip r)).kind,.int .i64 (hd (skip r)).n,vh])/\RdS w' vh (hd (skip r)).signs/\Bx w' b [Q]/\Sl BIG w' Q (skip r) R/\(∀p∈R,p∈f)/\Wr [(b,0)] w w'/\(skip r=r->Q=v/\R=f/\Below w.heap.size w w')):=by
 have HX:=hH hX;have HR:=hH hr;have HF:=hH hf;have HALL:=hH z;have Y:=hH (Live.lt hr.live);obtain⟨zl0,_⟩:=hX.o1;obtain⟨W,hW⟩:∃W:World,W=w.alloc (.cells #[.int .i64 0,.int .i64 0,.slice none 0 0] 142):=⟨_,rfl⟩;have N:Hid (Below w.heap.size w W):=hH (by rw[hW];exact(lf _ _).alloc (lr _) _)
 have HR0:Hid (Bx W w.heap.size [.int .i64 0,.int .i64 0,.slice none 0 0]):=hH (by rw[hW];exact Bx.new rfl)
 clear hX hr hf z;go_enter Tryz.func253,Tryz.ntmps253
 go_wp2_with fail
 rw[<-hW];clear hW;go_loopg [] r.length (fun n wr=>∃Q U R,n=U.length/\skip U=skip r/\U.all partOk=true/\Bx wr b [Q]/\Sl BIG wr Q U R/\(∀p∈R,p∈f)/\Wr [(b,0)] W wr/\Bx wr w.heap.size [.int .i64 0,.int .i64 0,.slice none 0 0]/\((U=r/\Q=v/\R=f/\Below W.heap.size W wr)\/skip r≠r))
 case atStart=>exact⟨v,r,f,rfl,rfl,HALL.out,HX.out.at N.out,HR.out.belowW N.out,fun _ h=>h,Wr.refl _ _,HR0.out,.inl ⟨rfl,rfl,rfl,lf _ _⟩⟩
 case round=>
  obtain⟨Q,U,R,rfl,hsk,z,hx,hs,hff,hw,h0,hst⟩:=hrel;have Z:=hH hsk;have HA:=hH z;have HS:=hH hs;have B:=hH hff;have HW:=hH hw;have a1:=hH hst;have a3:=hH hx;have H0:=hH h0;obtain⟨zl,c0,g0⟩:=hx.q1;obtain⟨zr,r0,r1,r2,x0,x1,x2⟩:=h0.q3;have rr:RdS wr Q U:=⟨_,hs⟩;have hl:=fun u ty=>rr.len Tryz.underlying30 u ty
  clear hsk z hx hs hff hw h0 hst;have D:¬(w.heap.size=b):=by omega
  have hne2:¬(b=w.heap.size):=by omega
  rcases U with _|⟨p,t⟩
  ·have HV:Hid (skip r=[]):=hH Z.out.symm;obtain⟨a0,q0,rfl⟩:=HS.out.isS;go_wp2;rw[HV.out];refine bodyPost_ret (v:= .agg #[.int .i64 0,.int .i64 0,.slice none 0 0]) (by simp[results,Tryz.results253,go_sem,cell_setCell, *]) rfl ?_
   obtain⟨n1,n2,n3,n4,n5⟩:=next_end (.int .i64 0) (.int .i64 0) (.slice none 0 0) N.out zl0 a3.out HS.out (fun p hp=>Y.out p (B.out p hp)) HW.out
   refine⟨_,_,_,rfl,⟨_,Sl.nil⟩,n1,n2,B.out,n3,fun hs=> ?_⟩
   rcases a1.out with⟨_,rfl,rfl,hb⟩|D
   ·exact⟨rfl,rfl,n4 hb⟩
   ·exact absurd (HV.out.trans hs) D
  ·simp only[List.all_cons,Bool.and_eq_true]at HA;obtain⟨pb0,pb1,pb2⟩:=nsz_bd HA.out.1;have hpz:=nsz_eq HA.out.1;have HSZ:=hH hpz;obtain⟨J,o1,vg,fg,i1,i2,ig,if_⟩:=Sl.head Tryz.underlying30 szi_DPart HS.out;have e0:=i2.zero;have e1:wr.cell? ⟨J,o1+1,none⟩=some _:=i2 1 _ rfl;have e2:wr.cell? ⟨J,o1+2,none⟩=some _:=i2 2 _ rfl;have l1:J<wr.heap.size:=lk (w:=wr) (a:=⟨J,o1,none⟩) e0;have M:=hH ig;have HIF:=hH if_;have hlp:(0:Int)<((p::t).length:Int):=by first|(simp;done)|(simp;omega)
   have hle:(((p::t).length:Int)==0)=false:=by first|(simp;done)|(simp;omega)
   clear i2 ig if_ hpz;by_cases hz:nsz p=0
   ·have hps:(psize p==0)=true:=by have:=HSZ.out;simp;omega
    obtain⟨v2,f2,hcut,hs2,hf2⟩:=Sl.tail Tryz.underlying30 (E:=142) (fun _=>by kernel_rfl) HS.out
    obtain⟨a2,q2,rfl⟩:=hs2.isS;have HS2:=hH hs2;have HF2:=hH hf2;clear hs2 hf2;go_wp2_with fail
    refine(impl_size_c p vg _ pb0 pb1 pb2 ⟨_,M.out⟩).mono ?_;rintro e' u ⟨rfl,j⟩;have I:=hH j;have s1:=j.size;replace c0:u.cell? ⟨b,0,none⟩=some _:=(j.cell (p:=⟨b,0,none⟩) zl).trans c0;replace g0:u.frozen? ⟨b,0,none⟩=false:=(j.frozen (p:=⟨b,0,none⟩) zl).trans g0;clear j e0 e1 e2 r0 r1 r2 x0 x1 x2;go_wp2;go_roundg t.length
    case measure=>simp
    case rel=>
     have hws:Wr [(b,0)] u (u.setCell ⟨b,0,none⟩ (.slice a2 t.length q2)):=Wr.setCell u (by simp) _
     have hnf:∀q∈f2,q∉[(b,0)]:=fun q hq hm=>by
      have:=HF.out q (B.out q (HF2.out q hq));simp only[List.mem_singleton]at hm;rw[hm]at this;exact this rfl
     refine⟨_,t,f2,rfl,?_,HA.out.2,(a3.out.at I.out).set 0 _,(HS2.out.belowW I.out).wr hws hnf,fun q hq=>B.out q (HF2.out q hq),(HW.out.trans (Wr.of_below I.out)).trans hws,?_,.inr ?_⟩
     ·rw[<-Z.out];simp[skip,hz]
     ·exact((H0.out.at I.out).setO D)
     ·rcases a1.out with⟨rfl,_⟩|h
      ·exact skip_ne hz
      ·exact h
   ·have hps:(psize p==0)=false:=by have:=HSZ.out;simp;omega
    have HV:Hid (skip r=p::t):=hH (by rw[<-Z.out];exact skip_id hz)
    have hgl:∀q∈fg,q.1<w.heap.size:=fun q hq=>Y.out q (B.out q (HIF.out q hq))
    have HGL:=hH hgl;clear hgl;go_wp2_with fail
    refine(impl_size_c p vg _ pb0 pb1 pb2 ⟨_,M.out⟩).mono ?_;rintro e' u ⟨rfl,j⟩;have I:=hH j;have s1:=j.size;replace c0:u.cell? ⟨b,0,none⟩=some _:=(j.cell (p:=⟨b,0,none⟩) zl).trans c0;replace e0:u.cell? ⟨J,o1,none⟩=some _:=(j.cell (p:=⟨J,o1,none⟩) l1).trans e0;replace e1:u.cell? ⟨J,o1+1,none⟩=some _:=(j.cell (p:=⟨J,o1+1,none⟩) l1).trans e1;replace e2:u.cell? ⟨J,o1+2,none⟩=some _:=(j.cell (p:=⟨J,o1+2,none⟩) l1).trans e2;replace r0:u.cell? ⟨w.heap.size,0,none⟩=some _:=(j.cell (p:=⟨w.heap.size,0,none⟩) zr).trans r0;replace r1:u.cell? ⟨w.heap.size,1,none⟩=some _:=(j.cell (p:=⟨w.heap.size,1,none⟩) zr).trans r1;replace r2:u.cell? ⟨w.heap.size,2,none⟩=some _:=(j.cell (p:=⟨w.heap.size,2,none⟩) zr).trans r2;replace x0:u.frozen? ⟨w.heap.size,0,none⟩=false:=(j.frozen (p:=⟨w.heap.size,0,none⟩) zr).trans x0;replace x1:u.frozen? ⟨w.heap.size,1,none⟩=false:=(j.frozen (p:=⟨w.heap.size,1,none⟩) zr).trans x1;replace x2:u.frozen? ⟨w.heap.size,2,none⟩=false:=(j.frozen (p:=⟨w.heap.size,2,none⟩) zr).trans x2;obtain⟨ag,qg,rfl⟩:=M.out.isS;clear j;go_wp2;rw[HV.out];refine bodyPost_ret (v:= .agg #[.int .i64 p.kind,.int .i64 p.n,.slice ag p.signs.length qg]) (by simp[results,Tryz.results253,go_sem,cell_setCell, *]) rfl ?_
    obtain⟨n1,n2,n3,n4,n5⟩:=next_end (.int .i64 p.kind) (.int .i64 p.n) (.slice ag p.signs.length qg) N.out zl0 (a3.out.at I.out) (HS.out.belowW I.out) (fun q hq=>Y.out q (B.out q hq)) (HW.out.trans (Wr.of_below I.out))
    refine⟨_,_,_,rfl,n5 (M.out.belowW I.out) HGL.out,n1,n2,B.out,n3,fun hs=> ?_⟩
    rcases a1.out with⟨_,rfl,rfl,hb⟩|D
    ·exact⟨rfl,rfl,n4 (hb.trans (I.out.mono hb.size))⟩
    ·exact absurd (HV.out.trans hs) D
