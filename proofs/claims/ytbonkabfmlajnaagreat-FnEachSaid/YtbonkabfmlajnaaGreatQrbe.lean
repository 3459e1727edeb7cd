/- Two lists that are led past one another: what is read of them, and the two rows that are written. -/
import Derived.Test.YtbonkabfmlajnaaGreatQrbb
set_option maxHeartbeats 4000000
set_option maxRecDepth 100000
namespace Go.Proofs.YtbonkabfmlajnaaGreat
open Go.RowKit
def Rdo (w:World)(Z:Pos->Prop)(v:Value)(l:List zaa):Prop:=∃f,Sl BIG w v l f/\∀p∈f,¬Z p
def ZP (br bs:Nat)(vx vy:Value)(p:Pos):Prop:=p∈rowP 3 vx\/p∈rowP 3 vy\/p.1=br\/p.1=bs
def Jbc (B:Nat)(w:World)(Z:Pos->Prop)(v:Value)(l:List zaa):Prop:=∃g,Row B w v l g/\∀p∈g,¬Z p
structure TS (B:Nat)(w:World)(br bs:Nat)(vr vs vx vy:Value)(r s X Y:List zaa):Prop where
 hr:br<B
 hs:bs<B
 hB:B<=w.heap.size
 r:Rdo w (ZP br bs vx vy) vr r
 s:Rdo w (ZP br bs vx vy) vs s
 x:Jbc B w (ZP br bs vx vy) vx X
 y:Jbc B w (ZP br bs vx vy) vy Y
 d:∀p∈rowP 3 vx,p∉rowP 3 vy
section
variable {B:Nat} {w w':World} {br bs:Nat} {vr vs vx vy:Value} {r s X Y:List zaa}
theorem ZP.swap {p:Pos}(h:ZP br bs vx vy p):ZP bs br vy vx p:=by
 rcases h with h|h|h|h
 ·exact .inr (.inl h)
 ·exact .inl h
 ·exact .inr (.inr (.inr h))
 ·exact .inr (.inr (.inl h))
theorem Rdo.imp {Z j:Pos->Prop}{v:Value}{l:List zaa}(h:Rdo w Z v l)(B:∀p,p.1<w.heap.size->j p->Z p):Rdo w j v l:=by
 obtain⟨f,n,u⟩:=h;exact⟨f,n,fun p q z=>u p q (B p (Live.lt n.live p q) z)⟩
theorem Jbc.imp {Z j:Pos->Prop}{v:Value}{l:List zaa}(h:Jbc B w Z v l)(D:∀p,p.1<w.heap.size->j p->Z p):Jbc B w j v l:=by
 obtain⟨f,n,u⟩:=h;exact⟨f,n,fun p q z=>u p q (D p (Live.lt n.live p q) z)⟩
theorem TS.swap (h:TS B w br bs vr vs vx vy r s X Y):TS B w bs br vs vr vy vx s r Y X:=
 ⟨h.hs,h.hr,h.hB,h.s.imp fun _ _ j=>j.swap,h.r.imp fun _ _ j=>j.swap,h.y.imp fun _ _ j=>j.swap,h.x.imp fun _ _ j=>j.swap,fun p j n=>h.d p n j⟩
theorem Rdo.wr {Z:Pos->Prop}{v:Value}{l:List zaa}{g:List Pos}(h:Rdo w Z v l)(B:Wr g w w')(q:∀p∈g,Z p):Rdo w' Z v l:=by
 obtain⟨f,n,j⟩:=h;exact⟨f,n.wr B fun p u z=>j p u (q p z),j⟩
theorem Jbc.wr {Z:Pos->Prop}{v:Value}{l:List zaa}{g:List Pos}(h:Jbc B w Z v l)(D:Wr g w w')(q:∀p∈g,Z p/\p∉rowP 3 v):Jbc B w' Z v l:=by
 obtain⟨f,z,n⟩:=h;refine⟨f,z.wr D fun p j u=> ?_,n⟩
 rcases lm.1 j with j|j
 ·exact(q p u).2 j
 ·exact n p j (q p u).1
theorem Jbc.ge {Z:Pos->Prop}{v:Value}{l:List zaa}(h:Jbc B w Z v l):∀p∈rowP 3 v,B<=p.1/\p.1<w:=by
 obtain⟨f,j,q⟩:=h;exact fun p n=>⟨j.2.1.ge p n,Live.lt j.1.live p (lm.2 (.inl n))⟩
theorem TS.wr {g:List Pos}(h:TS B w br bs vr vs vx vy r s X Y)(n:Wr g w w')(u:∀p∈g,p.1=br\/p.1=bs):TS B w' br bs vr vs vx vy r s X Y:=by
 have q:∀p∈g,ZP br bs vx vy p:=fun p j=> .inr (.inr (u p j))
 have D:=h.hr;have I:=h.hs;refine⟨D,I,Nat.le_trans h.hB n.size,h.r.wr n q,h.s.wr n q,h.x.wr n fun p j=>⟨q p j,fun z=> ?_⟩,h.y.wr n fun p j=>⟨q p j,fun z=> ?_⟩,h.d⟩
 ·have:=(h.x.ge p z).1;have:=u p j;omega
 ·have:=(h.y.ge p z).1;have:=u p j;omega
theorem TS.below (h:TS B w br bs vr vs vx vy r s X Y)(hb:Below w w w'):TS B w' br bs vr vs vx vy r s X Y:=
 h.wr (g:=[]) (Wr.of_below hb) fun _ h=>(by cases h)
theorem TS.zlt (h:TS B w br bs vr vs vx vy r s X Y){p:Pos}(j:ZP br bs vx vy p):p.1<w:=by
 have n:=h.hr;have q:=h.hs;have u:=h.hB;rcases j with j|j|j|j
 ·exact(h.x.ge p j).2
 ·exact(h.y.ge p j).2
 ·omega
 ·omega
theorem TS.setR (h:TS B w br bs vr vs vx vy r s X Y){n:Value}{j:List zaa}(p:Rdo w (ZP br bs vx vy) n j):TS B w br bs n vs vx vy j s X Y:={h with r:=p}
theorem TS.appX {l:List zaa}(h:TS B w br bs vr vs vx vy r s X Y){D:Value}{I Q:List Pos}(J:∀p∈I,¬ZP br bs vx vy p)(z:∀p∈Q,¬ZP br bs vx vy p/\p.1<w)(N:∀p∈I,p.1<w)
 (hr:Row B w' D l (I++Q)) (M:Wr (rowP 3 vx) w w') (R:∀p∈rowP 3 D,p∈rowP 3 vx\/w<=p.1):TS B w' br bs vr vs D vy r s l Y:=by
 have U:∀p∈rowP 3 vx,ZP br bs vx vy p:=fun p j=> .inl j
 have hi:∀p,p.1<w.heap.size->ZP br bs D vy p->ZP br bs vx vy p:=fun p j n=>by
  rcases n with n|n
  ·rcases R p n with n|n
   ·exact .inl n
   ·omega
  ·exact .inr n
 have rd:∀{v:Value} {l:List zaa},Rdo w (ZP br bs vx vy) v l->Rdo w' (ZP br bs D vy) v l:=fun⟨f,q,u⟩=>
  ⟨f,q.wr M fun p j n=>u p j (U p n),fun p j n=>u p j (hi p (Live.lt q.live p j) n)⟩
 refine⟨h.hr,h.hs,Nat.le_trans h.hB M.size,rd h.r,rd h.s,⟨_,hr,fun p j n=> ?_⟩,?_,fun p j n=> ?_⟩
 ·rcases lm.1 j with j|j
  ·exact J p j (hi p (N p j) n)
  ·exact(z p j).1 (hi p (z p j).2 n)
 ·obtain⟨f,q,u⟩:=h.y;refine⟨f,q.wr M fun p j n=> ?_,fun p j n=>u p j (hi p (Live.lt q.live p j) n)⟩
  rcases lm.1 j with j|j
  ·exact h.d p n j
  ·exact u p j (U p n)
 ·rcases R p j with j|j
  ·exact h.d p j n
  ·have:=(h.y.ge p n).2;omega
theorem TS.new (D:br<w.heap.size)(I:bs<w.heap.size)(z:∃f,Sl BIG w vr r f/\∀p∈f,p.1≠br/\p.1≠bs)(B:∃f,Sl BIG w vs s f/\∀p∈f,p.1≠br/\p.1≠bs):TS w w br bs vr vs (.slice none 0 0) (.slice none 0 0) r s [] []:=by
 have n:∀p:Pos,p.1≠br/\p.1≠bs->¬ZP br bs (.slice none 0 0) (.slice none 0 0) p:=by
  rintro p ⟨J,M⟩ (k|k|k|k)
  ·cases k
  ·cases k
  ·exact J k
  ·exact M k
 obtain⟨f,f1,f2⟩:=z;obtain⟨g,q,u⟩:=B;exact⟨D,I,lr _,⟨f,f1,fun p j=>n p (f2 p j)⟩,⟨g,q,fun p j=>n p (u p j)⟩,⟨[],Row.nil _ _,fun _ h=>(by cases h)⟩,⟨[],Row.nil _ _,fun _ h=>(by cases h)⟩,fun _ h=>(by cases h)⟩
end
theorem Sl.head {P:Program}{T E:TypeId}(J:P.underlying T=some (.slice E))(M:∀j,(sizeOf E).run P j= .ok 3 j){w:World}{v:Value}{p:zaa}{l:List zaa}{f:List Pos}(h:Sl BIG w v (p::l) f):
 ∃b o u z,(∀j,(Instr.indexAt T v (.int .i64 0)).run P j= .ok (.pointer (some ⟨b,o,none⟩)) j)/\At w b o [p.kind,p.n,u]/\Sl BIG w u p.signs z/\(∀q∈z,q∈f):=by
 obtain⟨b,o,Q,z,B,D,⟨u,fs,rfl,N,rfl⟩,I⟩:=h.idx J M 0 (x:=p) rfl;exact⟨b,o,u,_,B,D,N,I⟩
end Go.Proofs.YtbonkabfmlajnaaGreat
namespace Go.Proofs.YtbonkabfmlajnaaGreat
open Go.RowKit
theorem Sl.tail {P:Program}{T E:TypeId}(I:P.underlying T=some (.slice E))(J:∀j,(sizeOf E).run P j= .ok 3 j){w:World}{v:Value}{p:zaa}{l:List zaa}{f:List Pos}(h:Sl BIG w v (p::l) f):
 ∃z n,(∀j,(Instr.sliceAt T v (some (.int .i64 1)) none none).run P j= .ok z j)/\Sl BIG w z l n/\∀q∈n,q∈f:=by
 have u:1<=(p::l).length:=by simp
 obtain⟨n,B,D,_⟩:=h.cut (lo:=1) (hi:=(p::l).length) (m:=vaA v) u (lr _) h.cap (lr _);refine⟨_,n,fun j=>h.run_l I J (lo:=1) u j,?_,D⟩
 simpa using B
theorem ka5 {p:zaa}(h:kab p=true):0<=p.n/\p.n<=1000000/\p.signs.length<=1000000:=by
 rcases Zab h with⟨k,q,u,j⟩|⟨k,q,u,j⟩|⟨k,q,u,j⟩
 ·rw[j];simp;omega
 ·omega
 ·rw[j];simp;omega
theorem Wr.tr_below {fp:List Pos}{a b c:World}(h:Wr fp a b)(k:Below a b c):Wr fp a c:=
 ⟨k.os.trans h.os,k.tape.trans h.tape,k.output.trans h.output,Nat.le_trans h.size k.size,fun p j n=>(k.cell (p:=⟨p.1,p.2,none⟩) j).trans (h.cell p j n),fun p j=>(k.frozen (p:=⟨p.1,p.2,none⟩) j).trans (h.frozen p j),fun q u n=>(k.block q u).trans (h.block q u n)⟩
theorem Za4 {w W wr:World}{b:Nat}{q:Value}{l:List zaa}{u:List Pos}(x y z:Value)(n:Below w w W)(hb:b<w.heap.size)(N:Bx wr b [q])(J:Sl BIG wr q l u)(D:∀p∈u,p.1<w)(M:Wr [(b,0)] W wr):
 Bx (((wr.setCell ⟨w,0,none⟩ x).setCell ⟨w,1,none⟩ y).setCell ⟨w,2,none⟩ z) b [q]/\Sl BIG (((wr.setCell ⟨w,0,none⟩ x).setCell ⟨w,1,none⟩ y).setCell ⟨w,2,none⟩ z) q l u/\Wr [(b,0)] w (((wr.setCell ⟨w,0,none⟩ x).setCell ⟨w,1,none⟩ y).setCell ⟨w,2,none⟩ z)/\
 (Below W W wr->Below w w (((wr.setCell ⟨w,0,none⟩ x).setCell ⟨w,1,none⟩ y).setCell ⟨w,2,none⟩ z))/\∀{B:Value} {t:List Int} {g:List Pos},Sl BIG wr B t g->(∀p∈g,p.1<w)->RdS (((wr.setCell ⟨w,0,none⟩ x).setCell ⟨w,1,none⟩ y).setCell ⟨w,2,none⟩ z) B t:=by
 have j:Below w wr (((wr.setCell ⟨w,0,none⟩ x).setCell ⟨w,1,none⟩ y).setCell ⟨w,2,none⟩ z):=(((lf _ _).setCell (p:=⟨w,0,none⟩) (lr _) _).setCell (p:=⟨w,1,none⟩) (lr _) _).setCell (p:=⟨w,2,none⟩) (lr _) _;exact⟨N.below j hb,J.keep (Live.same_below j D),(((Wr.of_below n).trans M).tr_below j),fun h=>(n.trans (h.mono n.size)).trans j,fun h I=>⟨_,h.keep (Live.same_below j I)⟩⟩
theorem uaj (b:Nat)(v:Value)(r:List zaa)(f:List Pos)(w:World)(hX:Bx w b [v])(hr:Sl BIG w v r f)(hf:∀p∈f,p.1≠b)(z:r.all kab=true):
 Calls Tryz.prog 166 #[.pointer (some ⟨b,0,none⟩)] w (fun e w'=>∃Q R vh,e= .returned (.agg #[(hd (skip r)).kind,(hd (skip r)).n,vh])/\RdS w' vh (hd (skip r)).signs/\Bx w' b [Q]/\Sl BIG w' Q (skip r) R/\(∀p∈R,p∈f)/\Wr [(b,0)] w w'/\(skip r=r->Q=v/\R=f/\Below w w w')):=by
 have HX:=hH hX;have HR:=hH hr;have HF:=hH hf;have HALL:=hH z;have Y:=hH (Live.lt hr.live);obtain⟨zl0,_⟩:=hX.o1;obtain⟨W,hW⟩:∃W:World,W=w.alloc (.cells #[zI,zI,zN] 122):=⟨_,rfl⟩;have N:Hid (Below w w W):=hH (by rw[hW];exact(lf _ _).alloc (lr _) _)
 have HR0:Hid (Bx W w [zI,zI,zN]):=hH (by rw[hW];exact Bx.new rfl)
 clear hX hr hf z;go_enter Tryz.func166,Tryz.ntmps166
 go_wp2_with fail
 rw[<-hW];clear hW;go_loopg [] r.length (fun n wr=>∃Q U R,n=U.length/\skip U=skip r/\U.all kab=true/\Bx wr b [Q]/\Sl BIG wr Q U R/\(∀p∈R,p∈f)/\Wr [(b,0)] W wr/\Bx wr w [zI,zI,zN]/\((U=r/\Q=v/\R=f/\Below W W wr)\/skip r≠r))
 case atStart=>exact⟨v,r,f,rfl,rfl,HALL.out,HX.out.at N.out,HR.out.belowW N.out,fun _ h=>h,Wr.refl _ _,HR0.out,.inl ⟨rfl,rfl,rfl,lf _ _⟩⟩
 case round=>
  obtain⟨Q,U,R,rfl,hsk,z,hx,hs,hff,hw,h0,hst⟩:=hrel;have Z:=hH hsk;have HA:=hH z;have HS:=hH hs;have B:=hH hff;have HW:=hH hw;have a1:=hH hst;have a3:=hH hx;have H0:=hH h0;obtain⟨zl,c0,g0⟩:=hx.q1;obtain⟨zr,r0,r1,r2,x0,x1,x2⟩:=h0.q3;have rr:RdS wr Q U:=⟨_,hs⟩;have hl:=fun u ty=>rr.len Tryz.underlying30 u ty
  clear hsk z hx hs hff hw h0 hst;have D:¬(w.heap.size=b):=om;have hne2:¬(b=w.heap.size):=om;rcases U with _|⟨p,t⟩
  ·have HV:Hid (skip r=[]):=hH Z.out.symm;obtain⟨a0,q0,rfl⟩:=HS.out.isS;go_wp2;rw[HV.out];refine bodyPost_ret (v:= .agg #[zI,zI,zN]) (by simp[results,Tryz.results166,go_sem,xaa, *]) rfl ?_
   obtain⟨n1,n2,n3,n4,n5⟩:=Za4 (.int .i64 0) (.int .i64 0) (.slice none 0 0) N.out zl0 a3.out HS.out (fun p hp=>Y.out p (B.out p hp)) HW.out
   refine⟨_,_,_,rfl,⟨_,Sl.nil⟩,n1,n2,B.out,n3,fun hs=> ?_⟩
   rcases a1.out with⟨_,rfl,rfl,hb⟩|D
   ·exact⟨rfl,rfl,n4 hb⟩
   ·exact absurd (HV.out.trans hs) D
  ·simp only[List.all_cons,Bool.and_eq_true]at HA;obtain⟨pb0,pb1,pb2⟩:=ka5 HA.out.1;have hpz:=qau HA.out.1;have HSZ:=hH hpz;obtain⟨J,o1,vg,fg,i1,i2,ig,if_⟩:=Sl.head Tryz.underlying30 uae HS.out;have e0:=i2.zero;have e1:wr.cell? ⟨J,o1+1,none⟩=some _:=i2 1 _ rfl;have e2:wr.cell? ⟨J,o1+2,none⟩=some _:=i2 2 _ rfl;have l1:J<wr.heap.size:=lk (w:=wr) (a:=⟨J,o1,none⟩) e0;have M:=hH ig;have HIF:=hH if_;have hlp:(0:Int)<((p::t).length:Int):=by first|(simp;done)|(simp;omega)
   have hle:(((p::t).length:Int)==0)=false:=by first|(simp;done)|(simp;omega)
   clear i2 ig if_ hpz;by_cases hz:nsz p=0
   ·have hps:(Xae p==0)=true:=by have:=HSZ.out;simp;omega
    obtain⟨v2,f2,hcut,hs2,hf2⟩:=Sl.tail Tryz.underlying30 (E:=122) (fun _=>by kernel_rfl) HS.out
    obtain⟨a2,q2,rfl⟩:=hs2.isS;have HS2:=hH hs2;have HF2:=hH hf2;clear hs2 hf2;go_wp2_with fail
    refine(Zao p vg _ pb0 pb1 pb2 ⟨_,M.out⟩).mono ?_;rintro e' u ⟨rfl,j⟩;have I:=hH j;have s1:=j.size;replace c0:u.cell? ⟨b,0,none⟩=some _:=(j.cell (p:=⟨b,0,none⟩) zl).trans c0;replace g0:u.frozen? ⟨b,0,none⟩=false:=(j.frozen (p:=⟨b,0,none⟩) zl).trans g0;clear j e0 e1 e2 r0 r1 r2 x0 x1 x2;go_wp2;go_roundg t.length
    case measure=>simp
    case rel=>
     have hws:Wr [(b,0)] u (u.setCell ⟨b,0,none⟩ (.slice a2 t.length q2)):=Wr.setCell u sm _;have hnf:∀q∈f2,q∉[(b,0)]:=fun q hq hm=>by
      have:=HF.out q (B.out q (HF2.out q hq));simp only[List.mem_singleton]at hm;rw[hm]at this;exact this rfl
     refine⟨_,t,f2,rfl,?_,HA.out.2,(a3.out.at I.out).set 0 _,(HS2.out.belowW I.out).wr hws hnf,fun q hq=>B.out q (HF2.out q hq),(HW.out.trans (Wr.of_below I.out)).trans hws,?_,.inr ?_⟩
     ·rw[<-Z.out];simp[skip,hz]
     ·exact((H0.out.at I.out).setO D)
     ·rcases a1.out with⟨rfl,_⟩|h
      ·exact kba hz
      ·exact h
   ·have hps:(Xae p==0)=false:=by have:=HSZ.out;simp;omega
    have HV:Hid (skip r=p::t):=hH (by rw[<-Z.out];exact Kau hz)
    have hgl:∀q∈fg,q.1<w:=fun q hq=>Y.out q (B.out q (HIF.out q hq))
    have HGL:=hH hgl;clear hgl;go_wp2_with fail
    refine(Zao p vg _ pb0 pb1 pb2 ⟨_,M.out⟩).mono ?_;rintro e' u ⟨rfl,j⟩;have I:=hH j;have s1:=j.size;replace c0:u.cell? ⟨b,0,none⟩=some _:=(j.cell (p:=⟨b,0,none⟩) zl).trans c0;replace e0:u.cell? ⟨J,o1,none⟩=some _:=(j.cell (p:=⟨J,o1,none⟩) l1).trans e0;replace e1:u.cell? ⟨J,o1+1,none⟩=some _:=(j.cell (p:=⟨J,o1+1,none⟩) l1).trans e1;replace e2:u.cell? ⟨J,o1+2,none⟩=some _:=(j.cell (p:=⟨J,o1+2,none⟩) l1).trans e2;replace r0:u.cell? ⟨w.heap.size,0,none⟩=some _:=(j.cell (p:=⟨w,0,none⟩) zr).trans r0;replace r1:u.cell? ⟨w.heap.size,1,none⟩=some _:=(j.cell (p:=⟨w,1,none⟩) zr).trans r1;replace r2:u.cell? ⟨w.heap.size,2,none⟩=some _:=(j.cell (p:=⟨w,2,none⟩) zr).trans r2;replace x0:u.frozen? ⟨w.heap.size,0,none⟩=false:=(j.frozen (p:=⟨w,0,none⟩) zr).trans x0;replace x1:u.frozen? ⟨w.heap.size,1,none⟩=false:=(j.frozen (p:=⟨w,1,none⟩) zr).trans x1;replace x2:u.frozen? ⟨w.heap.size,2,none⟩=false:=(j.frozen (p:=⟨w,2,none⟩) zr).trans x2;obtain⟨ag,qg,rfl⟩:=M.out.isS;clear j;go_wp2;rw[HV.out];refine bodyPost_ret (v:= .agg #[p.kind,p.n,.slice ag p.signs.length qg]) (by simp[results,Tryz.results166,go_sem,xaa, *]) rfl ?_
    obtain⟨n1,n2,n3,n4,n5⟩:=Za4 (.int .i64 p.kind) (.int .i64 p.n) (.slice ag p.signs.length qg) N.out zl0 (a3.out.at I.out) (HS.out.belowW I.out) (fun q hq=>Y.out q (B.out q hq)) (HW.out.trans (Wr.of_below I.out))
    refine⟨_,_,_,rfl,n5 (M.out.belowW I.out) HGL.out,n1,n2,B.out,n3,fun hs=> ?_⟩
    rcases a1.out with⟨_,rfl,rfl,hb⟩|D
    ·exact⟨rfl,rfl,n4 (hb.trans (I.out.mono hb.size))⟩
    ·exact absurd (HV.out.trans hs) D
