/- Draws. -/
import Derived.Deep.CutRange
import Derived.Test.YtbonkabfmlajnaaGreatQrak
set_option maxHeartbeats 8000000
set_option maxRecDepth 100000
namespace Go.Proofs.YtbonkabfmlajnaaGreat
open Go.RowKit
structure zah where
 v:Int
instance:GoT zah where
 n:=1
 rd:=fun _ _ cs x fp=>cs=[.int .u8 x.v]/\fp=[]
 pos:=Nat.one_pos
 len:=by rintro M w cs x fp ⟨rfl,rfl⟩;rfl
 one:=by rintro M w cs x fp ⟨rfl,rfl⟩ u hu;simp at hu;subst hu;rfl
 live:=by rintro M w cs x fp ⟨rfl,rfl⟩;exact Live.nil w
 keep:=by rintro M w w' cs x fp h _;exact h
theorem Zba:∀j,(sizeOf 5).run Tryz.prog j= .ok (GoT.n zah) j:=fun _=>by kernel_rfl
theorem qa9 {M:Nat}{w:World}{c:List Value}{x:zah}{f:List Pos}(h:GoT.rd M w c x f):c=[.int .u8 x.v]:=h.1
theorem ya7 (n:Int):bits .and .i64 n 255=n % 256:=by
 have j:(BitVec.ofInt 64 255).toNat=2^8-1:=by decide
 have key:(BitVec.ofInt 64 n&&& BitVec.ofInt 64 255).toNat=(n % ((2^64:Nat):Int)).toNat % 2^8:=by
  rw[BitVec.toNat_and,BitVec.toNat_ofInt,j,Nat.and_two_pow_sub_one_eq_mod]
 show IntKind.i64.wrap ((BitVec.ofInt 64 n&&& BitVec.ofInt 64 255).toNat:Nat)=n % 256;rw[key,IntKind.wrap_i64];omega
structure Cu (w0:World)(bc:Nat)(vb:Value)(bs:List zah)(w:World):Prop where
 o:w0.heap.size<=bc
 rd0:RdS w0 vb bs
 bel:Below w0 w0 w
 bx:∃(i:Nat) (h:Int),Bx w bc [vb,i,h]/\i<=bs.length
section
variable {w0 w w':World} {bc:Nat} {vb:Value} {bs:List zah}
theorem Cu.below (h:Cu w0 bc vb bs w)(hb:Below w w w'):Cu w0 bc vb bs w':=
 let⟨i,n,j,hi⟩:=h.bx
 ⟨h.o,h.rd0,h.bel.trans (hb.mono h.bel.size),i,n,j.at hb,hi⟩
theorem Cu.wr {fp:List Pos}(h:Cu w0 bc vb bs w)(u:Wr fp w w')(q:∀p∈fp,w0<=p.1/\p.1≠bc):Cu w0 bc vb bs w':=
 let⟨i,n,z,hi⟩:=h.bx
 ⟨h.o,h.rd0,h.bel.trans (u.below h.bel.size fun p j=>(q p j).1),i,n,z.wr u fun p j=>(q p j).2,hi⟩
theorem Cu.step (h:Cu w0 bc vb bs w)(q:Wr [(bc,1),(bc,2)] w w'){i:Nat}{n:Int}(u:Bx w' bc [vb,i,n])(hi:i<=bs.length):Cu w0 bc vb bs w':=
 ⟨h.o,h.rd0,h.bel.trans (q.below h.bel.size fun p j=>by simp only[List.mem_cons,List.not_mem_nil,or_false]at j;rcases j with rfl|rfl<;>exact h.o),i,n,u,hi⟩
end
theorem Bx.mk3 {w:World}{b:Nat}{p q B:Value}(z:b<w.heap.size)(c0:w.cell? ⟨b,0,none⟩=some p)(c1:w.cell? ⟨b,1,none⟩=some q)(c2:w.cell? ⟨b,2,none⟩=some B)(D:w.frozen? ⟨b,0,none⟩=false)(I:w.frozen? ⟨b,1,none⟩=false)(J:w.frozen? ⟨b,2,none⟩=false):Bx w b [p,q,B]:=⟨z,fun j u n=>by
 match j,n with
 |0,n=>simp only[List.getElem?_cons_zero,Option.some.injEq]at n;rw[<-n];exact⟨c0,D⟩
 |1,n=>simp only[List.getElem?_cons_succ,List.getElem?_cons_zero,Option.some.injEq]at n;rw[<-n];exact⟨c1,I⟩
 |2,n=>simp only[List.getElem?_cons_succ,List.getElem?_cons_zero,Option.some.injEq]at n;rw[<-n];exact⟨c2,J⟩
 |j+3,n=>simp at n⟩
def kac (w0:World)(bc:Nat)(vb:Value)(bs:List zah)(w w':World):Prop:=Cu w0 bc vb bs w'/\Wr [(bc,1),(bc,2)] w w'
theorem kac.trans {w0 a b c:World}{bc:Nat}{vb:Value}{bs:List zah}(h:kac w0 bc vb bs a b)(k:kac w0 bc vb bs b c):kac w0 bc vb bs a c:=⟨k.1,h.2.trans k.2⟩
theorem zam (w0:World)(bc:Nat)(vb:Value)(bs:List zah)(w:World)(hc:Cu w0 bc vb bs w):
 Calls Tryz.prog 94 #[.pointer (some ⟨bc,0,none⟩)] w (fun e w'=>∃x:Int,e= .returned (.int .i64 x)/\0<=x/\x<=255/\kac w0 bc vb bs w w'):=by
 obtain⟨i,h,hx,hi⟩:=hc.bx;obtain⟨j,c0,c1,c2,Q,R,U⟩:=hx.q3;have HC:=hH hc;have HI:=hH hi;go_enter Tryz.func94,Tryz.ntmps94
 go_upto_region 2 with(fail)
 generalize wrap64 (wrap64 (h*6364136223846793005)+1442695040888963407)=h1;obtain⟨W,hW⟩:∃W:World,W=w.setCell ⟨bc,2,none⟩ h1:=⟨_,rfl⟩;have B:Bx W bc [vb,i,h1]:=by rw[hW];exact hx.set 2 h1
 have HWR:Hid (Wr [(bc,1),(bc,2)] w W):=hH (by rw[hW];exact(Wr.refl _ _).put (b:=bc) (o:=2) sm _)
 rw[<-hW];clear hW j c0 c1 c2 Q R U hx hc hi;have HRD:Hid (RdS W vb bs):=hH (HC.out.rd0.below (HC.out.bel.trans (HWR.out.below HC.out.bel.size fun p hp=>by have:=HC.out.o;simp only[List.mem_cons,List.not_mem_nil,or_false]at hp;rcases hp with rfl|rfl<;>exact this)))
 obtain⟨j,c0,c1,c2,Q,R,U⟩:=B.q3;clear B;obtain⟨X,hX,F,hF,z⟩:=zae W;obtain⟨J,M,N⟩:=mx3 hF j c0 c1 c2;have HF:=hH hF;have u:=hH z;clear hF z;refine uaa (F:=F) (by kernel_rfl) (by kernel_rfl) (u.out _ (lf _ _).drew) ?_
 repeat(go_big_quiet_step (fail))
 refine wpQuiet_nil ?_;intro xq;obtain⟨Y,q⟩:∃wx:World,F xq=wx:=⟨_,rfl⟩;have Z:Below W W Y:=by rw[<-q];exact HF.out xq
 rw[q];clear q J M N HF u;have s1:=Z.size;replace c0:Y.cell? ⟨bc,0,none⟩=some (vb):=(Z.cell (p:=⟨bc,0,none⟩) j).trans c0;replace c1:Y.cell? ⟨bc,1,none⟩=some (.int .i64 i):=(Z.cell (p:=⟨bc,1,none⟩) j).trans c1;replace c2:Y.cell? ⟨bc,2,none⟩=some (.int .i64 h1):=(Z.cell (p:=⟨bc,2,none⟩) j).trans c2;replace Q:Y.frozen? ⟨bc,0,none⟩=false:=(Z.frozen (p:=⟨bc,0,none⟩) j).trans Q;replace R:Y.frozen? ⟨bc,1,none⟩=false:=(Z.frozen (p:=⟨bc,1,none⟩) j).trans R;replace U:Y.frozen? ⟨bc,2,none⟩=false:=(Z.frozen (p:=⟨bc,2,none⟩) j).trans U;replace j:=lq j s1;have hr:∀n:Int,0<=bits .and .i64 n 255/\bits .and .i64 n 255<=255:=fun n=>by rw[ya7];omega
 obtain⟨x0,hx0⟩:∃x0,bits .and .i64 (bits .xor .i64 (h1/8589934592) (h1/35184372088832)) 255=x0:=⟨_,rfl⟩;have HX0:Hid (0<=x0/\x0<=255):=hH (by rw[<-hx0];exact hr _)
 have HR:=hH hr;rw[hx0];clear hx0 hr;have HB1:=hH Z;have hlb:=fun wq ty=>HRD.out.len Tryz.underlying22 wq ty
 clear Z;go_upto_region 3 with(fail)
 obtain⟨X,hX,F,hF,z⟩:=zae Y;obtain⟨J,M,N⟩:=mx3 hF j c0 c1 c2;have HF:=hH hF;have u:=hH z;clear hF z;refine uaa (F:=F) (by kernel_rfl) (by kernel_rfl) (u.out _ (lf _ _).drew) ?_
 repeat(go_big_quiet_step (fail))
 refine wpQuiet_nil ?_;intro xq;obtain⟨D,q⟩:∃wx:World,F xq=wx:=⟨_,rfl⟩;have B2:Below Y Y D:=by rw[<-q];exact HF.out xq
 rw[q];clear q J M N HF u;have s2:=B2.size;replace c0:D.cell? ⟨bc,0,none⟩=some (vb):=(B2.cell (p:=⟨bc,0,none⟩) j).trans c0;replace c1:D.cell? ⟨bc,1,none⟩=some (.int .i64 i):=(B2.cell (p:=⟨bc,1,none⟩) j).trans c1;replace c2:D.cell? ⟨bc,2,none⟩=some (.int .i64 h1):=(B2.cell (p:=⟨bc,2,none⟩) j).trans c2;replace Q:D.frozen? ⟨bc,0,none⟩=false:=(B2.frozen (p:=⟨bc,0,none⟩) j).trans Q;replace R:D.frozen? ⟨bc,1,none⟩=false:=(B2.frozen (p:=⟨bc,1,none⟩) j).trans R;replace U:D.frozen? ⟨bc,2,none⟩=false:=(B2.frozen (p:=⟨bc,2,none⟩) j).trans U;replace j:=lq j s2;have I:Hid (Below W W D):=hH (HB1.out.trans (B2.mono s1));clear B2;by_cases hlt:i<bs.length
 rotate_left
 ·have hl2:¬(i:Int)<(bs.length:Int):=om;go_wp2;go_ret;refine⟨x0,rfl,HX0.out.1,HX0.out.2,HC.out.step (HWR.out.trans (Wr.of_below I.out)) (i:=i) (n:=h1) (Bx.mk3 j c0 c1 c2 Q R U) HI.out,HWR.out.trans (Wr.of_below I.out)⟩
 have hl2:(i:Int)<(bs.length:Int):=om;obtain⟨y,hy⟩:=Jaa hlt;obtain⟨b1,o1,cs,k1,k2,_,k3⟩:=(HRD.out.below I.out).idx Tryz.underlying22 Zba i hy;obtain rfl:=qa9 k3;have q0:=k2.zero;have l1:b1<D.heap.size:=lk (w:=D) (a:=⟨b1,o1,none⟩) q0;clear k2 k3 hy;go_upto_region 4 with(fail)
 obtain⟨X,hX,F,hF,z⟩:=zae D;obtain⟨J,M,N⟩:=mx3 hF j c0 c1 c2;have fq0:∀x,(F x).cell? ⟨b1,o1,none⟩=some (.int .u8 y.v):=fun x=>((hF x).cell (p:=⟨b1,o1,none⟩) l1).trans q0
 have HF:=hH hF;have u:=hH z;clear hF z;refine uaa (F:=F) (by kernel_rfl) (by kernel_rfl) (u.out _ (lf _ _).drew) ?_
 repeat(go_big_quiet_step (fail))
 refine wpQuiet_nil ?_;intro xq;obtain⟨w3,q⟩:∃wx:World,F xq=wx:=⟨_,rfl⟩;have B3:Below D D w3:=by rw[<-q];exact HF.out xq
 rw[q];clear q J M N fq0 HF u;have s3:=B3.size;replace c0:w3.cell? ⟨bc,0,none⟩=some (vb):=(B3.cell (p:=⟨bc,0,none⟩) j).trans c0;replace c1:w3.cell? ⟨bc,1,none⟩=some (.int .i64 i):=(B3.cell (p:=⟨bc,1,none⟩) j).trans c1;replace c2:w3.cell? ⟨bc,2,none⟩=some (.int .i64 h1):=(B3.cell (p:=⟨bc,2,none⟩) j).trans c2;replace Q:w3.frozen? ⟨bc,0,none⟩=false:=(B3.frozen (p:=⟨bc,0,none⟩) j).trans Q;replace R:w3.frozen? ⟨bc,1,none⟩=false:=(B3.frozen (p:=⟨bc,1,none⟩) j).trans R;replace U:w3.frozen? ⟨bc,2,none⟩=false:=(B3.frozen (p:=⟨bc,2,none⟩) j).trans U;replace j:=lq j s3;have HB3:Hid (Below W W w3):=hH (I.out.trans (B3.mono I.out.size));have hx3:=Bx.mk3 j c0 c1 c2 Q R U;have hx4:=hx3.set 1 (.int .i64 ((i:Int)+1));have hib:(i:Int)<9000000000000000000:=by have:=HRD.out.le;have:(BIG:Int)=4294967296:=rfl;omega
 have hr2:=HR.out (wrap64 (x0+wrap64 y.v));obtain⟨x1,B⟩:∃x1,bits .and .i64 (wrap64 (x0+wrap64 y.v)) 255=x1:=⟨_,rfl⟩;rw[B]at hr2;have HX1:=hH hr2;have HXW:=hH hx4;rw[B];clear B3 B hr2 hx4 hx3;go_wp2;go_ret;have HWW:Hid (Wr [(bc,1),(bc,2)] w (w3.setCell ⟨bc,1,none⟩ (.int .i64 ((i:Int)+1)))):=hH ((HWR.out.trans (Wr.of_below HB3.out)).put (b:=bc) (o:=1) sm _);exact⟨x1,rfl,HX1.out.1,HX1.out.2,HC.out.step HWW.out (i:=i+1) (n:=h1) (by rw[Int.natCast_add];exact HXW.out) om,HWW.out⟩
theorem Qbg {M:Nat}{w:World}{c:List Value}{x:Int}{f:List Pos}(h:GoT.rd M w c x f):c=[.int .i64 x]:=h.1
theorem Qa5 (w:World):∀l:List Int,Els BIG w (l.map fun x=>Value.int .i64 x) l []
 |[]=>⟨rfl,rfl⟩
 |x::l=>⟨[x],l.map fun x=>Value.int .i64 x,[],[],rfl,⟨rfl,rfl⟩,Qa5 w l,rfl⟩
theorem XaS (w:World)(l:List Int)(E:TypeId)(D:l.length<=1000):Sl BIG (w.alloc (.cells (l.map fun x=>Value.int .i64 x).toArray E)) (.slice (some ⟨w,0,none⟩) l.length l.length) l (own w 0 (l.length*GoT.n Int)++[]):=by
 have q:Bx (w.alloc (.cells (l.map fun x=>Value.int .i64 x).toArray E)) w (l.map fun x=>Value.int .i64 x):=by
  have h:=Bx.new (w:=w) (c:=(l.map fun x=>Value.int .i64 x).toArray) (t:=E) (b:=w) rfl
  simpa using h
 refine .inr ⟨w,0,l.length,_,[],rfl,lr _,Nat.le_trans D (by decide),Xab om,fun j u B=> ?_,Qa5 _ l,fun p I=> ?_,rfl⟩
 ·rw[Nat.zero_add];exact(q.2 j u B).1
 ·obtain⟨q1,q2,q3⟩:=Kaa.1 I;have z:GoT.n Int=1:=rfl;rw[z]at q3;obtain⟨y,hy⟩:=Jaa (l:=l) (k:=p.2) om;have:=(q.2 p.2 (.int .i64 y) (by rw[List.getElem?_map,hy];rfl)).1
  rw[q1,this];rfl
def Lt0 (n x:Int):Prop:=(0<n->0<=x/\x<n)/\(n<=0->x=0)
theorem xab (w0:World)(bc:Nat)(vb:Value)(bs:List zah)(n:Int)(w:World)(z:Cu w0 bc vb bs w):
 Calls Tryz.prog 55 #[.pointer (some ⟨bc,0,none⟩),n] w (fun e w'=>∃x:Int,e= .returned (.int .i64 x)/\Lt0 n x/\kac w0 bc vb bs w w'):=by
 by_cases h1:n<=0
 ·have Q:=hH z;clear z;go_enter Tryz.func55,Tryz.ntmps55
  go_wp2;go_ret;exact⟨0,rfl,⟨fun h=>by omega,fun _=>rfl⟩,Q.out,Wr.refl _ _⟩
 have B:0<n:=om;have I:n≠0:=om;by_cases h2:n<=256
 ·go_enter Tryz.func55,Tryz.ntmps55
  go_wp2_with fail
  refine(zam w0 bc vb bs _ z).mono ?_;rintro J w1 ⟨x,rfl,a3,a4,j⟩;have M:=hH j;have p:Hid (0<=x % n/\x % n<n):=hH ⟨Int.emod_nonneg x I,Int.emod_lt_of_pos x B⟩;clear j z;go_wp2;go_ret;exact⟨x % n,rfl,⟨fun _=>p.out,fun h=>by omega⟩,M.out⟩
 go_enter Tryz.func55,Tryz.ntmps55
 go_wp2_with fail
 refine(zam w0 bc vb bs _ z).mono ?_;rintro J w1 ⟨x1,rfl,x10,x11,j⟩;go_wp2_with fail
 refine(zam w0 bc vb bs _ j.1).mono ?_;rintro J w2 ⟨x2,rfl,x20,x21,q⟩;go_wp2_with fail
 refine(zam w0 bc vb bs _ q.1).mono ?_;rintro J w3 ⟨x3,rfl,x30,x31,u⟩;go_wp2_with fail
 refine(zam w0 bc vb bs _ u.1).mono ?_;rintro J w4 ⟨x4,rfl,x40,x41,D⟩;have N:=hH (((j.trans q).trans u).trans D);have a2:0<=x1*16777216+x2*65536+x3*256+x4:=om;have p:Hid (0<=(x1*16777216+x2*65536+x3*256+x4) % n/\(x1*16777216+x2*65536+x3*256+x4) % n<n):=hH ⟨Int.emod_nonneg _ I,Int.emod_lt_of_pos _ B⟩;have R:IntKind.i64.wrap (x1*16777216)=x1*16777216:=IntWalk.i64_in _ om;have U:IntKind.i64.wrap (x2*65536)=x2*65536:=IntWalk.i64_in _ om;have Y:IntKind.i64.wrap (x3*256)=x3*256:=IntWalk.i64_in _ om;have Z:IntKind.i64.wrap (x1*16777216+x2*65536)=x1*16777216+x2*65536:=IntWalk.i64_in _ om;have a0:IntKind.i64.wrap (x1*16777216+x2*65536+x3*256)=x1*16777216+x2*65536+x3*256:=IntWalk.i64_in _ om;have a1:IntKind.i64.wrap (x1*16777216+x2*65536+x3*256+x4)=x1*16777216+x2*65536+x3*256+x4:=IntWalk.i64_in _ om;clear z j q u D;go_wp2;go_ret;exact⟨_,rfl,⟨fun _=>p.out,fun h=>by omega⟩,N.out⟩
theorem jah (w0:World)(bc:Nat)(vb:Value)(bs:List zah)(n:Int)(w:World)(q:Cu w0 bc vb bs w):
 Calls Tryz.prog 54 #[.pointer (some ⟨bc,0,none⟩),n] w (fun e u=>∃b:Bool,e= .returned (.bool b)/\kac w0 bc vb bs w u):=by
 go_enter Tryz.func54,Tryz.ntmps54
 go_wp2_with fail
 refine(xab w0 bc vb bs n _ q).mono ?_;rintro z B ⟨x,rfl,_,j⟩;have p:=hH j;clear j q;go_wp2;go_ret;exact⟨_,rfl,p.out⟩
theorem qaz (w0:World)(bc:Nat)(vb:Value)(bs:List zah)(q:Value)(l:List Int)(w:World)(D:Cu w0 bc vb bs w)(hl:∃f,Sl BIG w q l f/\∀p∈f,p.1≠bc)(h0:0<l.length):
 Calls Tryz.prog 126 #[.pointer (some ⟨bc,0,none⟩),q] w (fun e w'=>∃y:Int,e= .returned (.int .i64 y)/\y∈l/\kac w0 bc vb bs w w'):=by
 obtain⟨f,B,I⟩:=hl;have hlx:=fun u ty=>(show RdS w q l from⟨_,B⟩).len Tryz.underlying31 u ty
 have U:=hH B;have R:=hH I;clear B I;go_enter Tryz.func126,Tryz.ntmps126
 go_wp2_with fail
 refine(xab w0 bc vb bs (l.length:Int) _ D).mono ?_;rintro e' u ⟨x,rfl,M,j⟩;obtain⟨hx0,hx1⟩:=M.1 om;obtain⟨k,rfl⟩:∃k:Nat,x=k:=⟨x.toNat,by omega⟩
 have n:Sl BIG u q l f:=U.out.wr j.2 (fun p hp J=>by simp only[List.mem_cons,List.not_mem_nil,or_false]at J;have:=R.out p hp;rcases J with rfl|rfl<;>exact this rfl)
 obtain⟨y,hy⟩:=Jaa (l:=l) (k:=k) om;obtain⟨b1,o1,cs,k1,N,_,Q⟩:=(show RdS u q l from⟨_,n⟩).idx Tryz.underlying31 xaH k hy;obtain rfl:=Qbg Q;have q0:=N.zero;have z:=hH j;have Z:(k:Int)<(l.length:Int):=om;have Y:=hH (List.mem_of_getElem? hy);clear j D M N Q n hy;go_wp2;go_ret;exact⟨y,rfl,Y.out,z.out⟩
theorem vaP (w0:World)(bc:Nat)(vb:Value)(bs:List zah)(w:World)(J:Cu w0 bc vb bs w):
 Calls Tryz.prog 93 #[.pointer (some ⟨bc,0,none⟩)] w (fun e Z=>∃y:Int,e= .returned (.int .i64 y)/\kai y=true/\kac w0 bc vb bs w Z):=by
 go_enter Tryz.func93,Tryz.ntmps93
 go_wp2_with fail
 refine(jah w0 bc vb bs 8 _ J).mono ?_;rintro I w1 ⟨b,rfl,u⟩;have n:=hH u;clear u J;cases b
 ·go_wp2_with fail
  refine(xab w0 bc vb bs 6 _ n.out.1).mono ?_;rintro I N ⟨x,rfl,z,j⟩;obtain⟨U,Y⟩:=z.1 (by decide)
  have q:=hH (n.out.trans j);have B:Hid (kai (97+x)=true):=hH (by simp[kai,within];omega)
  have Q:IntKind.i64.wrap (97+x)=97+x:=IntWalk.i64_in _ om;clear j z;go_wp2;go_ret;exact⟨_,rfl,B.out,q.out⟩
 ·have D:=n.out.1.bx;obtain⟨i,h,z,_⟩:=D;have R:=z.lt;clear z;go_wp2_with fail
  refine(qaz w0 bc vb bs _ [0,127,128,2047,2048,55295,57344,65535,65536,1114111,10,32] _ (n.out.1.below ((lf _ _).alloc (lr _) _)) ⟨_,XaS w1 [0,127,128,2047,2048,55295,57344,65535,65536,1114111,10,32] 3 (by decide),fun p M=> ?_⟩ (by decide)).mono ?_
  ·rw[List.append_nil]at M;have:=(Kaa.1 M).1;omega
  rintro I N ⟨y,rfl,hy,j⟩;have B:Hid (kai y=true):=hH ((show ∀y∈([0,127,128,2047,2048,55295,57344,65535,65536,1114111,10,32]:List Int),kai y=true by decide) y hy)
  have q:Hid (kac w0 bc vb bs w N):=hH ⟨j.1,n.out.2.trans ((Wr.of_below ((lf _ _).alloc (lr _) _)).trans j.2)⟩;clear j hy;go_wp2;go_ret;exact⟨y,rfl,B.out,q.out⟩
theorem uaf.cu {α:Type}[GoT α]{B bc:Nat}{w z:World}{v:Value}{l:List α}(h:uaf B w v l)(u:Wr [(bc,1),(bc,2)] w z)(hb:bc<B):uaf B z v l:=by
 obtain⟨f,j,n⟩:=h;exact⟨f,j.wr u fun p D q=>by have:=n.ge p D;simp only[List.mem_cons,List.not_mem_nil,or_false]at q;rcases q with rfl|rfl<;>(simp only at this;omega),u.fresh j.live n⟩
theorem Cu.lt {w0 w:World}{bc:Nat}{vb:Value}{bs:List zah}(h:Cu w0 bc vb bs w):bc<w.heap.size:=let⟨_,_,j,_⟩:=h.bx;j.lt
theorem uaw {a b c:World}{bc:Nat}{j:List Pos}(h:Wr [(bc,1),(bc,2)] a b)(k:Wr j b c)(n:∀p∈j,a<=p.1):Wr [(bc,1),(bc,2)] a c:=h.trans2 k fun p q=> .inr (n p q)
theorem xal (w0:World)(bc:Nat)(vb:Value)(bs:List zah)(m:Nat)(w:World)(Y:Cu w0 bc vb bs w)(hm:m<=1000):
 Calls Tryz.prog 53 #[.pointer (some ⟨bc,0,none⟩),m] w (fun e w'=>∃(v:Value) (l:List Int),e= .returned v/\uaf w w' v l/\l.length<=m/\xai l=true/\kac w0 bc vb bs w w'):=by
 obtain⟨i0,hi,hz0,hz1,hz2⟩:=info_parts Zau;have U:=Y.lt;go_enter Tryz.func53,Tryz.ntmps53
 go_wp2_with fail
 refine(xab w0 bc vb bs ((m:Int)+1) _ (Y.below ((lf _ _).alloc (lr _) _))).mono ?_;rintro e' w1 ⟨x,rfl,hx,z⟩;obtain⟨hx0,hx1⟩:=hx.1 om;obtain⟨k0,rfl⟩:∃k:Nat,x=k:=⟨x.toNat,by omega⟩
 have D:k0<=m:=om;have N:Hid (kac w0 bc vb bs w w1):=hH ⟨z.1,(Wr.of_below ((lf _ _).alloc (lr _) _)).trans z.2⟩;clear z Y hx;go_wp2_with fail
 go_loopw [5,6] (fun u i wr=>∃(u':Value) (l:List Int) (k:Nat),u'=u/\i= .int .i64 k/\l.length+k<=m/\xai l=true/\uaf w wr u' l/\kac w0 bc vb bs w wr) (fun _ i _=>(intOf i).toNat)
 case atStart=>exact⟨_,[],k0,rfl,rfl,by simpa using D,rfl,uaf.empty _ _ _,N.out⟩
 case round=>
  obtain⟨u,l,k,rfl,rfl,hlk,M,hu,J⟩:=hrel;have I:=hH M;clear M;have HU:=hH hu;have q:=hH J;clear hu J;by_cases hk:0<k
  ·have hk2:(0:Int)<(k:Int):=om;go_wp2_with fail
   refine(vaP w0 bc vb bs _ q.out.1).mono ?_;rintro e' w2 ⟨y,rfl,hy,B⟩;have R:Hid (xai (l++[y])=true):=hH (by have:=I.out;simp only[xai]at this;simp[xai,this,hy])
   clear hy;have n:=hH (q.out.trans B);have j:=hH (HU.out.cu B.2 U).ints;have hsz:w<=w2.heap.size:=n.out.2.size;clear B;go_wp2_with (at_builtin;go_must (refine qaa rfl _ _ 31 rfl Tryz.underlying31 hi hz0 hz1 hz2 rfl rfl rfl (j.out.below ((lf _ _).alloc (lr _) _)) (QaW w2 y 3) (fun _ h=>by cases h) ?c1 ?c2 ?c3 ?_))
   case c1=>exact Xab (by simp;omega)
   case c2=>simp;omega
   case c3=>simp;omega
   intro v' w3 hr hw Z;have HO:=hH hr.ints.2;have Q:Hid (kac w0 bc vb bs w w3):=hH ⟨(n.out.1.below ((lf _ _).alloc (lr _) _)).wr hw (fun p hp=>by have:=j.out.2.1.ge p hp;have:=n.out.1.o;omega),uaw (n.out.2.trans (Wr.of_below ((lf _ _).alloc (lr _) _))) hw (fun p hp=>j.out.2.1.ge p hp)⟩
   clear hr hw Z;go_wp2;go_roundw
   case rel=>exact⟨_,l++[y],k-1,rfl,by first|go_num|(congr 1;omega),by simp;omega,R.out,HO.out,Q.out⟩
   case measure=>simp[intOf];omega
  ·have D:k=0:=om;subst D;go_wp2;go_ret;exact⟨u,l,rfl,HU.out,by omega,I.out,q.out⟩
theorem jaO (w0:World)(bc:Nat)(vb:Value)(bs:List zah)(m:Nat)(w:World)(z:Cu w0 bc vb bs w)(B:m<=1000):
 Calls Tryz.prog 53 #[.pointer (some ⟨bc,0,none⟩),m] w (fun e j=>∃(v:Value) (l:List Int),e= .returned v/\uaf w j v l/\l.length<=m/\kac w0 bc vb bs w j):=
 (xal w0 bc vb bs m w z B).mono fun _ _ ⟨v,l,n,p,q,_,u⟩=>⟨v,l,n,p,q,u⟩
theorem Cu.new {w wr:World}{vb:Value}{bs:List zah}{E:TypeId}(n:Int)(hb:RdS w vb bs)(j:Below w w wr):Cu w wr vb bs (wr.alloc (.cells #[vb,zI,n] E)):=by
 have p:Bx (wr.alloc (.cells #[vb,zI,n] E)) wr [vb,zI,n]:=Bx.new rfl;exact⟨j.size,hb,j.alloc j.size _,0,n,by rw[Int.natCast_zero];exact p,lz _⟩
theorem qaD (vb:Value)(bs:List zah)(w:World)(hb:RdS w vb bs):
 Calls Tryz.prog 20 #[vb] w (fun e Q=>∃bc:Nat,e= .returned (.pointer (some ⟨bc,0,none⟩))/\Cu w bc vb bs Q/\Below w w Q):=by
 obtain⟨ab,J,rfl⟩:=hb.isSlice;have R:=fun Y ty=>hb.len Tryz.underlying22 Y ty
 have U:(bs.length:Int)<9000000000000000000:=by have:=hb.le;have:(BIG:Int)=4294967296:=rfl;omega
 go_enter Tryz.func20,Tryz.ntmps20
 go_wp2_with fail
 go_loopw [3,4] (fun h i wr=>∃(k:Nat) (n:Int),i= .int .i64 k/\h= .int .i64 n/\k<=bs.length/\Below w w wr) (fun _ i _=>bs.length-(intOf i).toNat)
 case atStart=>exact⟨0,_,rfl,rfl,lz _,lf _ _⟩
 case round=>
  obtain⟨k,n,rfl,rfl,hk,u⟩:=hrel;have z:=u.size;have j:=hH u;clear u;by_cases I:k<bs.length
  ·have D:(k:Int)<(bs.length:Int):=om;by_cases h4:k<4000
   ·have B:(k:Int)<4000:=om;obtain⟨y,hy⟩:=Jaa I;obtain⟨Z,o1,cs,k1,M,_,N⟩:=(hb.below j.out).idx Tryz.underlying22 Zba k hy;obtain rfl:=qa9 N;have q0:=M.zero;clear M N hy;go_wp2;go_roundw
    case rel=>exact⟨k+1,_,by go_num,rfl,by omega,j.out⟩
    case measure=>simp[intOf];omega
   ·have B:¬(k:Int)<4000:=om;have q:=hH (Cu.new (E:=59) n hb j.out);have p:=hH (j.out.alloc z (.cells #[.slice ab bs.length J,zI,n] 59));go_wp2;go_ret;exact⟨wr,rfl,q.out,p.out⟩
  ·have D:¬(k:Int)<(bs.length:Int):=om;have q:=hH (Cu.new (E:=59) n hb j.out);have p:=hH (j.out.alloc z (.cells #[.slice ab bs.length J,zI,n] 59));go_wp2;go_ret;exact⟨wr,rfl,q.out,p.out⟩
theorem kap (w0:World)(bc:Nat)(vb:Value)(bs:List zah)(lo hi:Int)(w:World)(N:Cu w0 bc vb bs w):
 Calls Tryz.prog 138 #[.pointer (some ⟨bc,0,none⟩),lo,hi] w (fun e Z=>∃x:Int,e= .returned (.int .i64 x)/\kac w0 bc vb bs w Z):=by
 go_enter Tryz.func138,Tryz.ntmps138
 go_wp2_with fail
 refine(xab w0 bc vb bs 12 _ N).mono ?_;rintro B w1 ⟨x,rfl,R,z⟩;obtain⟨D,I⟩:=R.1 (by decide)
 have j:=hH z;have U:=z.1.lt;clear z R N;rcases(show x=0\/x=1\/x=2\/x=3\/x=4\/5<=x by omega)with rfl|rfl|rfl|rfl|rfl|h5
 ·go_wp2;go_ret;exact⟨_,rfl,j.out⟩
 ·go_wp2;go_ret;exact⟨_,rfl,j.out⟩
 ·go_wp2;go_ret;exact⟨_,rfl,j.out⟩
 ·go_wp2;go_ret;exact⟨_,rfl,j.out⟩
 ·go_wp2_with fail
  refine(qaz w0 bc vb bs _ [9223372036854775807,-9223372036854775808,-1,0,1000000001] _ (j.out.1.below ((lf _ _).alloc (lr _) _)) ⟨_,XaS w1 [9223372036854775807,-9223372036854775808,-1,0,1000000001] 3 (by decide),fun p Q=> ?_⟩ (by decide)).mono ?_
  ·rw[List.append_nil]at Q;have:=(Kaa.1 Q).1;omega
  rintro B M ⟨y,rfl,_,n⟩;have q:Hid (kac w0 bc vb bs w M):=hH ⟨n.1,j.out.2.trans ((Wr.of_below ((lf _ _).alloc (lr _) _)).trans n.2)⟩;clear n;go_wp2;go_ret;exact⟨y,rfl,q.out⟩
 ·have e0:(x==0)=false:=by simp;omega
  have e1:(x==1)=false:=by simp;omega
  have e2:(x==2)=false:=by simp;omega
  have e3:(x==3)=false:=by simp;omega
  have e4:(x==4)=false:=by simp;omega
  obtain⟨u,hu⟩:∃u,IntKind.i64.wrap (hi-lo)=u:=⟨_,rfl⟩;obtain⟨J,Y⟩:∃J,IntKind.i64.wrap (u+1)=J:=⟨_,rfl⟩;clear D I;by_cases hg:60000<u
  ·go_wp2_with fail
   refine(xab w0 bc vb bs 60000 _ j.out.1).mono ?_;rintro B M ⟨y,rfl,_,n⟩;have q:=hH (j.out.trans n);clear n;go_wp2;go_ret;exact⟨_,rfl,q.out⟩
  ·go_wp2_with fail
   refine(xab w0 bc vb bs J _ j.out.1).mono ?_;rintro B M ⟨y,rfl,_,n⟩;have q:=hH (j.out.trans n);clear n;go_wp2;go_ret;exact⟨_,rfl,q.out⟩
theorem zag.cu {α:Type}[GoT α]{C D bc:Nat}{w z:World}{v:Value}{l:List α}(h:zag C D w v l)(u:Wr [(bc,1),(bc,2)] w z)(hb:bc<C):zag C D z v l:=by
 obtain⟨f,j,n,B⟩:=h;exact⟨f,j.wr u fun p I q=>by have:=n.ge p I;simp only[List.mem_cons,List.not_mem_nil,or_false]at q;rcases q with rfl|rfl<;>(simp only at this;omega),u.fresh j.live n,B⟩
theorem zag.row2 {α:Type}[GoT α]{C D:Nat}{w:World}{v:Value}{l:List α}(h:zag C D w v l):∃fs,Row C w v l fs/\Qaa C w fs/\∀p∈rowP (GoT.n α) v++fs,p.1<D:=by
 obtain⟨fp,h,k,hd⟩:=h;obtain⟨fs,rfl⟩:=h.split;exact⟨fs,⟨h,k.left,fun _ j q=>(ln.1 k.nodup).2.2 _ q _ j rfl⟩,k.right,hd⟩
def DrO (o:List zaa):Prop:=∀q∈o,q.signs.length<=12
theorem DrO.snoc {o:List zaa}{p:zaa}(h:DrO o)(j:p.signs.length<=12):DrO (o++[p]):=fun q n=>(lm.1 n).elim (h q) (fun e=>(List.mem_singleton.1 e)▸j)
theorem Jay (w0:World)(bc:Nat)(vb:Value)(bs:List zah)(m:Nat)(w:World)(hc:Cu w0 bc vb bs w)(hm:m<=1000):
 Calls Tryz.prog 137 #[.pointer (some ⟨bc,0,none⟩),m] w (fun e w'=>∃(v:Value) (o:List zaa),e= .returned v/\uaf w w' v o/\kac w0 bc vb bs w w'/\o.length<=42/\DrO o):=by
 obtain⟨i0,hi,hz0,hz1,hz2⟩:=info_parts uam;have hbl:=hc.lt;have HC0:Hid (kac w0 bc vb bs w (w.alloc (.cells #[] 122))):=hH ⟨hc.below ((lf _ _).alloc (lr _) _),Wr.of_below ((lf _ _).alloc (lr _) _)⟩;clear hc;go_enter Tryz.func137,Tryz.ntmps137
 go_wp2_with fail
 go_loopg [5,6,7] 41 (fun n x5 x6 x7 wr=>∃(u:Value) (o:List zaa) (L R:Nat),u=x5/\n=41-o.length/\x6= .int .i64 L/\x7= .int .i64 R/\L<=m/\R<=12/\o.length<=40/\DrO o/\uaf w wr u o/\kac w0 bc vb bs w wr)
 case atStart=>exact⟨_,[],m,12,rfl,rfl,rfl,rfl,lr _,lr _,lz _,(fun _ h=>by cases h),uaf.empty _ _ _,HC0.out⟩
 case round=>
  obtain⟨u,o,L,R,rfl,rfl,rfl,rfl,hL,hR,ho,hdo,hu,hcw⟩:=hrel;have HDO:=hH hdo;clear hdo;have HU:=hH hu;have HCW:=hH hcw;clear hu hcw HC0;go_upto_region 4 with(fail)
  go_cut [18]from 13 to 73 (fun z wx=>∃b:Bool,z= .bool b/\uaf w wx u o/\kac w0 bc vb bs w wx)
  case first=>
   by_cases hL0:0<L
   ·have hl0:(0:Int)<(L:Int):=om;go_wp2_with fail
    go_meet
    exact⟨true,rfl,HU.out,HCW.out⟩
   ·have hl0:¬(0:Int)<(L:Int):=om;go_wp2_with fail
    refine(jah w0 bc vb bs 3 _ HCW.out.1).mono ?_;rintro e' w1 ⟨b,rfl,hc1⟩;have HC1:=hH hc1;clear hc1;go_wp2_with fail
    go_meet
    exact⟨b,rfl,HU.out.cu HC1.out.2 hbl,HCW.out.trans HC1.out⟩
  case rest=>
   obtain⟨b,rfl,hu1,hc1⟩:=hcut;replace HU:=hH hu1;replace HCW:=hH hc1;clear hu1 hc1;cases b
   ·go_wp2;go_ret;exact⟨u,o,rfl,HU.out,HCW.out,by omega,HDO.out⟩
   go_wp2_with fail
   refine(xab w0 bc vb bs 4 _ HCW.out.1).mono ?_;rintro e' w2 ⟨x,rfl,hx,hc2⟩;obtain⟨hx0,hx1⟩:=hx.1 (by decide)
   replace HU:=hH (HU.out.cu hc2.2 hbl);have HC2:=hH (HCW.out.trans hc2);clear hx hc2 HCW;rcases(show x=0\/x=1\/(2<=x) by omega)with rfl|rfl|h2
   ·go_wp2_with fail
    refine(jaO w0 bc vb bs 3 _ HC2.out.1 (by decide)).mono ?_
    rintro e' w3 ⟨vs,s,rfl,hos,hsl,hc3⟩;have HUB:=hH (HU.out.bd.cu hc3.2 hbl);have Z:=hH (HC2.out.trans hc3);have hsz2:w<=w2.heap.size:=HC2.out.2.size;obtain⟨fg,hsg,hfg⟩:=hos;obtain⟨as_,cs_,rfl⟩:=hsg.isS;have HSG:=hH hsg;have HFG:=hH hfg;have hlq:=fun w1 ty=>(show RdS w3 (.slice as_ s.length cs_) s from⟨_,hsg⟩).len Tryz.underlying31 w1 ty
    clear hsg hfg hc3;by_cases hroom:R<s.length
    ·have hr2:(R:Int)<(s.length:Int):=om;obtain⟨fs4,D,a8,aa⟩:=HUB.out.row2;have j:=hH D;have a2:=hH a8;have HLT4:=hH aa;have ad:=Zac (w:=w3) (c:=[.int .i64 2,zI,zN]) (x:=(⟨2,0,[]⟩:zaa)) (f:=[]) 122 ⟨_,[],rfl,Sl.nil,rfl⟩;have a6:=hH ad;have M:Hid (∀p∈fs4,p.1<w3):=hH (Live.lt (Live.append.1 D.1.live).2);have hsz4:w<=w3.heap.size:=Z.out.2.size;clear D a8 aa ad;go_wp2_with (at_builtin;go_must (refine qaa rfl _ _ 30 rfl Tryz.underlying30 hi hz0 hz1 hz2 rfl rfl rfl (j.out.below ((lf _ _).alloc (lr _) _)) a6.out (fun _ h=>by cases h) ?c1 ?c2 ?c3 ?_))
     case c1=>exact Xab (by simp;omega)
     case c2=>simp;omega
     case c3=>simp;omega
     intro v4 w4 hr4 U hn4;have J:Hid (kac w0 bc vb bs w w4):=hH ⟨(Z.out.1.below ((lf _ _).alloc (lr _) _)).wr U (fun p hp=>by have:=j.out.2.1.ge p hp;have:=Z.out.1.o;omega),uaw (Z.out.2.trans (Wr.of_below ((lf _ _).alloc (lr _) _))) U (fun p hp=>j.out.2.1.ge p hp)⟩
     have a0:Hid (Qaa w w4 fs4):=hH (U.fresh (Live.keep (Live.append.1 j.out.1.live).2 (Live.same_below ((lf _ _).alloc (lr _) _) M.out)) (a2.out.belowL ((lf _ _).alloc (lr _) _) M.out));have HO4:Hid (uaf w w4 v4 (o++[(⟨2,0,[]⟩:zaa)])):=hH (Row.owns (by simpa using hr4) a0.out)
     obtain⟨a4,c4,e4⟩:=HO4.out.rd.isSlice;simp only[List.length_append,List.length_singleton]at e4;subst e4;clear hr4 U hn4 j a2 HLT4 a6 M a0;by_cases h40:o.length<40
     ·have hl40:¬(40:Int)<(o.length:Int)+1:=om;go_wp2;go_roundg (41-(o++[(⟨2,0,[]⟩:zaa)]).length)
      case measure=>simp;omega
      case rel=>exact⟨_,o++[(⟨2,0,[]⟩:zaa)],L,R,rfl,rfl,by first|rfl|go_num|(congr 1;omega),by first|rfl|go_num|(congr 1;omega),by omega,by omega,by simp;omega,HDO.out.snoc (by simp;try omega),HO4.out,J.out⟩
     have hl40:(40:Int)<(o.length:Int)+1:=om;obtain⟨fs5,I,a9,ac⟩:=HO4.out.bd.row2;have B:=hH I;have a3:=hH a9;have HLT5:=hH ac;have ae:=Zac (w:=w4) (c:=[.int .i64 1,.int .i64 ((L:Nat):Int),zN]) (x:=(⟨1,((L:Nat):Int),[]⟩:zaa)) (f:=[]) 122 ⟨_,[],rfl,Sl.nil,rfl⟩;have a7:=hH ae;have Q:Hid (∀p∈fs5,p.1<w4):=hH (Live.lt (Live.append.1 I.1.live).2);have hsz5:w<=w4.heap.size:=J.out.2.size;clear I a9 ac ae;go_wp2_with (at_builtin;go_must (refine qaa rfl _ _ 30 rfl Tryz.underlying30 hi hz0 hz1 hz2 rfl rfl rfl (B.out.below ((lf _ _).alloc (lr _) _)) a7.out (fun _ h=>by cases h) ?c1 ?c2 ?c3 ?_))
     case c1=>exact Xab (by simp;omega)
     case c2=>simp;omega
     case c3=>simp;omega
     intro v5 w5 hr5 Y hn5;have HC5:Hid (kac w0 bc vb bs w w5):=hH ⟨(J.out.1.below ((lf _ _).alloc (lr _) _)).wr Y (fun p hp=>by have:=B.out.2.1.ge p hp;have:=J.out.1.o;omega),uaw (J.out.2.trans (Wr.of_below ((lf _ _).alloc (lr _) _))) Y (fun p hp=>B.out.2.1.ge p hp)⟩
     have a1:Hid (Qaa w w5 fs5):=hH (Y.fresh (Live.keep (Live.append.1 B.out.1.live).2 (Live.same_below ((lf _ _).alloc (lr _) _) Q.out)) (a3.out.belowL ((lf _ _).alloc (lr _) _) Q.out));have HO5:Hid (uaf w w5 v5 (o++[(⟨2,0,[]⟩:zaa)]++[(⟨1,((L:Nat):Int),[]⟩:zaa)])):=hH (Row.owns (by simpa using hr5) a1.out)
     obtain⟨a5,c5,e5⟩:=HO5.out.rd.isSlice;simp only[List.length_append,List.length_singleton]at e5;subst e5;clear hr5 Y hn5 B a3 HLT5 a7 Q a1;go_wp2;go_ret;exact⟨_,_,rfl,HO5.out,HC5.out,by simp;omega,(HDO.out.snoc (by simp;try omega)).snoc sm⟩
    have hr2:¬(R:Int)<(s.length:Int):=om;have hrr:(R:Int)-(s.length:Int)=((R-s.length:Nat):Int):=om;obtain⟨fs4,D,a8,aa⟩:=HUB.out.row2;have j:=hH D;have a2:=hH a8;have HLT4:=hH aa;have ad:=Zac (w:=w3) (c:=[.int .i64 2,zI,.slice as_ s.length cs_]) (x:=(⟨2,0,s⟩:zaa)) (f:=fg) 122 ⟨_,fg,rfl,HSG.out,rfl⟩;have a6:=hH ad;have M:Hid (∀p∈fs4,p.1<w3):=hH (Live.lt (Live.append.1 D.1.live).2);have hsz4:w<=w3.heap.size:=Z.out.2.size;clear D a8 aa ad;go_wp2_with (at_builtin;go_must (refine qaa rfl _ _ 30 rfl Tryz.underlying30 hi hz0 hz1 hz2 rfl rfl rfl (j.out.below ((lf _ _).alloc (lr _) _)) a6.out (fun q hq hm=>by have e1:=HFG.out.ge q hq;have e2:=HLT4.out q (lu _ hm);omega) ?c1 ?c2 ?c3 ?_))
    case c1=>exact Xab (by simp;omega)
    case c2=>simp;omega
    case c3=>simp;omega
    intro v4 w4 hr4 U hn4;have J:Hid (kac w0 bc vb bs w w4):=hH ⟨(Z.out.1.below ((lf _ _).alloc (lr _) _)).wr U (fun p hp=>by have:=j.out.2.1.ge p hp;have:=Z.out.1.o;omega),uaw (Z.out.2.trans (Wr.of_below ((lf _ _).alloc (lr _) _))) U (fun p hp=>j.out.2.1.ge p hp)⟩
    have a0:Hid (Qaa w w4 fs4):=hH (U.fresh (Live.keep (Live.append.1 j.out.1.live).2 (Live.same_below ((lf _ _).alloc (lr _) _) M.out)) (a2.out.belowL ((lf _ _).alloc (lr _) _) M.out));have HO4:Hid (uaf w w4 v4 (o++[(⟨2,0,s⟩:zaa)])):=hH (Row.owns hr4 (a0.out.join ((U.fresh (Live.keep HSG.out.live (Live.same_below ((lf _ _).alloc (lr _) _) (Live.lt HSG.out.live))) (HFG.out.belowL ((lf _ _).alloc (lr _) _) (Live.lt HSG.out.live))).mono hsz2) (fun p hp q hq e=>by have e1:=HFG.out.ge q hq;have e2:=HLT4.out p (lw _ hp);rw[e]at e2;omega)))
    obtain⟨a4,c4,e4⟩:=HO4.out.rd.isSlice;simp only[List.length_append,List.length_singleton]at e4;subst e4;clear hr4 U hn4 j a2 HLT4 a6 M a0;by_cases h40:o.length<40
    ·have hl40:¬(40:Int)<(o.length:Int)+1:=om;go_wp2;go_roundg (41-(o++[(⟨2,0,s⟩:zaa)]).length)
     case measure=>simp;omega
     case rel=>exact⟨_,o++[(⟨2,0,s⟩:zaa)],L,(R-s.length),rfl,rfl,by first|rfl|go_num|(congr 1;omega),by first|rfl|go_num|(congr 1;omega),by omega,by omega,by simp;omega,HDO.out.snoc (by simp;try omega),HO4.out,J.out⟩
    have hl40:(40:Int)<(o.length:Int)+1:=om;obtain⟨fs5,I,a9,ac⟩:=HO4.out.bd.row2;have B:=hH I;have a3:=hH a9;have HLT5:=hH ac;have ae:=Zac (w:=w4) (c:=[.int .i64 1,.int .i64 ((L:Nat):Int),zN]) (x:=(⟨1,((L:Nat):Int),[]⟩:zaa)) (f:=[]) 122 ⟨_,[],rfl,Sl.nil,rfl⟩;have a7:=hH ae;have Q:Hid (∀p∈fs5,p.1<w4):=hH (Live.lt (Live.append.1 I.1.live).2);have hsz5:w<=w4.heap.size:=J.out.2.size;clear I a9 ac ae;go_wp2_with (at_builtin;go_must (refine qaa rfl _ _ 30 rfl Tryz.underlying30 hi hz0 hz1 hz2 rfl rfl rfl (B.out.below ((lf _ _).alloc (lr _) _)) a7.out (fun _ h=>by cases h) ?c1 ?c2 ?c3 ?_))
    case c1=>exact Xab (by simp;omega)
    case c2=>simp;omega
    case c3=>simp;omega
    intro v5 w5 hr5 Y hn5;have HC5:Hid (kac w0 bc vb bs w w5):=hH ⟨(J.out.1.below ((lf _ _).alloc (lr _) _)).wr Y (fun p hp=>by have:=B.out.2.1.ge p hp;have:=J.out.1.o;omega),uaw (J.out.2.trans (Wr.of_below ((lf _ _).alloc (lr _) _))) Y (fun p hp=>B.out.2.1.ge p hp)⟩
    have a1:Hid (Qaa w w5 fs5):=hH (Y.fresh (Live.keep (Live.append.1 B.out.1.live).2 (Live.same_below ((lf _ _).alloc (lr _) _) Q.out)) (a3.out.belowL ((lf _ _).alloc (lr _) _) Q.out));have HO5:Hid (uaf w w5 v5 (o++[(⟨2,0,s⟩:zaa)]++[(⟨1,((L:Nat):Int),[]⟩:zaa)])):=hH (Row.owns (by simpa using hr5) a1.out)
    obtain⟨a5,c5,e5⟩:=HO5.out.rd.isSlice;simp only[List.length_append,List.length_singleton]at e5;subst e5;clear hr5 Y hn5 B a3 HLT5 a7 Q a1;go_wp2;go_ret;exact⟨_,_,rfl,HO5.out,HC5.out,by simp;omega,(HDO.out.snoc (by simp;try omega)).snoc sm⟩
   ·go_wp2_with fail
    refine(xab w0 bc vb bs ((L:Int)+1) _ HC2.out.1).mono ?_;rintro e' w3 ⟨y,rfl,hy,hc3⟩;obtain⟨hy0,hy1⟩:=hy.1 om;obtain⟨N,rfl⟩:∃N:Nat,y=N:=⟨y.toNat,by omega⟩
    have HU3:=hH (HU.out.cu hc3.2 hbl);have Z:=hH (HC2.out.trans hc3);clear hy hc3;by_cases h4:4<N
    ·have h42:(4:Int)<(N:Int):=om;have hll:(L:Int)-4=((L-4:Nat):Int):=om;obtain⟨fs4,D,a8,aa⟩:=HU3.out.bd.row2;have j:=hH D;have a2:=hH a8;have HLT4:=hH aa;have ad:=Zac (w:=w3) (c:=[.int .i64 3,.int .i64 ((4:Nat):Int),zN]) (x:=(⟨3,((4:Nat):Int),[]⟩:zaa)) (f:=[]) 122 ⟨_,[],rfl,Sl.nil,rfl⟩;have a6:=hH ad;have M:Hid (∀p∈fs4,p.1<w3):=hH (Live.lt (Live.append.1 D.1.live).2);have hsz4:w<=w3.heap.size:=Z.out.2.size;clear D a8 aa ad;go_wp2_with (at_builtin;go_must (refine qaa rfl _ _ 30 rfl Tryz.underlying30 hi hz0 hz1 hz2 rfl rfl rfl (j.out.below ((lf _ _).alloc (lr _) _)) a6.out (fun _ h=>by cases h) ?c1 ?c2 ?c3 ?_))
     case c1=>exact Xab (by simp;omega)
     case c2=>simp;omega
     case c3=>simp;omega
     intro v4 w4 hr4 U hn4;have J:Hid (kac w0 bc vb bs w w4):=hH ⟨(Z.out.1.below ((lf _ _).alloc (lr _) _)).wr U (fun p hp=>by have:=j.out.2.1.ge p hp;have:=Z.out.1.o;omega),uaw (Z.out.2.trans (Wr.of_below ((lf _ _).alloc (lr _) _))) U (fun p hp=>j.out.2.1.ge p hp)⟩
     have a0:Hid (Qaa w w4 fs4):=hH (U.fresh (Live.keep (Live.append.1 j.out.1.live).2 (Live.same_below ((lf _ _).alloc (lr _) _) M.out)) (a2.out.belowL ((lf _ _).alloc (lr _) _) M.out));have HO4:Hid (uaf w w4 v4 (o++[(⟨3,((4:Nat):Int),[]⟩:zaa)])):=hH (Row.owns (by simpa using hr4) a0.out)
     obtain⟨a4,c4,e4⟩:=HO4.out.rd.isSlice;simp only[List.length_append,List.length_singleton]at e4;subst e4;clear hr4 U hn4 j a2 HLT4 a6 M a0;by_cases h40:o.length<40
     ·have hl40:¬(40:Int)<(o.length:Int)+1:=om;go_wp2;go_roundg (41-(o++[(⟨3,((4:Nat):Int),[]⟩:zaa)]).length)
      case measure=>simp;omega
      case rel=>exact⟨_,o++[(⟨3,((4:Nat):Int),[]⟩:zaa)],(L-4),R,rfl,rfl,by first|rfl|go_num|(congr 1;omega),by first|rfl|go_num|(congr 1;omega),by omega,by omega,by simp;omega,HDO.out.snoc (by simp;try omega),HO4.out,J.out⟩
     have hl40:(40:Int)<(o.length:Int)+1:=om;obtain⟨fs5,I,a9,ac⟩:=HO4.out.bd.row2;have B:=hH I;have a3:=hH a9;have HLT5:=hH ac;have ae:=Zac (w:=w4) (c:=[.int .i64 1,.int .i64 (((L-4):Nat):Int),zN]) (x:=(⟨1,(((L-4):Nat):Int),[]⟩:zaa)) (f:=[]) 122 ⟨_,[],rfl,Sl.nil,rfl⟩;have a7:=hH ae;have Q:Hid (∀p∈fs5,p.1<w4):=hH (Live.lt (Live.append.1 I.1.live).2);have hsz5:w<=w4.heap.size:=J.out.2.size;clear I a9 ac ae;go_wp2_with (at_builtin;go_must (refine qaa rfl _ _ 30 rfl Tryz.underlying30 hi hz0 hz1 hz2 rfl rfl rfl (B.out.below ((lf _ _).alloc (lr _) _)) a7.out (fun _ h=>by cases h) ?c1 ?c2 ?c3 ?_))
     case c1=>exact Xab (by simp;omega)
     case c2=>simp;omega
     case c3=>simp;omega
     intro v5 w5 hr5 Y hn5;have HC5:Hid (kac w0 bc vb bs w w5):=hH ⟨(J.out.1.below ((lf _ _).alloc (lr _) _)).wr Y (fun p hp=>by have:=B.out.2.1.ge p hp;have:=J.out.1.o;omega),uaw (J.out.2.trans (Wr.of_below ((lf _ _).alloc (lr _) _))) Y (fun p hp=>B.out.2.1.ge p hp)⟩
     have a1:Hid (Qaa w w5 fs5):=hH (Y.fresh (Live.keep (Live.append.1 B.out.1.live).2 (Live.same_below ((lf _ _).alloc (lr _) _) Q.out)) (a3.out.belowL ((lf _ _).alloc (lr _) _) Q.out));have HO5:Hid (uaf w w5 v5 (o++[(⟨3,((4:Nat):Int),[]⟩:zaa)]++[(⟨1,(((L-4):Nat):Int),[]⟩:zaa)])):=hH (Row.owns (by simpa using hr5) a1.out)
     obtain⟨a5,c5,e5⟩:=HO5.out.rd.isSlice;simp only[List.length_append,List.length_singleton]at e5;subst e5;clear hr5 Y hn5 B a3 HLT5 a7 Q a1;go_wp2;go_ret;exact⟨_,_,rfl,HO5.out,HC5.out,by simp;omega,(HDO.out.snoc (by simp;try omega)).snoc sm⟩
    ·have h42:¬(4:Int)<(N:Int):=om;have hll:(L:Int)-((N:Nat):Int)=((L-N:Nat):Int):=om;obtain⟨fs4,D,a8,aa⟩:=HU3.out.bd.row2;have j:=hH D;have a2:=hH a8;have HLT4:=hH aa;have ad:=Zac (w:=w3) (c:=[.int .i64 3,.int .i64 ((N:Nat):Int),zN]) (x:=(⟨3,((N:Nat):Int),[]⟩:zaa)) (f:=[]) 122 ⟨_,[],rfl,Sl.nil,rfl⟩;have a6:=hH ad;have M:Hid (∀p∈fs4,p.1<w3):=hH (Live.lt (Live.append.1 D.1.live).2);have hsz4:w<=w3.heap.size:=Z.out.2.size;clear D a8 aa ad;go_wp2_with (at_builtin;go_must (refine qaa rfl _ _ 30 rfl Tryz.underlying30 hi hz0 hz1 hz2 rfl rfl rfl (j.out.below ((lf _ _).alloc (lr _) _)) a6.out (fun _ h=>by cases h) ?c1 ?c2 ?c3 ?_))
     case c1=>exact Xab (by simp;omega)
     case c2=>simp;omega
     case c3=>simp;omega
     intro v4 w4 hr4 U hn4;have J:Hid (kac w0 bc vb bs w w4):=hH ⟨(Z.out.1.below ((lf _ _).alloc (lr _) _)).wr U (fun p hp=>by have:=j.out.2.1.ge p hp;have:=Z.out.1.o;omega),uaw (Z.out.2.trans (Wr.of_below ((lf _ _).alloc (lr _) _))) U (fun p hp=>j.out.2.1.ge p hp)⟩
     have a0:Hid (Qaa w w4 fs4):=hH (U.fresh (Live.keep (Live.append.1 j.out.1.live).2 (Live.same_below ((lf _ _).alloc (lr _) _) M.out)) (a2.out.belowL ((lf _ _).alloc (lr _) _) M.out));have HO4:Hid (uaf w w4 v4 (o++[(⟨3,((N:Nat):Int),[]⟩:zaa)])):=hH (Row.owns (by simpa using hr4) a0.out)
     obtain⟨a4,c4,e4⟩:=HO4.out.rd.isSlice;simp only[List.length_append,List.length_singleton]at e4;subst e4;clear hr4 U hn4 j a2 HLT4 a6 M a0;by_cases h40:o.length<40
     ·have hl40:¬(40:Int)<(o.length:Int)+1:=om;go_wp2;go_roundg (41-(o++[(⟨3,((N:Nat):Int),[]⟩:zaa)]).length)
      case measure=>simp;omega
      case rel=>exact⟨_,o++[(⟨3,((N:Nat):Int),[]⟩:zaa)],(L-N),R,rfl,rfl,by first|rfl|go_num|(congr 1;omega),by first|rfl|go_num|(congr 1;omega),by omega,by omega,by simp;omega,HDO.out.snoc (by simp;try omega),HO4.out,J.out⟩
     have hl40:(40:Int)<(o.length:Int)+1:=om;obtain⟨fs5,I,a9,ac⟩:=HO4.out.bd.row2;have B:=hH I;have a3:=hH a9;have HLT5:=hH ac;have ae:=Zac (w:=w4) (c:=[.int .i64 1,.int .i64 (((L-N):Nat):Int),zN]) (x:=(⟨1,(((L-N):Nat):Int),[]⟩:zaa)) (f:=[]) 122 ⟨_,[],rfl,Sl.nil,rfl⟩;have a7:=hH ae;have Q:Hid (∀p∈fs5,p.1<w4):=hH (Live.lt (Live.append.1 I.1.live).2);have hsz5:w<=w4.heap.size:=J.out.2.size;clear I a9 ac ae;go_wp2_with (at_builtin;go_must (refine qaa rfl _ _ 30 rfl Tryz.underlying30 hi hz0 hz1 hz2 rfl rfl rfl (B.out.below ((lf _ _).alloc (lr _) _)) a7.out (fun _ h=>by cases h) ?c1 ?c2 ?c3 ?_))
     case c1=>exact Xab (by simp;omega)
     case c2=>simp;omega
     case c3=>simp;omega
     intro v5 w5 hr5 Y hn5;have HC5:Hid (kac w0 bc vb bs w w5):=hH ⟨(J.out.1.below ((lf _ _).alloc (lr _) _)).wr Y (fun p hp=>by have:=B.out.2.1.ge p hp;have:=J.out.1.o;omega),uaw (J.out.2.trans (Wr.of_below ((lf _ _).alloc (lr _) _))) Y (fun p hp=>B.out.2.1.ge p hp)⟩
     have a1:Hid (Qaa w w5 fs5):=hH (Y.fresh (Live.keep (Live.append.1 B.out.1.live).2 (Live.same_below ((lf _ _).alloc (lr _) _) Q.out)) (a3.out.belowL ((lf _ _).alloc (lr _) _) Q.out));have HO5:Hid (uaf w w5 v5 (o++[(⟨3,((N:Nat):Int),[]⟩:zaa)]++[(⟨1,(((L-N):Nat):Int),[]⟩:zaa)])):=hH (Row.owns (by simpa using hr5) a1.out)
     obtain⟨a5,c5,e5⟩:=HO5.out.rd.isSlice;simp only[List.length_append,List.length_singleton]at e5;subst e5;clear hr5 Y hn5 B a3 HLT5 a7 Q a1;go_wp2;go_ret;exact⟨_,_,rfl,HO5.out,HC5.out,by simp;omega,(HDO.out.snoc (by simp;try omega)).snoc sm⟩
   ·have hb0:(x==0)=false:=by simp;omega
    have hb1:(x==1)=false:=by simp;omega
    have hb2:¬x=0:=om;have hb3:¬x=1:=om;go_wp2_with fail
    refine(xab w0 bc vb bs ((L:Int)+1) _ HC2.out.1).mono ?_;rintro e' w3 ⟨y,rfl,hy,hc3⟩;obtain⟨hy0,hy1⟩:=hy.1 om;obtain⟨N,rfl⟩:∃N:Nat,y=N:=⟨y.toNat,by omega⟩
    have HU3:=hH (HU.out.cu hc3.2 hbl);have Z:=hH (HC2.out.trans hc3);clear hy hc3;have hll:(L:Int)-((N:Nat):Int)=((L-N:Nat):Int):=om;obtain⟨fs4,D,a8,aa⟩:=HU3.out.bd.row2;have j:=hH D;have a2:=hH a8;have HLT4:=hH aa;have ad:=Zac (w:=w3) (c:=[.int .i64 1,.int .i64 ((N:Nat):Int),zN]) (x:=(⟨1,((N:Nat):Int),[]⟩:zaa)) (f:=[]) 122 ⟨_,[],rfl,Sl.nil,rfl⟩;have a6:=hH ad;have M:Hid (∀p∈fs4,p.1<w3):=hH (Live.lt (Live.append.1 D.1.live).2);have hsz4:w<=w3.heap.size:=Z.out.2.size;clear D a8 aa ad;go_wp2_with (at_builtin;go_must (refine qaa rfl _ _ 30 rfl Tryz.underlying30 hi hz0 hz1 hz2 rfl rfl rfl (j.out.below ((lf _ _).alloc (lr _) _)) a6.out (fun _ h=>by cases h) ?c1 ?c2 ?c3 ?_))
    case c1=>exact Xab (by simp;omega)
    case c2=>simp;omega
    case c3=>simp;omega
    intro v4 w4 hr4 U hn4;have J:Hid (kac w0 bc vb bs w w4):=hH ⟨(Z.out.1.below ((lf _ _).alloc (lr _) _)).wr U (fun p hp=>by have:=j.out.2.1.ge p hp;have:=Z.out.1.o;omega),uaw (Z.out.2.trans (Wr.of_below ((lf _ _).alloc (lr _) _))) U (fun p hp=>j.out.2.1.ge p hp)⟩
    have a0:Hid (Qaa w w4 fs4):=hH (U.fresh (Live.keep (Live.append.1 j.out.1.live).2 (Live.same_below ((lf _ _).alloc (lr _) _) M.out)) (a2.out.belowL ((lf _ _).alloc (lr _) _) M.out));have HO4:Hid (uaf w w4 v4 (o++[(⟨1,((N:Nat):Int),[]⟩:zaa)])):=hH (Row.owns (by simpa using hr4) a0.out)
    obtain⟨a4,c4,e4⟩:=HO4.out.rd.isSlice;simp only[List.length_append,List.length_singleton]at e4;subst e4;clear hr4 U hn4 j a2 HLT4 a6 M a0;by_cases h40:o.length<40
    ·have hl40:¬(40:Int)<(o.length:Int)+1:=om;go_wp2;go_roundg (41-(o++[(⟨1,((N:Nat):Int),[]⟩:zaa)]).length)
     case measure=>simp;omega
     case rel=>exact⟨_,o++[(⟨1,((N:Nat):Int),[]⟩:zaa)],(L-N),R,rfl,rfl,by first|rfl|go_num|(congr 1;omega),by first|rfl|go_num|(congr 1;omega),by omega,by omega,by simp;omega,HDO.out.snoc (by simp;try omega),HO4.out,J.out⟩
    have hl40:(40:Int)<(o.length:Int)+1:=om;obtain⟨fs5,I,a9,ac⟩:=HO4.out.bd.row2;have B:=hH I;have a3:=hH a9;have HLT5:=hH ac;have ae:=Zac (w:=w4) (c:=[.int .i64 1,.int .i64 (((L-N):Nat):Int),zN]) (x:=(⟨1,(((L-N):Nat):Int),[]⟩:zaa)) (f:=[]) 122 ⟨_,[],rfl,Sl.nil,rfl⟩;have a7:=hH ae;have Q:Hid (∀p∈fs5,p.1<w4):=hH (Live.lt (Live.append.1 I.1.live).2);have hsz5:w<=w4.heap.size:=J.out.2.size;clear I a9 ac ae;go_wp2_with (at_builtin;go_must (refine qaa rfl _ _ 30 rfl Tryz.underlying30 hi hz0 hz1 hz2 rfl rfl rfl (B.out.below ((lf _ _).alloc (lr _) _)) a7.out (fun _ h=>by cases h) ?c1 ?c2 ?c3 ?_))
    case c1=>exact Xab (by simp;omega)
    case c2=>simp;omega
    case c3=>simp;omega
    intro v5 w5 hr5 Y hn5;have HC5:Hid (kac w0 bc vb bs w w5):=hH ⟨(J.out.1.below ((lf _ _).alloc (lr _) _)).wr Y (fun p hp=>by have:=B.out.2.1.ge p hp;have:=J.out.1.o;omega),uaw (J.out.2.trans (Wr.of_below ((lf _ _).alloc (lr _) _))) Y (fun p hp=>B.out.2.1.ge p hp)⟩
    have a1:Hid (Qaa w w5 fs5):=hH (Y.fresh (Live.keep (Live.append.1 B.out.1.live).2 (Live.same_below ((lf _ _).alloc (lr _) _) Q.out)) (a3.out.belowL ((lf _ _).alloc (lr _) _) Q.out));have HO5:Hid (uaf w w5 v5 (o++[(⟨1,((N:Nat):Int),[]⟩:zaa)]++[(⟨1,(((L-N):Nat):Int),[]⟩:zaa)])):=hH (Row.owns (by simpa using hr5) a1.out)
    obtain⟨a5,c5,e5⟩:=HO5.out.rd.isSlice;simp only[List.length_append,List.length_singleton]at e5;subst e5;clear hr5 Y hn5 B a3 HLT5 a7 Q a1;go_wp2;go_ret;exact⟨_,_,rfl,HO5.out,HC5.out,by simp;omega,(HDO.out.snoc (by simp;try omega)).snoc sm⟩
theorem ZaP (w0:World)(bc:Nat)(vb:Value)(bs:List zah)(m:Nat)(w:World)(u:Cu w0 bc vb bs w)(z:m<=1000):
 Calls Tryz.prog 137 #[.pointer (some ⟨bc,0,none⟩),m] w (fun e j=>∃(v:Value) (o:List zaa),e= .returned v/\uaf w j v o/\kac w0 bc vb bs w j):=
 (Jay w0 bc vb bs m w u z).mono fun _ _ ⟨v,o,n,p,q,_⟩=>⟨v,o,n,p,q⟩
def RdG {α:Type}[GoT α](B:Nat)(w:World)(v:Value)(l:List α):Prop:=∃f,Sl BIG w v l f/\∀p∈f,B<=p.1
theorem RdG.rd {α:Type}[GoT α]{B:Nat}{w:World}{v:Value}{l:List α}(h:RdG B w v l):RdS w v l:=let⟨f,s,_⟩:=h;⟨f,s⟩
theorem RdG.mono {α:Type}[GoT α]{B C:Nat}{w:World}{v:Value}{l:List α}(h:RdG B w v l)(j:C<=B):RdG C w v l:=let⟨f,s,k⟩:=h;⟨f,s,fun p n=>Nat.le_trans j (k p n)⟩
theorem uaf.rdG {α:Type}[GoT α]{B:Nat}{w:World}{v:Value}{l:List α}(h:uaf B w v l):RdG B w v l:=let⟨f,s,k⟩:=h;⟨f,s,k.ge⟩
theorem ZaV {B:Nat}{w:World}{v:Value}{o:List zaa}{fp:List Pos}(h:Sl BIG w v o fp)(R:Qaa B w fp){P:Program}{T E:TypeId}(hT:P.underlying T=some (.slice E))(hl:∀J,(sizeOf E).run P J= .ok (GoT.n zaa) J){k:Nat}{p:zaa}(hk:o[k]? =some p):
 ∃b q vs f2,(∀J,(Instr.indexAt T v (.int .i64 k)).run P J= .ok (.pointer (some ⟨b,q,none⟩)) J)/\B<=b/\b<w.heap.size/\At w b q [p.kind,p.n,vs]/\Sl BIG w vs p.signs f2/\Qaa B w f2/\(∀j<3,w.frozen? ⟨b,q+j,none⟩=false)/\(∀j<3,(b,q+j)∉f2)/\
  ∀(I:World) (kd n:Int) (v':Value) (sg:List Int) (Z:List Pos),Wr (own b q 3++f2) w I->At I b q [kd,n,v']->Sl BIG I v' sg Z->(∀p∈Z,B<=p.1)->RdG B I v (o.set k ⟨kd,n,sg⟩):=by
 have hlt:=(lg.1 hk).1;rcases h with⟨ao,rfl,rfl,rfl⟩|⟨b,u,cap,cs,fs,rfl,h1,h2,h3,h4,h5,h6,rfl⟩
 ·simp at hlt
 obtain⟨c1,c2,c3,f1,f2,f3,rfl,rfl,Q,e1,e2,e3⟩:=h5.at_ k hk;have Q:c1.length=k*3:=Q;have h6:Live w (own b u (cap*3)):=h6;have R:Qaa B w (own b u (cap*3)++(f1++f2++f3)):=R;have hl:∀J,(sizeOf E).run P J= .ok 3 J:=hl;have hcap:(k+1)*3<=cap*3:=Nat.mul_le_mul_right _ om;rw[List.append_assoc]at h4;obtain⟨a1,a23⟩:=At.append.1 h4;obtain⟨a2,a3⟩:=At.append.1 a23;rw[Q]at a2 a3;obtain⟨vs,f2',rfl,hs,rfl⟩:=e2;have M:∀j<3,(b,u+k*3+j)∈own b u (cap*3):=fun j hj=>Kaa.2 ⟨rfl,by simp only;omega,by simp only;omega⟩
 have N:=ln.1 R.nodup;have n12:=ln.1 N.2.1;have n1:=ln.1 n12.1;have hlf:Live w (f1++f2++f3):=h5.live;have U:=Live.append.1 hlf;have hi:∀J,(Instr.indexAt T (.slice (some ⟨b,u,none⟩) o.length cap) (.int .i64 k)).run P J= .ok (.pointer (some ⟨b,u+k*3,none⟩)) J:=fun J=>by
  have hi:¬o.length<=k:=om;simp[Instr.indexAt,run_underlying hT,asIntOf,hl,Addr.add_lit,Result.andThen];intro hh;exact absurd hh hi
 refine⟨b,u+k*3,vs,f2,hi,R.ge _ (lu _ (M 0 om)),h6.lt _ (M 0 om),a2,hs,R.right.left.right,fun j hj=>R.free _ (lu _ (M j hj)),fun j hj D=>N.2.2 _ (M j hj) _ (by simp[D]) rfl,?_⟩
 intro I kd n v' sg Z hw hA hr hg';have Y:∀p∈own b (u+k*3) 3,p∈own b u (cap*3):=by
  intro p z;obtain⟨m1,m2,m3⟩:=Kaa.1 z;exact Kaa.2 ⟨m1,by omega,by omega⟩
 have d1:∀p∈f1,p∉own b (u+k*3) 3++f2:=fun p z D=>(lm.1 D).elim (fun D=>N.2.2 _ (Y p D) _ (by simp[z]) rfl) fun D=>n1.2.2 _ z _ D rfl
 have d3:∀p∈f3,p∉own b (u+k*3) 3++f2:=fun p z D=>(lm.1 D).elim (fun D=>N.2.2 _ (Y p D) _ (by simp[z]) rfl) fun D=>n12.2.2 _ (by simp[D]) _ z rfl
 have d0:∀j,j<cap*3->(j<k*3\/k*3+3<=j)->(b,u+j)∉own b (u+k*3) 3++f2:=fun j hj hjk D=>(lm.1 D).elim (fun D=>by
  obtain⟨_,m2,m3⟩:=Kaa.1 D;simp only at m2 m3;omega) fun D=>N.2.2 (b,u+j) (Kaa.2 ⟨rfl,by simp only;omega,by simp only;omega⟩) _ (by simp[D]) rfl
 have E1:Els BIG I c1 (o.take k) f1:=e1.keep (hw.same (Live.append.1 U.1).1 d1);have E3:Els BIG I c3 (o.drop (k+1)) f3:=e3.keep (hw.same U.2 d3);have hcs:(c1++([.int .i64 p.kind,.int .i64 p.n,vs]++c3)).length=o.length*3:=by
  have e:(c1++[.int .i64 p.kind,.int .i64 p.n,vs]++c3).length=o.length*3:=h5.length;rw[<-List.append_assoc];exact e
 have hlc:o.length*3<=cap*3:=Nat.mul_le_mul_right _ h1;simp only[List.length_append,List.length_cons,List.length_nil]at hcs;have hbs:b<w.heap.size:=h6.lt _ (M 0 om);have A1:At I b u c1:=a1.keep fun j hj=>hw.cell (b,u+j) hbs (d0 j om (.inl om))
 have A3:At I b (u+k*3+3) c3:=by
  have a3':At w b (u+k*3+3) c3:=a3;refine a3'.keep fun j hj=> ?_
  have:=hw.cell (b,u+(k*3+3+j)) hbs (d0 _ om (.inr om));rw[show u+k*3+3+j=u+(k*3+3+j) by omega]
  exact this
 have hE:Els BIG I (c1++([.int .i64 kd,.int .i64 n,v']++c3)) (o.set k ⟨kd,n,sg⟩) (f1++(Z++f3)):=by
  rw[List.set_eq_take_append_cons_drop,if_pos hlt];exact Els.append.2 ⟨c1,_,f1,Z++f3,rfl,E1,⟨[kd,n,v'],c3,Z,f3,rfl,⟨v',Z,rfl,hr,rfl⟩,E3,rfl⟩,rfl⟩
 have hA':At I b u (c1++([.int .i64 kd,.int .i64 n,v']++c3)):=At.append.2 ⟨A1,by rw[Q];exact At.append.2 ⟨hA,A3⟩⟩
 have hl6:Live I (own b u (cap*3)):=by
  intro p z;obtain⟨m1,m2,m3⟩:=Kaa.1 z;by_cases hq:u+k*3<=p.2/\p.2<u+k*3+3
  ·have:=hA (p.2-(u+k*3)) _ (List.getElem?_eq_getElem (by simp only[List.length_cons,List.length_nil];omega))
   rw[show p=(b,u+k*3+(p.2-(u+k*3))) by rw[<-m1];ext<;>simp;omega]
   simp only;rw[this];rfl
  ·have hd:=d0 (p.2-u) om om;rw[show(b,u+(p.2-u))=p by rw[<-m1];ext<;>simp;omega]at hd
   rw[hw.cell p (h6.lt p z) hd];exact h6 p z
 exact⟨_,.inr ⟨b,u,cap,_,_,by rw[List.length_set],by rw[List.length_set];exact h1,h2,by rw[List.length_set];exact h3,hA',hE,hl6,rfl⟩,fun p z=>by
  rcases lm.1 z with z|z
  ·exact R.ge p (lu _ z)
  ·rcases lm.1 z with z|z
   ·exact R.ge p (by simp[z])
   ·rcases lm.1 z with z|z
    ·exact hg' p z
    ·exact R.ge p (by simp[z])⟩
section
variable {w0 w w4:World} {bc B b q k:Nat} {vb v vs:Value} {bs:List zah} {o:List zaa} {p:zaa} {f2:List Pos}
theorem za6 (R:kac w0 bc vb bs w w4)(hBw:w.heap.size<=B)(hbl:bc<w.heap.size)(hB:B<=b)(Q:At w4 b q [p.kind,p.n,vs])(Y:Sl BIG w4 vs p.signs f2)(I:Qaa B w4 f2)(U:∀j<3,(b,q+j)∉f2)
 (D:∀(N:World) (kd n:Int) (v':Value) (sg:List Int) (Z:List Pos),Wr (own b q 3++f2) w4 N->At N b q [kd,n,v']->Sl BIG N v' sg Z->(∀p∈Z,B<=p.1)->RdG B N v (o.set k ⟨kd,n,sg⟩)) (j:Nat) (hj:j<2) (u:Int):
 (∃o':List zaa,RdG B (w4.setCell ⟨b,q+j,none⟩ u) v o')/\kac w0 bc vb bs w (w4.setCell ⟨b,q+j,none⟩ u):=by
 have M:Wr [(b,q+j)] w4 (w4.setCell ⟨b,q+j,none⟩ u):=(Wr.refl _ _).put (b:=b) (o:=q+j) sm _;have J:∀p∈[(b,q+j)],p=(b,q+j):=fun p z=>List.mem_singleton.1 z
 have lo:=R.1.o;have q0:=Q.zero;have q1:=Q 1 _ rfl;have q2:=Q 2 _ rfl;refine⟨?_,R.1.wr M fun p z=>by rw[J p z];simp only;omega,uaw R.2 M fun p z=>by rw[J p z];simp only;omega⟩
 have h1:Wr (own b q 3++f2) w4 (w4.setCell ⟨b,q+j,none⟩ u):=M.sub fun p z=>by rw[J p z];exact lu _ (Kaa.2 ⟨rfl,by simp only;omega,by simp only;omega⟩)
 have h2:Sl BIG (w4.setCell ⟨b,q+j,none⟩ u) vs p.signs f2:=Y.wr M fun p z hm=>by rw[J p hm]at z;exact U j om z
 rcases(show j=0\/j=1 by omega)with rfl|rfl
 ·refine⟨_,D _ u p.n vs p.signs f2 h1 (fun i y hi=> ?_) h2 I.ge⟩
  match i,hi with
  |0,hi=>simp at hi;subst hi;simp[xaa,q0]
  |1,hi=>simp at hi;subst hi;simp[xaa,q1]
  |2,hi=>simp at hi;subst hi;simp[xaa,q2]
 ·refine⟨_,D _ p.kind u vs p.signs f2 h1 (fun i y hi=> ?_) h2 I.ge⟩
  match i,hi with
  |0,hi=>simp at hi;subst hi;simp[xaa,q0]
  |1,hi=>simp at hi;subst hi;simp[xaa,q1]
  |2,hi=>simp at hi;subst hi;simp[xaa,q2]
theorem Kbd {w5 I:World}{M:Value}{Y:List Int}{C:Nat}(hc:kac w0 bc vb bs w w4)(hBw:w.heap.size<=B)(hbl:bc<w.heap.size)(hB:B<=b)(hbw:b<w4.heap.size)(hA:At w4 b q [p.kind,p.n,vs])(hss:Sl BIG w4 vs p.signs f2)(hff:Qaa B w4 f2)(R:∀j<3,(b,q+j)∉f2)
 (U:∀(w':World) (kd n:Int) (M:Value) (Y:List Int) (f':List Pos),Wr (own b q 3++f2) w4 w'->At w' b q [kd,n,M]->Sl BIG w' M Y f'->(∀p∈f',B<=p.1)->RdG B w' v (o.set k ⟨kd,n,Y⟩))
 (J:Below w4 w4 w5) (N:Wr (rowP (GoT.n Int) vs) w5 I) (hr:Row C I M Y []) (hn:∀p∈rowP (GoT.n Int) M,p∈rowP (GoT.n Int) vs\/w5<=p.1):
 ((I.cell? ⟨b,q,none⟩=some (.int .i64 p.kind)/\I.cell? ⟨b,q+2,none⟩=some vs)/\(∃o':List zaa,RdG B (I.setCell ⟨b,q+2,none⟩ M) v o')/\kac w0 bc vb bs w (I.setCell ⟨b,q+2,none⟩ M)):=by
 obtain⟨gs,rfl⟩:=hss.split;have D:∀p∈rowP (GoT.n Int) vs,p∈rowP (GoT.n Int) vs++gs:=fun p u=>lu _ u
 have s5:=J.size;have z:∀j<3,I.cell? ⟨b,q+j,none⟩=w4.cell? ⟨b,q+j,none⟩:=fun j hj=>
  (N.cell (b,q+j) (by simp only;omega) (fun hm=>R j hj (D _ hm))).trans (J.cell (p:=⟨b,q+j,none⟩) hbw)
 have q0:=(z 0 om).trans hA.zero;have q1:=(z 1 om).trans (hA 1 _ rfl);have q2:=(z 2 om).trans (hA 2 _ rfl);have hw:Wr [(b,q+2)] I (I.setCell ⟨b,q+2,none⟩ M):=(Wr.refl _ _).put (b:=b) (o:=q+2) sm _;have Z:∀p∈[(b,q+2)],p=(b,q+2):=fun p u=>List.mem_singleton.1 u
 have lo:=hc.1.o;have Q:∀p∈rowP (GoT.n Int) vs,B<=p.1:=fun p u=>hff.ge p (D p u)
 have c6:kac w0 bc vb bs w I:=⟨(hc.1.below J).wr N fun p u=>by have:=Q p u;omega,uaw (hc.2.trans (Wr.of_below J)) N fun p u=>by have:=Q p u;omega⟩
 have hwa:Wr (own b q 3++(rowP (GoT.n Int) vs++gs)) w4 (I.setCell ⟨b,q+2,none⟩ M):=
  ((Wr.of_below J).trans (N.sub fun p u=>lw _ (D p u))).trans (hw.sub fun p u=>by rw[Z p u];exact lu _ (Kaa.2 ⟨rfl,by simp only;omega,by simp only;omega⟩))
 refine⟨⟨q0,q2⟩,⟨_,U _ p.kind p.n M Y _ hwa (fun i y hi=> ?_) (hr.1.wr hw fun p u hm=> ?_) (fun p u=>by rw[List.append_nil]at u;rcases hn p u with h|h;exact Q p h;omega)⟩,c6.1.wr hw fun p u=>by rw[Z p u];simp only;omega,uaw c6.2 hw fun p u=>by rw[Z p u];simp only;omega⟩
 ·match i,hi with
  |0,hi=>simp at hi;subst hi;have q0:I.cell? ⟨b,q,none⟩=some (.int .i64 p.kind):=q0;simp[xaa,q0]
  |1,hi=>simp at hi;subst hi;simp[xaa,q1]
  |2,hi=>simp at hi;subst hi;simp[xaa,q2]
 ·rw[Z p hm,List.append_nil]at u;rcases hn _ u with h|h
  ·exact R 2 om (D _ h)
  ·simp only at h;omega
end
theorem qbg (w:World)(y:Int)(E:TypeId):Src (w.alloc (.cells #[.int .i64 1,.int .i64 200,zN,.int .i64 3,y,zN] E)) (.slice (some ⟨w,0,none⟩) 2 2) [(⟨1,200,[]⟩:zaa),⟨3,y,[]⟩] []:=by
 have p:Bx (w.alloc (.cells #[.int .i64 1,.int .i64 200,zN,.int .i64 3,y,zN] E)) w [.int .i64 1,.int .i64 200,zN,.int .i64 3,y,zN]:=Bx.new rfl;refine⟨some ⟨w,0,none⟩,2,[.int .i64 1,.int .i64 200,zN,.int .i64 3,y,zN],rfl,⟨[.int .i64 1,.int .i64 200,zN],[.int .i64 3,y,zN],[],[],rfl,⟨_,[],rfl,Sl.nil,rfl⟩,⟨[.int .i64 3,y,zN],[],[],[],rfl,⟨_,[],rfl,Sl.nil,rfl⟩,⟨rfl,rfl⟩,rfl⟩,rfl⟩,.inr ⟨_,rfl,fun j u n=> ?_⟩⟩
 rw[addr_add,Nat.zero_add];exact(p.2 j u n).1
theorem qaC (w0:World)(bc:Nat)(vb:Value)(bs:List zah)(w:World)(hc:Cu w0 bc vb bs w):
 Calls Tryz.prog 136 #[.pointer (some ⟨bc,0,none⟩)] w (fun e w'=>∃(v:Value) (o:List zaa),e= .returned v/\RdG w w' v o/\kac w0 bc vb bs w w'):=by
 obtain⟨i0,hi,hz0,hz1,hz2⟩:=info_parts uam;obtain⟨j0,hj,jz0,jz1,jz2⟩:=info_parts Zau;have hbl:=hc.lt;go_enter Tryz.func136,Tryz.ntmps136
 go_wp2_with fail
 refine(xab w0 bc vb bs 12 _ hc).mono ?_;rintro e' w1 ⟨x,rfl,hx,hc1⟩;obtain⟨hx0,hx1⟩:=hx.1 (by decide)
 obtain⟨m,rfl⟩:∃m:Nat,x=m:=⟨x.toNat,by omega⟩
 have HC1:=hH hc1;have J:w<=w1.heap.size:=hc1.2.size;clear hc1 hx hc;go_wp2_with fail
 refine(Jay w0 bc vb bs m _ HC1.out.1 om).mono ?_;rintro e' w2 ⟨v,o,rfl,ho,hc2,hol,hdo⟩;obtain⟨av,cv,rfl⟩:=ho.rd.isSlice;obtain⟨v,hv⟩:∃v,Value.slice av o.length cv=v:=⟨_,rfl⟩;have hlv:∀w1 ty,(Builtin.len_ #[30] ty #[v]).run Tryz.prog w1= .ok (.int .i64 o.length) w1:=fun w1 ty=>by rw[<-hv];exact ho.rd.len Tryz.underlying30 w1 ty
 rw[hv]at ho;rw[hv];have HU2:=hH ho;have HC2:=hH (HC1.out.trans hc2);have HDO:=hH hdo;have hs12:=hc2.2.size;clear ho hc2 hdo HC1 hv;by_cases h0:o.length=0
 ·have h02:((o.length:Int)==0)=true:=by simp[h0]
  go_wp2;go_ret;exact⟨v,o,rfl,HU2.out.rdG.mono J,HC2.out⟩
 have h02:((o.length:Int)==0)=false:=by simp;intro e;rw[e]at h0;exact h0 rfl
 go_wp2_with fail
 refine(xab w0 bc vb bs (o.length:Int) _ HC2.out.1).mono ?_;rintro e' w3 ⟨x,rfl,hx,hc3⟩;obtain⟨k0,k1⟩:=hx.1 om;obtain⟨k,rfl⟩:∃k:Nat,x=k:=⟨x.toNat,by omega⟩
 obtain⟨p,hk⟩:=Jaa (l:=o) (k:=k) om;have hp12:=HDO.out p (List.mem_of_getElem? hk);have HK:=hH hk;have hs23:=hc3.2.size;have HU3:=hH (HU2.out.cu hc3.2 om);have HC3:=hH (HC2.out.trans hc3);clear hx hc3 hk HU2 HC2;go_wp2_with fail
 refine(xab w0 bc vb bs 12 _ HC3.out.1).mono ?_;rintro e' w4 ⟨x,rfl,hx,hc4⟩;obtain⟨x0,x1⟩:=hx.1 (by decide)
 have I:=hH (HU3.out.cu hc4.2 om);have hs34:=hc4.2.size;have n:=hH (HC3.out.trans hc4);clear hx hc4 HU3 HC3;rcases(show x=0\/x=1\/x=2\/x=3\/4<=x by omega)with rfl|rfl|rfl|rfl|h4
 ·clear x0 x1;go_wp2_with fail
  refine(kap w0 bc vb bs 1 3 _ n.out.1).mono ?_;rintro e' R ⟨u,rfl,j⟩;have D:=hH (n.out.trans j);obtain⟨f,Q,N⟩:=I.out.cu j.2 om;obtain⟨b,q,vs,f2,g1,gB,gl,Y,gs,gf,gz,gn,z⟩:=ZaV Q N Tryz.underlying30 uae HK.out;have M:=hH (za6 D.out J hbl gB Y gs gf gn z 0 om u);have q0:=Y.zero;have z0:R.frozen? ⟨b,q,none⟩=false:=gz 0 om;clear j Q N Y gs gf gz gn z I n;go_wp2;go_ret;obtain⟨⟨o',Z⟩,h2⟩:=M.out;exact⟨v,o',rfl,Z.mono J,h2⟩
 ·clear x0 x1;go_wp2_with fail
  refine(kap w0 bc vb bs 0 200 _ n.out.1).mono ?_;rintro e' R ⟨u,rfl,j⟩;have D:=hH (n.out.trans j);obtain⟨f,Q,N⟩:=I.out.cu j.2 om;obtain⟨b,q,vs,f2,g1,gB,gl,Y,gs,gf,gz,gn,z⟩:=ZaV Q N Tryz.underlying30 uae HK.out;have M:=hH (za6 D.out J hbl gB Y gs gf gn z 1 om u);have q1:=Y 1 _ rfl;have z1:R.frozen? ⟨b,q+1,none⟩=false:=gz 1 om;clear j Q N Y gs gf gz gn z I n;go_wp2;go_ret;obtain⟨⟨o',Z⟩,h2⟩:=M.out;exact⟨v,o',rfl,Z.mono J,h2⟩
 ·clear x0 x1;obtain⟨f,hs4,hf4⟩:=I.out;obtain⟨b,q,vs,f2,g1,gB,gl,Y,_⟩:=ZaV hs4 hf4 Tryz.underlying30 uae HK.out;have q2:=Y 2 _ rfl;have hbb:b≠bc:=om;clear hs4 hf4 Y;go_upto_region 11 with(fail)
  go_region_law (first|(go_simp;go_at_call 138;refine(kap w0 bc vb bs 0 1114111 _ (n.out.1.below blw)).mono ?_;rintro e' R ⟨u,rfl,j⟩;have D:=hH ((n.out.trans ⟨n.out.1.below blw,Wr.of_below (show Below w4 w4 _ from blw)⟩).trans j);obtain⟨f5,Q,N⟩:=(I.out.below (show Below w4 w4 _ from blw)).cu j.2 om;obtain⟨b',q',vs',f2,g1',gB',gl',gA',gs,gf,gz,gn,z⟩:=ZaV Q N Tryz.underlying30 uae HK.out;obtain⟨rfl,rfl⟩:b'=b/\q'=q:=(by have:=(g1' w4).symm.trans (g1 w4);simpa using this);obtain rfl:vs'=vs:=(by have Z:=gA' 2 _ rfl;have h2:=(j.2.cell (b',q'+2) (by simp only;first|omega|(simp;omega)) (by simp;omega)).trans ((show Below w4 w4 _ from blw).cell (p:=⟨b',q'+2,none⟩) gl |>.trans q2);exact Option.some.inj (Z.symm.trans h2));have q2':=gA' 2 _ rfl;have HA5:=hH gA';have HS5:=hH gs;have HF5:=hH gf;have HZ5:=hH gz;have HN5:=hH gn;have HSET:=hH z;have B:Hid (Row w1 R vs' p.signs []):=hH (show uaf w1 R vs' p.signs from⟨f2,gs,gf⟩).ints;clear j Q N gA' gs gf gz gn z)|(refine yad (by rfl) (.tmp 43) (.tmp 46) 31 (by rfl) Tryz.underlying31 hj jz0 jz1 jz2 rfl (by rfl) (by rfl) (B.out.below (show Below R R _ from blw)) (QaW R u 3) (fun _ h=>by cases h) (Xab (by simp;omega)) (by simp;omega) (by first|omega|(simp;omega)) ?_;intro v6 w6 U hw6 hn6;replace U:Row w1 w6 v6 (p.signs++[u]) []:=U;obtain⟨sg,hsg⟩:∃sg,p.signs++[u]=sg:=⟨_,rfl⟩;rw[hsg]at U;obtain⟨a6,c6,rfl⟩:=U.rd.isSlice;obtain⟨⟨_,q6⟩,Z,h2⟩:=Kbd D.out J hbl gB' gl' HA5.out HS5.out HF5.out HN5.out HSET.out (show Below R R _ from blw) hw6 U (by first|exact hn6|exact fun p hp=>hn6 p.1 p.2 hp);have z6:w6.frozen? ⟨b',q'+2,none⟩=false:=(hw6.frozen (b',q'+2) (by first|(simp;done)|(simp;omega)|omega)).trans (((show Below R R _ from blw).frozen (p:=⟨b',q'+2,none⟩) gl').trans (HZ5.out 2 om));have M:=hH (And.intro Z h2);clear U hw6 hn6 Z h2 hsg))
  all_goals
   go_wp2;go_ret;obtain⟨⟨o',Z⟩,h2⟩:=M.out;exact⟨v,o',rfl,Z.mono J,h2⟩
 ·clear x0 x1;go_wp2_with fail
  refine(xab w0 bc vb bs 2 _ n.out.1).mono ?_;rintro e' R ⟨y,rfl,_,j⟩;have D:=hH (n.out.trans j);obtain⟨fs,hrow,hfs,hlt⟩:=(I.out.cu j.2 om).bd.row2;have HFS:=hH hfs.ge;have B:=hH hrow;have hs45:=j.2.size;clear j hrow hfs hlt I n;go_wp2_with (at_builtin;go_must (refine qaa rfl _ _ 30 rfl Tryz.underlying30 hi hz0 hz1 hz2 rfl rfl rfl (B.out.below ((lf _ _).alloc (lr _) _)) (qbg R y 122) (fun _ h=>by cases h) ?c1 ?c2 ?c3 ?_))
  case c1=>exact Xab (by simp;omega)
  case c2=>simp;omega
  case c3=>simp;omega
  intro v' w6 hr hw hn;have HR:Hid (RdG w1 w6 v' _):=hH ⟨_,hr.1,fun p hp=>(lm.1 hp).elim (hr.2.1.ge p) (HFS.out p)⟩
  have HC6:Hid (kac w0 bc vb bs w w6):=hH ⟨(D.out.1.below ((lf _ _).alloc (lr _) _)).wr hw (fun p hp=>by have:=B.out.2.1.ge p hp;have:=D.out.1.o;omega),uaw (D.out.2.trans (Wr.of_below ((lf _ _).alloc (lr _) _))) hw (fun p hp=>by have:=B.out.2.1.ge p hp;omega)⟩
  obtain⟨av,cv,rfl⟩:=hr.rd.isSlice;clear hr hw hn B;go_wp2;go_ret;exact⟨_,_,rfl,HR.out.mono J,HC6.out⟩
 ·have e0:(x==0)=false:=by simp;omega
  have e1:(x==1)=false:=by simp;omega
  have e2:(x==2)=false:=by simp;omega
  have e3:(x==3)=false:=by simp;omega
  clear x0 x1;go_wp2;go_ret;exact⟨v,o,rfl,I.out.rdG.mono J,n.out⟩
theorem xaT (w0:World)(bc:Nat)(vb:Value)(bs:List zah)(b:Nat)(D I J M:ByteArray)(w:World)(N:Cu w0 bc vb bs w)(R:Bx w b [D,I,J,M])(hb:b≠bc):
 Calls Tryz.prog 127 #[.pointer (some ⟨bc,0,none⟩),.slice (some ⟨b,0,none⟩) 4 4] w (fun e U=>∃s:ByteArray,e= .returned (.string s)/\(s=D\/s=I\/s=J\/s=M)/\kac w0 bc vb bs w U):=by
 go_enter Tryz.func127,Tryz.ntmps127
 go_wp2_with fail
 refine(xab w0 bc vb bs 4 _ N).mono ?_;rintro Y w1 ⟨x,rfl,q,n⟩;obtain⟨u,B⟩:=q.1 (by decide)
 obtain⟨z,Z,q1,q2,q3⟩:=(R.wr n.2 (fun p Q=>by simp only[List.mem_cons,List.not_mem_nil,or_false]at Q;rcases Q with rfl|rfl<;>exact Ne.symm hb)).o4
 have j:=hH n;clear n q N R;obtain rfl|rfl|rfl|rfl:x=0\/x=1\/x=2\/x=3:=om
 ·clear u B;go_wp2;go_ret;exact⟨D,rfl,.inl rfl,j.out⟩
 ·clear u B;go_wp2;go_ret;exact⟨I,rfl,.inr (.inl rfl),j.out⟩
 ·clear u B;go_wp2;go_ret;exact⟨J,rfl,.inr (.inr (.inl rfl)),j.out⟩
 ·clear u B;go_wp2;go_ret;exact⟨M,rfl,.inr (.inr (.inr rfl)),j.out⟩
theorem jap (w0:World)(bc:Nat)(vb:Value)(bs:List zah)(w:World)(p:Cu w0 bc vb bs w):
 Calls Tryz.prog 95 #[.pointer (some ⟨bc,0,none⟩)] w (fun e B=>∃s:ByteArray,e= .returned (.string s)/\Kaj s=true/\s.size<=8/\kac w0 bc vb bs w B):=by
 have z:=p.lt;go_enter Tryz.func95,Tryz.ntmps95
 go_wp2_with fail
 refine(xaT w0 bc vb bs w ⟨#[97]⟩ ⟨#[98]⟩ ⟨#[110,111,116,101,115]⟩ ⟨#[116,111,100,111]⟩ _ (p.below ((lf _ _).alloc (lr _) _)) (Bx.new rfl) om).mono ?_;rintro I D ⟨s,rfl,u,j⟩;have n:Hid (kac w0 bc vb bs w D):=hH ⟨j.1,(Wr.of_below ((lf _ _).alloc (lr _) _)).trans j.2⟩;have q:Hid (Kaj s=true/\s.size<=8):=hH (by rcases u with rfl|rfl|rfl|rfl<;>exact⟨by decide,by decide⟩)
 clear j u p;go_wp2;go_ret;exact⟨s,rfl,q.out.1,q.out.2,n.out⟩
