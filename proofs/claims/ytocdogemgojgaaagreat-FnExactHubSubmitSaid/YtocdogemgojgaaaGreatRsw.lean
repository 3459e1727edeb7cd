/- The program's cursor: taking a whole part. -/
import Derived.Test.YtocdogemgojgaaaGreatRst
import Derived.Deep.Cut
set_option maxHeartbeats 4000000
set_option maxRecDepth 100000
namespace Go.Proofs.YtocdogemgojgaaaGreat
open Go.RowKit
theorem impl_whole_c (b:Nat)(v:Value)(p:DPart)(l:List DPart)(f:List Pos)(w:World)(hX:Bx w b [v])(hr:Sl BIG w v (p::l) f)(hf:∀q∈f,q.1≠b)(hp:partOk p=true)(D:l.length<=5000):
 Calls Tryz.prog 254 #[.pointer (some ⟨b,0,none⟩)] w (fun e w'=>∃v' U vs fs,e= .returned (.agg #[.int .i64 p.kind,.int .i64 (cutL p (nsz p)).n,vs])/\Sl BIG w' vs (cutL p (nsz p)).signs fs/\Bx w' b [v']/\Sl BIG w' v' (cutR p (nsz p)::l) U/\(∀q∈U++fs,q∈f\/w.heap.size<=q.1/\q.1≠w.heap.size)/\Wr [(b,0)] w w'):=by
 have HX:=hH hX;have HR:=hH hr;have HF:=hH hf;have HP:=hH hp;have HL:=hH D;have HFL:=hH (Live.lt hr.live);have hz:=hH (nsz_eq hp);obtain⟨pb0,pb1,pb2⟩:=nsz_bd hp;obtain⟨zl,c0,g0⟩:=hX.q1;obtain⟨u,o1,vg,fg,i1,i2,ig,if_⟩:=Sl.head Tryz.underlying30 szi_DPart hr;have e0:=i2.zero;have e1:w.cell? ⟨u,o1+1,none⟩=some _:=i2 1 _ rfl;have e2:w.cell? ⟨u,o1+2,none⟩=some _:=i2 2 _ rfl;have l1:u<w.heap.size:=lk (w:=w) (a:=⟨u,o1,none⟩) e0;have HIG:=hH ig;clear i2 ig if_ hX hr hf hp D;obtain⟨W,hW⟩:∃W:World,W=w.alloc (.cells #[.int .i64 0,.int .i64 0,.slice none 0 0] 142):=⟨_,rfl⟩;have M:Below w.heap.size w W:=by rw[hW];exact(lf _ _).alloc (lr _) _
 have Y:Hid (Bx W w.heap.size [.int .i64 0,.int .i64 0,.slice none 0 0]):=hH (by rw[hW];exact Bx.new rfl)
 have N:=hH M;have sW:=M.size;replace c0:W.cell? ⟨b,0,none⟩=some _:=(M.cell (p:=⟨b,0,none⟩) zl).trans c0;replace e0:W.cell? ⟨u,o1,none⟩=some _:=(M.cell (p:=⟨u,o1,none⟩) l1).trans e0;replace e1:W.cell? ⟨u,o1+1,none⟩=some _:=(M.cell (p:=⟨u,o1+1,none⟩) l1).trans e1;replace e2:W.cell? ⟨u,o1+2,none⟩=some _:=(M.cell (p:=⟨u,o1+2,none⟩) l1).trans e2;clear M;go_enter Tryz.func254,Tryz.ntmps254
 go_upto_region 1 with(fail)
 rw[<-hW];clear hW;go_wp2_with fail
 refine(impl_size_c p vg _ pb0 pb1 pb2 ⟨_,HIG.out.belowW N.out⟩).mono ?_;rintro e' w1 ⟨rfl,j⟩;rw[<-hz.out];have B1:=hH (N.out.trans (j.mono sW));have HX1:=hH ((HX.out.at N.out).at j);have HR1:=hH (Y.out.at j);have s1:=j.size;obtain⟨zr,_⟩:=Y.out.o3;clear j c0 g0 e0 e1 e2;go_wp2_with fail
 refine(impl_take_c b (nsz p) v p l f _ HX1.out (HR.out.belowW B1.out) HF.out HP.out (lr _) HL.out).mono ?_;rintro e' w2 ⟨v',U,vs,fs,rfl,R,x1,a1,m,wr⟩;obtain⟨Q,qs,rfl⟩:=R.isS;have nb:¬(w.heap.size=b):=by omega
 have B:¬(b=w.heap.size):=by omega
 obtain⟨zr2,r0,r1,r2,x0,x1',x2⟩:=(HR1.out.wr wr (fun q z=>by simp only[List.mem_singleton]at z;subst z;exact fun e=>B e)).q3
 have HS1:=hH R;have HS2:=hH a1;have HX2:=hH x1;have HM:=hH m;have HW2:=hH wr;clear R a1 x1 m wr;go_wp2;refine bodyPost_ret (v:= .agg #[.int .i64 p.kind,.int .i64 (cutL p (nsz p)).n,.slice Q (cutL p (nsz p)).signs.length qs]) (by simp[results,Tryz.results254,go_sem,cell_setCell, *]) rfl ?_
 have J:Wr [(w.heap.size,0),(w.heap.size,1),(w.heap.size,2)] w2 (((w2.setCell ⟨w.heap.size,0,none⟩ (.int .i64 p.kind)).setCell ⟨w.heap.size,1,none⟩ (.int .i64 (cutL p (nsz p)).n)).setCell ⟨w.heap.size,2,none⟩ (.slice Q (cutL p (nsz p)).signs.length qs)):=(((Wr.refl _ _).put (b:=w.heap.size) (o:=0) (by simp) _).put (b:=w.heap.size) (o:=1) (by simp) _).put (b:=w.heap.size) (o:=2) (by simp) _
 have I:∀q:Pos,q.1≠w.heap.size->q∉[(w.heap.size,0),(w.heap.size,1),(w.heap.size,2)]:=by
  rintro q h2 hm;simp only[List.mem_cons,List.not_mem_nil,or_false]at hm;rcases hm with rfl|rfl|rfl<;>exact h2 rfl
 have Z:∀q∈U++fs,q∈f\/w.heap.size<=q.1/\q.1≠w.heap.size:=fun q z=>(HM.out q z).imp id fun h=>by omega
 have a0:∀q∈U++fs,q.1≠w.heap.size:=fun q z=>by
  rcases Z q z with h|h
  ·have:=HFL.out q h;omega
  ·exact h.2
 have hbw:Below w.heap.size w2 (((w2.setCell ⟨w.heap.size,0,none⟩ (.int .i64 p.kind)).setCell ⟨w.heap.size,1,none⟩ (.int .i64 (cutL p (nsz p)).n)).setCell ⟨w.heap.size,2,none⟩ (.slice Q (cutL p (nsz p)).signs.length qs)):=(((lf _ _).setCell (p:=⟨w.heap.size,0,none⟩) (lr _) _).setCell (p:=⟨w.heap.size,1,none⟩) (lr _) _).setCell (p:=⟨w.heap.size,2,none⟩) (lr _) _;exact⟨v',U,_,fs,rfl,HS1.out.wr J fun q z=>I q (a0 q (by simp[z])),((HX2.out.setO B).setO B).setO B,HS2.out.wr J fun q z=>I q (a0 q (by simp[z])),Z,((Wr.of_below B1.out).trans HW2.out).tr_below hbw⟩
