/- Drawn revisions and operations for a document. -/
import Derived.Test.YtbonkabfmlajnaaGreatQral
import Derived.Test.YtbonkabfmlajnaaGreatQras
set_option maxHeartbeats 4000000
set_option maxRecDepth 100000
namespace Go.Proofs.YtbonkabfmlajnaaGreat
open Go.RowKit
theorem kac.below_ {w0 a b c:World}{bc:Nat}{vb:Value}{bs:List zah}(h:kac w0 bc vb bs a b)(k:Below b b c):kac w0 bc vb bs a c:=⟨h.1.below k,h.2.trans (Wr.of_below k)⟩
structure DrB (d:Xac):Prop where
 name:d.name.size<=BIG
 f0:0<=d.from_
 f1:d.from_<=999999000
 len:d.list.length<=8
theorem DrB.of {d:Xac}(h:Qad d=true):DrB d:=
 have p:=jaf.1 h
 ⟨by have:=p.name;simp only[Kaj,Bool.and_eq_true]at this;have:=within_iff.1 this.2;exact Xab om,p.f0,p.f1,p.len⟩
def D3 (bc:Nat)(wr:World)(d:Xac)(vt vl vs:Value):Prop:=∃f1 f2 f3,Sl BIG wr vt d.text f1/\Sl BIG wr vl d.list f2/\Sl BIG wr vs d.seen f3/\∀p∈f1++(f2++f3),p.1≠bc
section
variable {w0 wr w':World} {bc:Nat} {vb vt vl vs:Value} {bs:List zah} {d:Xac}
theorem D3.t (h:D3 bc wr d vt vl vs):RdS wr vt d.text:=let⟨f1,_,_,a,_⟩:=h;⟨f1,a⟩
theorem D3.l (h:D3 bc wr d vt vl vs):RdS wr vl d.list:=let⟨_,f2,_,_,a,_⟩:=h;⟨f2,a⟩
theorem D3.s (h:D3 bc wr d vt vl vs):RdS wr vs d.seen:=let⟨_,_,f3,_,_,a,_⟩:=h;⟨f3,a⟩
theorem D3.below (h:D3 bc wr d vt vl vs)(hb:Below wr wr w'):D3 bc w' d vt vl vs:=let⟨f1,f2,f3,a,b,c,e⟩:=h;⟨f1,f2,f3,a.belowW hb,b.belowW hb,c.belowW hb,e⟩
theorem D3.wrt {fp:List Pos}(h:D3 bc wr d vt vl vs)(u:Wr fp wr w')(q:∀p∈fp,p.1=bc):D3 bc w' d vt vl vs:=by
 obtain⟨f1,f2,f3,a,b,c,e⟩:=h;refine⟨f1,f2,f3,a.wr u fun p n j=>e p (by simp[n]) (q p j),b.wr u fun p n j=>e p (by simp[n]) (q p j),c.wr u fun p n j=>e p (by simp[n]) (q p j),e⟩
theorem D3.draw (h:D3 bc wr d vt vl vs)(n:kac w0 bc vb bs wr w'):D3 bc w' d vt vl vs:=h.wrt n.2 fun p j=>by simp only[List.mem_cons,List.not_mem_nil,or_false]at j;rcases j with rfl|rfl<;>rfl
theorem D3.of {w:World}(z:RdS w vt d.text)(q:RdS w vl d.list)(u:RdS w vs d.seen)(n:w.heap.size<=bc):D3 bc w d vt vl vs:=by
 obtain⟨f1,a⟩:=z;obtain⟨f2,b⟩:=q;obtain⟨f3,c⟩:=u;refine⟨f1,f2,f3,a,b,c,fun p j=> ?_⟩
 have:p.1<w:=by
  rcases lm.1 j with j|j
  ·exact Live.lt a.live p j
  ·rcases lm.1 j with j|j
   ·exact Live.lt b.live p j
   ·exact Live.lt c.live p j
 omega
end
theorem xaA (w0:World)(bc:Nat)(vb:Value)(bs:List zah)(d:Xac)(vt vl vs:Value)(w:World)(hc:Cu w0 bc vb bs w)(hd:DrB d)(h3:D3 bc w d vt vl vs):
 Calls Tryz.prog 103 #[.pointer (some ⟨bc,0,none⟩),.agg #[d.name,d.from_,vt,vl,vs]] w (fun e u=>∃x:Int,e= .returned (.int .i64 x)/\kac w0 bc vb bs w u):=by
 obtain⟨at_,M,rfl⟩:=h3.t.isSlice
 obtain⟨I,cl,rfl⟩:=h3.l.isSlice;obtain⟨q,J,rfl⟩:=h3.s.isSlice;have df0:=hd.f0;have df1:=hd.f1;have dl8:=hd.len;have hnm:=hd.name;have hbl:=hc.lt;have N:Below w w (w.alloc (.cells #[d.name,d.from_,.slice at_ d.text.length M,.slice I d.list.length cl,.slice q d.seen.length J] 67)):=(lf _ _).alloc (lr _) _
 have U:Hid (Bx (w.alloc (.cells #[d.name,d.from_,.slice at_ d.text.length M,.slice I d.list.length cl,.slice q d.seen.length J] 67)) w [d.name,d.from_,.slice at_ d.text.length M,.slice I d.list.length cl,.slice q d.seen.length J]):=hH (Bx.new rfl)
 have Z:=hH (hc.below N);have a0:=hH (h3.below N);have z:Hid (∀p∈[(bc,1),(bc,2)],p.1≠w):=hH (fun p hp=>by simp only[List.mem_cons,List.not_mem_nil,or_false]at hp;rcases hp with rfl|rfl<;>(simp only;omega))
 have R:Hid (Wr [(bc,1),(bc,2)] w (w.alloc (.cells #[d.name,d.from_,.slice at_ d.text.length M,.slice I d.list.length cl,.slice q d.seen.length J] 67))):=hH (Wr.of_below N)
 clear hc h3 N hd;go_enter Tryz.func103,Tryz.ntmps103
 go_upto_region 1 with(fail)
 obtain⟨W,hW⟩:∃W,w.alloc (.cells #[d.name,d.from_,.slice at_ d.text.length M,.slice I d.list.length cl,.slice q d.seen.length J] 67)=W:=⟨_,rfl⟩
 rw[hW]at U Z a0 R;(try rw[hW])
 clear hW;have l0:=U.out.lt;go_wp2_with fail
 refine(jah w0 bc vb bs 6 _ Z.out).mono ?_;rintro e' w1 ⟨b,rfl,Y⟩;have HX:=U;have a1:=a0;have j:=hH Y;have Q:Hid (kac w0 bc vb bs W w1):=hH Y;clear Q Y;obtain⟨zx,k0,k1,k2,k3,k4⟩:=(HX.out.wr j.out.2 z.out).o5;have e2:IntKind.i64.wrap ((d.list.length:Int)+1)=(d.list.length:Int)+1:=IntWalk.i64_in _ om;cases b
 ·go_upto_region 3 with(fail)
  go_region_held3 (fun u=>u.cell? ⟨w.heap.size,0,none⟩=some (.string d.name)/\u.cell? ⟨w.heap.size,1,none⟩=some (.int .i64 d.from_)/\u.cell? ⟨w.heap.size,2,none⟩=some (.slice at_ d.text.length M)/\u.cell? ⟨w.heap.size,3,none⟩=some (.slice I d.list.length cl)/\u.cell? ⟨w.heap.size,4,none⟩=some (.slice q d.seen.length J)) (first|(go_keep;done)|(simp[xaa, *];done)) ((first|(go_at_call 100;refine(Jab d (.slice at_ d.text.length M) (.slice I d.list.length cl) (.slice q d.seen.length J) _ (a1.out.draw (j.out.below_ blw)).l om om).mono ?_;rintro e' ya ⟨rfl,B⟩;have n:Hid (kac w0 bc vb bs W ya):=hH ((j.out.below_ blw).below_ B);clear j;have j:=n;clear n;obtain⟨zx,k0,k1,k2,k3,k4⟩:=(HX.out.wr j.out.2 z.out).o5;clear B)|(go_at_call 55;refine(xab w0 bc vb bs ((d.list.length:Int)+1) _ (j.out.below_ blw).1).mono ?_;rintro e' yb ⟨y,rfl,_,D⟩;have n:Hid (kac w0 bc vb bs W yb):=hH ((j.out.below_ blw).trans D);clear j;have j:=n;clear n;obtain⟨zx,k0,k1,k2,k3,k4⟩:=(HX.out.wr j.out.2 z.out).o5;clear D)))
  all_goals
   go_wp2;go_ret;exact⟨_,rfl,(j.out.below_ blw).1,R.out.trans (j.out.below_ blw).2⟩
 ·go_upto_region 2 with(fail)
  go_region_held3 (fun u=>u.cell? ⟨w.heap.size,0,none⟩=some (.string d.name)/\u.cell? ⟨w.heap.size,1,none⟩=some (.int .i64 d.from_)/\u.cell? ⟨w.heap.size,2,none⟩=some (.slice at_ d.text.length M)/\u.cell? ⟨w.heap.size,3,none⟩=some (.slice I d.list.length cl)/\u.cell? ⟨w.heap.size,4,none⟩=some (.slice q d.seen.length J)) (first|(go_keep;done)|(simp[xaa, *];done)) ((first|(go_at_call 100;refine(Jab d (.slice at_ d.text.length M) (.slice I d.list.length cl) (.slice q d.seen.length J) _ (a1.out.draw (j.out.below_ blw)).l om om).mono ?_;rintro e' ya ⟨rfl,B⟩;have n:Hid (kac w0 bc vb bs W ya):=hH ((j.out.below_ blw).below_ B);clear j;have j:=n;clear n;obtain⟨zx,k0,k1,k2,k3,k4⟩:=(HX.out.wr j.out.2 z.out).o5;clear B)|(go_at_call 138;refine(kap w0 bc vb bs d.from_ (yaa d) _ (j.out.below_ blw).1).mono ?_;rintro e' yb ⟨y,rfl,D⟩;have n:Hid (kac w0 bc vb bs W yb):=hH ((j.out.below_ blw).trans D);clear j;have j:=n;clear n;obtain⟨zx,k0,k1,k2,k3,k4⟩:=(HX.out.wr j.out.2 z.out).o5;clear D)))
  all_goals
   go_wp2;go_ret;exact⟨_,rfl,(j.out.below_ blw).1,R.out.trans (j.out.below_ blw).2⟩
theorem yaG (w0:World)(bc:Nat)(vb:Value)(bs:List zah)(d:Xac)(vt vl vs:Value)(base:Int)(w:World)(hc:Cu w0 bc vb bs w)(hd:DrB d)(h3:D3 bc w d vt vl vs):
 Calls Tryz.prog 102 #[.pointer (some ⟨bc,0,none⟩),.agg #[d.name,d.from_,vt,vl,vs],base] w (fun e w'=>∃(v:Value) (o:List zaa),e= .returned v/\RdG w w' v o/\kac w0 bc vb bs w w'):=by
 obtain⟨at_,ct,rfl⟩:=h3.t.isSlice
 obtain⟨Z,cl,rfl⟩:=h3.l.isSlice;obtain⟨D,cs,rfl⟩:=h3.s.isSlice;have df0:=hd.f0;have df1:=hd.f1;have dl8:=hd.len;have hnm:=hd.name;have hbl:=hc.lt;have N:Below w w (w.alloc (.cells #[d.name,d.from_,.slice at_ d.text.length ct,.slice Z d.list.length cl,.slice D d.seen.length cs] 67)):=(lf _ _).alloc (lr _) _
 have Q:Hid (Bx (w.alloc (.cells #[d.name,d.from_,.slice at_ d.text.length ct,.slice Z d.list.length cl,.slice D d.seen.length cs] 67)) w [d.name,d.from_,.slice at_ d.text.length ct,.slice Z d.list.length cl,.slice D d.seen.length cs]):=hH (Bx.new rfl)
 have HC0:=hH (hc.below N);have J:=hH (h3.below N);have HNX:Hid (∀p∈[(bc,1),(bc,2)],p.1≠w):=hH (fun p hp=>by simp only[List.mem_cons,List.not_mem_nil,or_false]at hp;rcases hp with rfl|rfl<;>(simp only;omega))
 have B:Hid (Wr [(bc,1),(bc,2)] w (w.alloc (.cells #[d.name,d.from_,.slice at_ d.text.length ct,.slice Z d.list.length cl,.slice D d.seen.length cs] 67))):=hH (Wr.of_below N)
 clear hc h3 N hd;go_enter Tryz.func102,Tryz.ntmps102
 go_upto_region 1 with(fail)
 obtain⟨W,hW⟩:∃W,w.alloc (.cells #[d.name,d.from_,.slice at_ d.text.length ct,.slice Z d.list.length cl,.slice D d.seen.length cs] 67)=W:=⟨_,rfl⟩
 rw[hW]at Q HC0 J B;(try rw[hW])
 clear hW;obtain⟨zx,k0,k1,k2,k3,k4⟩:=Q.out.o5;go_wp2_with fail
 refine(Qav d (.slice at_ d.text.length ct) (.slice Z d.list.length cl) (.slice D d.seen.length cs) base _ hnm J.out.t J.out.l J.out.s).mono ?_
 rintro e' w1 ⟨v1,f1,rfl,s1,_,R⟩;obtain⟨a1,c1,rfl⟩:=s1.isS;have U:=Ka6 d base;obtain⟨n,Y⟩:∃n,(uan d base).1.length=n:=⟨_,rfl⟩;rw[Y]at U;rw[Y];have z:Hid (kac w0 bc vb bs W w1):=hH ⟨HC0.out.below R,Wr.of_below R⟩;clear R s1 Y k0 k1 k2 k3 k4 zx J Q;cases htk:(uan d base).2
 ·have u:=Nat.le_trans B.out.size z.out.2.size;go_wp2_with fail
  refine(qaC w0 bc vb bs _ z.out.1).mono ?_;rintro e' w3 ⟨v,o,rfl,M,q⟩;have HR:=hH (M.mono u);obtain⟨av,cv,rfl⟩:=M.rd.isSlice;have j:=hH (z.out.trans q);clear M q;go_wp2;go_ret;exact⟨_,_,rfl,HR.out,j.out.1,B.out.trans j.out.2⟩
 ·go_wp2_with fail
  refine(jah w0 bc vb bs 10 _ z.out.1).mono ?_;rintro e' w2 ⟨b,rfl,hc2⟩;have I:=hH (z.out.trans hc2);clear hc2 z;have u:=Nat.le_trans B.out.size I.out.2.size;cases b
  ·go_wp2_with fail
   refine(ZaP w0 bc vb bs n _ I.out.1 om).mono ?_;rintro e' w3 ⟨v,o,rfl,M,q⟩;have HR:=hH (M.rdG.mono u);obtain⟨av,cv,rfl⟩:=M.rd.isSlice;have j:=hH (I.out.trans q);clear M q;go_wp2;go_ret;exact⟨_,_,rfl,HR.out,j.out.1,B.out.trans j.out.2⟩
  ·go_wp2_with fail
   refine(qaC w0 bc vb bs _ I.out.1).mono ?_;rintro e' w3 ⟨v,o,rfl,M,q⟩;have HR:=hH (M.mono u);obtain⟨av,cv,rfl⟩:=M.rd.isSlice;have j:=hH (I.out.trans q);clear M q;go_wp2;go_ret;exact⟨_,_,rfl,HR.out,j.out.1,B.out.trans j.out.2⟩
