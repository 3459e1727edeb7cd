/- Copies. -/
import Derived.Test.YtbonkabfmlajnaaGreatQraf
import Derived.Deep.Cut
set_option maxHeartbeats 4000000
set_option maxRecDepth 100000
namespace Go.Proofs.YtbonkabfmlajnaaGreat
open Go.RowKit
theorem Row.empty {α:Type}[GoT α](B:Nat)(w:World)(j:Option Addr):Row (α:=α) B w (.slice j 0 0) [] []:=by
 refine⟨.inl ⟨j,rfl,rfl,?_⟩,?_,fun _ h=>(by cases h)⟩
 ·cases j<;>simp[rowP,own]
 ·cases j<;>simp[rowP,own]<;>exact Qaa.nil _ _
theorem Zac {α:Type}[GoT α]{w:World}{c:List Value}{x:α}{f:List Pos}(E:TypeId)(h:GoT.rd BIG w c x f):Src (w.alloc (.cells c.toArray E)) (.slice (some ⟨w,0,none⟩) 1 1) [x] f:=by
 have hb:Below w w (w.alloc (.cells c.toArray E)):=(lf _ _).alloc (lr _) _;refine Src.one (c:=c) ?_ (GoT.keep h (Live.same_below hb (Live.lt (GoT.live h))));have:=va5 (c1:=[]) (c2:=c) (c3:=[]) (E:=E) (fr:=(0,0)) (w:=w.alloc (.cells c.toArray E)) (g:=w) (by simpa using heap_alloc_new w (.cells c.toArray E))
 simpa using this
theorem ka9 {α:Type}[GoT α][GoS α]:∀{l:List α} {x:α},x∈l->GoS.sz x<=szs l
 |y::j,x,h=>by
  simp only[szs];rcases List.mem_cons.1 h with rfl|h
  ·omega
  ·have:=ka9 h;omega
theorem kaE {α:Type}[GoT α][GoS α]{l:List α}{x:α}(h:x∈l):GoS.sz x<=szL l:=by have:=ka9 h;unfold szL;omega
theorem vaF {α:Type}[GoT α][GoS α](l:List α)(k:Nat):szL (l.take k)<=szL l/\szL (l.drop k)<=szL l:=by
 have h:=uaR (l.take k) (l.drop k);rw[List.take_append_drop]at h;unfold szL;simp only[List.length_take,List.length_drop];constructor<;>omega
theorem Wr.nilBelow {w j:World}(h:Wr [] w j):Below w w j:=h.below (lr _) (fun _ h=>by cases h)
theorem qal (v:Value)(l:List Int)(w:World)(h:RdS w v l)(I:l.length<=4000000):Calls Tryz.prog 77 #[v] w (kaD w l):=by
 obtain⟨J,hi,n,p,q⟩:=info_parts vau;have j:=hH (Src.ints2 h);go_enter Tryz.func77,Tryz.ntmps77
 go_wp2_with (at_builtin;refine qaa rfl _ _ 31 rfl Tryz.underlying31 hi n p q rfl rfl rfl (Row.nil w _) j.out (fun _ h=>by cases h) ?c1 ?c2 ?c3 ?_)
 case c1=>simp;exact Xab om
 case c2=>simp;omega
 case c3=>exact lr _
 intro M N u z _;have D:=hH (u.owns (Qaa.nil _ _));have B:=hH (z.below (lr w) (fun _ h=>by cases h))
 clear u z;go_wp2;go_ret;exact⟨_,rfl,D.out,B.out⟩
theorem jaC (v:Value)(o:List zaa)(w:World)(h:RdS w v o)(hs:szL o<=4000000):Calls Tryz.prog 111 #[v] w (kaD w o):=by
 have hl:=fun Q ty=>h.len Tryz.underlying30 Q ty
 obtain⟨i0,hi,hz0,hz1,hz2⟩:=info_parts uam;have h1:o.length<=4000000:=by unfold szL at hs;omega
 have H2:Hid (∀p∈o,p.signs.length<=4000000):=hH fun p hp=>by have:=kaE hp;simp only[GoS.sz,vaT]at this;omega
 clear hs;go_enter Tryz.func111,Tryz.ntmps111
 go_wp2;go_loopw [3,8] (fun z i wr=>∃(k:Nat) (u:Value),u=z/\k<=o.length/\i= .int .i64 k/\uaf w wr u (o.take k)/\Below w w wr) (fun _ i _=>o.length-(intOf i).toNat)
 case atStart=>exact⟨0,_,rfl,lz _,rfl,uaf.empty _ _ _,blw⟩
 case round=>
  obtain⟨k,u,rfl,hk,rfl,hu,J⟩:=hrel;have hsz:=J.size;by_cases hlt:k<o.length
  ·obtain⟨p,hx⟩:=Jaa hlt;obtain⟨b1,o1,cs,g1,g2,g3⟩:=(h.below J).idx Tryz.underlying30 uae k hx;obtain⟨v_signs,rfl,j⟩:=xah g3;have q0:=g2.zero;have q1:=g2 1 _ rfl;have q2:=g2 2 _ rfl;obtain⟨aa,ca,rfl⟩:=j.isSlice;have HT:=hH (Zag hx);have hps:=H2.out p (List.mem_of_getElem? hx);have a5:(o.take k).length<=4000000:=by simp;omega
   clear hx;go_wp2_with fail
   refine(qal _ p.signs _ (j.below blw) hps).mono ?_;rintro e Q ⟨v1,rfl,ho1,a2⟩;have s1:=a2.size;(try simp at s1)
   obtain⟨D,a3⟩:=jac a2;have z1:wr<Q.heap.size:=om;obtain⟨f1,M,Y⟩:=ho1;obtain⟨a1,c1,rfl⟩:=RdS.isSlice ⟨_,M⟩;have HBW:Hid (Below wr wr Q):=hH blw;have HS1:=hH M;have Z:=hH (Y.mono (B':=wr) sm);obtain⟨fs,N,a4⟩:=hu.row;have B:=hH N;have HFS:=hH a4;obtain⟨W,I⟩:∃W:World,W=Q.setCell ⟨wr,2,none⟩ (.slice a1 p.signs.length c1):=⟨_,rfl⟩;have U:Hid (Below wr wr W):=hH (by rw[I];exact HBW.out.setCell (lr _) _)
   have hWs:Q<=W.heap.size:=by rw[I];simp
   have R:Hid (Sl BIG W (.slice a1 p.signs.length c1) p.signs f1):=hH (by
    rw[I];refine M.keep fun q hq=> ?_
    rw[xaa,if_neg];rintro⟨e1,_⟩;have:=Y.ge q hq;simp at this;omega)
   have a0:Hid (Qaa wr W f1):=hH (by rw[I];exact Z.out.put _ _)
   have k0:W.cell? ⟨wr.heap.size,0,none⟩=some (.int .i64 p.kind):=by rw[I,xaa,if_neg sm,D _ _ sm];simp
   have k1:W.cell? ⟨wr.heap.size,1,none⟩=some (.int .i64 p.n):=by rw[I,xaa,if_neg sm,D _ _ sm];simp
   have k2:W.cell? ⟨wr.heap.size,2,none⟩=some (.slice a1 p.signs.length c1):=by rw[I,xaa,if_pos ⟨rfl,rfl⟩,D _ _ sm];simp
   have zz0:Q.cell? ⟨wr.heap.size,2,none⟩=some (.slice aa p.signs.length ca):=by rw[D _ _ sm];simp
   have zz1:Q.frozen? ⟨wr.heap.size,2,none⟩=false:=by rw[a3 _ _ sm];simp[go_sem]
   clear D a3 M Y N a4 hu HS1 Z;go_upto_region 6 with(fail)
   rw[<-I];clear I zz0 zz1;go_wp2_with (at_builtin;refine qaa rfl _ _ 30 rfl Tryz.underlying30 hi hz0 hz1 hz2 rfl rfl rfl ((B.out.below U.out).below ((lf _ _).alloc (lr _) _)) (Zac (x:=p) 122 ⟨_,f1,rfl,R.out,rfl⟩) (fun q hq hm=>by have e1:=a0.out.ge q hq;have e2:=Live.lt (Live.append.1 B.out.1.live).1 q hm;omega) ?c1 ?c2 ?c3 ?_)
   case c1=>simp at a5⊢;exact Xab om
   case c2=>simp at a5⊢;omega
   case c3=>simp;omega
   intro v' w2 hr hw _;have HO:Hid (uaf w w2 v' (o.take (k+1))):=hH (by
    rw[HT.out];exact Row.grown B.out HFS.out (U.out.alloc om _) (a0.out.belowL ((lf _ _).alloc (lr _) _) (Live.lt R.out.live)) (R.out.belowW ((lf _ _).alloc (lr _) _)).live hsz hr hw)
   have HB2:Hid (Below w w w2):=hH (Zaf J (wrb (C:=w) hw (U.out.alloc om _) hsz (fun q hq=>B.out.2.1.ge q hq)) (lr _))
   clear hr hw;go_wp2;go_roundw
   case rel=>exact⟨k+1,_,rfl,by omega,by go_num,HO.out,HB2.out⟩
   case measure=>simp[intOf];omega
  ·obtain rfl:k=o.length:=om;rw[List.take_length]at hu;have HU:=hH hu;clear hu;go_wp2;go_ret;exact⟨_,rfl,HU.out,J⟩
theorem yaz (v:Value)(o:List zaa)(w:World)(h:RdS w v o)(hs:szL o<=4000000):Calls Tryz.prog 164 #[v] w (kaD w o):=by
 have hl:=fun w1 ty=>h.len Tryz.underlying30 w1 ty
 obtain⟨i0,hi,hz0,hz1,hz2⟩:=info_parts uam;obtain⟨j0,hj,jz0,jz1,jz2⟩:=info_parts vau;have h1:o.length<=4000000:=by unfold szL at hs;omega
 have H2:Hid (∀p∈o,p.signs.length<=4000000):=hH fun p hp=>by have:=kaE hp;simp only[GoS.sz,vaT]at this;omega
 clear hs;go_enter Tryz.func164,Tryz.ntmps164
 go_wp2;go_loopw [3,9] (fun z i wr=>∃(k:Nat) (u:Value),u=z/\k<=o.length/\i= .int .i64 k/\uaf w wr u (o.take k)/\Below w w wr) (fun _ i _=>o.length-(intOf i).toNat)
 case atStart=>exact⟨0,_,rfl,lz _,rfl,uaf.empty _ _ _,blw⟩
 case round=>
  obtain⟨k,u,rfl,hk,rfl,hu,Q⟩:=hrel;have hsz:=Q.size;by_cases hlt:k<o.length
  ·obtain⟨p,hx⟩:=Jaa hlt;obtain⟨b1,o1,cs,g1,g2,g3⟩:=(h.below Q).idx Tryz.underlying30 uae k hx;obtain⟨v_signs,rfl,B⟩:=xah g3;have q0:=g2.zero;have q1:=g2 1 _ rfl;have q2:=g2 2 _ rfl;obtain⟨aa,ca,rfl⟩:=B.isSlice;have HT:=hH (Zag hx);have hps:=H2.out p (List.mem_of_getElem? hx);have hkl:(o.take k).length<=4000000:=by simp;omega
   clear hx;obtain⟨fs,R,hfs⟩:=hu.row;have D:=hH R;have HFS:=hH hfs;clear R hfs hu;go_wp2_with fail
   obtain⟨W,hW⟩:∃W:World,W=wr.alloc (.cells #[p.kind,p.n,.slice aa p.signs.length ca] 122):=⟨_,rfl⟩;have hWB:Below wr wr W:=by rw[hW];exact(lf _ _).alloc (lr _) _
   have zW:wr<W.heap.size:=by rw[hW];simp
   have k0:W.cell? ⟨wr.heap.size,0,none⟩=some (.int .i64 p.kind):=by rw[hW];simp
   have k1:W.cell? ⟨wr.heap.size,1,none⟩=some (.int .i64 p.n):=by rw[hW];simp
   have k2:W.cell? ⟨wr.heap.size,2,none⟩=some (.slice aa p.signs.length ca):=by rw[hW];simp
   rw[<-hW];clear hW q0 q1 q2;have HRS:=hH B;clear B g2 g3;have Y:Hid (∀j,((wr,j):Pos)∉rowP (GoT.n zaa) u):=hH fun j hm=>by have:=Live.lt (Live.append.1 D.out.1.live).1 _ hm;simp at this
   have a0:=hH hWB;go_region_held3 (fun w'=>w'.cell? ⟨wr.heap.size,0,none⟩=some (.int .i64 p.kind)/\w'.cell? ⟨wr.heap.size,1,none⟩=some (.int .i64 p.n)/\w'.cell? ⟨wr.heap.size,2,none⟩=some (.slice aa p.signs.length ca)) (go_keep)
    (first
     |((refine yad (by rfl) (.tmp 18) (.tmp 20) 31 (by rfl) Tryz.underlying31 hj jz0 jz1 jz2 rfl (by rfl) (by rfl) (Row.empty W _ _) (Src.ints2 (HRS.out.below blw)) (fun _ h=>by cases h) (Xab (by simp;omega)) (by simp;omega) sm ?_);intro v1 w1 J hw1 hn1;replace J:Row W w1 v1 p.signs []:=J;obtain⟨a1,c1,rfl⟩:=J.rd.isSlice;have I:Below W W w1:=(((lf W W).drew).alloc (lr _) _).trans (hw1.nilBelow.mono sm);have M:=J.1;rw[List.append_nil]at M;have M:=hH M;have Z:=hH J;have U:=hH I;have s1:=I.size;have y0:=(I.cell (p:=⟨wr,0,none⟩) zW).trans k0;have y1:=(I.cell (p:=⟨wr,1,none⟩) zW).trans k1;have y2:=(I.cell (p:=⟨wr,2,none⟩) zW).trans k2;clear J hw1 hn1 I)
     |((refine yad (by rfl) (.tmp 13) (.tmp 23) 30 (by rfl) Tryz.underlying30 hi hz0 hz1 hz2 rfl (by rfl) (by rfl) ((D.out.below (Zaf a0.out U.out om)).below ((lf _ _).alloc (lr _) _)) (Zac (x:=p) 122 ⟨_,_,rfl,M.out,rfl⟩) (fun q hq hm=>by have e1:=Z.out.2.1.ge q hq;have e2:=Live.lt (Live.append.1 D.out.1.live).1 q hm;omega) (Xab (by simp;omega)) (by simp;omega) (by simp;omega) ?_);intro v2 w2 hr2 N hn2;have HR2:=hH hr2;have HW2:=hH N;have x0:=jag ((lf _ _).alloc (lr _) _) N y0 (Y.out 0);have x1:=jag ((lf _ _).alloc (lr _) _) N y1 (Y.out 1);have x2:=jag ((lf _ _).alloc (lr _) _) N y2 (Y.out 2);clear hr2 N hn2))
   all_goals
    have HO:Hid (uaf w w2 v2 (o.take (k+1))):=hH (by
     rw[HT.out];have hb2:Below wr wr w1:=Zaf a0.out U.out om;exact Row.grown D.out HFS.out (hb2.alloc om _) ((Z.out.2.1.mono om).belowL ((lf _ _).alloc (lr _) _) (Live.lt (Live.append.1 Z.out.1.live).1)) ((M.out.belowW ((lf _ _).alloc (lr _) _)).live) hsz HR2.out HW2.out)
    have HB2:Hid (Below w w w2):=hH (Zaf Q (wrb (C:=w) HW2.out ((Zaf a0.out U.out om).alloc om _) hsz (fun q hq=>D.out.2.1.ge q hq)) (lr _))
    go_wp2;go_roundw
    case rel=>exact⟨k+1,_,rfl,by omega,by go_num,HO.out,HB2.out⟩
    case measure=>simp[intOf];omega
  ·obtain rfl:k=o.length:=om;rw[List.take_length]at hu;have HU:=hH hu;clear hu;go_wp2;go_ret;exact⟨_,rfl,HU.out,Q⟩
theorem uaf.poke {α:Type}[GoT α]{B:Nat}{w:World}{v:Value}{l:List α}(h:uaf B w v l){b o:Nat}(hb:b<B)(u:Value):uaf B (w.setCell ⟨b,o,none⟩ u) v l:=by
 obtain⟨f,s,k⟩:=h;refine⟨f,s.keep fun p j=> ?_,k.put _ _⟩
 rw[xaa,if_neg];rintro⟨e,_⟩;have:=k.ge p j;omega
theorem Zbb {B:Nat}{w:World}{j:Value}{e:yab}(h:uaf B w j e.o):Own B w [e.client,e.seq,j] e:=by
 obtain⟨f,s,k⟩:=h;exact⟨f,⟨j,f,rfl,s,rfl⟩,k⟩
theorem Xa5 {B:Nat}{w:World}{v:Value}{r:vac}(h:uaf B w v r.list):Own B w [r.cap,r.next,r.out,v] r:=by
 obtain⟨f,s,k⟩:=h;exact⟨f,⟨v,f,rfl,s,rfl⟩,k⟩
theorem zax (e:yab)(q:Value)(w:World)(h:RdS w q e.o)(Z:szL e.o<=4000000):Calls Tryz.prog 153 #[.agg #[e.client,e.seq,q]] w (ka2 w e):=by
 go_enter Tryz.func153,Tryz.ntmps153
 go_wp2_with fail
 obtain⟨W,n⟩:∃W:World,W=(w.alloc (.cells #[e.client,e.seq,q] 87)).alloc (.cells #[zI,zI,zN] 87):=⟨_,rfl⟩;have M:Below w w W:=by rw[n];exact blw
 have u:w+1<W.heap.size:=by rw[n];simp
 have k0:W.cell? ⟨w.heap.size,0,none⟩=some (.int .i64 e.client):=by rw[n];simp[go_sem]
 have k1:W.cell? ⟨w.heap.size,1,none⟩=some (.int .i64 e.seq):=by rw[n];simp[go_sem]
 have k2:W.cell? ⟨w.heap.size,2,none⟩=some q:=by rw[n];simp[go_sem]
 have r0:W.cell? ⟨w.heap.size+1,0,none⟩=some (.int .i64 0):=by rw[n];simp[go_sem]
 have r1:W.cell? ⟨w.heap.size+1,1,none⟩=some (.int .i64 0):=by rw[n];simp[go_sem]
 have r2:W.cell? ⟨w.heap.size+1,2,none⟩=some (.slice none 0 0):=by rw[n];simp[go_sem]
 have Y:W.frozen? ⟨w.heap.size+1,0,none⟩=false:=by rw[n];simp[go_sem]
 have f1:W.frozen? ⟨w.heap.size+1,1,none⟩=false:=by rw[n];simp[go_sem]
 have f2:W.frozen? ⟨w.heap.size+1,2,none⟩=false:=by rw[n];simp[go_sem]
 rw[<-n];clear n;have B:w<W.heap.size:=om;go_region_held3 (fun N=>N.cell? ⟨w.heap.size,0,none⟩=some (.int .i64 e.client)/\N.cell? ⟨w.heap.size,1,none⟩=some (.int .i64 e.seq)/\N.cell? ⟨w.heap.size,2,none⟩=some q) (first|go_keep|(simp[xaa, *];done))
  (first|(go_at_call 164;refine(yaz _ e.o _ (h.below blw) Z).mono ?_;rintro e' Q ⟨v1,rfl,z,D⟩;have s1:=D.size;have j:Hid (Below W W Q):=hH blw;have I:=hH z;have y0:=(j.out.cell (p:=⟨w,0,none⟩) B).trans k0;have y1:=(j.out.cell (p:=⟨w,1,none⟩) B).trans k1;have y2:=(j.out.cell (p:=⟨w,2,none⟩) B).trans k2;have x0:=(j.out.cell (p:=⟨w+1,0,none⟩) u).trans r0;have x1:=(j.out.cell (p:=⟨w+1,1,none⟩) u).trans r1;have x2:=(j.out.cell (p:=⟨w+1,2,none⟩) u).trans r2;have t0:=(j.out.frozen (p:=⟨w+1,0,none⟩) u).trans Y;have t1:=(j.out.frozen (p:=⟨w+1,1,none⟩) u).trans f1;have t2:=(j.out.frozen (p:=⟨w+1,2,none⟩) u).trans f2;obtain⟨J,c1,rfl⟩:=z.rd.isSlice;clear z D))
 all_goals
  have U:Hid (uaf w (((Q.setCell ⟨w+1,0,none⟩ e.client).setCell ⟨w+1,1,none⟩ e.seq).setCell ⟨w+1,2,none⟩ (.slice J e.o.length c1)) (.slice J e.o.length c1) e.o):=hH ((((I.out.poke (by simpa using u) _).poke (by simpa using u) _).poke (by simpa using u) _).mono (by simp;omega))
  have R:Hid (Below w w Q):=hH (qaB M j.out om);go_wp2;exact bodyPost_ret (v:= .agg #[e.client,e.seq,.slice J e.o.length c1]) (by simp[results,Tryz.results153,go_sem,xaa, *]) rfl ⟨_,rfl,Zbb U.out,((R.out.setCell sm _).setCell sm _).setCell sm _⟩
theorem zaf (v:Value)(l:List yab)(w:World)(h:RdS w v l)(hs:szL l<=4000000):Calls Tryz.prog 149 #[v] w (kaD w l):=by
 have hl:=fun w1 ty=>h.len Tryz.underlying34 w1 ty
 obtain⟨i0,hi,hz0,hz1,hz2⟩:=info_parts kao;have h1:l.length<=4000000:=by unfold szL at hs;omega
 have H2:Hid (∀e∈l,szL e.o<=4000000):=hH fun e he=>by have:=kaE he;simp only[GoS.sz]at this;omega
 clear hs;go_enter Tryz.func149,Tryz.ntmps149
 go_wp2;go_loopw [3,9] (fun z i wr=>∃(k:Nat) (u:Value),u=z/\k<=l.length/\i= .int .i64 k/\uaf w wr u (l.take k)/\Below w w wr) (fun _ i _=>l.length-(intOf i).toNat)
 case atStart=>exact⟨0,_,rfl,lz _,rfl,uaf.empty _ _ _,blw⟩
 case round=>
  obtain⟨k,u,rfl,hk,rfl,Z,B⟩:=hrel;have Y:=B.size;by_cases hlt:k<l.length
  ·obtain⟨p,hx⟩:=Jaa hlt;obtain⟨b1,o1,cs,g1,g2,g3⟩:=(h.below B).idx Tryz.underlying34 Kab k hx;obtain⟨v_o,rfl,a0⟩:=qag g3;have q0:=g2.zero;have q1:=g2 1 _ rfl;have q2:=g2 2 _ rfl;obtain⟨aa,ca,rfl⟩:=a0.isSlice;have HT:=hH (Zag hx);have hps:=H2.out p (List.mem_of_getElem? hx);have U:(l.take k).length<=4000000:=by simp;omega
   clear hx;obtain⟨fs,D,R⟩:=Z.row;have j:=hH D;have HFS:=hH R;clear D R Z;go_wp2_with fail
   refine(zax p _ _ (a0.below blw) hps).mono ?_;rintro e w1 ⟨_,rfl,ho,hb1⟩;obtain⟨f,hrd,Q⟩:=ho;obtain⟨v1,fv1,rfl,M,rfl⟩:=hrd;obtain⟨a1,c1,rfl⟩:=RdS.isSlice ⟨_,M⟩;have n:Below wr wr w1:=blw;have I:=hH n;have s1:=n.size;have N:=hH (Q.mono (B':=wr) sm);have J:=hH M;clear hb1 n Q M;go_wp2_with (at_builtin;refine qaa rfl _ _ 34 rfl Tryz.underlying34 hi hz0 hz1 hz2 rfl rfl rfl ((j.out.below I.out).below ((lf _ _).alloc (lr _) _)) (Zac (x:=p) 87 ⟨_,f,rfl,J.out,rfl⟩) (fun q hq hm=>by have e1:=N.out.ge q hq;have e2:=Live.lt (Live.append.1 j.out.1.live).1 q hm;omega) ?c1 ?c2 ?c3 ?_)
   case c1=>simp at U⊢;exact Xab om
   case c2=>simp at U⊢;omega
   case c3=>simp;omega
   intro v' w2 hr hw _;have HO:Hid (uaf w w2 v' (l.take (k+1))):=hH (by
    rw[HT.out];exact Row.grown j.out HFS.out (I.out.alloc om _) (N.out.belowL ((lf _ _).alloc (lr _) _) (Live.lt J.out.live)) (J.out.belowW ((lf _ _).alloc (lr _) _)).live Y hr hw)
   have HB2:Hid (Below w w w2):=hH (Zaf B (wrb (C:=w) hw (I.out.alloc om _) Y (fun q hq=>j.out.2.1.ge q hq)) (lr _))
   clear hr hw;go_wp2;go_roundw
   case rel=>exact⟨k+1,_,rfl,by omega,by go_num,HO.out,HB2.out⟩
   case measure=>simp[intOf];omega
  ·obtain rfl:k=l.length:=om;rw[List.take_length]at Z;have HU:=hH Z;clear Z;go_wp2;go_ret;exact⟨_,rfl,HU.out,B⟩
theorem uak (v:Value)(l:List yab)(w:World)(h:RdS w v l)(hs:szL l<=4000000):Calls Tryz.prog 85 #[v] w (kaD w l):=by
 have hl:=fun J ty=>h.len Tryz.underlying34 J ty
 obtain⟨i0,hi,hz0,hz1,hz2⟩:=info_parts kao;have h1:l.length<=4000000:=by unfold szL at hs;omega
 have H2:Hid (∀e∈l,szL e.o<=4000000):=hH fun e he=>by have:=kaE he;simp only[GoS.sz]at this;omega
 clear hs;go_enter Tryz.func85,Tryz.ntmps85
 go_wp2;go_loopw [3,8] (fun z i wr=>∃(k:Nat) (u:Value),u=z/\k<=l.length/\i= .int .i64 k/\uaf w wr u (l.take k)/\Below w w wr) (fun _ i _=>l.length-(intOf i).toNat)
 case atStart=>exact⟨0,_,rfl,lz _,rfl,uaf.empty _ _ _,blw⟩
 case round=>
  obtain⟨k,u,rfl,hk,rfl,hu,D⟩:=hrel;have hsz:=D.size;by_cases hlt:k<l.length
  ·obtain⟨p,hx⟩:=Jaa hlt;obtain⟨b1,o1,cs,g1,g2,g3⟩:=(h.below D).idx Tryz.underlying34 Kab k hx;obtain⟨v_o,rfl,r_o⟩:=qag g3;have q0:=g2.zero;have q1:=g2 1 _ rfl;have q2:=g2 2 _ rfl;obtain⟨aa,ca,rfl⟩:=r_o.isSlice;have HT:=hH (Zag hx);have hps:=H2.out p (List.mem_of_getElem? hx);have a3:(l.take k).length<=4000000:=by simp;omega
   clear hx;go_wp2_with fail
   refine(jaC _ p.o _ (r_o.below blw) hps).mono ?_;rintro e J ⟨v1,rfl,ho1,Z⟩;have s1:=Z.size;(try simp at s1)
   obtain⟨n,a0⟩:=jac Z;have z1:wr<J.heap.size:=om;obtain⟨f1,R,Q⟩:=ho1;obtain⟨a1,c1,rfl⟩:=RdS.isSlice ⟨_,R⟩;have HBW:Hid (Below wr wr J):=hH blw;have U:=hH (Q.mono (B':=wr) sm);obtain⟨fs,I,a2⟩:=hu.row;have j:=hH I;have HFS:=hH a2;obtain⟨W,B⟩:∃W:World,W=J.setCell ⟨wr,2,none⟩ (.slice a1 p.o.length c1):=⟨_,rfl⟩;have N:Hid (Below wr wr W):=hH (by rw[B];exact HBW.out.setCell (lr _) _)
   have hWs:J<=W.heap.size:=by rw[B];simp
   have M:Hid (Sl BIG W (.slice a1 p.o.length c1) p.o f1):=hH (by
    rw[B];refine R.keep fun q hq=> ?_
    rw[xaa,if_neg];rintro⟨e1,_⟩;have:=Q.ge q hq;simp at this;omega)
   have Y:Hid (Qaa wr W f1):=hH (by rw[B];exact U.out.put _ _)
   have k0:W.cell? ⟨wr.heap.size,0,none⟩=some (.int .i64 p.client):=by rw[B,xaa,if_neg sm,n _ _ sm];simp
   have k1:W.cell? ⟨wr.heap.size,1,none⟩=some (.int .i64 p.seq):=by rw[B,xaa,if_neg sm,n _ _ sm];simp
   have k2:W.cell? ⟨wr.heap.size,2,none⟩=some (.slice a1 p.o.length c1):=by rw[B,xaa,if_pos ⟨rfl,rfl⟩,n _ _ sm];simp
   have zz0:J.cell? ⟨wr.heap.size,2,none⟩=some (.slice aa p.o.length ca):=by rw[n _ _ sm];simp
   have zz1:J.frozen? ⟨wr.heap.size,2,none⟩=false:=by rw[a0 _ _ sm];simp[go_sem]
   clear n a0 R Q I a2 hu U;go_upto_region 6 with(fail)
   rw[<-B];clear B zz0 zz1;go_wp2_with (at_builtin;refine qaa rfl _ _ 34 rfl Tryz.underlying34 hi hz0 hz1 hz2 rfl rfl rfl ((j.out.below N.out).below ((lf _ _).alloc (lr _) _)) (Zac (x:=p) 87 ⟨_,f1,rfl,M.out,rfl⟩) (fun q hq hm=>by have e1:=Y.out.ge q hq;have e2:=Live.lt (Live.append.1 j.out.1.live).1 q hm;omega) ?c1 ?c2 ?c3 ?_)
   case c1=>simp at a3⊢;exact Xab om
   case c2=>simp at a3⊢;omega
   case c3=>simp;omega
   intro v' w2 hr hw _;have HO:Hid (uaf w w2 v' (l.take (k+1))):=hH (by
    rw[HT.out];exact Row.grown j.out HFS.out (N.out.alloc om _) (Y.out.belowL ((lf _ _).alloc (lr _) _) (Live.lt M.out.live)) (M.out.belowW ((lf _ _).alloc (lr _) _)).live hsz hr hw)
   have HB2:Hid (Below w w w2):=hH (Zaf D (wrb (C:=w) hw (N.out.alloc om _) hsz (fun q hq=>j.out.2.1.ge q hq)) (lr _))
   clear hr hw;go_wp2;go_roundw
   case rel=>exact⟨k+1,_,rfl,by omega,by go_num,HO.out,HB2.out⟩
   case measure=>simp[intOf];omega
  ·obtain rfl:k=l.length:=om;rw[List.take_length]at hu;have HU:=hH hu;clear hu;go_wp2;go_ret;exact⟨_,rfl,HU.out,D⟩
theorem vaf (r:vac)(v:Value)(w:World)(h:RdS w v r.list)(Y:szL r.list<=4000000):Calls Tryz.prog 150 #[.agg #[r.cap,r.next,r.out,v]] w (ka2 w r):=by
 go_enter Tryz.func150,Tryz.ntmps150
 go_wp2_with fail
 obtain⟨W,n⟩:∃W:World,W=(w.alloc (.cells #[r.cap,r.next,r.out,v] 70)).alloc (.cells #[zI,zI,false,zN] 70):=⟨_,rfl⟩;have M:Below w w W:=by rw[n];exact blw
 have q:w+1<W.heap.size:=by rw[n];simp
 have Z:W.cell? ⟨w.heap.size,0,none⟩=some (.int .i64 r.cap):=by rw[n];simp[go_sem]
 have k1:W.cell? ⟨w.heap.size,1,none⟩=some (.int .i64 r.next):=by rw[n];simp[go_sem]
 have k2:W.cell? ⟨w.heap.size,2,none⟩=some (.bool r.out):=by rw[n];simp[go_sem]
 have k3:W.cell? ⟨w.heap.size,3,none⟩=some v:=by rw[n];simp[go_sem]
 have r0:W.cell? ⟨w.heap.size+1,0,none⟩=some (.int .i64 0):=by rw[n];simp[go_sem]
 have r1:W.cell? ⟨w.heap.size+1,1,none⟩=some (.int .i64 0):=by rw[n];simp[go_sem]
 have r2:W.cell? ⟨w.heap.size+1,2,none⟩=some (.bool false):=by rw[n];simp[go_sem]
 have r3:W.cell? ⟨w.heap.size+1,3,none⟩=some (.slice none 0 0):=by rw[n];simp[go_sem]
 have U:W.frozen? ⟨w.heap.size+1,0,none⟩=false:=by rw[n];simp[go_sem]
 have f1:W.frozen? ⟨w.heap.size+1,1,none⟩=false:=by rw[n];simp[go_sem]
 have f2:W.frozen? ⟨w.heap.size+1,2,none⟩=false:=by rw[n];simp[go_sem]
 have f3:W.frozen? ⟨w.heap.size+1,3,none⟩=false:=by rw[n];simp[go_sem]
 rw[<-n];clear n;have u:w<W.heap.size:=om;go_region_held3 (fun D=>D.cell? ⟨w.heap.size,0,none⟩=some (.int .i64 r.cap)/\D.cell? ⟨w.heap.size,1,none⟩=some (.int .i64 r.next)/\D.cell? ⟨w.heap.size,2,none⟩=some (.bool r.out)/\D.cell? ⟨w.heap.size,3,none⟩=some v) (first|go_keep|(simp[xaa, *];done))
  (first|(go_at_call 149;refine(zaf _ r.list _ (h.below blw) Y).mono ?_;rintro e' N ⟨v1,rfl,z,B⟩;have s1:=B.size;have j:Hid (Below W W N):=hH blw;have I:=hH z;have y0:=(j.out.cell (p:=⟨w,0,none⟩) u).trans Z;have y1:=(j.out.cell (p:=⟨w,1,none⟩) u).trans k1;have y2:=(j.out.cell (p:=⟨w,2,none⟩) u).trans k2;have y3:=(j.out.cell (p:=⟨w,3,none⟩) u).trans k3;have x0:=(j.out.cell (p:=⟨w+1,0,none⟩) q).trans r0;have x1:=(j.out.cell (p:=⟨w+1,1,none⟩) q).trans r1;have x2:=(j.out.cell (p:=⟨w+1,2,none⟩) q).trans r2;have x3:=(j.out.cell (p:=⟨w+1,3,none⟩) q).trans r3;have t0:=(j.out.frozen (p:=⟨w+1,0,none⟩) q).trans U;have t1:=(j.out.frozen (p:=⟨w+1,1,none⟩) q).trans f1;have t2:=(j.out.frozen (p:=⟨w+1,2,none⟩) q).trans f2;have t3:=(j.out.frozen (p:=⟨w+1,3,none⟩) q).trans f3;obtain⟨J,c1,rfl⟩:=z.rd.isSlice;clear z B))
 all_goals
  have R:Hid (uaf w ((((N.setCell ⟨w+1,0,none⟩ r.cap).setCell ⟨w+1,1,none⟩ r.next).setCell ⟨w+1,2,none⟩ r.out).setCell ⟨w+1,3,none⟩ (.slice J r.list.length c1)) (.slice J r.list.length c1) r.list):=hH (((((I.out.poke (by simpa using q) _).poke (by simpa using q) _).poke (by simpa using q) _).poke (by simpa using q) _).mono (by simp;omega))
  have Q:Hid (Below w w N):=hH (qaB M j.out om);go_wp2;exact bodyPost_ret (v:= .agg #[r.cap,r.next,r.out,.slice J r.list.length c1]) (by simp[results,Tryz.results150,go_sem,xaa, *]) rfl ⟨_,rfl,Xa5 R.out,(((Q.out.setCell sm _).setCell sm _).setCell sm _).setCell sm _⟩
theorem Kae (r:vac)(v:Value)(w:World)(h:RdS w v r.list)(J:szL r.list<=4000000):Calls Tryz.prog 64 #[.agg #[r.cap,r.next,r.out,v]] w (ka2 w r):=by
 go_enter Tryz.func64,Tryz.ntmps64
 go_wp2_with fail
 refine(uak _ r.list _ (h.below blw) J).mono ?_;rintro e n ⟨Z,rfl,u,q⟩;have M:=q.size;(try simp at M)
 obtain⟨j,p⟩:=jac q;have z1:w<n.heap.size:=om;have z2:w+1<n.heap.size:=om;have D:Hid (Below w w n):=hH blw;have z:=hH u;obtain⟨B,c1,rfl⟩:=u.rd.isSlice;clear u;have y0:n.cell? ⟨w.heap.size,0,none⟩=some (.int .i64 r.cap):=by rw[j _ _ (by simp;try omega)];simp[go_sem]
 have x0:n.cell? ⟨w.heap.size+1,0,none⟩=some (.int .i64 0):=by rw[j _ _ sm];simp[go_sem]
 have N:n.frozen? ⟨w.heap.size+1,0,none⟩=false:=by rw[p _ _ sm];simp[go_sem]
 have y1:n.cell? ⟨w.heap.size,1,none⟩=some (.int .i64 r.next):=by rw[j _ _ (by simp;try omega)];simp[go_sem]
 have x1:n.cell? ⟨w.heap.size+1,1,none⟩=some (.int .i64 0):=by rw[j _ _ sm];simp[go_sem]
 have Q:n.frozen? ⟨w.heap.size+1,1,none⟩=false:=by rw[p _ _ sm];simp[go_sem]
 have y2:n.cell? ⟨w.heap.size,2,none⟩=some (.bool r.out):=by rw[j _ _ (by simp;try omega)];simp[go_sem]
 have x2:n.cell? ⟨w.heap.size+1,2,none⟩=some (.bool false):=by rw[j _ _ sm];simp[go_sem]
 have R:n.frozen? ⟨w.heap.size+1,2,none⟩=false:=by rw[p _ _ sm];simp[go_sem]
 have y3:n.cell? ⟨w.heap.size,3,none⟩=some (v):=by rw[j _ _ (by simp;try omega)];simp[go_sem]
 have x3:n.cell? ⟨w.heap.size+1,3,none⟩=some (.slice none 0 0):=by rw[j _ _ sm];simp[go_sem]
 have U:n.frozen? ⟨w.heap.size+1,3,none⟩=false:=by rw[p _ _ sm];simp[go_sem]
 have Y:n.frozen? ⟨w.heap.size,3,none⟩=false:=by rw[p _ _ (by simp;try omega)];simp[go_sem]
 clear j p q;go_wp2;have I:=hH ((((((z.out.poke (b:=w) (o:=3) (by first|(simp;done)|(simp;omega)) (.slice B r.list.length c1)).poke (b:=w+1) (o:=0) sm (.int .i64 r.cap)).poke (b:=w+1) (o:=1) sm (.int .i64 r.next)).poke (b:=w+1) (o:=2) sm (.bool r.out)).poke (b:=w+1) (o:=3) sm (.slice B r.list.length c1)).mono (B':=w) (by simp;omega))
 exact bodyPost_ret (v:= .agg #[r.cap,r.next,r.out,.slice B r.list.length c1]) (by simp[results,Tryz.results64,go_sem,xaa, *]) rfl ⟨_,rfl,Xa5 I.out,((((D.out.setCell sm _).setCell sm _).setCell sm _).setCell sm _).setCell sm _⟩
