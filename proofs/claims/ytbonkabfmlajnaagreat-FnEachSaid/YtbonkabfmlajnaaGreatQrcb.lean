/- The walk of FnEach. -/
import Derived.Test.YtbonkabfmlajnaaGreatQrca
import Derived.Test.YtbonkabfmlajnaaGreatQrbz
set_option maxHeartbeats 16000000
set_option maxRecDepth 100000
namespace Go.Proofs.YtbonkabfmlajnaaGreat
open Go.RowKit
structure ZaX (b8 b9:Nat)(wr:World)(y:qae)(vd vs:Value)(a:Kal)(at_ al:Value):Prop where
 x8:b8<wr.heap.size/\wr.cell? ⟨b8,0,none⟩=some (.bool y.shut)/\wr.cell? ⟨b8,1,none⟩=some vd/\wr.cell? ⟨b8,2,none⟩=some vs/\wr.cell? ⟨b8,3,none⟩=some (.int .i64 y.last)
 x9:b9<wr.heap.size/\wr.cell? ⟨b9,0,none⟩=some (.int .i64 a.code)/\wr.cell? ⟨b9,1,none⟩=some (.int .i64 a.rev)/\wr.cell? ⟨b9,2,none⟩=some at_/\wr.cell? ⟨b9,3,none⟩=some al
 rd:RdS wr vd y.docs
 rs:RdS wr vs y.subs
 rt:RdS wr at_ a.text
 rl:RdS wr al a.list
theorem ZaX.below {n p:Nat}{wr B:World}{y:qae}{z vs at_ j:Value}{a:Kal}(h:ZaX n p wr y z vs a at_ j)(hb:Below wr wr B):ZaX n p B y z vs a at_ j:=
 let⟨q,D,I,p2,p3⟩:=h.x8
 let⟨u,J,q1,q2,q3⟩:=h.x9
 ⟨⟨lq q hb.size,mv4 hb q D I p2 p3⟩,⟨lq u hb.size,mv4 hb u J q1 q2 q3⟩,h.rd.below hb,h.rs.below hb,h.rt.below hb,h.rl.below hb⟩
theorem JaU {p:Prop}{q u:Nat}{j wr:World}{y:qae}{z vs at_ n:Value}{a:Kal}(h:ZaX q u wr y z vs a at_ n/\p/\Below j j wr)(o:Obj):ZaX q u (wr.alloc o) y z vs a at_ n/\p/\Below j j (wr.alloc o):=⟨h.1.below ((lf _ _).alloc (lr _) o),h.2.1,h.2.2.alloc h.2.2.size o⟩
theorem ZaE {p:Prop}{C j n:Nat}{z B q:World}{y:qae}{J N Q M:Value}{a:Kal}(I:Wr [(j,0),(j,1),(j,2),(j,3),(n,0),(n,1),(n,2),(n,3)] B q)(h6:z.heap.size<=j)(h8:j<n)(hC:n<C)(hb:Below z z B)(hd:DH (C≤ ·) B y J N)(U:RdG C B Q a.text)(R:RdG C B M a.list)
 (Y:j<q.heap.size/\q.cell? ⟨j,0,none⟩=some (.bool y.shut)/\q.cell? ⟨j,1,none⟩=some J/\q.cell? ⟨j,2,none⟩=some N/\q.cell? ⟨j,3,none⟩=some (.int .i64 y.last))
 (Z:n<q.heap.size/\q.cell? ⟨n,0,none⟩=some (.int .i64 a.code)/\q.cell? ⟨n,1,none⟩=some (.int .i64 a.rev)/\q.cell? ⟨n,2,none⟩=some Q/\q.cell? ⟨n,3,none⟩=some M) (u:p):ZaX j n q y J N a Q M/\p/\Below z z q:=by
 have D:∀p∈[(j,0),(j,1),(j,2),(j,3),(n,0),(n,1),(n,2),(n,3)],j<=p.1/\p.1<C:=fun p u=>by
  simp only[List.mem_cons,List.not_mem_nil,or_false]at u;rcases u with rfl|rfl|rfl|rfl|rfl|rfl|rfl|rfl<;>(simp only;omega)
 have k:=hd.wr I fun p u h=>by have:=D p u;omega
 exact⟨⟨Y,Z,k.d,k.s,(U.wr I fun p u=>(D p u).2).rd,(R.wr I fun p u=>(D p u).2).rd⟩,u,hb.trans (I.below hb.size fun p u=>by have:=D p u;omega)⟩
theorem walk_FnEach (vb:Value)(bs:List zah)(w:World)(hm:Ka8 maxLen w vb bs):
 Calls Tryz.prog 4 #[vb] w (yae w (.bool true)):=by
 have hlm:=fun w1 ty=>hm.len Tryz.underlying22 w1 ty
 by_cases hlen:bs.length<=1048576
 rotate_left
 ·have hl2:(1048576:Int)<(bs.length:Int):=om;go_enter Tryz.func4,Tryz.ntmps4
  go_wp2;go_ret;exact⟨rfl,lf _ _⟩
 have hl2:¬(1048576:Int)<(bs.length:Int):=om;have HB:=hH (vbe hm hlen);clear hm;go_enter Tryz.func4,Tryz.ntmps4
 go_wp2_with fail
 refine(kaP vb bs w HB.out).mono ?_;rintro e' w1 ⟨z,vd,vs,rfl,hok,hd,hb1⟩;obtain⟨ad,cd,rfl⟩:=hd.d.isSlice;obtain⟨as_,cs,rfl⟩:=hd.s.isSlice;have HBA:Hid (Below w1 w1 (w1.alloc (.cells #[z.shut,.slice ad z.docs.length cd,.slice as_ z.subs.length cs,z.last] 26))):=hH ((lf _ _).alloc (lr _) _);have HX3:Hid (Bx (w1.alloc (.cells #[z.shut,.slice ad z.docs.length cd,.slice as_ z.subs.length cs,z.last] 26)) w1 [z.shut,.slice ad z.docs.length cd,.slice as_ z.subs.length cs,z.last]):=hH (Bx.new sm);have HDZ:=hH ((hd.lt.imp fun k h=>h.2).below HBA.out)
 have HBB:=hH ((HB.out.below hb1).below HBA.out);have HBW:=hH (hb1.trans (HBA.out.mono hb1.size));have s1:=hb1.size;have HOK:=hH hok;clear hd hb1 hok HB;go_upto_region 4 with(fail)
 obtain⟨W1,hW1⟩:∃W1,w1.alloc (.cells #[z.shut,.slice ad z.docs.length cd,.slice as_ z.subs.length cs,z.last] 26)=W1:=⟨_,rfl⟩;obtain⟨bh,hbh⟩:∃bh,w1.heap.size=bh:=⟨_,rfl⟩;rw[hW1]at HX3 HDZ HBB HBW;rw[hbh]at HX3 HDZ s1;(try rw[hW1])
 (try rw[hbh])
 clear hW1 hbh HBA;have lh:=HX3.out.lt;obtain⟨hz,h0,h1,h2,h3⟩:=HX3.out.o4;go_wp2_with fail
 refine(jaI vb bs z _ _ _ HBB.out HOK.out HDZ.out.d HDZ.out.s).mono ?_;rintro e' w2 ⟨vl,l,rfl,hr,hco,hb2⟩;obtain⟨all,cll,rfl⟩:=hr.rd.isSlice;have hll:=fun w1 ty=>hr.rd.len Tryz.underlying28 w1 ty
 have HL0:Hid (Kbe w bh _ l w2 z _ _):=hH ⟨HBW.out.trans (hb2.mono HBW.out.size),s1,HX3.out.at hb2,HOK.out,(HDZ.out.below hb2).imp fun k B=>by omega,hr.mono om⟩
 have HCO:=hH hco;clear hr hco hb2 h0 h1 h2 h3 HX3 HDZ HBB HBW HOK;go_wp2_with fail
 go_loopw [32] (fun i wr=>∃(k:Nat) (z:qae) (vd vs:Value),i= .int .i64 k/\k<=l.length/\Kbe w bh (.slice all l.length cll) l wr z vd vs) (fun i _=>l.length-(intOf i).toNat)
 case atStart=>exact⟨0,z,_,_,rfl,lz _,HL0.out⟩
 case round=>
  clear HL0;obtain⟨k,z,vd,vs,rfl,hkl,hl⟩:=hrel;obtain⟨ad,cd,rfl⟩:=hl.hdh.d.isSlice;obtain⟨as_,cs,rfl⟩:=hl.hdh.s.isSlice;by_cases hlt:k<l.length
  ·have hlt2:(k:Int)<(l.length:Int):=om;have hle:=hl.ll.rd.le;obtain⟨c,hc⟩:=Jaa hlt;have HCK:=hH (HCO.out c (List.mem_of_getElem? hc));have hkd:=(kat HCK.out).1;have hkd:=within_iff.1 hkd;obtain⟨b1,o1,c7,g1,g2,g3⟩:=hl.ll.rd.idx Tryz.underlying28 ya0 k hc;obtain⟨vo,vt,rfl,hcd,ro,rt⟩:=Jbb g3;obtain⟨ao,co,rfl⟩:=ro.isSlice;obtain⟨at_,ct,rfl⟩:=rt.isSlice
   have q0:=g2.zero;have q1:=g2 1 _ rfl;have q2:=g2 2 _ rfl;have q3:=g2 3 _ rfl;have q4:=g2 4 _ rfl;have q5:=g2 5 _ rfl;have q6:=g2 6 _ rfl;have l7:b1<wr.heap.size:=lk (w:=wr) (a:=⟨b1,o1,none⟩) q0;have HN:Hid (Below wr wr (wr.alloc (.cells #[c.kind,c.doc,c.client,c.seq,c.n,.slice ao c.o.length co,.slice at_ c.text.length ct] 33))):=hH ((lf _ _).alloc (lr _) _)
   have HX5:Hid (Bx (wr.alloc (.cells #[c.kind,c.doc,c.client,c.seq,c.n,.slice ao c.o.length co,.slice at_ c.text.length ct] 33)) wr [c.kind,c.doc,c.client,c.seq,c.n,.slice ao c.o.length co,.slice at_ c.text.length ct]):=hH (Bx.new sm)
   have R:=hH (hl.below HN.out);have HO:=hH (ro.below HN.out);have HT:=hH (rt.below HN.out);have lbh:bh<wr.heap.size:=hl.x3.lt;clear g2 g3 ro rt hl hc;go_upto_region 7 with(fail)
   obtain⟨W4,hW4⟩:∃W4,wr.alloc (.cells #[c.kind,c.doc,c.client,c.seq,c.n,.slice ao c.o.length co,.slice at_ c.text.length ct] 33)=W4:=⟨_,rfl⟩
   obtain⟨b5,hb5⟩:∃b5,wr.heap.size=b5:=⟨_,rfl⟩;rw[hW4]at HX5 R HO HT;rw[hb5]at HX5 lbh;(try rw[hW4])
   (try rw[hb5])
   clear hW4 hb5 HN q0 q1 q2 q3 q4 q5 q6;have l5:=HX5.out.lt;obtain⟨cz,c0,c1,c2,c3,c4,c5,c6⟩:=HX5.out.o7;obtain⟨hz,h0,h1,h2,h3⟩:=R.out.x3.o4;go_wp2_with fail
   refine(zbc z c _ _ _ _ _ R.out.hdh.d R.out.hdh.s HO.out HT.out (yaT R.out.ok)).mono ?_;rintro e' w5 ⟨vd1,vs1,vu,vw,fd,fz,ft,fl,rfl,sd,ss,st,sl,fr,hb5⟩;have hok1:=qaY R.out.ok c;have HOK:=hH R.out.ok;have hcd1:=Ja9 z c;have HELS:=hH (@va1 z c);have HKP:=hH (@ya2 z c);obtain⟨⟨y,a⟩,hy⟩:∃r,Xai z c=r:=⟨_,rfl⟩;rw[hy]at sd ss st sl hok1 hcd1 HELS HKP;rw[hy];simp only at sd ss st sl hok1 hcd1;obtain⟨ad1,cd1,rfl⟩:=sd.isS;obtain⟨as1,cs1,rfl⟩:=ss.isS;obtain⟨au,nu,cu,rfl⟩:=RdS.isSl3 ⟨_,st⟩;obtain⟨al,nl,cl,rfl⟩:=RdS.isSl3 ⟨_,sl⟩;have HN6:Hid (Below w5 w5 ((w5.alloc (.cells #[y.shut,.slice ad1 y.docs.length cd1,.slice as1 y.subs.length cs1,y.last] 26)).alloc (.cells #[a.code,a.rev,.slice au nu cu,.slice al nl cl] 36))):=hH (((lf _ _).alloc (lr _) _).alloc om _);have Q:Hid (ubh (bh+1) b5 w5 (w5+1) ((w5.alloc (.cells #[y.shut,.slice ad1 y.docs.length cd1,.slice as1 y.subs.length cs1,y.last] 26)).alloc (.cells #[a.code,a.rev,.slice au nu cu,.slice al nl cl] 36)) c _ _ y _ _ a _ _):=hH ⟨(HX5.out.at hb5).at HN6.out,(Bx.new sm).alloc _,Bx.new sm,(HO.out.below hb5).below HN6.out,(HT.out.below hb5).below HN6.out,(Sl.toDH sd ss fun p hp=>by have:=fr.ge p (by simp only[lm]at *;rcases hp with h|h<;>simp[h]);omega).below HN6.out,(show RdS w5 _ a.text from⟨_,st⟩).below HN6.out,(show RdS w5 _ a.list from⟨_,sl⟩).below HN6.out⟩
   replace R:=hH ((R.out.below hb5).below HN6.out);have HOK1:=hH hok1;clear sd ss st sl fr hb5 hok1 HN6 HX5 HO HT c0 c1 c2 c3 c4 c5 c6 h0 h1 h2 h3;go_upto_region 8 with(fail)
   obtain⟨W6,hW6⟩:∃W6,(w5.alloc (.cells #[y.shut,.slice ad1 y.docs.length cd1,.slice as1 y.subs.length cs1,y.last] 26)).alloc (.cells #[a.code,a.rev,.slice au nu cu,.slice al nl cl] 36)=W6:=⟨_,rfl⟩;obtain⟨b6,hb6⟩:∃b6,w5.heap.size=b6:=⟨_,rfl⟩;rw[hW6]at Q R;rw[hb6]at Q;(try rw[hW6])
   (try rw[hb6])
   clear hW6 hb6;obtain⟨cz,c0,c1,c2,c3,c4,c5,c6⟩:=Q.out.x5.o7;obtain⟨xz,x0,x1,x2,x3⟩:=Q.out.x6.o4;obtain⟨az,a0,a1,a2,a3⟩:=Q.out.x7.o4;have D:Hid (Below W6 W6 ((W6.alloc (.cells #[y.shut,.slice ad1 y.docs.length cd1,.slice as1 y.subs.length cs1,y.last] 26)).alloc (.cells #[a.code,zI,zN,zN] 36))):=hH (((lf _ _).alloc (lr _) _).alloc om _);have X8:Hid (Bx ((W6.alloc (.cells #[y.shut,.slice ad1 y.docs.length cd1,.slice as1 y.subs.length cs1,y.last] 26)).alloc (.cells #[a.code,zI,zN,zN] 36)) W6 [y.shut,.slice ad1 y.docs.length cd1,.slice as1 y.subs.length cs1,y.last]):=hH ((Bx.new sm).alloc _);have X9:Hid (Bx ((W6.alloc (.cells #[y.shut,.slice ad1 y.docs.length cd1,.slice as1 y.subs.length cs1,y.last] 26)).alloc (.cells #[a.code,zI,zN,zN] 36)) (W6+1) [a.code,zI,zN,zN]):=hH (Bx.new sm);have HRW:Hid (¬(c.kind=3\/c.kind=4)->a=(Xah z c).2/\(a.code=0->y=(Xah z c).1)):=hH fun B=>by have:=Za7 ⟨HOK.out,HCK.out⟩ B;rwa[hy]at this
   go_upto_region 10 with(fail)
   obtain⟨W8,hW8⟩:∃W8,((W6.alloc (.cells #[y.shut,.slice ad1 y.docs.length cd1,.slice as1 y.subs.length cs1,y.last] 26)).alloc (.cells #[a.code,zI,zN,zN] 36))=W8:=⟨_,rfl⟩;obtain⟨b8,hb8⟩:∃b8,W6.heap.size=b8:=⟨_,rfl⟩;obtain⟨b9,u⟩:∃b9,b8+1=b9:=⟨_,rfl⟩;have s8:W6.heap.size<=b8:=Nat.le_of_eq hb8;have s9:b8<b9:=Nat.lt_of_succ_le (Nat.le_of_eq u);have lx:¬(b9=b8):=om;have ly:¬(b8=b9):=om;rw[hW8]at D X8 X9;rw[hb8]at X8 X9;rw[u]at X9;(try rw[hW8])
   (try rw[hb8])
   (try rw[u])
   clear hW8 hb8 u hy;clear cz c0 c1 c2 c3 c4 c5 c6 xz x0 x1 x2 x3 az a0 a1 a2 a3;have sz8:=X9.out.lt;obtain⟨cz,c0,c1,c2,c3,c4,c5,c6⟩:=(Q.out.below D.out).x5.o7;go_upto_block 2 with fail
   go_cut [8,10,11,12,13,14,15,16,17,18,19,20,21,22]from 33 to 138 (fun v _ _ _ _ _ _ _ _ _ _ _ _ _ wx=>v= .pointer (some ⟨b8,0,none⟩)/\∃(N:qae) (ud us ut ul:Value),ZaX b8 b9 wx N ud us a ut ul/\(a.code=0->N=y)/\Below W6 W6 wx)
   case first=>
    have hk8:=hkd;by_cases h34:c.kind=3\/c.kind=4
    ·obtain⟨az,a0,a1,a2,a3⟩:=(Q.out.below D.out).x7.o4;obtain⟨z9,e0,e1,e2,e3,g0,g1,g2,g3⟩:=X9.out.q4;have n1:(c.kind==1)=false:=by simp;omega
     have n2:(c.kind==2)=false:=by simp;omega
     have n5:(c.kind==5)=false:=by simp;omega
     have n6:(c.kind==6)=false:=by simp;omega
     have n7:(c.kind==7)=false:=by simp;omega
     have n8:(c.kind==8)=false:=by simp;omega
     clear h34 hk8 hkd;have J:Hid (Below W6 W6 ((((W8.setCell ⟨b9,0,none⟩ a.code).setCell ⟨b9,1,none⟩ a.rev).setCell ⟨b9,2,none⟩ (.slice au nu cu)).setCell ⟨b9,3,none⟩ (.slice al nl cl))):=hH ((((D.out.setCell (p:=⟨b9,0,none⟩) om _).setCell (p:=⟨b9,1,none⟩) om _).setCell (p:=⟨b9,2,none⟩) om _).setCell (p:=⟨b9,3,none⟩) om _);have HE:Hid (ZaX b8 b9 _ y _ _ a _ _):=hH ⟨(X8.out.off4 ly (.int .i64 a.code) (.int .i64 a.rev) (.slice au nu cu) (.slice al nl cl)).o4,((((X9.out.set 0 a.code).set 1 a.rev).set 2 (.slice au nu cu)).set 3 (.slice al nl cl)).o4,Q.out.hdh.d.below J.out,Q.out.hdh.s.below J.out,Q.out.ru.below J.out,Q.out.rl.below J.out⟩;go_wp2_with fail
     go_meet
     exact⟨rfl,y,_,_,_,_,HE.out,fun _=>rfl,J.out⟩
    obtain⟨HA,HY2⟩:=HRW.out h34;have HZ:=hH HA;have Y:=hH HY2;clear HA HY2 HRW;obtain⟨hz,h0,h1,h2,h3⟩:=(R.out.below D.out).x3.o4;have U:=hH (R.out.below D.out);have HRZ:=hH (Q.out.below D.out);rcases(show c.kind=1\/c.kind=2\/c.kind=5\/c.kind=6\/c.kind=7\/c.kind=8 by omega)with B|B|B|B|B|B
    ·have n1:(c.kind==1)=true:=by simp[B]
     have n2:(c.kind==2)=false:=by simp[B]
     have n5:(c.kind==5)=false:=by simp[B]
     have n6:(c.kind==6)=false:=by simp[B]
     have n7:(c.kind==7)=false:=by simp[B]
     have n8:(c.kind==8)=false:=by simp[B]
     have HK:=hH B;clear B h34 hk8 hkd;go_wp2_with fail
     refine(jaz z _ _ c.doc c.text _ _ U.out.hdh.d U.out.hdh.s hcd HRZ.out.rt (by have:=(zan.1 (kat HCK.out).2.2.2).1;omega)).mono ?_
     rintro e' w9 ⟨vd2,vs2,fd2,fz2,rfl,j,q,I,u⟩;obtain⟨⟨N,n⟩,M⟩:∃r,kag z c.doc c.text=r:=⟨_,rfl⟩;have HE:Hid (a=jaA n/\(a.code=0->N=y)):=hH ⟨by rw[HZ.out];simp[Xah,HK.out,jaA,M],fun h=>by rw[Y.out h];simp[Xah,HK.out,M]⟩
     rw[M]at j q;rw[M];clear M;simp only at j q;obtain⟨ad2,cd2,rfl⟩:=j.isS;obtain⟨as2,cs2,rfl⟩:=q.isS;have Z:=hH (Sl.toDH j q fun p hp=>I.ge p (by simp only[lm]at *;rcases hp with h|h<;>simp[h]))
     have J:=hH (D.out.trans (u.mono D.out.size));obtain⟨x8z,p0,p1,p2,p3,f0,f1,f2,f3⟩:=(X8.out.at u).q4;obtain⟨x9z,q0,q1,q2,q3,g0,g1,g2,g3⟩:=(X9.out.at u).q4;clear j q I u HZ Y HK;go_wp2_with fail
     go_meet
     refine⟨rfl,N,.slice ad2 N.docs.length cd2,.slice as2 N.subs.length cs2,.slice none 0 0,.slice none 0 0,?_⟩;obtain⟨rfl,a4⟩:=HE.out;refine ZaE ?_ s8 s9 sz8 J.out Z.out (RdG.nil) (RdG.nil) ⟨om,?_,?_,?_,?_⟩ ⟨om,?_,?_,?_,?_⟩ a4
     ·repeat' first|with_reducible refine Wr.put ?_ ?_ _|with_reducible exact Wr.refl _ _|(simp;done)
     all_goals simp[xaa,jaA, *]
    ·have n1:(c.kind==1)=false:=by simp[B]
     have n2:(c.kind==2)=true:=by simp[B]
     have n5:(c.kind==5)=false:=by simp[B]
     have n6:(c.kind==6)=false:=by simp[B]
     have n7:(c.kind==7)=false:=by simp[B]
     have n8:(c.kind==8)=false:=by simp[B]
     have HK:=hH B;clear B h34 hk8 hkd;go_wp2_with fail
     refine(xaw z _ _ c.doc c.client c.seq c.n _ c.o _ U.out.hdh.d U.out.hdh.s HRZ.out.ro).mono ?_;rintro e' w9 ⟨vd2,vs2,fd2,fz2,rfl,j,q,I,u⟩;obtain⟨⟨N,r,n⟩,M⟩:∃r,Kac z c.doc c.client c.seq c.n c.o=r:=⟨_,rfl⟩;have HE:Hid (a=⟨n,r,[],[]⟩/\(a.code=0->N=y)):=hH ⟨by rw[HZ.out];simp[Xah,HK.out,M],fun h=>by rw[Y.out h];simp[Xah,HK.out,M]⟩
     rw[M]at j q;rw[M];clear M;simp only at j q;obtain⟨ad2,cd2,rfl⟩:=j.isS;obtain⟨as2,cs2,rfl⟩:=q.isS;have Z:=hH (Sl.toDH j q fun p hp=>I.ge p (by simp only[lm]at *;rcases hp with h|h<;>simp[h]))
     have J:=hH (D.out.trans (u.mono D.out.size));obtain⟨x8z,p0,p1,p2,p3,f0,f1,f2,f3⟩:=(X8.out.at u).q4;obtain⟨x9z,q0,q1,q2,q3,g0,g1,g2,g3⟩:=(X9.out.at u).q4;clear j q I u HZ Y HK;go_wp2_with fail
     go_meet
     refine⟨rfl,N,.slice ad2 N.docs.length cd2,.slice as2 N.subs.length cs2,.slice none 0 0,.slice none 0 0,?_⟩;obtain⟨rfl,a4⟩:=HE.out;refine JaU ?_ _;refine ZaE ?_ s8 s9 sz8 J.out Z.out (RdG.nil) (RdG.nil) ⟨om,?_,?_,?_,?_⟩ ⟨om,?_,?_,?_,?_⟩ a4
     ·repeat' first|with_reducible refine Wr.put ?_ ?_ _|with_reducible exact Wr.refl _ _|(simp;done)
     all_goals simp[xaa, *]
    ·have n1:(c.kind==1)=false:=by simp[B]
     have n2:(c.kind==2)=false:=by simp[B]
     have n5:(c.kind==5)=true:=by simp[B]
     have n6:(c.kind==6)=false:=by simp[B]
     have n7:(c.kind==7)=false:=by simp[B]
     have n8:(c.kind==8)=false:=by simp[B]
     have HK:=hH B;clear B h34 hk8 hkd;go_wp2_with fail
     refine(jas z _ _ c.doc c.n _ U.out.hdh.d U.out.hdh.s hcd).mono ?_;rintro e' w9 ⟨vd2,vs2,fd2,fz2,rfl,j,q,I,u⟩;obtain⟨⟨N,r,n⟩,M⟩:∃r,yac z c.doc c.n=r:=⟨_,rfl⟩;have HE:Hid (a=⟨n,r,[],[]⟩/\(a.code=0->N=y)):=hH ⟨by rw[HZ.out];simp[Xah,HK.out,M],fun h=>by rw[Y.out h];simp[Xah,HK.out,M]⟩
     rw[M]at j q;rw[M];clear M;simp only at j q;obtain⟨ad2,cd2,rfl⟩:=j.isS;obtain⟨as2,cs2,rfl⟩:=q.isS;have Z:=hH (Sl.toDH j q fun p hp=>I.ge p (by simp only[lm]at *;rcases hp with h|h<;>simp[h]))
     have J:=hH (D.out.trans (u.mono D.out.size));obtain⟨x8z,p0,p1,p2,p3,f0,f1,f2,f3⟩:=(X8.out.at u).q4;obtain⟨x9z,q0,q1,q2,q3,g0,g1,g2,g3⟩:=(X9.out.at u).q4;clear j q I u HZ Y HK;go_wp2_with fail
     go_meet
     refine⟨rfl,N,.slice ad2 N.docs.length cd2,.slice as2 N.subs.length cs2,.slice none 0 0,.slice none 0 0,?_⟩;obtain⟨rfl,a4⟩:=HE.out;refine JaU ?_ _;refine ZaE ?_ s8 s9 sz8 J.out Z.out (RdG.nil) (RdG.nil) ⟨om,?_,?_,?_,?_⟩ ⟨om,?_,?_,?_,?_⟩ a4
     ·repeat' first|with_reducible refine Wr.put ?_ ?_ _|with_reducible exact Wr.refl _ _|(simp;done)
     all_goals simp[xaa, *]
    ·have n1:(c.kind==1)=false:=by simp[B]
     have n2:(c.kind==2)=false:=by simp[B]
     have n5:(c.kind==5)=false:=by simp[B]
     have n6:(c.kind==6)=true:=by simp[B]
     have n7:(c.kind==7)=false:=by simp[B]
     have n8:(c.kind==8)=false:=by simp[B]
     have HK:=hH B;clear B h34 hk8 hkd;go_wp2_with fail
     refine(Jaz z _ _ c.client c.n _ U.out.hdh.d U.out.hdh.s).mono ?_;rintro e' w9 ⟨vd2,vs2,v3,fd2,fz2,f3,rfl,j,q,s3,I,u⟩;obtain⟨⟨N,li,n⟩,M⟩:∃r,qah z c.client c.n=r:=⟨_,rfl⟩;have HE:Hid (a=⟨n,0,[],li⟩/\(a.code=0->N=y)):=hH ⟨by rw[HZ.out];simp[Xah,HK.out,M],fun h=>by rw[Y.out h];simp[Xah,HK.out,M]⟩
     rw[M]at j q s3;rw[M];clear M;simp only at j q s3;obtain⟨ad2,cd2,rfl⟩:=j.isS;obtain⟨as2,cs2,rfl⟩:=q.isS;obtain⟨a3,n3,c3',rfl⟩:=RdS.isSl3 ⟨_,s3⟩;have HG:=hH (show RdG W8 w9 _ li from⟨_,s3,fun p hp=>I.ge p (by simp[hp])⟩)
     have Z:=hH (Sl.toDH j q fun p hp=>I.ge p (by simp only[lm]at *;rcases hp with h|h<;>simp[h]))
     have J:=hH (D.out.trans (u.mono D.out.size));obtain⟨x8z,p0,p1,p2,p3,f0,f1,f2,f3⟩:=(X8.out.at u).q4;obtain⟨x9z,q0,q1,q2,q3,g0,g1,g2,g3⟩:=(X9.out.at u).q4;clear j q I u HZ Y HK s3;go_wp2_with fail
     go_meet
     refine⟨rfl,N,.slice ad2 N.docs.length cd2,.slice as2 N.subs.length cs2,.slice none 0 0,.slice a3 n3 c3',?_⟩;obtain⟨rfl,a4⟩:=HE.out;refine JaU ?_ _;refine ZaE ?_ s8 s9 sz8 J.out Z.out (RdG.nil) (HG.out) ⟨om,?_,?_,?_,?_⟩ ⟨om,?_,?_,?_,?_⟩ a4
     ·repeat' first|with_reducible refine Wr.put ?_ ?_ _|with_reducible exact Wr.refl _ _|(simp;done)
     all_goals simp[xaa, *]
    ·have n1:(c.kind==1)=false:=by simp[B]
     have n2:(c.kind==2)=false:=by simp[B]
     have n5:(c.kind==5)=false:=by simp[B]
     have n6:(c.kind==6)=false:=by simp[B]
     have n7:(c.kind==7)=true:=by simp[B]
     have n8:(c.kind==8)=false:=by simp[B]
     have HK:=hH B;clear B h34 hk8 hkd;go_wp2_with fail
     refine(kaw z _ _ c.client _ U.out.hdh.d U.out.hdh.s).mono ?_;rintro e' w9 ⟨vd2,vs2,v3,fd2,fz2,f3,rfl,j,q,s3,I,u⟩;obtain⟨⟨N,te,r,n⟩,M⟩:∃r,kae z c.client=r:=⟨_,rfl⟩;have HE:Hid (a=⟨n,r,te,[]⟩/\(a.code=0->N=y)):=hH ⟨by rw[HZ.out];simp[Xah,HK.out,M],fun h=>by rw[Y.out h];simp[Xah,HK.out,M]⟩
     rw[M]at j q s3;rw[M];clear M;simp only at j q s3;obtain⟨ad2,cd2,rfl⟩:=j.isS;obtain⟨as2,cs2,rfl⟩:=q.isS;obtain⟨a3,n3,c3',rfl⟩:=RdS.isSl3 ⟨_,s3⟩;have HG:=hH (show RdG W8 w9 _ te from⟨_,s3,fun p hp=>I.ge p (by simp[hp])⟩)
     have Z:=hH (Sl.toDH j q fun p hp=>I.ge p (by simp only[lm]at *;rcases hp with h|h<;>simp[h]))
     have J:=hH (D.out.trans (u.mono D.out.size));obtain⟨x8z,p0,p1,p2,p3,f0,f1,f2,f3⟩:=(X8.out.at u).q4;obtain⟨x9z,q0,q1,q2,q3,g0,g1,g2,g3⟩:=(X9.out.at u).q4;clear j q I u HZ Y HK s3;go_wp2_with fail
     go_meet
     refine⟨rfl,N,.slice ad2 N.docs.length cd2,.slice as2 N.subs.length cs2,.slice a3 n3 c3',.slice none 0 0,?_⟩;obtain⟨rfl,a4⟩:=HE.out;refine JaU ?_ _;refine ZaE ?_ s8 s9 sz8 J.out Z.out (HG.out) (RdG.nil) ⟨om,?_,?_,?_,?_⟩ ⟨om,?_,?_,?_,?_⟩ a4
     ·repeat' first|with_reducible refine Wr.put ?_ ?_ _|with_reducible exact Wr.refl _ _|(simp;done)
     all_goals simp[xaa, *]
    ·have n1:(c.kind==1)=false:=by simp[B]
     have n2:(c.kind==2)=false:=by simp[B]
     have n5:(c.kind==5)=false:=by simp[B]
     have n6:(c.kind==6)=false:=by simp[B]
     have n7:(c.kind==7)=false:=by simp[B]
     have n8:(c.kind==8)=true:=by simp[B]
     have HK:=hH B;clear B h34 hk8 hkd;go_wp2_with fail
     refine(Kaz z _ _ _ U.out.hdh.d U.out.hdh.s).mono ?_;rintro e' w9 ⟨vd2,vs2,fd2,fz2,rfl,j,q,I,u⟩;obtain⟨⟨N,n⟩,M⟩:∃r,xan z=r:=⟨_,rfl⟩;have HE:Hid (a=jaA n/\(a.code=0->N=y)):=hH ⟨by rw[HZ.out];simp[Xah,HK.out,jaA,M],fun h=>by rw[Y.out h];simp[Xah,HK.out,M]⟩
     rw[M]at j q;rw[M];clear M;simp only at j q;obtain⟨ad2,cd2,rfl⟩:=j.isS;obtain⟨as2,cs2,rfl⟩:=q.isS;have Z:=hH (Sl.toDH j q fun p hp=>I.ge p (by simp only[lm]at *;rcases hp with h|h<;>simp[h]))
     have J:=hH (D.out.trans (u.mono D.out.size));obtain⟨x8z,p0,p1,p2,p3,f0,f1,f2,f3⟩:=(X8.out.at u).q4;obtain⟨x9z,q0,q1,q2,q3,g0,g1,g2,g3⟩:=(X9.out.at u).q4;clear j q I u HZ Y HK;go_wp2_with fail
     go_meet
     refine⟨rfl,N,.slice ad2 N.docs.length cd2,.slice as2 N.subs.length cs2,.slice none 0 0,.slice none 0 0,?_⟩;obtain⟨rfl,a4⟩:=HE.out;refine ZaE ?_ s8 s9 sz8 J.out Z.out (RdG.nil) (RdG.nil) ⟨om,?_,?_,?_,?_⟩ ⟨om,?_,?_,?_,?_⟩ a4
     ·repeat' first|with_reducible refine Wr.put ?_ ?_ _|with_reducible exact Wr.refl _ _|(simp;done)
     all_goals simp[xaa,jaA, *]
   case rest=>
    obtain⟨rfl,N,ud,us,ut,ul,hed,hyy,hbx⟩:=hcut;obtain⟨w10,hw10⟩:∃w10,w10=wc:=⟨_,rfl⟩;subst hw10;replace R:=hH (R.out.below hbx);replace Q:=hH (Q.out.below hbx);obtain⟨d1,d2,d3,rfl⟩:=hed.rd.isSl3;obtain⟨d4,d5,d6,rfl⟩:=hed.rs.isSl3;obtain⟨d7,d8,d9,rfl⟩:=hed.rt.isSl3;obtain⟨e1,e2,e3,rfl⟩:=hed.rl.isSl3;have HD:=hH hed;have HYY:=hH hyy;clear hed hyy hbx HRW X8 X9 D HELS HKP c0 c1 c2 c3 c4 c5 c6 cz;obtain⟨az,a0,a1,a2,a3⟩:=Q.out.x7.o4;obtain⟨z9,p0,p1,p2,p3⟩:=HD.out.x9;go_upto_region 32 with(fail)
    go_cut [158]from 33 to 157 (fun v wx=>v= .bool false/\Below w10 w10 wx)
    case first=>
     go_wp2_with fail
     refine(ZaF a _ _ _ _ _ Q.out.ru HD.out.rt Q.out.rl HD.out.rl).mono ?_;rintro e' w11 ⟨rfl,hb11⟩;clear az a0 a1 a2 a3 z9 p0 p1 p2 p3;replace Q:=hH (Q.out.below hb11);replace HD:=hH (HD.out.below hb11);obtain⟨az,a0,a1,a2,a3⟩:=Q.out.x7.o4;obtain⟨xz,x0,x1,x2,x3⟩:=Q.out.x6.o4;obtain⟨z8,p0,p1,p2,p3⟩:=HD.out.x8;by_cases hc0:a.code=0
     ·have e0:(a.code==0)=true:=by simpa using hc0
      obtain rfl:y=N:=(HYY.out hc0).symm;clear hc0;go_wp2_with fail
      refine(xaQ y _ _ _ _ _ Q.out.hdh.d HD.out.rd Q.out.hdh.s HD.out.rs).mono ?_;rintro e' w12 ⟨rfl,hb12⟩;clear az a0 a1 a2 a3 xz x0 x1 x2 x3 z8 p0 p1 p2 p3;obtain⟨xz,x0,x1,x2,x3⟩:=(Q.out.below hb12).x6.o4;go_wp2_with fail
      refine(uah y _ _ _ (Q.out.below hb12).hdh.d (Q.out.below hb12).hdh.s).mono ?_;rintro e' w13 ⟨rfl,hb13⟩;rw[HOK1.out];go_wp2_with fail
      go_meet
      exact⟨rfl,hb11.trans ((hb12.trans (hb13.mono hb12.size)).mono hb11.size)⟩
     ·have e0:(a.code==0)=false:=by simpa using hc0
      clear hc0;go_wp2_with fail
      refine(uah y _ _ _ Q.out.hdh.d Q.out.hdh.s).mono ?_;rintro e' w13 ⟨rfl,hb13⟩;rw[HOK1.out];go_wp2_with fail
      go_meet
      exact⟨rfl,hb11.trans (hb13.mono hb11.size)⟩
    case rest=>
     obtain⟨rfl,hbc⟩:=hcut;obtain⟨w12,hw12⟩:∃w12,w12=wc:=⟨_,rfl⟩;subst hw12;clear az a0 a1 a2 a3 z9 p0 p1 p2 p3;replace R:=hH (R.out.below hbc);replace Q:=hH (Q.out.below hbc);obtain⟨hz,h0,h1,h2,h3,hf0,hf1,hf2,hf3⟩:=R.out.x3.q4;obtain⟨xz,x0,x1,x2,x3⟩:=Q.out.x6.o4;clear hbc;have HP:=hH (R.out.put HOK1.out Q.out.hdh fun k B=>by omega)
     clear R Q HD;go_wp2;go_roundw
     case rel=>exact⟨k+1,y,_,_,by first|go_num|(congr 1;omega),by omega,HP.out⟩
     case measure=>simp[intOf];omega
  ·obtain rfl:k=l.length:=om;have R:=hH hl;clear hl;obtain⟨hz,h0,h1,h2,h3⟩:=R.out.x3.o4;go_wp2_with fail
   refine(uah z _ _ _ R.out.hdh.d R.out.hdh.s).mono ?_;rintro e' w3 ⟨rfl,hb3⟩;rw[R.out.ok];go_wp2;go_ret;exact⟨rfl,R.out.be.trans (hb3.mono R.out.be.size)⟩
