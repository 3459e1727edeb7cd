/- The walk of FnRefuse. -/
import Derived.Test.YtbonkabfmlajnaaGreatQca
import Derived.Test.YtbonkabfmlajnaaGreatQbz
set_option maxHeartbeats 16000000
set_option maxRecDepth 100000
namespace Go.Proofs.YtbonkabfmlajnaaGreat
open Go.RowKit
theorem Ka8 {z:kae}(h:uac z=true):(z.shut=true->(kai z).2=12)/\(z.shut=false->(kai z).2=0/\(xag (kai z).1 ⟨#[122,122]⟩ []).2=12):=by
 have n:=xaS z;have p:(vap ⟨#[122,122]⟩ []).2=true:=by decide
 refine⟨fun j=>by unfold kai;rw[if_pos h,if_pos j],fun j=> ?_⟩
 have e:kai z=(⟨true,z.docs,z.subs,z.last⟩,0):=by unfold kai;rw[if_pos h,if_neg (by simp[j])]
 rw[e]at n⊢;exact⟨rfl,by unfold xag;rw[if_pos ⟨n,p⟩,if_pos rfl]⟩
theorem walk_FnRefuse (vb:Value)(bs:List zah)(w:World)(hm:Xa8 maxLen w vb bs):
 Calls Tryz.prog 3 #[vb] w (yae w (.bool true)):=by
 have hlm:=fun w1 ty=>hm.len Tryz.underlying22 w1 ty
 by_cases hlen:bs.length<=1048576
 rotate_left
 ·have hl2:(1048576:Int)<(bs.length:Int):=om;go_enter Tryz.func3,Tryz.ntmps3
  go_wp2;go_ret;exact⟨rfl,lf _ _⟩
 have hl2:¬(1048576:Int)<(bs.length:Int):=om;have HB:=hH (kbe hm hlen);clear hm;go_enter Tryz.func3,Tryz.ntmps3
 go_wp2_with fail
 refine(KaO vb bs w HB.out).mono ?_;rintro e' w1 ⟨z,vd,vs,rfl,hok,hd,hb1⟩;obtain⟨ad,cd,rfl⟩:=hd.d.isSlice;obtain⟨as_,cs,rfl⟩:=hd.s.isSlice;have HBA:Hid (Below w1 w1 (w1.alloc (.cells #[z.shut,.slice ad z.docs.length cd,.slice as_ z.subs.length cs,z.last] 26))):=hH ((lf _ _).alloc (lr _) _);have a8:Hid (Bx (w1.alloc (.cells #[z.shut,.slice ad z.docs.length cd,.slice as_ z.subs.length cs,z.last] 26)) w1 [z.shut,.slice ad z.docs.length cd,.slice as_ z.subs.length cs,z.last]):=hH (Bx.new sm);have a7:=hH ((hd.lt.imp fun k h=>h.2).below HBA.out)
 have HBB:=hH ((HB.out.below hb1).below HBA.out);have HBW:=hH (hb1.trans (HBA.out.mono hb1.size));have s1:=hb1.size;have HOK:=hH hok;clear hd hb1 hok HB;go_upto_region 4 with(fail)
 obtain⟨W1,hW1⟩:∃W1,w1.alloc (.cells #[z.shut,.slice ad z.docs.length cd,.slice as_ z.subs.length cs,z.last] 26)=W1:=⟨_,rfl⟩;obtain⟨bh,hbh⟩:∃bh,w1.heap.size=bh:=⟨_,rfl⟩;rw[hW1]at a8 a7 HBB HBW;rw[hbh]at a8 a7 s1;(try rw[hW1])
 (try rw[hbh])
 clear hW1 hbh HBA;have lh:=a8.out.lt;obtain⟨Z,B,D,I,J⟩:=a8.out.o4;go_wp2_with fail
 refine(vaI vb bs z _ _ _ HBB.out HOK.out a7.out.d a7.out.s).mono ?_;rintro e' w2 ⟨vl,l,rfl,hr,hco,hb2⟩;obtain⟨all,cll,rfl⟩:=hr.rd.isSlice;have hll:=fun w1 ty=>hr.rd.len Tryz.underlying28 w1 ty
 have HL0:Hid (Xbe w bh _ l w2 z _ _):=hH ⟨HBW.out.trans (hb2.mono HBW.out.size),s1,a8.out.at hb2,HOK.out,(a7.out.below hb2).imp fun k hk=>by omega,hr.mono om⟩
 have HCO:=hH hco;clear hr hco hb2 B D I J a8 a7 HBB HBW HOK;go_wp2_with fail
 go_loopw [21] (fun i wr=>∃(k:Nat) (z:kae) (vd vs:Value),i= .int .i64 k/\k<=l.length/\Xbe w bh (.slice all l.length cll) l wr z vd vs) (fun i _=>l.length-(intOf i).toNat)
 case atStart=>exact⟨0,z,_,_,rfl,lz _,HL0.out⟩
 case round=>
  clear HL0;obtain⟨k,z,vd,vs,rfl,hkl,hl⟩:=hrel;obtain⟨ad,cd,rfl⟩:=hl.hdh.d.isSlice;obtain⟨as_,cs,rfl⟩:=hl.hdh.s.isSlice;by_cases hlt:k<l.length
  ·have hlt2:(k:Int)<(l.length:Int):=om;have hle:=hl.ll.rd.le;obtain⟨c,hc⟩:=Jaa hlt;have HCK:=hH (HCO.out c (List.mem_of_getElem? hc));have hkd:=(Qaw HCK.out).1;have hkd:=within_iff.1 hkd;obtain⟨b1,o1,c7,g1,g2,g3⟩:=hl.ll.rd.idx Tryz.underlying28 yaY k hc;obtain⟨vo,vt,rfl,hcd,ro,rt⟩:=Ja9 g3;obtain⟨ao,co,rfl⟩:=ro.isSlice;obtain⟨at_,ct,rfl⟩:=rt.isSlice
   have q0:=g2.zero;have q1:=g2 1 _ rfl;have q2:=g2 2 _ rfl;have q3:=g2 3 _ rfl;have q4:=g2 4 _ rfl;have q5:=g2 5 _ rfl;have q6:=g2 6 _ rfl;have l7:b1<wr.heap.size:=lk (w:=wr) (a:=⟨b1,o1,none⟩) q0;have HN:Hid (Below wr wr (wr.alloc (.cells #[c.kind,c.doc,c.client,c.seq,c.n,.slice ao c.o.length co,.slice at_ c.text.length ct] 33))):=hH ((lf _ _).alloc (lr _) _)
   have a9:Hid (Bx (wr.alloc (.cells #[c.kind,c.doc,c.client,c.seq,c.n,.slice ao c.o.length co,.slice at_ c.text.length ct] 33)) wr [c.kind,c.doc,c.client,c.seq,c.n,.slice ao c.o.length co,.slice at_ c.text.length ct]):=hH (Bx.new sm)
   have j:=hH (hl.below HN.out);have HO:=hH (ro.below HN.out);have HT:=hH (rt.below HN.out);have lbh:bh<wr.heap.size:=hl.x3.lt;clear g2 g3 ro rt hl hc;go_upto_region 7 with(fail)
   obtain⟨W4,hW4⟩:∃W4,wr.alloc (.cells #[c.kind,c.doc,c.client,c.seq,c.n,.slice ao c.o.length co,.slice at_ c.text.length ct] 33)=W4:=⟨_,rfl⟩
   obtain⟨b5,M⟩:∃b5,wr.heap.size=b5:=⟨_,rfl⟩;rw[hW4]at a9 j HO HT;rw[M]at a9 lbh;(try rw[hW4])
   (try rw[M])
   clear hW4 M HN q0 q1 q2 q3 q4 q5 q6;have l5:=a9.out.lt;obtain⟨cz,c0,c1,c2,c3,c4,c5,c6⟩:=a9.out.o7;obtain⟨Z,B,D,I,J⟩:=j.out.x3.o4;go_wp2_with fail
   refine(vbc z c _ _ _ _ _ j.out.hdh.d j.out.hdh.s HO.out HT.out (QaU j.out.ok)).mono ?_;rintro e' w5 ⟨vd1,vs1,vu,vw,fd,fz,ft,fl,rfl,sd,ss,st,sl,fr,M⟩;have a6:=za0 j.out.ok c;have HOK:=hH j.out.ok;have hcd1:=xbc z c;have HELS:=hH (@ua0 z c);have HKP:=hH (@qa3 z c);obtain⟨⟨y,a⟩,hy⟩:∃r,Zaj z c=r:=⟨_,rfl⟩;rw[hy]at sd ss st sl a6 hcd1 HELS HKP;rw[hy];simp only at sd ss st sl a6 hcd1;obtain⟨Q,U,rfl⟩:=sd.isS;obtain⟨R,Y,rfl⟩:=ss.isS;obtain⟨au,nu,cu,rfl⟩:=RdS.isSl3 ⟨_,st⟩;obtain⟨al,nl,cl,rfl⟩:=RdS.isSl3 ⟨_,sl⟩;have N:Hid (Below w5 w5 ((w5.alloc (.cells #[y.shut,.slice Q y.docs.length U,.slice R y.subs.length Y,y.last] 26)).alloc (.cells #[a.code,a.rev,.slice au nu cu,.slice al nl cl] 36))):=hH (((lf _ _).alloc (lr _) _).alloc om _);have q:Hid (kbh (bh+1) b5 w5 (w5+1) ((w5.alloc (.cells #[y.shut,.slice Q y.docs.length U,.slice R y.subs.length Y,y.last] 26)).alloc (.cells #[a.code,a.rev,.slice au nu cu,.slice al nl cl] 36)) c _ _ y _ _ a _ _):=hH ⟨(a9.out.at M).at N.out,(Bx.new sm).alloc _,Bx.new sm,(HO.out.below M).below N.out,(HT.out.below M).below N.out,(Sl.toDH sd ss fun p hp=>by have:=fr.ge p (by simp only[lm]at *;rcases hp with h|h<;>simp[h]);omega).below N.out,(show RdS w5 _ a.text from⟨_,st⟩).below N.out,(show RdS w5 _ a.list from⟨_,sl⟩).below N.out⟩
   replace j:=hH ((j.out.below M).below N.out);have HOK1:=hH a6;clear sd ss st sl fr M a6 N a9 HO HT c0 c1 c2 c3 c4 c5 c6 B D I J;go_upto_region 8 with(fail)
   obtain⟨W6,hW6⟩:∃W6,(w5.alloc (.cells #[y.shut,.slice Q y.docs.length U,.slice R y.subs.length Y,y.last] 26)).alloc (.cells #[a.code,a.rev,.slice au nu cu,.slice al nl cl] 36)=W6:=⟨_,rfl⟩;obtain⟨b6,aa⟩:∃b6,w5.heap.size=b6:=⟨_,rfl⟩;rw[hW6]at q j;rw[aa]at q;(try rw[hW6])
   (try rw[aa])
   clear hW6 aa;obtain⟨Z,B,D,I,J⟩:=j.out.x3.o4;obtain⟨cz,c0,c1,c2,c3,c4,c5,c6⟩:=q.out.x5.o7;obtain⟨xz,x0,x1,x2,x3⟩:=q.out.x6.o4;obtain⟨az,a0,a1,a2,a3⟩:=q.out.x7.o4;go_wp2_with fail
   refine(zaU a.code hcd1 _).mono ?_;rintro e' w7 ⟨s,rfl,hs,hb7⟩;obtain⟨hs1,hs4⟩:=Jbe hs;clear hs;clear Z B D I J cz c0 c1 c2 c3 c4 c5 c6 xz x0 x1 x2 x3 az a0 a1 a2 a3;replace j:=hH (j.out.below hb7);replace q:=hH (q.out.below hb7);obtain⟨Z,B,D,I,J⟩:=j.out.x3.o4;obtain⟨cz,c0,c1,c2,c3,c4,c5,c6⟩:=q.out.x5.o7;obtain⟨xz,x0,x1,x2,x3⟩:=q.out.x6.o4;obtain⟨az,a0,a1,a2,a3⟩:=q.out.x7.o4;go_wp2_with fail
   refine(xaj y _ _ _ q.out.hdh.d q.out.hdh.s).mono ?_;rintro e' w8 ⟨rfl,hb8⟩;rw[HOK1.out];clear Z B D I J cz c0 c1 c2 c3 c4 c5 c6 xz x0 x1 x2 x3 az a0 a1 a2 a3;replace j:=hH (j.out.below hb8);replace q:=hH (q.out.below hb8);obtain⟨Z,B,D,I,J⟩:=j.out.x3.o4;obtain⟨cz,c0,c1,c2,c3,c4,c5,c6⟩:=q.out.x5.o7;obtain⟨xz,x0,x1,x2,x3⟩:=q.out.x6.o4;obtain⟨az,a0,a1,a2,a3⟩:=q.out.x7.o4;go_wp2_with fail
   refine(XaB c _ _ _ q.out.ro q.out.rt).mono ?_;rintro e' w9 ⟨rfl,hb9⟩;rw[HCK.out];clear Z B D I J cz c0 c1 c2 c3 c4 c5 c6 xz x0 x1 x2 x3 az a0 a1 a2 a3;replace j:=hH (j.out.below hb9);replace q:=hH (q.out.below hb9);obtain⟨Z,B,D,I,J⟩:=j.out.x3.o4;obtain⟨cz,c0,c1,c2,c3,c4,c5,c6⟩:=q.out.x5.o7;obtain⟨xz,x0,x1,x2,x3⟩:=q.out.x6.o4;obtain⟨az,a0,a1,a2,a3⟩:=q.out.x7.o4;go_wp2_with fail
   refine(kaU c.kind hkd _).mono ?_;rintro e' w10 ⟨s2,rfl,hs2,hb10⟩;obtain⟨hs3,hs5⟩:=Jbe hs2;clear hs2;clear Z B D I J cz c0 c1 c2 c3 c4 c5 c6 xz x0 x1 x2 x3 az a0 a1 a2 a3;replace j:=hH (j.out.below hb10);replace q:=hH (q.out.below hb10);obtain⟨Z,B,D,I,J⟩:=j.out.x3.o4;obtain⟨cz,c0,c1,c2,c3,c4,c5,c6⟩:=q.out.x5.o7;obtain⟨xz,x0,x1,x2,x3⟩:=q.out.x6.o4;obtain⟨az,a0,a1,a2,a3⟩:=q.out.x7.o4;clear hb7 hb8 hb9 hb10;go_upto_region 10 with(fail)
   go_cut [67]from 22 to 66 (fun v wx=>v= .bool false/\Below w10 w10 wx)
   case first=>
    by_cases hc0:a.code=0
    ·have e0:(a.code !=0)=false:=by simp[hc0]
     clear hc0;go_wp2_with fail
     go_meet
     exact⟨rfl,blw⟩
    ·have e0:(a.code !=0)=true:=by simpa using hc0
     obtain⟨hyz,ha⟩:y=z/\a=xaJ a.code:=by have:=HELS.out hc0;simpa using this
     subst hyz;have har:a.rev=0:=by rw[ha];rfl
     have HAT:Hid (RdS w10 (.slice none 0 0) a.text):=hH (by rw[ha];exact RdS.nil)
     have HAL:Hid (RdS w10 (.slice none 0 0) a.list):=hH (by rw[ha];exact RdS.nil)
     clear ha hc0;go_wp2_with fail
     refine(Jat y _ _ _ _ _ q.out.hdh.d j.out.hdh.d q.out.hdh.s j.out.hdh.s).mono ?_;rintro e' w11 ⟨rfl,u⟩;obtain⟨az',a0',a1',a2',a3'⟩:=(q.out.below u).x7.o4;go_wp2_with fail
     have hsm:=KaD a _ _ _ _ _ (q.out.below u).ru (HAT.out.below u) (q.out.below u).rl (HAL.out.below u);rw[har]at hsm;refine hsm.mono ?_;rintro e' w12 ⟨rfl,hb12⟩;clear hsm;go_wp2_with fail
     go_meet
     exact⟨rfl,u.trans (hb12.mono u.size)⟩
   case rest=>
    obtain⟨rfl,a5⟩:=hcut;obtain⟨w11,hw11⟩:∃w11,w11=wc:=⟨_,rfl⟩;subst hw11;clear Z B D I J cz c0 c1 c2 c3 c4 c5 c6 xz x0 x1 x2 x3 az a0 a1 a2 a3;replace j:=hH (j.out.below a5);replace q:=hH (q.out.below a5);obtain⟨Z,B,D,I,J⟩:=j.out.x3.o4;obtain⟨cz,c0,c1,c2,c3,c4,c5,c6⟩:=q.out.x5.o7;obtain⟨xz,x0,x1,x2,x3⟩:=q.out.x6.o4;clear a5;go_upto_region 12 with(fail)
    go_cut [81]from 22 to 80 (fun v wx=>v= .bool false/\Below w11 w11 wx)
    case first=>
     by_cases a4:c.kind=3\/c.kind=4
     ·obtain rfl:y=z:=HKP.out a4;by_cases k3:c.kind=3
      ·have e3:(c.kind==3)=true:=by simpa using k3
       clear a4 k3;go_wp2_with fail
       refine(Jat y _ _ _ _ _ q.out.hdh.d j.out.hdh.d q.out.hdh.s j.out.hdh.s).mono ?_;rintro e' w12 ⟨rfl,hb12⟩;go_wp2_with fail
       go_meet
       exact⟨rfl,blw⟩
      ·have e3:(c.kind==3)=false:=by simpa using k3
       have e4:(c.kind==4)=true:=by simpa using a4.resolve_left k3
       clear a4 k3;go_wp2_with fail
       refine(Jat y _ _ _ _ _ q.out.hdh.d j.out.hdh.d q.out.hdh.s j.out.hdh.s).mono ?_;rintro e' w12 ⟨rfl,hb12⟩;go_wp2_with fail
       go_meet
       exact⟨rfl,blw⟩
     ·have e3:(c.kind==3)=false:=by simpa using fun h=>a4 (.inl h)
      have e4:(c.kind==4)=false:=by simpa using fun h=>a4 (.inr h)
      clear a4;go_wp2_with fail
      go_meet
      exact⟨rfl,blw⟩
    case rest=>
     obtain⟨rfl,a5⟩:=hcut;obtain⟨w12,hw12⟩:∃w12,w12=wc:=⟨_,rfl⟩;subst hw12;clear Z B D I J cz c0 c1 c2 c3 c4 c5 c6 xz x0 x1 x2 x3;replace j:=hH (j.out.below a5);replace q:=hH (q.out.below a5);obtain⟨Z,B,D,I,J,hf0,hf1,hf2,hf3⟩:=j.out.x3.q4;obtain⟨xz,x0,x1,x2,x3⟩:=q.out.x6.o4;clear a5;have HP:=hH (j.out.put HOK1.out q.out.hdh fun k hk=>by omega)
     clear j q;go_wp2;go_roundw
     case rel=>exact⟨k+1,y,_,_,by first|go_num|(congr 1;omega),by omega,HP.out⟩
     case measure=>simp[intOf];omega
  ·obtain rfl:k=l.length:=om;have j:=hH hl;clear hl;obtain⟨Z,B,D,I,J⟩:=j.out.x3.o4;go_wp2_with fail
   refine(Qay z _ _ _ j.out.hdh.d j.out.hdh.s).mono ?_;rintro e' w3 ⟨vd1,vs1,fd,fz,rfl,sd,ss,fr,hb3⟩;have HSH:=hH (@Ka8 z j.out.ok);obtain⟨⟨y,n⟩,hy⟩:∃r,kai z=r:=⟨_,rfl⟩;rw[hy]at sd ss HSH;rw[hy];simp only at sd ss;obtain⟨Q,U,rfl⟩:=sd.isS;obtain⟨R,Y,rfl⟩:=ss.isS;have HN:Hid (Below w3 w3 (w3.alloc (.cells #[y.shut,.slice Q y.docs.length U,.slice R y.subs.length Y,y.last] 26))):=hH ((lf _ _).alloc (lr _) _);have HX8:Hid (Bx (w3.alloc (.cells #[y.shut,.slice Q y.docs.length U,.slice R y.subs.length Y,y.last] 26)) w3 [y.shut,.slice Q y.docs.length U,.slice R y.subs.length Y,y.last]):=hH (Bx.new sm);have HD1:=hH ((show RdS w3 _ y.docs from⟨_,sd⟩).below HN.out);have HS1:=hH ((show RdS w3 _ y.subs from⟨_,ss⟩).below HN.out);replace j:=hH ((j.out.below hb3).below HN.out);clear hy sd ss fr hb3 B D I J;go_upto_region 17 with(fail)
   obtain⟨W5,hW5⟩:∃W5,w3.alloc (.cells #[y.shut,.slice Q y.docs.length U,.slice R y.subs.length Y,y.last] 26)=W5:=⟨_,rfl⟩;rw[hW5]at HX8 HD1 HS1 j;(try rw[hW5])
   clear hW5 HN;obtain⟨yz,y0,y1,y2,y3⟩:=HX8.out.o4;go_wp2_with fail
   refine(Jay y _ _ ⟨#[122,122]⟩ [] (.slice none 0 0) _ HD1.out HS1.out (Xab (by decide)) RdS.nil (by decide)).mono ?_
   rintro e' w6 ⟨vd2,vs2,fd2,fz2,rfl,sd2,ss2,_,aa⟩;obtain⟨⟨x,m⟩,hx⟩:∃r,xag y ⟨#[122,122]⟩ []=r:=⟨_,rfl⟩;rw[hx]at sd2 ss2 HSH;rw[hx];simp only at sd2 ss2;obtain⟨ad2,cd2,rfl⟩:=sd2.isS;obtain⟨as2,cs2,rfl⟩:=ss2.isS;replace j:=hH (j.out.below aa);clear hx sd2 ss2 aa y0 y1 y2 y3;obtain⟨Z,B,D,I,J⟩:=j.out.x3.o4;cases hsh:z.shut
   ·obtain⟨rfl,e2⟩:=HSH.out.2 hsh;simp only at e2;subst e2;rw[hsh]at B;go_wp2;go_ret;exact⟨rfl,j.out.be.trans ((show Below w6 w6 _ from blw).mono j.out.be.size)⟩
   ·obtain rfl:=HSH.out.1 hsh;rw[hsh]at B;go_wp2;go_ret;exact⟨rfl,j.out.be.trans ((show Below w6 w6 _ from blw).mono j.out.be.size)⟩
