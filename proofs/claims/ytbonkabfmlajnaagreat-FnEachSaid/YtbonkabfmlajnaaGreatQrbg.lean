/- Transform, the program's walk. -/
import Derived.Test.YtbonkabfmlajnaaGreatQrbf
import Derived.Test.YtbonkabfmlajnaaGreatQrbd
import Derived.Deep.CutRange
set_option maxHeartbeats 8000000
set_option maxRecDepth 100000
namespace Go.Proofs.YtbonkabfmlajnaaGreat
open Go.RowKit
theorem Ka9:∀l:List zaa,l.length<=mu l
 |[]=>lr _
 |p::l=>by have:=Ka9 l;simp only[mu,List.length_cons];omega
theorem TR.rlen {a b r s X Y:List zaa}(h:TR a b r s X Y)(j:yag a=true)(hb:yag b=true):r.length<=2001/\s.length<=2001:=by
 obtain⟨m,n,p,q,u,z⟩:=h.m;have:=vbd j;have:=vbd hb;have:=Ka9 r;have:=Ka9 s;omega
theorem yaq {p:zaa}(n:Nat)(k:p.kind≠2):cutL p n=⟨p.kind,n,p.signs⟩:=by unfold cutL;rw[if_neg k]
theorem zaJ {br bs:Nat}{vx j z:Value}{S:Nat}{q:Pos}(B:∀p∈rowP (GoT.n zaa) j,p∈rowP (GoT.n zaa) vx\/S<=p.1)(u:¬ZP br bs vx z q)(D:q.1<S):¬ZP br bs j z q:=by
 rintro(h|h)
 ·rcases B q h with h|h
  ·exact u (.inl h)
  ·omega
 ·exact u (.inr h)
theorem ua8 (x y:Int)(a:Option Addr)(n c:Nat)(w:World):(Instr.field 122 (.agg #[x,y,.slice a n c]) 0).run Tryz.prog w= .ok (.int .i64 x) w:=by
 simp[Instr.field,run_underlying Tryz.underlying122,asAgg,part,go_sem]
attribute [local go_sem] ua8
theorem kaI (va vb:Value)(a b:List zaa)(w:World)(ha:RdS w va a)(hb:RdS w vb b):Calls Tryz.prog 156 #[va,vb] w (vaw w a b):=by
 by_cases h1:yag a=true
 rotate_left
 ·have h1:yag a=false:=by simpa using h1
  have HV:=hH (yan (a:=a) (b:=b) fun h=>by rw[h1]at h;cases h.1)
  go_enter Tryz.func156,Tryz.ntmps156
  go_wp2_with fail
  refine(jad va a _ ha).mono ?_;rintro e' w1 ⟨rfl,hb1⟩;rw[h1];go_wp2;exact bodyPost_ret (v:= .tuple #[zN,zN,false]) (by simp[results,Tryz.results156,go_sem, *]) rfl (vaw.no HV.out hb1)
 by_cases h2:yag b=true
 rotate_left
 ·have h2:yag b=false:=by simpa using h2
  have HV:=hH (yan (a:=a) (b:=b) fun h=>by rw[h2]at h;cases h.2.1)
  go_enter Tryz.func156,Tryz.ntmps156
  go_wp2_with fail
  refine(jad va a _ ha).mono ?_;rintro e' w1 ⟨rfl,hb1⟩;rw[h1];go_wp2_with fail
  refine(jad vb b _ (hb.below hb1)).mono ?_;rintro e' w2 ⟨rfl,hb2⟩;rw[h2];go_wp2;exact bodyPost_ret (v:= .tuple #[zN,zN,false]) (by simp[results,Tryz.results156,go_sem, *]) rfl (vaw.no HV.out (hb1.trans (hb2.mono hb1.size)))
 have HAL:=hH (Zae.1 h1).1;have HBL:=hH (Zae.1 h2).1;have HB4:Hid (∀{w1 w2 w3 u:World},Below w w w1->Below w1 w1 w2->Below w2 w2 w3->Below w3 w3 u->Below w w u):=hH fun x1 x2 x3 x4=>x1.trans ((x2.trans ((x3.trans (x4.mono x3.size)).mono x2.size)).mono x1.size)
 by_cases h3:kad a=kad b
 rotate_left
 ·have HV:=hH (yan (a:=a) (b:=b) fun h=>h3 h.2.2)
  have h3:(kad a==kad b)=false:=by simpa using h3
  go_enter Tryz.func156,Tryz.ntmps156
  go_wp2_with fail
  refine(jad va a _ ha).mono ?_;rintro e' w1 ⟨rfl,hb1⟩;rw[h1];go_wp2_with fail
  refine(jad vb b _ (hb.below hb1)).mono ?_;rintro e' w2 ⟨rfl,hb2⟩;rw[h2];go_wp2_with fail
  refine(jai va a _ ((ha.below hb1).below hb2)).mono ?_;rintro e' w3 ⟨rfl,hb3⟩;go_wp2_with fail
  refine(jai vb b _ (((hb.below hb1).below hb2).below hb3)).mono ?_;rintro e' u ⟨rfl,hb4⟩;have HBW:=hH (HB4.out hb1 hb2 hb3 hb4);clear hb1 hb2 hb3 hb4;go_wp2;exact bodyPost_ret (v:= .tuple #[zN,zN,false]) (by simp[results,Tryz.results156,go_sem, *]) rfl (vaw.no HV.out HBW.out)
 obtain⟨aa,ca,rfl⟩:=ha.isSlice;obtain⟨ab,cb,rfl⟩:=hb.isSlice;have H0:=hH (TR.new h1 h2 h3);have HOK:Hid (yag a=true/\yag b=true/\kad a=kad b):=hH ⟨h1,h2,h3⟩;have h3:(kad a==kad b)=true:=by simpa using h3
 go_enter Tryz.func156,Tryz.ntmps156
 go_wp2_with fail
 refine(jad _ a _ ha).mono ?_;rintro e' w1 ⟨rfl,hb1⟩;rw[h1];go_wp2_with fail
 refine(jad _ b _ (hb.below hb1)).mono ?_;rintro e' w2 ⟨rfl,hb2⟩;rw[h2];go_wp2_with fail
 refine(jai _ a _ ((ha.below hb1).below hb2)).mono ?_;rintro e' w3 ⟨rfl,hb3⟩;go_wp2_with fail
 refine(jai _ b _ (((hb.below hb1).below hb2).below hb3)).mono ?_;rintro e' u ⟨rfl,hb4⟩;have HBW:=hH (HB4.out hb1 hb2 hb3 hb4);clear hb1 hb2 hb3 hb4;obtain⟨i0,hi,hz0,hz1,hz2⟩:=info_parts uam;have HTX0:=hH (TX.new (E:=173) HBW.out ha hb);go_wp2_with fail
 go_loopg [9,10] (mu a+mu b) (fun n x9 x10 wr=>∃(vr vs vx Q:Value) (r s X Y:List zaa),vx=x9/\Q=x10/\n=mu r+mu s/\TX w (u+2) u (u+1) vr vs vx Q r s X Y wr/\TR a b r s X Y)
 case atStart=>exact⟨_,_,_,_,a,b,[],[],rfl,rfl,rfl,HTX0.out,H0.out⟩
 case round=>
  obtain⟨vr,vs,vx,Q,r,s,X,Y,rfl,rfl,rfl,htx,htr⟩:=hrel;have j:=hH htx;have Z:=hH htr;have HMU:Hid (mu r+mu s<=mu r+mu s):=hH (lr _);have XOK:=hH htr.oks.1;have YOK:=hH htr.oks.2;have XLE:=hH (htr.lens HOK.out.1 HOK.out.2.1).1;have YLE:=hH (htr.lens HOK.out.1 HOK.out.2.1).2;clear htx htr h3 HTX0;obtain⟨f11,j111,j112,j113,j114⟩:=j.out.rd;have hC11:=uaj u vr r f11 _ j.out.p j111 j112 Z.out.i.r;have HC11:=hH hC11;have HJ11:=hH j113;clear hC11 j111 j112 j113 j114;go_wp2_with fail
  refine HC11.out.mono ?_;rintro e' w11 ⟨v11,f',vh11,he,I,hx,D,N,hw,hst⟩;obtain⟨ah11,qh11,rfl⟩:=I.isSlice;obtain⟨r11,hr11⟩:∃z,z=skip (r):=⟨_,rfl⟩;rw[<-hr11]at he I D;have HSr:Hid (skip r11=r11):=hH (by rw[hr11,kam])
  have hmu:=Kao r;rw[<-hr11]at hmu;replace j:Hid (TX w (u+2) u (u+1) v11 vs vx Q r11 s X Y w11):=hH ((j.out.stepR HJ11.out hw hx D (fun q B=> .inl (N q B))))
  replace Z:Hid (TR a b r11 s X Y):=hH (by rw[hr11];exact Z.out.skipR)
  replace HMU:Hid (mu (r11)+mu (s)<=mu r+mu s):=hH (by have h1:=HMU.out;omega)
  clear hx D N hw hst hmu hr11 HC11 HJ11 I;rcases r11 with _|⟨p,r'⟩
  ·subst he;try dsimp only[hd,List.headD]
   obtain⟨f12,j121,j122,j123,j124⟩:=j.out.swap.rd;have hC12:=uaj (u+1) vs s f12 _ j.out.swap.p j121 j122 Z.out.i.s;have HC12:=hH hC12;have HJ12:=hH j123;clear hC12 j121 j122 j123 j124;go_wp2_with fail
   refine HC12.out.mono ?_;rintro e' w12 ⟨v12,f',vh12,he,I,hx,D,N,hw,hst⟩;obtain⟨ah12,qh12,rfl⟩:=I.isSlice;obtain⟨s12,hs12⟩:∃z,z=skip (s):=⟨_,rfl⟩;rw[<-hs12]at he I D;have HSs:Hid (skip s12=s12):=hH (by rw[hs12,kam])
   have hmu:=Kao s;rw[<-hs12]at hmu;replace j:Hid (TX w (u+2) u (u+1) v11 v12 vx Q ([]) s12 X Y w12):=hH ((j.out.swap.stepR HJ12.out hw hx D (fun q B=> .inl (N q B))).swap)
   replace Z:Hid (TR a b ([]) s12 X Y):=hH (by rw[hs12];exact Z.out.skipS)
   replace HMU:Hid (mu ([])+mu (s12)<=mu r+mu s):=hH (by have h1:=HMU.out;omega)
   clear hx D N hw hst hmu hs12 HC12 HJ12 I;rcases s12 with _|⟨q,s'⟩
   ·subst he;try dsimp only[hd,List.headD]
    obtain⟨ex,ey⟩:=Z.out.end_;have HEX:=hH ex;have HEY:=hH ey;clear ex ey;have HRX:Hid (RdS w12 vx X):=hH (let⟨_,h,_⟩:=j.out.t.x;h.rd)
    have HRY:Hid (RdS w12 Q Y):=hH (let⟨_,h,_⟩:=j.out.t.y;h.rd)
    have HB0:=hH j.out.bel;go_wp2_with fail
    refine(kav vx X _ HRX.out XOK.out (by have:=XLE.out;omega)).mono ?_
    rintro e' J ⟨vu,rfl,hu,hb20⟩;have HU:=hH hu;have HB20:=hH hb20;have s20:=hb20.size;have s12:=HB0.out.size;clear hu hb20;go_wp2_with fail
    refine(kav Q Y _ (HRY.out.below HB20.out) YOK.out (by have:=YLE.out;omega)).mono ?_
    rintro e' w21 ⟨vv,rfl,I,hb21⟩;have HB21:=hH (HB0.out.trans ((HB20.out.trans (hb21.mono s20)).mono s12));have HU2:Hid (uaf w w21 vu (normal (tfz a b).1)):=hH (by rw[<-HEX.out];exact(HU.out.mono s12).below hb21)
    have HVV:Hid (uaf w w21 vv (normal (tfz a b).2)):=hH (by rw[<-HEY.out];exact I.mono om)
    have s21:w<=w21.heap.size:=HB21.out.size;clear I hb21 HU HB0 HB20 HRX HRY s20 s12;by_cases g1:yag (normal (tfz a b).1)=true
    rotate_left
    ·have HV:=hH (Zaq (a:=a) (b:=b) fun h=>g1 h.1)
     have g1:yag (normal (tfz a b).1)=false:=by simpa using g1
     go_wp2_with fail
     refine(jad vu _ _ (let⟨_,h,_⟩:=HU2.out;⟨_,h⟩)).mono ?_
     rintro e' w22 ⟨rfl,hb22⟩;rw[g1];go_wp2;exact bodyPost_ret (v:= .tuple #[zN,zN,false]) (by simp[results,Tryz.results156,go_sem, *]) rfl (vaw.no HV.out (HB21.out.trans (hb22.mono s21)))
    go_wp2_with fail
    refine(jad vu _ _ (let⟨_,h,_⟩:=HU2.out;⟨_,h⟩)).mono ?_
    rintro e' w22 ⟨rfl,hb22⟩;rw[g1];have HB22:=hH hb22;clear hb22;by_cases g2:yag (normal (tfz a b).2)=true
    rotate_left
    ·have HV:=hH (Zaq (a:=a) (b:=b) fun h=>g2 h.2)
     have g2:yag (normal (tfz a b).2)=false:=by simpa using g2
     go_wp2_with fail
     refine(jad vv _ _ ((let⟨_,h,_⟩:=HVV.out;⟨_,h⟩:RdS w21 vv _).below HB22.out)).mono ?_
     rintro e' w23 ⟨rfl,hb23⟩;rw[g2];go_wp2;exact bodyPost_ret (v:= .tuple #[zN,zN,false]) (by simp[results,Tryz.results156,go_sem, *]) rfl (vaw.no HV.out (HB21.out.trans ((HB22.out.trans (hb23.mono HB22.out.size)).mono s21)))
    have HV:=hH (uaB HOK.out ⟨g1,g2⟩);go_wp2_with fail
    refine(jad vv _ _ ((let⟨_,h,_⟩:=HVV.out;⟨_,h⟩:RdS w21 vv _).below HB22.out)).mono ?_
    rintro e' w23 ⟨rfl,hb23⟩;rw[g2];have HB23:=hH (HB22.out.trans (hb23.mono HB22.out.size));clear hb23;go_wp2;exact bodyPost_ret (v:= .tuple #[vu,vv,true]) (by simp[results,Tryz.results156,go_sem, *]) rfl<|vaw.yes HV.out (HU2.out.below HB23.out) (HVV.out.below HB23.out) (HB21.out.trans (HB23.out.mono s21))
   have HNq:=hH (Qam HSs.out:nsz q≠0);have hk:q.kind=2:=by
    by_cases k:q.kind=2
    ·exact k
    ·obtain⟨⟨p,r',hh,_⟩,_⟩:=Z.out.others (.inl rfl) (.inr ⟨q,s',rfl,HNq.out,k⟩) (.inr sm);cases hh
   have HK:=hH hk;subst he;try dsimp only[hd,List.headD]
   rw[hk];clear hk;obtain⟨f13,j131,j132,j133,j134⟩:=j.out.rd;have hC13:=uaj u v11 ([]) f13 _ j.out.p j131 j132 Z.out.i.r;rw[HSr.out]at hC13;have HC13:=hH hC13;have HJ13:=hH j133;clear hC13 j131 j132 j133 j134;go_wp2_with fail
   refine HC13.out.mono ?_;rintro e' w13 ⟨v13,f',vh13,he,I,hx,D,N,hw,hst⟩;obtain⟨ah13,qh13,rfl⟩:=I.isSlice;obtain⟨_,_,hbb⟩:=hst (by first|trivial|rfl)
   replace j:=hH (j.out.below hbb);have HVH13:=hH I;clear I hx D N hw hbb HC13 HJ13;subst he;try dsimp only[hd,List.headD]
   obtain⟨f14,j141,j142,j143,j144⟩:=j.out.swap.rd;have hC14:=uaj (u+1) v12 (q::s') f14 _ j.out.swap.p j141 j142 Z.out.i.s;rw[HSs.out]at hC14;have HC14:=hH hC14;have HJ14:=hH j143;clear hC14 j141 j142 j143 j144;go_wp2_with fail
   refine HC14.out.mono ?_;rintro e' w14 ⟨v14,f',vh14,he,I,hx,D,N,hw,hst⟩;obtain⟨ah14,qh14,rfl⟩:=I.isSlice;obtain⟨_,_,hbb⟩:=hst (by first|trivial|rfl)
   replace j:=hH (j.out.below hbb);have HVH14:=hH I;clear I hx D N hw hbb HC14 HJ14;subst he;try dsimp only[hd,List.headD]
   rw[HK.out];obtain⟨hop,hnp,hcp,hp0,hp2,htr2,hmu2⟩:=Z.out.putS (.inl rfl) HNq.out HK.out;have HOq:=hH hop;have HTR2:=hH htr2;have HCP:=hH hcp;have HLEs:Hid (s'.length<=5000):=hH (by have h:=(Z.out.rlen HOK.out.1 HOK.out.2.1).2;simp only[List.length_cons]at h;omega)
   have HDEC:Hid (mu (cutR q (nsz q)::s')<mu (q::s')):=hH hmu2;have hpsl:q.signs.length<=200:=hp2;clear hop hnp hcp hp0 hp2 htr2 hmu2;obtain⟨f15,j151,j152,j153,j154⟩:=j.out.swap.rd;have HJ15:=hH j153;have hC15:=(Qax (u+1) v12 q s' f15 _ j.out.swap.p j151 j152 HOq.out HLEs.out);rw[HCP.out]at hC15;have HC15:=hH hC15;clear hC15;clear j151 j152 j153 j154;go_wp2_with fail
   refine HC15.out.mono ?_;rintro e' w15 ⟨v15,f',vs15,fs15,rfl,I,hx,D,N,hw⟩;obtain⟨as15,qs15,rfl⟩:=I.isS;have M:∀{q:Pos},w14<=q.1->¬ZP u (u+1) vx Q q:=fun h=>j.out.zout h
   have hz:∀q∈f15,¬ZP u (u+1) vx Q q:=fun q B h=>HJ15.out q B h.swap
   have HGq:Hid (∀q∈fs15,¬ZP u (u+1) vx Q q):=hH (fun q B=>by rcases N q (by simp[B])with h|h;exact hz q h;exact M h.1)
   have HVq:=hH I;replace j:Hid (TX w (u+2) u (u+1) v11 v15 vx Q ([]) (cutR q (nsz q)::s') X Y w15):=hH ((j.out.swap.stepR HJ15.out hw hx D (fun q B=>(N q (by simp[B])).imp id (fun h=>h.1))).swap)
   clear I hx D N hw M hz HC15 HJ15;have hB16:Below w15 w15 (w15.alloc (.cells #[q.kind,q.n,.slice as15 q.signs.length qs15] 122)):=(lf _ _).alloc (lr _) _;have HBB16:=hH hB16;have hrd16:GoT.rd BIG (w15.alloc (.cells #[q.kind,q.n,.slice as15 q.signs.length qs15] 122)) [.int .i64 1,q.signs.length,zN] ((⟨1,q.signs.length,[]⟩:zaa)) []:=⟨_,[],rfl,Sl.nil,rfl⟩;obtain⟨gx16,j161,j162,j163,j164,j165⟩:=j.out.appX 122 hB16 hrd16 (fun _ h=>by cases h)
   have e16:(w15.alloc (.cells #[q.kind,q.n,.slice as15 q.signs.length qs15] 122)).heap.size=w15.heap.size+1:=by simp
   rw[e16]at j162;clear e16;have H161:=hH j161;have H162:=hH j162;have H163:=hH j163;have H164:=hH j164;have H165:=hH j165;have HK16:Hid ((X).length<=2001):=hH (by have:=XLE.out;omega)
   clear hB16 hrd16 j161 j162 j163 j164 j165;go_wp2_with (at_builtin;go_must (refine qaa rfl _ _ 30 rfl Tryz.underlying30 hi hz0 hz1 hz2 rfl rfl rfl H161.out H162.out H163.out ?c1 ?c2 ?c3 ?_))
   case c1=>have:=HK16.out;exact Xab (by simp at this⊢;omega)
   case c2=>have:=HK16.out;simp at this⊢;omega
   case c3=>exact H164.out
   intro vv16 w16 hr16 hw16 hn16;have hx11:Bx w16 w15 [q.kind,q.n,.slice as15 q.signs.length qs15]:=((Bx.new (w:=w15) (c:= #[q.kind,q.n,.slice as15 q.signs.length qs15]) (t:=122) rfl).alloc _).wr hw16 (fun q B=>by have:=(j.out.t.x.ge q B).2;omega)
   obtain⟨z11,b110,b111,b112⟩:=hx11.o3;clear hx11;have hvl:∀q'∈fs15,q'.1<w15:=Live.lt HVq.out.live;replace HVq:=hH (((HVq.out.belowW ((lf _ _).alloc (lr _) _)).belowW ((lf _ _).alloc (lr _) _)).wr hw16 fun q' hq' hm'=>HGq.out q' hq' (.inl hm'))
   replace HGq:Hid (∀q'∈fs15,¬ZP u (u+1) vv16 Q q'):=hH fun q' hq'=>zaJ (S:=w15) (fun q B=>(hn16 q.1 q.2 B).imp_right fun h=>by(try simp at h);omega) (HGq.out q' hq') (hvl q' hq')
   clear hvl;replace j:Hid (TX w (u+2) u (u+1) v11 v15 vv16 Q ([]) (cutR q (nsz q)::s') (X++[⟨1,q.signs.length,[]⟩]) Y w16):=hH (H165.out _ _ (by first|exact hr16|(rw[List.append_nil];exact hr16)) hw16 (fun q B=>(hn16 q.1 q.2 B).imp_right fun h=>by first|(simp;omega)|simpa using h))
   clear hr16 hw16 hn16 H161 H162 H163 H164 H165 HK16 HBB16;have hB17:Below w16 w16 w16:=lf _ _;have HBB17:=hH hB17;have hrd17:GoT.rd BIG w16 [q.kind,q.n,.slice as15 q.signs.length qs15] q fs15:=⟨_,fs15,rfl,HVq.out,rfl⟩;obtain⟨gx17,j171,j172,j173,j174,j175⟩:=j.out.appY 122 hB17 hrd17 HGq.out;have H171:=hH j171;have H172:=hH j172;have H173:=hH j173;have H174:=hH j174;have H175:=hH j175;have HK17:Hid ((Y).length<=2001):=hH (by have:=YLE.out;omega)
   clear hB17 hrd17 j171 j172 j173 j174 j175;go_wp2_with (at_builtin;go_must (refine qaa rfl _ _ 30 rfl Tryz.underlying30 hi hz0 hz1 hz2 rfl rfl rfl H171.out H172.out H173.out ?c1 ?c2 ?c3 ?_))
   case c1=>have:=HK17.out;exact Xab (by simp at this⊢;omega)
   case c2=>have:=HK17.out;simp at this⊢;omega
   case c3=>exact H174.out
   intro vv17 w17 hr17 hw17 hn17;replace j:Hid (TX w (u+2) u (u+1) v11 v15 vv16 vv17 ([]) (cutR q (nsz q)::s') (X++[⟨1,q.signs.length,[]⟩]) (Y++[q]) w17):=hH (H175.out _ _ (by first|exact hr17|(rw[List.append_nil];exact hr17)) hw17 (fun q B=>(hn17 q.1 q.2 B).imp_right fun h=>by first|(simp;omega)|simpa using h))
   clear hr17 hw17 hn17 H171 H172 H173 H174 H175 HK17 HBB17;go_wp2_with fail
   go_roundg (mu ([])+mu (cutR q (nsz q)::s'))
   case measure=>have:=HMU.out;have:=HDEC.out;omega
   case rel=>exact⟨v11,v15,vv16,vv17,[],cutR q (nsz q)::s',X++[⟨1,q.signs.length,[]⟩],Y++[q],rfl,rfl,rfl,j.out,HTR2.out⟩
  have HNp:=hH (Qam HSr.out:nsz p≠0);have hk0:(p.kind==0)=false:=by
   have hall:=Z.out.i.r;simp only[List.all_cons,Bool.and_eq_true]at hall;rcases Zab hall.1 with⟨k,_⟩|⟨k,_⟩|⟨k,_⟩<;>simp[k]
  have hk1:¬p.kind=0:=by simpa using hk0
  have hk3:(p.kind !=0)=true:=by simpa using hk0
  subst he;try dsimp only[hd,List.headD]
  by_cases kp2:p.kind=2
  ·have HK:=hH kp2;rw[kp2];clear kp2 hk0 hk1 hk3;obtain⟨f12,j121,j122,j123,j124⟩:=j.out.rd;have hC12:=uaj u v11 (p::r') f12 _ j.out.p j121 j122 Z.out.i.r;rw[HSr.out]at hC12;have HC12:=hH hC12;have HJ12:=hH j123;clear hC12 j121 j122 j123 j124;go_wp2_with fail
   refine HC12.out.mono ?_;rintro e' w12 ⟨v12,f',vh12,he,I,hx,D,N,hw,hst⟩;obtain⟨ah12,qh12,rfl⟩:=I.isSlice;obtain⟨_,_,hbb⟩:=hst (by first|trivial|rfl)
   replace j:=hH (j.out.below hbb);have HVH12:=hH I;clear I hx D N hw hbb HC12 HJ12;subst he;try dsimp only[hd,List.headD]
   rw[HK.out];obtain⟨hop,hnp,hcp,hp0,hp2,htr2,hmu2⟩:=Z.out.putR HNp.out HK.out;have HOp:=hH hop;have HTR2:=hH htr2;have HCP:=hH hcp;have HLEr:Hid (r'.length<=5000):=hH (by have h:=(Z.out.rlen HOK.out.1 HOK.out.2.1).1;simp only[List.length_cons]at h;omega)
   have HDEC:Hid (mu (cutR p (nsz p)::r')<mu (p::r')):=hH hmu2;have hpsl:p.signs.length<=200:=hp2;clear hop hnp hcp hp0 hp2 htr2 hmu2;obtain⟨f13,j131,j132,j133,j134⟩:=j.out.rd;have HJ13:=hH j133;have hC13:=(Qax u v11 p r' f13 _ j.out.p j131 j132 HOp.out HLEr.out);rw[HCP.out]at hC13;have HC13:=hH hC13;clear hC13;clear j131 j132 j133 j134;go_wp2_with fail
   refine HC13.out.mono ?_;rintro e' w13 ⟨v13,f',vs13,fs13,rfl,I,hx,D,N,hw⟩;obtain⟨as13,qs13,rfl⟩:=I.isS;have M:∀{q:Pos},w12<=q.1->¬ZP u (u+1) vx Q q:=fun h=>j.out.zout h
   have hz:∀q∈f13,¬ZP u (u+1) vx Q q:=fun q B h=>HJ13.out q B h
   have HGp:Hid (∀q∈fs13,¬ZP u (u+1) vx Q q):=hH (fun q B=>by rcases N q (by simp[B])with h|h;exact hz q h;exact M h.1)
   have HVp:=hH I;replace j:Hid (TX w (u+2) u (u+1) v13 vs vx Q (cutR p (nsz p)::r') s X Y w13):=hH ((j.out.stepR HJ13.out hw hx D (fun q B=>(N q (by simp[B])).imp id (fun h=>h.1))))
   clear I hx D N hw M hz HC13 HJ13;have hB14:Below w13 w13 (w13.alloc (.cells #[p.kind,p.n,.slice as13 p.signs.length qs13] 122)):=(lf _ _).alloc (lr _) _;have HBB14:=hH hB14;have hrd14:GoT.rd BIG (w13.alloc (.cells #[p.kind,p.n,.slice as13 p.signs.length qs13] 122)) [p.kind,p.n,.slice as13 p.signs.length qs13] p fs13:=⟨_,fs13,rfl,HVp.out.belowW ((lf _ _).alloc (lr _) _),rfl⟩;obtain⟨gx14,j141,j142,j143,j144,j145⟩:=j.out.appX 122 hB14 hrd14 HGp.out;have e14:(w13.alloc (.cells #[p.kind,p.n,.slice as13 p.signs.length qs13] 122)).heap.size=w13.heap.size+1:=by simp
   rw[e14]at j142;clear e14;have H141:=hH j141;have H142:=hH j142;have H143:=hH j143;have H144:=hH j144;have H145:=hH j145;have HK14:Hid ((X).length<=2001):=hH (by have:=XLE.out;omega)
   clear hB14 hrd14 j141 j142 j143 j144 j145;go_wp2_with (at_builtin;go_must (refine qaa rfl _ _ 30 rfl Tryz.underlying30 hi hz0 hz1 hz2 rfl rfl rfl H141.out H142.out H143.out ?c1 ?c2 ?c3 ?_))
   case c1=>have:=HK14.out;exact Xab (by simp at this⊢;omega)
   case c2=>have:=HK14.out;simp at this⊢;omega
   case c3=>exact H144.out
   intro vv14 w14 hr14 hw14 hn14;have hx11:Bx w14 w13 [p.kind,p.n,.slice as13 p.signs.length qs13]:=((Bx.new (w:=w13) (c:= #[p.kind,p.n,.slice as13 p.signs.length qs13]) (t:=122) rfl).alloc _).wr hw14 (fun q B=>by have:=(j.out.t.x.ge q B).2;omega)
   obtain⟨z11,b110,b111,b112⟩:=hx11.o3;clear hx11;replace j:Hid (TX w (u+2) u (u+1) v13 vs vv14 Q (cutR p (nsz p)::r') s (X++[p]) Y w14):=hH (H145.out _ _ (by first|exact hr14|(rw[List.append_nil];exact hr14)) hw14 (fun q B=>(hn14 q.1 q.2 B).imp_right fun h=>by first|(simp;omega)|simpa using h))
   clear hr14 hw14 hn14 H141 H142 H143 H144 H145 HK14 HBB14;have hB15:Below w14 w14 w14:=lf _ _;have HBB15:=hH hB15;have hrd15:GoT.rd BIG w14 [.int .i64 1,p.signs.length,zN] ((⟨1,p.signs.length,[]⟩:zaa)) []:=⟨_,[],rfl,Sl.nil,rfl⟩;obtain⟨gx15,j151,j152,j153,j154,j155⟩:=j.out.appY 122 hB15 hrd15 (fun _ h=>by cases h)
   have H151:=hH j151;have H152:=hH j152;have H153:=hH j153;have H154:=hH j154;have H155:=hH j155;have HK15:Hid ((Y).length<=2001):=hH (by have:=YLE.out;omega)
   clear hB15 hrd15 j151 j152 j153 j154 j155;go_wp2_with (at_builtin;go_must (refine qaa rfl _ _ 30 rfl Tryz.underlying30 hi hz0 hz1 hz2 rfl rfl rfl H151.out H152.out H153.out ?c1 ?c2 ?c3 ?_))
   case c1=>have:=HK15.out;exact Xab (by simp at this⊢;omega)
   case c2=>have:=HK15.out;simp at this⊢;omega
   case c3=>exact H154.out
   intro vv15 w15 hr15 hw15 hn15;replace j:Hid (TX w (u+2) u (u+1) v13 vs vv14 vv15 (cutR p (nsz p)::r') s (X++[p]) (Y++[⟨1,p.signs.length,[]⟩]) w15):=hH (H155.out _ _ (by first|exact hr15|(rw[List.append_nil];exact hr15)) hw15 (fun q B=>(hn15 q.1 q.2 B).imp_right fun h=>by first|(simp;omega)|simpa using h))
   clear hr15 hw15 hn15 H151 H152 H153 H154 H155 HK15 HBB15;go_wp2_with fail
   go_roundg (mu (cutR p (nsz p)::r')+mu s)
   case measure=>have:=HMU.out;have:=HDEC.out;omega
   case rel=>exact⟨v13,vs,vv14,vv15,cutR p (nsz p)::r',s,X++[p],Y++[⟨1,p.signs.length,[]⟩],rfl,rfl,rfl,j.out,HTR2.out⟩
  have HKP:=hH kp2;have k2b:(p.kind==2)=false:=by simpa using kp2
  have k2c:¬p.kind=2:=kp2;clear kp2;obtain⟨f12,j121,j122,j123,j124⟩:=j.out.rd;have hC12:=uaj u v11 (p::r') f12 _ j.out.p j121 j122 Z.out.i.r;rw[HSr.out]at hC12;have HC12:=hH hC12;have HJ12:=hH j123;clear hC12 j121 j122 j123 j124;go_wp2_with fail
  refine HC12.out.mono ?_;rintro e' w12 ⟨v12,f',vh12,he,I,hx,D,N,hw,hst⟩;obtain⟨ah12,qh12,rfl⟩:=I.isSlice;obtain⟨_,_,hbb⟩:=hst (by first|trivial|rfl)
  replace j:=hH (j.out.below hbb);have HVH12:=hH I;clear I hx D N hw hbb HC12 HJ12;subst he;try dsimp only[hd,List.headD]
  obtain⟨f13,j131,j132,j133,j134⟩:=j.out.swap.rd;have hC13:=uaj (u+1) vs s f13 _ j.out.swap.p j131 j132 Z.out.i.s;have HC13:=hH hC13;have HJ13:=hH j133;clear hC13 j131 j132 j133 j134;go_wp2_with fail
  refine HC13.out.mono ?_;rintro e' w13 ⟨v13,f',vh13,he,I,hx,D,N,hw,hst⟩;obtain⟨ah13,qh13,rfl⟩:=I.isSlice;obtain⟨s13,hs13⟩:∃z,z=skip (s):=⟨_,rfl⟩;rw[<-hs13]at he I D;have HSs:Hid (skip s13=s13):=hH (by rw[hs13,kam])
  have hmu:=Kao s;rw[<-hs13]at hmu;replace j:Hid (TX w (u+2) u (u+1) v11 v13 vx Q (p::r') s13 X Y w13):=hH ((j.out.swap.stepR HJ13.out hw hx D (fun q B=> .inl (N q B))).swap)
  replace Z:Hid (TR a b (p::r') s13 X Y):=hH (by rw[hs13];exact Z.out.skipS)
  replace HMU:Hid (mu (p::r')+mu (s13)<=mu r+mu s):=hH (by have h1:=HMU.out;omega)
  clear hx D N hw hst hmu hs13 HC13 HJ13 I;rcases s13 with _|⟨q,s'⟩
  ·obtain⟨_,q,s',hh,_⟩:=Z.out.others (.inr ⟨p,r',rfl,HNp.out,HKP.out⟩) (.inl rfl) (.inl sm);cases hh
  have HNq:=hH (Qam HSs.out:nsz q≠0);subst he;try dsimp only[hd,List.headD]
  by_cases kq2:q.kind=2
  ·have HK:=hH kq2;rw[kq2];clear kq2;obtain⟨hop,hnp,hcp,hp0,hp2,htr2,hmu2⟩:=Z.out.putS (.inr ⟨p,r',rfl,HNp.out,HKP.out⟩) HNq.out HK.out;have HOq:=hH hop;have HTR2:=hH htr2;have HCP:=hH hcp;have HLEs:Hid (s'.length<=5000):=hH (by have h:=(Z.out.rlen HOK.out.1 HOK.out.2.1).2;simp only[List.length_cons]at h;omega)
   have HDEC:Hid (mu (cutR q (nsz q)::s')<mu (q::s')):=hH hmu2;have hpsl:q.signs.length<=200:=hp2;clear hop hnp hcp hp0 hp2 htr2 hmu2;obtain⟨f14,j141,j142,j143,j144⟩:=j.out.swap.rd;have HJ14:=hH j143;have hC14:=(Qax (u+1) v13 q s' f14 _ j.out.swap.p j141 j142 HOq.out HLEs.out);rw[HCP.out]at hC14;have HC14:=hH hC14;clear hC14;clear j141 j142 j143 j144;go_wp2_with fail
   refine HC14.out.mono ?_;rintro e' w14 ⟨v14,f',vs14,fs14,rfl,I,hx,D,N,hw⟩;obtain⟨as14,qs14,rfl⟩:=I.isS;have M:∀{q:Pos},w13<=q.1->¬ZP u (u+1) vx Q q:=fun h=>j.out.zout h
   have hz:∀q∈f14,¬ZP u (u+1) vx Q q:=fun q B h=>HJ14.out q B h.swap
   have HGq:Hid (∀q∈fs14,¬ZP u (u+1) vx Q q):=hH (fun q B=>by rcases N q (by simp[B])with h|h;exact hz q h;exact M h.1)
   have HVq:=hH I;replace j:Hid (TX w (u+2) u (u+1) v11 v14 vx Q (p::r') (cutR q (nsz q)::s') X Y w14):=hH ((j.out.swap.stepR HJ14.out hw hx D (fun q B=>(N q (by simp[B])).imp id (fun h=>h.1))).swap)
   clear I hx D N hw M hz HC14 HJ14;have hB15:Below w14 w14 (w14.alloc (.cells #[q.kind,q.n,.slice as14 q.signs.length qs14] 122)):=(lf _ _).alloc (lr _) _;have HBB15:=hH hB15;have hrd15:GoT.rd BIG (w14.alloc (.cells #[q.kind,q.n,.slice as14 q.signs.length qs14] 122)) [.int .i64 1,q.signs.length,zN] ((⟨1,q.signs.length,[]⟩:zaa)) []:=⟨_,[],rfl,Sl.nil,rfl⟩;obtain⟨gx15,j151,j152,j153,j154,j155⟩:=j.out.appX 122 hB15 hrd15 (fun _ h=>by cases h)
   have e15:(w14.alloc (.cells #[q.kind,q.n,.slice as14 q.signs.length qs14] 122)).heap.size=w14.heap.size+1:=by simp
   rw[e15]at j152;clear e15;have H151:=hH j151;have H152:=hH j152;have H153:=hH j153;have H154:=hH j154;have H155:=hH j155;have HK15:Hid ((X).length<=2001):=hH (by have:=XLE.out;omega)
   clear hB15 hrd15 j151 j152 j153 j154 j155;go_wp2_with (at_builtin;go_must (refine qaa rfl _ _ 30 rfl Tryz.underlying30 hi hz0 hz1 hz2 rfl rfl rfl H151.out H152.out H153.out ?c1 ?c2 ?c3 ?_))
   case c1=>have:=HK15.out;exact Xab (by simp at this⊢;omega)
   case c2=>have:=HK15.out;simp at this⊢;omega
   case c3=>exact H154.out
   intro vv15 w15 hr15 hw15 hn15;have hx11:Bx w15 w14 [q.kind,q.n,.slice as14 q.signs.length qs14]:=((Bx.new (w:=w14) (c:= #[q.kind,q.n,.slice as14 q.signs.length qs14]) (t:=122) rfl).alloc _).wr hw15 (fun q B=>by have:=(j.out.t.x.ge q B).2;omega)
   obtain⟨z11,b110,b111,b112⟩:=hx11.o3;clear hx11;have hvl:∀q'∈fs14,q'.1<w14:=Live.lt HVq.out.live;replace HVq:=hH (((HVq.out.belowW ((lf _ _).alloc (lr _) _)).belowW ((lf _ _).alloc (lr _) _)).wr hw15 fun q' hq' hm'=>HGq.out q' hq' (.inl hm'))
   replace HGq:Hid (∀q'∈fs14,¬ZP u (u+1) vv15 Q q'):=hH fun q' hq'=>zaJ (S:=w14) (fun q B=>(hn15 q.1 q.2 B).imp_right fun h=>by(try simp at h);omega) (HGq.out q' hq') (hvl q' hq')
   clear hvl;replace j:Hid (TX w (u+2) u (u+1) v11 v14 vv15 Q (p::r') (cutR q (nsz q)::s') (X++[⟨1,q.signs.length,[]⟩]) Y w15):=hH (H155.out _ _ (by first|exact hr15|(rw[List.append_nil];exact hr15)) hw15 (fun q B=>(hn15 q.1 q.2 B).imp_right fun h=>by first|(simp;omega)|simpa using h))
   clear hr15 hw15 hn15 H151 H152 H153 H154 H155 HK15 HBB15;have hB16:Below w15 w15 w15:=lf _ _;have HBB16:=hH hB16;have hrd16:GoT.rd BIG w15 [q.kind,q.n,.slice as14 q.signs.length qs14] q fs14:=⟨_,fs14,rfl,HVq.out,rfl⟩;obtain⟨gx16,j161,j162,j163,j164,j165⟩:=j.out.appY 122 hB16 hrd16 HGq.out;have H161:=hH j161;have H162:=hH j162;have H163:=hH j163;have H164:=hH j164;have H165:=hH j165;have HK16:Hid ((Y).length<=2001):=hH (by have:=YLE.out;omega)
   clear hB16 hrd16 j161 j162 j163 j164 j165;go_wp2_with (at_builtin;go_must (refine qaa rfl _ _ 30 rfl Tryz.underlying30 hi hz0 hz1 hz2 rfl rfl rfl H161.out H162.out H163.out ?c1 ?c2 ?c3 ?_))
   case c1=>have:=HK16.out;exact Xab (by simp at this⊢;omega)
   case c2=>have:=HK16.out;simp at this⊢;omega
   case c3=>exact H164.out
   intro vv16 w16 hr16 hw16 hn16;replace j:Hid (TX w (u+2) u (u+1) v11 v14 vv15 vv16 (p::r') (cutR q (nsz q)::s') (X++[⟨1,q.signs.length,[]⟩]) (Y++[q]) w16):=hH (H165.out _ _ (by first|exact hr16|(rw[List.append_nil];exact hr16)) hw16 (fun q B=>(hn16 q.1 q.2 B).imp_right fun h=>by first|(simp;omega)|simpa using h))
   clear hr16 hw16 hn16 H161 H162 H163 H164 H165 HK16 HBB16;go_wp2_with fail
   go_roundg (mu (p::r')+mu (cutR q (nsz q)::s'))
   case measure=>have:=HMU.out;have:=HDEC.out;omega
   case rel=>exact⟨v11,v14,vv15,vv16,p::r',cutR q (nsz q)::s',X++[⟨1,q.signs.length,[]⟩],Y++[q],rfl,rfl,rfl,j.out,HTR2.out⟩
  have HKQ:=hH kq2;have q2b:(q.kind==2)=false:=by simpa using kq2
  have q2c:¬q.kind=2:=kq2;obtain⟨hop,hoq,hkp,hkq,hnp,hnq,hps,hqs,hp200,hq200,htr2,hm1,hm2⟩:=Z.out.both HNp.out HNq.out HKP.out HKQ.out;obtain⟨n,hn⟩:∃n:Nat,n=min (nsz p) (nsz q):=⟨_,rfl⟩;rw[<-hn]at htr2 hm1 hm2;have HOp:=hH hop;have HOq:=hH hoq;have HMIN:Hid (min (nsz p:Int) (nsz q:Int)=n):=hH om;have hnb:n<=200:=om;have HNp1:Hid (n<=nsz p):=hH om;have HNq1:Hid (n<=nsz q):=hH om;have HTR2:=hH htr2;have HDEC:Hid (mu (cutR p n::r')+mu (cutR q n::s')<mu (p::r')+mu (q::s')):=hH om;have HLEr:Hid (r'.length<=5000):=hH (by have h:=(Z.out.rlen HOK.out.1 HOK.out.2.1).1;simp only[List.length_cons]at h;omega)
  have HLEs:Hid (s'.length<=5000):=hH (by have h:=(Z.out.rlen HOK.out.1 HOK.out.2.1).2;simp only[List.length_cons]at h;omega)
  have HBDp:=hH (ka5 hop);have HBDq:=hH (ka5 hoq);have HZp:=hH (qau hop);have HZq:=hH (qau hoq);clear htr2 hm1 hm2 kq2 hnp hnq hps hqs hop hoq hn;go_upto_region 6 with(fail)
  go_cut [13]from 37 to 109 (fun z wx=>z= .int .i64 n/\TX w (u+2) u (u+1) v11 v13 vx Q (p::r') (q::s') X Y wx)
  case first=>
   obtain⟨f14,j141,j142,j143,j144⟩:=j.out.rd;have hC14:=uaj u v11 (p::r') f14 _ j.out.p j141 j142 Z.out.i.r;rw[HSr.out]at hC14;have HC14:=hH hC14;have HJ14:=hH j143;clear hC14 j141 j142 j143 j144;go_wp2_with fail
   refine HC14.out.mono ?_;rintro e' w14 ⟨v14,f',vh14,he,I,hx,D,N,hw,hst⟩;obtain⟨ah14,qh14,rfl⟩:=I.isSlice;obtain⟨_,_,hbb⟩:=hst (by first|trivial|rfl)
   replace j:=hH (j.out.below hbb);have HVH14:=hH I;clear I hx D N hw hbb HC14 HJ14;subst he;try dsimp only[hd,List.headD]
   go_wp2_with fail
   refine(Zao p _ _ HBDp.out.1 HBDp.out.2.1 HBDp.out.2.2 HVH14.out).mono ?_;rintro e' w15 ⟨rfl,hbb⟩;rw[<-HZp.out];replace j:=hH (j.out.below hbb);clear hbb;obtain⟨f16,j161,j162,j163,j164⟩:=j.out.swap.rd;have hC16:=uaj (u+1) v13 (q::s') f16 _ j.out.swap.p j161 j162 Z.out.i.s;rw[HSs.out]at hC16;have HC16:=hH hC16;have HJ16:=hH j163;clear hC16 j161 j162 j163 j164;go_wp2_with fail
   refine HC16.out.mono ?_;rintro e' w16 ⟨v16,f',vh16,he,I,hx,D,N,hw,hst⟩;obtain⟨ah16,qh16,rfl⟩:=I.isSlice;obtain⟨_,_,hbb⟩:=hst (by first|trivial|rfl)
   replace j:=hH (j.out.below hbb);have HVH16:=hH I;clear I hx D N hw hbb HC16 HJ16;subst he;try dsimp only[hd,List.headD]
   go_wp2_with fail
   refine(Zao q _ _ HBDq.out.1 HBDq.out.2.1 HBDq.out.2.2 HVH16.out).mono ?_;rintro e' w17 ⟨rfl,hbb⟩;rw[<-HZq.out];replace j:=hH (j.out.below hbb);clear hbb;go_wp2_with fail
   all_goals
    go_meet
    exact⟨by have:=HMIN.out;first|rfl|(congr 1;omega),j.out⟩
  case rest=>
   obtain⟨w18,rfl⟩:∃wq:World,wq=wc:=⟨_,rfl⟩;obtain⟨rfl,htx2⟩:=hcut;replace j:=hH htx2;clear htx2;rcases hkp with kp1|kp1
   ·rcases hkq with kq1|kq1
    ·have HKp:=hH kp1;have HKq:=hH kq1;have hpb:(p.kind==1)=true:=by simp[kp1]
     have hqb:(q.kind==1)=true:=by simp[kq1]
     clear kp1 kq1;obtain⟨f19,j191,j192,j193,j194⟩:=j.out.rd;have HJ19:=hH j193;have hC19:=(Zaj u n v11 p r' f19 _ j.out.p j191 j192 HOp.out HNp1.out HLEr.out);rw[yaq n HKP.out]at hC19;have HC19:=hH hC19;clear hC19;clear j191 j192 j193 j194;go_wp2_with fail
     refine HC19.out.mono ?_;rintro e' w19 ⟨v19,f',vs19,fs19,rfl,I,hx,D,N,hw⟩;obtain⟨R,U,rfl⟩:=I.isS;have M:∀{q:Pos},w18<=q.1->¬ZP u (u+1) vx Q q:=fun h=>j.out.zout h
     have hz:∀q∈f19,¬ZP u (u+1) vx Q q:=fun q B h=>HJ19.out q B h
     have HGp:Hid (∀q∈fs19,¬ZP u (u+1) vx Q q):=hH (fun q B=>by rcases N q (by simp[B])with h|h;exact hz q h;exact M h)
     have HVp:=hH I;replace j:Hid (TX w (u+2) u (u+1) v19 v13 vx Q (cutR p n::r') (q::s') X Y w19):=hH ((j.out.stepR HJ19.out hw hx D (fun q B=>N q (by simp[B]))))
     clear I hx D N hw M hz HC19 HJ19;obtain⟨f20,j201,j202,j203,j204⟩:=j.out.swap.rd;have HJ20:=hH j203;have hC20:=(Zaj (u+1) n v13 q s' f20 _ j.out.swap.p j201 j202 HOq.out HNq1.out HLEs.out);rw[yaq n HKQ.out]at hC20;have HC20:=hH hC20;clear hC20;clear j201 j202 j203 j204;go_wp2_with fail
     refine HC20.out.mono ?_;rintro e' J ⟨v20,f',vs20,fs20,rfl,I,hx,D,N,hw⟩;obtain⟨as20,qs20,rfl⟩:=I.isS;have M:∀{q:Pos},w19<=q.1->¬ZP u (u+1) vx Q q:=fun h=>j.out.zout h
     have hz:∀q∈f20,¬ZP u (u+1) vx Q q:=fun q B h=>HJ20.out q B h.swap
     have HGq:Hid (∀q∈fs20,¬ZP u (u+1) vx Q q):=hH (fun q B=>by rcases N q (by simp[B])with h|h;exact hz q h;exact M h)
     have HVq:=hH I;replace HVp:=hH (HVp.out.wr hw fun q' hq' hm'=>HGp.out q' hq' (by simp only[List.mem_singleton]at hm';rw[hm'];exact .inr (.inr (.inr rfl))))
     replace j:Hid (TX w (u+2) u (u+1) v19 v20 vx Q (cutR p n::r') (cutR q n::s') X Y J):=hH ((j.out.swap.stepR HJ20.out hw hx D (fun q B=>N q (by simp[B]))).swap)
     clear I hx D N hw M hz HC20 HJ20;have hB21:Below J J ((J.alloc (.cells #[p.kind,n,.slice R p.signs.length U] 122)).alloc (.cells #[q.kind,n,.slice as20 q.signs.length qs20] 122)):=((lf _ _).alloc (lr _) _).alloc sm _;have HBB21:=hH hB21;have hrd21:GoT.rd BIG ((J.alloc (.cells #[p.kind,n,.slice R p.signs.length U] 122)).alloc (.cells #[q.kind,n,.slice as20 q.signs.length qs20] 122)) [p.kind,n,.slice R p.signs.length U] ((⟨p.kind,n,p.signs⟩:zaa)) fs19:=⟨_,fs19,rfl,HVp.out.belowW (((lf _ _).alloc (lr _) _).alloc sm _),rfl⟩;obtain⟨gx21,j211,j212,j213,j214,j215⟩:=j.out.appX 122 hB21 hrd21 HGp.out;have e21:((J.alloc (.cells #[p.kind,n,.slice R p.signs.length U] 122)).alloc (.cells #[q.kind,n,.slice as20 q.signs.length qs20] 122)).heap.size=J.heap.size+2:=by simp
     rw[e21]at j212;clear e21;have H211:=hH j211;have H212:=hH j212;have H213:=hH j213;have H214:=hH j214;have H215:=hH j215;have HK21:Hid ((X).length<=2001):=hH (by have:=XLE.out;omega)
     clear hB21 hrd21 j211 j212 j213 j214 j215;go_wp2_with (at_builtin;go_must (refine qaa rfl _ _ 30 rfl Tryz.underlying30 hi hz0 hz1 hz2 rfl rfl rfl H211.out H212.out H213.out ?c1 ?c2 ?c3 ?_))
     case c1=>have:=HK21.out;exact Xab (by simp at this⊢;omega)
     case c2=>have:=HK21.out;simp at this⊢;omega
     case c3=>exact H214.out
     intro vv21 w21 hr21 hw21 hn21;have hx14:Bx w21 J [p.kind,n,.slice R p.signs.length U]:=(((Bx.new (w:=J) (c:= #[p.kind,n,.slice R p.signs.length U]) (t:=122) rfl).alloc _).alloc _).wr hw21 (fun q B=>by have:=(j.out.t.x.ge q B).2;omega)
     have hx15:Bx w21 (J+1) [q.kind,n,.slice as20 q.signs.length qs20]:=((Bx.new (w:=J.alloc (.cells #[p.kind,n,.slice R p.signs.length U] 122)) (c:= #[q.kind,n,.slice as20 q.signs.length qs20]) (t:=122) sm).alloc _).wr hw21 (fun q B=>by have:=(j.out.t.x.ge q B).2;omega)
     obtain⟨z14,b140,b141,b142⟩:=hx14.o3;obtain⟨z15,b150,b151,b152⟩:=hx15.o3;clear hx14 hx15;have hvl:∀q'∈fs20,q'.1<J:=Live.lt HVq.out.live;replace HVq:=hH (((HVq.out.belowW (((lf _ _).alloc (lr _) _).alloc sm _)).belowW ((lf _ _).alloc (lr _) _)).wr hw21 fun q' hq' hm'=>HGq.out q' hq' (.inl hm'))
     replace HGq:Hid (∀q'∈fs20,¬ZP u (u+1) vv21 Q q'):=hH fun q' hq'=>zaJ (S:=J) (fun q B=>(hn21 q.1 q.2 B).imp_right fun h=>by(try simp at h);omega) (HGq.out q' hq') (hvl q' hq')
     clear hvl;replace j:Hid (TX w (u+2) u (u+1) v19 v20 vv21 Q (cutR p n::r') (cutR q n::s') (X++[⟨p.kind,n,p.signs⟩]) Y w21):=hH (H215.out _ _ (by first|exact hr21|(rw[List.append_nil];exact hr21)) hw21 (fun q B=>(hn21 q.1 q.2 B).imp_right fun h=>by first|(simp;omega)|simpa using h))
     clear hr21 hw21 hn21 H211 H212 H213 H214 H215 HK21 HBB21;have hB22:Below w21 w21 w21:=lf _ _;have HBB22:=hH hB22;have hrd22:GoT.rd BIG w21 [q.kind,n,.slice as20 q.signs.length qs20] ((⟨q.kind,n,q.signs⟩:zaa)) fs20:=⟨_,fs20,rfl,HVq.out,rfl⟩;obtain⟨gx22,j221,j222,j223,j224,j225⟩:=j.out.appY 122 hB22 hrd22 HGq.out;have H221:=hH j221;have H222:=hH j222;have H223:=hH j223;have H224:=hH j224;have H225:=hH j225;have HK22:Hid ((Y).length<=2001):=hH (by have:=YLE.out;omega)
     clear hB22 hrd22 j221 j222 j223 j224 j225;go_wp2_with (at_builtin;go_must (refine qaa rfl _ _ 30 rfl Tryz.underlying30 hi hz0 hz1 hz2 rfl rfl rfl H221.out H222.out H223.out ?c1 ?c2 ?c3 ?_))
     case c1=>have:=HK22.out;exact Xab (by simp at this⊢;omega)
     case c2=>have:=HK22.out;simp at this⊢;omega
     case c3=>exact H224.out
     intro vv22 w22 hr22 hw22 hn22;replace j:Hid (TX w (u+2) u (u+1) v19 v20 vv21 vv22 (cutR p n::r') (cutR q n::s') (X++[⟨p.kind,n,p.signs⟩]) (Y++[⟨q.kind,n,q.signs⟩]) w22):=hH (H225.out _ _ (by first|exact hr22|(rw[List.append_nil];exact hr22)) hw22 (fun q B=>(hn22 q.1 q.2 B).imp_right fun h=>by first|(simp;omega)|simpa using h))
     clear hr22 hw22 hn22 H221 H222 H223 H224 H225 HK22 HBB22;go_wp2_with fail
     have ex:(if q.kind=1 then[cutL p n]else[])=[⟨p.kind,n,p.signs⟩]:=by rw[if_pos HKq.out,yaq n HKP.out]
     have ey:(if p.kind=1 then[cutL q n]else[])=[⟨q.kind,n,q.signs⟩]:=by rw[if_pos HKp.out,yaq n HKQ.out]
     have htr3:=HTR2.out;rw[ex,ey]at htr3;go_roundg (mu (cutR p n::r')+mu (cutR q n::s'))
     case measure=>have:=HMU.out;have:=HDEC.out;omega
     case rel=>exact⟨v19,v20,vv21,vv22,cutR p n::r',cutR q n::s',X++[⟨p.kind,n,p.signs⟩],Y++[⟨q.kind,n,q.signs⟩],rfl,rfl,rfl,j.out,htr3⟩
    ·have HKp:=hH kp1;have HKq:=hH kq1;have hpb:(p.kind==1)=true:=by simp[kp1]
     have hqb:(q.kind==1)=false:=by simp[kq1]
     clear kp1 kq1;obtain⟨f19,j191,j192,j193,j194⟩:=j.out.rd;have HJ19:=hH j193;have hC19:=(Zaj u n v11 p r' f19 _ j.out.p j191 j192 HOp.out HNp1.out HLEr.out);rw[yaq n HKP.out]at hC19;have HC19:=hH hC19;clear hC19;clear j191 j192 j193 j194;go_wp2_with fail
     refine HC19.out.mono ?_;rintro e' w19 ⟨v19,f',vs19,fs19,rfl,I,hx,D,N,hw⟩;obtain⟨R,U,rfl⟩:=I.isS;have M:∀{q:Pos},w18<=q.1->¬ZP u (u+1) vx Q q:=fun h=>j.out.zout h
     have hz:∀q∈f19,¬ZP u (u+1) vx Q q:=fun q B h=>HJ19.out q B h
     have HGp:Hid (∀q∈fs19,¬ZP u (u+1) vx Q q):=hH (fun q B=>by rcases N q (by simp[B])with h|h;exact hz q h;exact M h)
     have HVp:=hH I;replace j:Hid (TX w (u+2) u (u+1) v19 v13 vx Q (cutR p n::r') (q::s') X Y w19):=hH ((j.out.stepR HJ19.out hw hx D (fun q B=>N q (by simp[B]))))
     clear I hx D N hw M hz HC19 HJ19;obtain⟨f20,j201,j202,j203,j204⟩:=j.out.swap.rd;have HJ20:=hH j203;have hC20:=(Zaj (u+1) n v13 q s' f20 _ j.out.swap.p j201 j202 HOq.out HNq1.out HLEs.out);rw[yaq n HKQ.out]at hC20;have HC20:=hH hC20;clear hC20;clear j201 j202 j203 j204;go_wp2_with fail
     refine HC20.out.mono ?_;rintro e' J ⟨v20,f',vs20,fs20,rfl,I,hx,D,N,hw⟩;obtain⟨as20,qs20,rfl⟩:=I.isS;have M:∀{q:Pos},w19<=q.1->¬ZP u (u+1) vx Q q:=fun h=>j.out.zout h
     have hz:∀q∈f20,¬ZP u (u+1) vx Q q:=fun q B h=>HJ20.out q B h.swap
     have HGq:Hid (∀q∈fs20,¬ZP u (u+1) vx Q q):=hH (fun q B=>by rcases N q (by simp[B])with h|h;exact hz q h;exact M h)
     have HVq:=hH I;replace HVp:=hH (HVp.out.wr hw fun q' hq' hm'=>HGp.out q' hq' (by simp only[List.mem_singleton]at hm';rw[hm'];exact .inr (.inr (.inr rfl))))
     replace j:Hid (TX w (u+2) u (u+1) v19 v20 vx Q (cutR p n::r') (cutR q n::s') X Y J):=hH ((j.out.swap.stepR HJ20.out hw hx D (fun q B=>N q (by simp[B]))).swap)
     clear I hx D N hw M hz HC20 HJ20;have hB21:Below J J ((J.alloc (.cells #[p.kind,n,.slice R p.signs.length U] 122)).alloc (.cells #[q.kind,n,.slice as20 q.signs.length qs20] 122)):=((lf _ _).alloc (lr _) _).alloc sm _;have HBB21:=hH hB21;have hrd21:GoT.rd BIG ((J.alloc (.cells #[p.kind,n,.slice R p.signs.length U] 122)).alloc (.cells #[q.kind,n,.slice as20 q.signs.length qs20] 122)) [q.kind,n,.slice as20 q.signs.length qs20] ((⟨q.kind,n,q.signs⟩:zaa)) fs20:=⟨_,fs20,rfl,HVq.out.belowW (((lf _ _).alloc (lr _) _).alloc sm _),rfl⟩;obtain⟨gx21,j211,j212,j213,j214,j215⟩:=j.out.appY 122 hB21 hrd21 HGq.out;have e21:((J.alloc (.cells #[p.kind,n,.slice R p.signs.length U] 122)).alloc (.cells #[q.kind,n,.slice as20 q.signs.length qs20] 122)).heap.size=J.heap.size+2:=by simp
     rw[e21]at j212;clear e21;have H211:=hH j211;have H212:=hH j212;have H213:=hH j213;have H214:=hH j214;have H215:=hH j215;have HK21:Hid ((Y).length<=2001):=hH (by have:=YLE.out;omega)
     clear hB21 hrd21 j211 j212 j213 j214 j215;go_wp2_with (at_builtin;go_must (refine qaa rfl _ _ 30 rfl Tryz.underlying30 hi hz0 hz1 hz2 rfl rfl rfl H211.out H212.out H213.out ?c1 ?c2 ?c3 ?_))
     case c1=>have:=HK21.out;exact Xab (by simp at this⊢;omega)
     case c2=>have:=HK21.out;simp at this⊢;omega
     case c3=>exact H214.out
     intro vv21 w21 hr21 hw21 hn21;replace j:Hid (TX w (u+2) u (u+1) v19 v20 vx vv21 (cutR p n::r') (cutR q n::s') X (Y++[⟨q.kind,n,q.signs⟩]) w21):=hH (H215.out _ _ (by first|exact hr21|(rw[List.append_nil];exact hr21)) hw21 (fun q B=>(hn21 q.1 q.2 B).imp_right fun h=>by first|(simp;omega)|simpa using h))
     clear hr21 hw21 hn21 H211 H212 H213 H214 H215 HK21 HBB21;go_wp2_with fail
     have ex:(if q.kind=1 then[cutL p n]else[])=[]:=if_neg (by have:=HKq.out;omega)
     have ey:(if p.kind=1 then[cutL q n]else[])=[⟨q.kind,n,q.signs⟩]:=by rw[if_pos HKp.out,yaq n HKQ.out]
     have htr3:=HTR2.out;rw[ex,ey]at htr3;rw[List.append_nil]at htr3;go_roundg (mu (cutR p n::r')+mu (cutR q n::s'))
     case measure=>have:=HMU.out;have:=HDEC.out;omega
     case rel=>exact⟨v19,v20,vx,vv21,cutR p n::r',cutR q n::s',X,Y++[⟨q.kind,n,q.signs⟩],rfl,rfl,rfl,j.out,htr3⟩
   ·rcases hkq with kq1|kq1
    ·have HKp:=hH kp1;have HKq:=hH kq1;have hpb:(p.kind==1)=false:=by simp[kp1]
     have hqb:(q.kind==1)=true:=by simp[kq1]
     clear kp1 kq1;obtain⟨f19,j191,j192,j193,j194⟩:=j.out.rd;have HJ19:=hH j193;have hC19:=(Zaj u n v11 p r' f19 _ j.out.p j191 j192 HOp.out HNp1.out HLEr.out);rw[yaq n HKP.out]at hC19;have HC19:=hH hC19;clear hC19;clear j191 j192 j193 j194;go_wp2_with fail
     refine HC19.out.mono ?_;rintro e' w19 ⟨v19,f',vs19,fs19,rfl,I,hx,D,N,hw⟩;obtain⟨R,U,rfl⟩:=I.isS;have M:∀{q:Pos},w18<=q.1->¬ZP u (u+1) vx Q q:=fun h=>j.out.zout h
     have hz:∀q∈f19,¬ZP u (u+1) vx Q q:=fun q B h=>HJ19.out q B h
     have HGp:Hid (∀q∈fs19,¬ZP u (u+1) vx Q q):=hH (fun q B=>by rcases N q (by simp[B])with h|h;exact hz q h;exact M h)
     have HVp:=hH I;replace j:Hid (TX w (u+2) u (u+1) v19 v13 vx Q (cutR p n::r') (q::s') X Y w19):=hH ((j.out.stepR HJ19.out hw hx D (fun q B=>N q (by simp[B]))))
     clear I hx D N hw M hz HC19 HJ19;obtain⟨f20,j201,j202,j203,j204⟩:=j.out.swap.rd;have HJ20:=hH j203;have hC20:=(Zaj (u+1) n v13 q s' f20 _ j.out.swap.p j201 j202 HOq.out HNq1.out HLEs.out);rw[yaq n HKQ.out]at hC20;have HC20:=hH hC20;clear hC20;clear j201 j202 j203 j204;go_wp2_with fail
     refine HC20.out.mono ?_;rintro e' J ⟨v20,f',vs20,fs20,rfl,I,hx,D,N,hw⟩;obtain⟨as20,qs20,rfl⟩:=I.isS;have M:∀{q:Pos},w19<=q.1->¬ZP u (u+1) vx Q q:=fun h=>j.out.zout h
     have hz:∀q∈f20,¬ZP u (u+1) vx Q q:=fun q B h=>HJ20.out q B h.swap
     have HGq:Hid (∀q∈fs20,¬ZP u (u+1) vx Q q):=hH (fun q B=>by rcases N q (by simp[B])with h|h;exact hz q h;exact M h)
     have HVq:=hH I;replace HVp:=hH (HVp.out.wr hw fun q' hq' hm'=>HGp.out q' hq' (by simp only[List.mem_singleton]at hm';rw[hm'];exact .inr (.inr (.inr rfl))))
     replace j:Hid (TX w (u+2) u (u+1) v19 v20 vx Q (cutR p n::r') (cutR q n::s') X Y J):=hH ((j.out.swap.stepR HJ20.out hw hx D (fun q B=>N q (by simp[B]))).swap)
     clear I hx D N hw M hz HC20 HJ20;have hB21:Below J J ((J.alloc (.cells #[p.kind,n,.slice R p.signs.length U] 122)).alloc (.cells #[q.kind,n,.slice as20 q.signs.length qs20] 122)):=((lf _ _).alloc (lr _) _).alloc sm _;have HBB21:=hH hB21;have hrd21:GoT.rd BIG ((J.alloc (.cells #[p.kind,n,.slice R p.signs.length U] 122)).alloc (.cells #[q.kind,n,.slice as20 q.signs.length qs20] 122)) [p.kind,n,.slice R p.signs.length U] ((⟨p.kind,n,p.signs⟩:zaa)) fs19:=⟨_,fs19,rfl,HVp.out.belowW (((lf _ _).alloc (lr _) _).alloc sm _),rfl⟩;obtain⟨gx21,j211,j212,j213,j214,j215⟩:=j.out.appX 122 hB21 hrd21 HGp.out;have e21:((J.alloc (.cells #[p.kind,n,.slice R p.signs.length U] 122)).alloc (.cells #[q.kind,n,.slice as20 q.signs.length qs20] 122)).heap.size=J.heap.size+2:=by simp
     rw[e21]at j212;clear e21;have H211:=hH j211;have H212:=hH j212;have H213:=hH j213;have H214:=hH j214;have H215:=hH j215;have HK21:Hid ((X).length<=2001):=hH (by have:=XLE.out;omega)
     clear hB21 hrd21 j211 j212 j213 j214 j215;go_wp2_with (at_builtin;go_must (refine qaa rfl _ _ 30 rfl Tryz.underlying30 hi hz0 hz1 hz2 rfl rfl rfl H211.out H212.out H213.out ?c1 ?c2 ?c3 ?_))
     case c1=>have:=HK21.out;exact Xab (by simp at this⊢;omega)
     case c2=>have:=HK21.out;simp at this⊢;omega
     case c3=>exact H214.out
     intro vv21 w21 hr21 hw21 hn21;have hx14:Bx w21 J [p.kind,n,.slice R p.signs.length U]:=(((Bx.new (w:=J) (c:= #[p.kind,n,.slice R p.signs.length U]) (t:=122) rfl).alloc _).alloc _).wr hw21 (fun q B=>by have:=(j.out.t.x.ge q B).2;omega)
     have hx15:Bx w21 (J+1) [q.kind,n,.slice as20 q.signs.length qs20]:=((Bx.new (w:=J.alloc (.cells #[p.kind,n,.slice R p.signs.length U] 122)) (c:= #[q.kind,n,.slice as20 q.signs.length qs20]) (t:=122) sm).alloc _).wr hw21 (fun q B=>by have:=(j.out.t.x.ge q B).2;omega)
     obtain⟨z14,b140,b141,b142⟩:=hx14.o3;obtain⟨z15,b150,b151,b152⟩:=hx15.o3;clear hx14 hx15;have hvl:∀q'∈fs20,q'.1<J:=Live.lt HVq.out.live;replace HVq:=hH (((HVq.out.belowW (((lf _ _).alloc (lr _) _).alloc sm _)).belowW ((lf _ _).alloc (lr _) _)).wr hw21 fun q' hq' hm'=>HGq.out q' hq' (.inl hm'))
     replace HGq:Hid (∀q'∈fs20,¬ZP u (u+1) vv21 Q q'):=hH fun q' hq'=>zaJ (S:=J) (fun q B=>(hn21 q.1 q.2 B).imp_right fun h=>by(try simp at h);omega) (HGq.out q' hq') (hvl q' hq')
     clear hvl;replace j:Hid (TX w (u+2) u (u+1) v19 v20 vv21 Q (cutR p n::r') (cutR q n::s') (X++[⟨p.kind,n,p.signs⟩]) Y w21):=hH (H215.out _ _ (by first|exact hr21|(rw[List.append_nil];exact hr21)) hw21 (fun q B=>(hn21 q.1 q.2 B).imp_right fun h=>by first|(simp;omega)|simpa using h))
     clear hr21 hw21 hn21 H211 H212 H213 H214 H215 HK21 HBB21;go_wp2_with fail
     have ex:(if q.kind=1 then[cutL p n]else[])=[⟨p.kind,n,p.signs⟩]:=by rw[if_pos HKq.out,yaq n HKP.out]
     have ey:(if p.kind=1 then[cutL q n]else[])=[]:=if_neg (by have:=HKp.out;omega)
     have htr3:=HTR2.out;rw[ex,ey]at htr3;rw[List.append_nil]at htr3;go_roundg (mu (cutR p n::r')+mu (cutR q n::s'))
     case measure=>have:=HMU.out;have:=HDEC.out;omega
     case rel=>exact⟨v19,v20,vv21,Q,cutR p n::r',cutR q n::s',X++[⟨p.kind,n,p.signs⟩],Y,rfl,rfl,rfl,j.out,htr3⟩
    ·have HKp:=hH kp1;have HKq:=hH kq1;have hpb:(p.kind==1)=false:=by simp[kp1]
     have hqb:(q.kind==1)=false:=by simp[kq1]
     clear kp1 kq1;obtain⟨f19,j191,j192,j193,j194⟩:=j.out.rd;have HJ19:=hH j193;have hC19:=(Zaj u n v11 p r' f19 _ j.out.p j191 j192 HOp.out HNp1.out HLEr.out);rw[yaq n HKP.out]at hC19;have HC19:=hH hC19;clear hC19;clear j191 j192 j193 j194;go_wp2_with fail
     refine HC19.out.mono ?_;rintro e' w19 ⟨v19,f',vs19,fs19,rfl,I,hx,D,N,hw⟩;obtain⟨R,U,rfl⟩:=I.isS;have M:∀{q:Pos},w18<=q.1->¬ZP u (u+1) vx Q q:=fun h=>j.out.zout h
     have hz:∀q∈f19,¬ZP u (u+1) vx Q q:=fun q B h=>HJ19.out q B h
     have HGp:Hid (∀q∈fs19,¬ZP u (u+1) vx Q q):=hH (fun q B=>by rcases N q (by simp[B])with h|h;exact hz q h;exact M h)
     have HVp:=hH I;replace j:Hid (TX w (u+2) u (u+1) v19 v13 vx Q (cutR p n::r') (q::s') X Y w19):=hH ((j.out.stepR HJ19.out hw hx D (fun q B=>N q (by simp[B]))))
     clear I hx D N hw M hz HC19 HJ19;obtain⟨f20,j201,j202,j203,j204⟩:=j.out.swap.rd;have HJ20:=hH j203;have hC20:=(Zaj (u+1) n v13 q s' f20 _ j.out.swap.p j201 j202 HOq.out HNq1.out HLEs.out);rw[yaq n HKQ.out]at hC20;have HC20:=hH hC20;clear hC20;clear j201 j202 j203 j204;go_wp2_with fail
     refine HC20.out.mono ?_;rintro e' J ⟨v20,f',vs20,fs20,rfl,I,hx,D,N,hw⟩;obtain⟨as20,qs20,rfl⟩:=I.isS;have M:∀{q:Pos},w19<=q.1->¬ZP u (u+1) vx Q q:=fun h=>j.out.zout h
     have hz:∀q∈f20,¬ZP u (u+1) vx Q q:=fun q B h=>HJ20.out q B h.swap
     have HGq:Hid (∀q∈fs20,¬ZP u (u+1) vx Q q):=hH (fun q B=>by rcases N q (by simp[B])with h|h;exact hz q h;exact M h)
     have HVq:=hH I;replace HVp:=hH (HVp.out.wr hw fun q' hq' hm'=>HGp.out q' hq' (by simp only[List.mem_singleton]at hm';rw[hm'];exact .inr (.inr (.inr rfl))))
     replace j:Hid (TX w (u+2) u (u+1) v19 v20 vx Q (cutR p n::r') (cutR q n::s') X Y J):=hH ((j.out.swap.stepR HJ20.out hw hx D (fun q B=>N q (by simp[B]))).swap)
     clear I hx D N hw M hz HC20 HJ20;go_wp2_with fail
     have ex:(if q.kind=1 then[cutL p n]else[])=[]:=if_neg (by have:=HKq.out;omega)
     have ey:(if p.kind=1 then[cutL q n]else[])=[]:=if_neg (by have:=HKp.out;omega)
     have htr3:=HTR2.out;rw[ex,ey]at htr3;rw[List.append_nil,List.append_nil]at htr3;go_roundg (mu (cutR p n::r')+mu (cutR q n::s'))
     case measure=>have:=HMU.out;have:=HDEC.out;omega
     case rel=>exact⟨v19,v20,vx,Q,cutR p n::r',cutR q n::s',X,Y,rfl,rfl,rfl,j.out.below (((lf _ _).alloc (lr _) _).alloc sm _),htr3⟩
