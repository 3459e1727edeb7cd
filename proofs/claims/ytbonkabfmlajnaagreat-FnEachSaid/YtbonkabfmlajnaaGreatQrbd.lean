/- Transform, the reference's walk. -/
import Derived.Test.YtbonkabfmlajnaaGreatQrbc
set_option maxHeartbeats 4000000
set_option maxRecDepth 100000
namespace Go.Proofs.YtbonkabfmlajnaaGreat
open Go.RowKit
def tfX (a b:List zaa):List zaa:=match Kaf a b with
 |some z=>z.1
 |none=>[]
def tfY (a b:List zaa):List zaa:=match Kaf a b with
 |some z=>z.2
 |none=>[]
def vaw (w:World)(a b:List zaa)(e:Ending)(w':World):Prop:=
 ∃v0 v1,e= .returned (.tuple #[v0,v1,.bool (Kaf a b).isSome])/\uaf w w' v0 (tfX a b)/\uaf w w' v1 (tfY a b)/\Below w w w'
theorem vaw.no {w j:World}{a b:List zaa}(h:Kaf a b=none)(hb:Below w w j):vaw w a b (.returned (.tuple #[zN,zN,false])) j:=by
 have n:tfX a b=[]:=by unfold tfX;rw[h]
 have p:tfY a b=[]:=by unfold tfY;rw[h]
 refine⟨_,_,by rw[h];rfl,?_,?_,hb⟩
 ·rw[n];exact uaf.empty _ _ _
 ·rw[p];exact uaf.empty _ _ _
theorem vaw.yes {w j:World}{a b x y:List zaa}{n p:Value}(h:Kaf a b=some (x,y))(z:uaf w j n x)(B:uaf w j p y)(hb:Below w w j):vaw w a b (.returned (.tuple #[n,p,true])) j:=by
 have q:tfX a b=x:=by unfold tfX;rw[h]
 have u:tfY a b=y:=by unfold tfY;rw[h]
 refine⟨_,_,by rw[h];rfl,?_,?_,hb⟩
 ·rw[q];exact z
 ·rw[u];exact B
theorem yan {a b:List zaa}(h:¬(yag a=true/\yag b=true/\kad a=kad b)):Kaf a b=none:=by unfold Kaf;rw[if_neg h]
theorem Zaq {a b:List zaa}(h:¬(yag (normal (tfz a b).1)=true/\yag (normal (tfz a b).2)=true)):Kaf a b=none:=by
 unfold Kaf;rw[if_neg h];split<;>rfl
theorem uaB {a b:List zaa}(h:yag a=true/\yag b=true/\kad a=kad b)(j:yag (normal (tfz a b).1)=true/\yag (normal (tfz a b).2)=true):Kaf a b=some (normal (tfz a b).1,normal (tfz a b).2):=by
 unfold Kaf;rw[if_pos h,if_pos j]
theorem Jax (B g:Nat)(s:Bst)(fp:List Pos)(w:World)(h:Bld B w (g,0) (g,1) (g,2) s fp)(hB:B<=w.heap.size)(hl:s.list.length<=1000000)(z:0<=s.drop)(D:s.drop<=1000000):
 Calls Tryz.prog 177 #[.pointer (some ⟨g,0,none⟩)] w (fun e M=>∃v f,e= .returned v/\Sl BIG M v s.flush.list f/\Qaa B M f/\(∀p∈f,p∈fp\/w<=p.1)/\Wr fp w M):=by
 go_enter Tryz.func177,Tryz.ntmps177
 go_wp2_with fail
 refine(yas B g s fp _ h hB hl z D).mono ?_;rintro e w1 ⟨rfl,Z,n,u,q⟩;obtain⟨vl,vp,Y,fq,j,J,I,sq,rfl,hfr⟩:=n.open;have c0:w1.cell? ⟨g,0,none⟩=some vl:=j.cl;have R:=hH j.sl;have N:=hH j.fr.right;have Q:=hH q;have U:=hH u;clear J I u q n;go_wp2;go_ret;exact⟨_,Y,rfl,R.out,N.out,fun p hp=>Q.out p (by simp[hp]),U.out⟩
theorem CS.new {w0 w:World}{n vb:Value}{a b:List zaa}{j u:TypeId}(hb:Below w0 w0 w):
 CS w0 w (w+1) (w+2) (w+3) n vb a b ((((w.alloc (.cells #[n,zI,zI] j)).alloc (.cells #[vb,zI,zI] j)).alloc (.cells #[zN,zN,zI] u)).alloc (.cells #[zN,zN,zI] u)) 0 0 0 0 (xaf []) (xaf []):=by
 have I:Bx (w.alloc (.cells #[n,zI,zI] j)) w [n,zI,zI]:=Bx.new rfl;have J:Bx ((w.alloc (.cells #[n,zI,zI] j)).alloc (.cells #[vb,zI,zI] j)) (w+1) [vb,zI,zI]:=Bx.new sm;have B:=xa2 ((w.alloc (.cells #[n,zI,zI] j)).alloc (.cells #[vb,zI,zI] j)) u (w+2) sm;have D:=xa2 (((w.alloc (.cells #[n,zI,zI] j)).alloc (.cells #[vb,zI,zI] j)).alloc (.cells #[zN,zN,zI] u)) u (w+2) sm;have M:((w.alloc (.cells #[n,zI,zI] j)).alloc (.cells #[vb,zI,zI] j)).heap.size=w.heap.size+2:=by simp
 have N:(((w.alloc (.cells #[n,zI,zI] j)).alloc (.cells #[vb,zI,zI] j)).alloc (.cells #[zN,zN,zI] u)).heap.size=w.heap.size+3:=by simp
 rw[M]at B;rw[N]at D;refine⟨hb.size,ls _,ls _,ls _,by simp,((I.alloc _).alloc _).alloc _,(J.alloc _).alloc _,⟨_,_,B.below ((lf _ _).alloc (lr _) _),D,?_,?_,?_⟩,(((hb.alloc hb.size _).alloc (by simp;have:=hb.size;omega) _).alloc (by simp;have:=hb.size;omega) _).alloc (by simp;have:=hb.size;omega) _,Cok.zero (lz _),Cok.zero (lz _)⟩
 ·intro p q z;simp only[bpl,List.append_nil,List.mem_cons,List.not_mem_nil,or_false]at q z;rcases q with rfl|rfl|rfl<;>simp at z
 ·intro p q;simp only[bpl,List.append_nil,List.mem_cons,List.not_mem_nil,or_false]at q;rcases q with rfl|rfl|rfl<;>simp
 ·intro p q;simp only[bpl,List.append_nil,List.mem_cons,List.not_mem_nil,or_false]at q;rcases q with rfl|rfl|rfl<;>simp
theorem KaV (x y:Int)(w:World):Calls Tryz.prog 183 #[x,y] w (yae w (.int .i64 (min x y))):=by
 by_cases h:x<y
 ·have e:min x y=x:=om;go_enter Tryz.func183,Tryz.ntmps183
  go_wp2;go_ret;exact⟨Jah om,by first|exact lf _ _|exact blw⟩
 ·have e:min x y=y:=om;go_enter Tryz.func183,Tryz.ntmps183
  go_wp2;go_ret;exact⟨Jah om,by first|exact lf _ _|exact blw⟩
theorem kaV (s:Bst){p:zaa}(k:p.kind=2):s.step p=s.puts p.signs:=by unfold Bst.step;rw[if_neg om,if_pos k]
theorem Zax (s:Bst){p:zaa}(k:p.kind=1):s.step p=s.keep p.n:=by unfold Bst.step;rw[if_pos k]
theorem QaY (s:Bst){p:zaa}(k:p.kind=3):s.step p=s.drops p.n:=by unfold Bst.step;rw[if_neg om,if_neg om]
theorem vaD (p:zaa)(n:Nat):(cutL p n).kind=p.kind:=by unfold cutL;split<;>rfl
theorem qa6 {p:zaa}(n:Nat)(k:p.kind≠2):(cutL p n).n=n:=by unfold cutL;rw[if_neg k]
theorem vaI (va vb:Value)(a b:List zaa)(w:World)(ha:RdS w va a)(hb:RdS w vb b):Calls Tryz.prog 178 #[va,vb] w (vaw w a b):=by
 by_cases h1:yag a=true
 rotate_left
 ·have h1:yag a=false:=by simpa using h1
  have HV:=hH (yan (a:=a) (b:=b) fun h=>by rw[h1]at h;cases h.1)
  go_enter Tryz.func178,Tryz.ntmps178
  go_wp2_with fail
  refine(Xad va a _ ha).mono ?_;rintro Z w1 ⟨rfl,hb1⟩;rw[h1];go_wp2;exact bodyPost_ret (v:= .tuple #[zN,zN,false]) (by simp[results,Tryz.results178,go_sem, *]) rfl (vaw.no HV.out hb1)
 by_cases h2:yag b=true
 rotate_left
 ·have h2:yag b=false:=by simpa using h2
  have HV:=hH (yan (a:=a) (b:=b) fun h=>by rw[h2]at h;cases h.2.1)
  go_enter Tryz.func178,Tryz.ntmps178
  go_wp2_with fail
  refine(Xad va a _ ha).mono ?_;rintro Z w1 ⟨rfl,hb1⟩;rw[h1];go_wp2_with fail
  refine(Xad vb b _ (hb.below hb1)).mono ?_;rintro Z w2 ⟨rfl,hb2⟩;rw[h2];go_wp2;exact bodyPost_ret (v:= .tuple #[zN,zN,false]) (by simp[results,Tryz.results178,go_sem, *]) rfl (vaw.no HV.out (hb1.trans (hb2.mono hb1.size)))
 have a3:=hH (Zae.1 h1).1;have a2:=hH (Zae.1 h2).1;have HB4:Hid (∀{w1 w2 w3 z:World},Below w w w1->Below w1 w1 w2->Below w2 w2 w3->Below w3 w3 z->Below w w z):=hH fun x1 x2 x3 x4=>x1.trans ((x2.trans ((x3.trans (x4.mono x3.size)).mono x2.size)).mono x1.size)
 by_cases h3:kad a=kad b
 rotate_left
 ·have HV:=hH (yan (a:=a) (b:=b) fun h=>h3 h.2.2)
  have h3:(kad a==kad b)=false:=by simpa using h3
  go_enter Tryz.func178,Tryz.ntmps178
  go_wp2_with fail
  refine(Xad va a _ ha).mono ?_;rintro Z w1 ⟨rfl,hb1⟩;rw[h1];go_wp2_with fail
  refine(Xad vb b _ (hb.below hb1)).mono ?_;rintro Z w2 ⟨rfl,hb2⟩;rw[h2];go_wp2_with fail
  refine(Qaj va a _ ((ha.below hb1).below hb2)).mono ?_;rintro Z w3 ⟨rfl,hb3⟩;go_wp2_with fail
  refine(Qaj vb b _ (((hb.below hb1).below hb2).below hb3)).mono ?_;rintro Z z ⟨rfl,hb4⟩;have HBW:=hH (HB4.out hb1 hb2 hb3 hb4);clear hb1 hb2 hb3 hb4;go_wp2;exact bodyPost_ret (v:= .tuple #[zN,zN,false]) (by simp[results,Tryz.results178,go_sem, *]) rfl (vaw.no HV.out HBW.out)
 obtain⟨aa,ca,rfl⟩:=ha.isSlice;obtain⟨ab,cb,rfl⟩:=hb.isSlice;have H0:=hH (TR.new h1 h2 h3);have a4:Hid (yag a=true/\yag b=true/\kad a=kad b):=hH ⟨h1,h2,h3⟩;have h3:(kad a==kad b)=true:=by simpa using h3
 go_enter Tryz.func178,Tryz.ntmps178
 go_wp2_with fail
 refine(Xad _ a _ ha).mono ?_;rintro Z w1 ⟨rfl,hb1⟩;rw[h1];go_wp2_with fail
 refine(Xad _ b _ (hb.below hb1)).mono ?_;rintro Z w2 ⟨rfl,hb2⟩;rw[h2];go_wp2_with fail
 refine(Qaj _ a _ ((ha.below hb1).below hb2)).mono ?_;rintro Z w3 ⟨rfl,hb3⟩;go_wp2_with fail
 refine(Qaj _ b _ (((hb.below hb1).below hb2).below hb3)).mono ?_;rintro Z z ⟨rfl,hb4⟩;have HBW:=hH (HB4.out hb1 hb2 hb3 hb4);clear hb1 hb2 hb3 hb4;go_wp2_with fail
 go_loopg [] (mu (qab a 0 0)+mu (qab b 0 0)) (fun n wr=>∃(kp dp kq dq:Nat) (X Y:List zaa),n=mu (qab a kp dp)+mu (qab b kq dq)/\CS w z (z+1) (z+2) (z+3) (.slice aa a.length ca) (.slice ab b.length cb) a b wr kp dp kq dq (xaf X) (xaf Y)/\TR a b (qab a kp dp) (qab b kq dq) X Y)
 case atStart=>exact⟨0,0,0,0,[],[],rfl,CS.new HBW.out,by rw[ZaA,ZaA];exact H0.out⟩
 case round=>
  obtain⟨kp,dp,kq,dq,X,Y,rfl,M,htr⟩:=hrel;have j:=hH M;have HTR:=hH htr;have HMU:Hid (mu (qab a kp dp)+mu (qab b kq dq)<=mu (qab a kp dp)+mu (qab b kq dq)):=hH (lr _);have XOK:=hH htr.oks.1;have YOK:=hH htr.oks.2;have XLE:=hH (htr.lens a4.out.1 a4.out.2.1).1;have YLE:=hH (htr.lens a4.out.1 a4.out.2.1).2;clear M htr h3;have hC11:=Zad w z (.slice aa a.length ca) a kp dp _ j.out.p ha (by have:=j.out.o1;have:=j.out.o2;omega) j.out.bel a3.out j.out.cp (Zae.1 a4.out.1).2.1
  have HC11:=hH hC11;clear hC11;go_wp2_with fail
  refine HC11.out.mono ?_;rintro Z w11 ⟨B,u,R,hx,hc,hr,hw,hs⟩;replace j:Hid (CS w z (z+1) (z+2) (z+3) (.slice aa a.length ca) (.slice ab b.length cb) a b w11 B u kq dq (xaf X) (xaf Y)):=hH (j.out.stepP hw hx hc);replace HTR:Hid (TR a b (qab a B u) (qab b kq dq) X Y):=hH (by rw[hr];exact HTR.out.skipR)
  replace HMU:Hid (mu (qab a B u)+mu (qab b kq dq)<=mu (qab a kp dp)+mu (qab b kq dq)):=hH (by have h1:=HMU.out;have h2:=Kao (qab a kp dp);rw[<-hr]at h2;omega)
  have HSp:Hid (skip (qab a B u)=qab a B u):=hH (by rw[hr,kam])
  rw[<-hr]at R;clear hx hc hr hw hs HC11;rcases hep:qab a B u with _|⟨p,r'⟩
  ·rw[hep]at R;subst R;try dsimp only[hd,List.headD]
   have N:=hH hep;clear hep;have hC12:=Zad w (z+1) (.slice ab b.length cb) b kq dq _ j.out.q hb (by have:=j.out.o1;have:=j.out.o2;omega) j.out.bel a2.out j.out.cq (Zae.1 a4.out.2.1).2.1
   have HC12:=hH hC12;clear hC12;go_wp2_with fail
   refine HC12.out.mono ?_;rintro Z w12 ⟨k12,a5,R,hx,hc,hr,hw,hs⟩;replace j:Hid (CS w z (z+1) (z+2) (z+3) (.slice aa a.length ca) (.slice ab b.length cb) a b w12 B u k12 a5 (xaf X) (xaf Y)):=hH (j.out.stepQ hw hx hc);replace HTR:Hid (TR a b (qab a B u) (qab b k12 a5) X Y):=hH (by rw[hr];exact HTR.out.skipS)
   replace HMU:Hid (mu (qab a B u)+mu (qab b k12 a5)<=mu (qab a kp dp)+mu (qab b kq dq)):=hH (by have h1:=HMU.out;have h2:=Kao (qab b kq dq);rw[<-hr]at h2;omega)
   have HSq:Hid (skip (qab b k12 a5)=qab b k12 a5):=hH (by rw[hr,kam])
   rw[<-hr]at R;clear hx hc hr hw hs HC12;rcases heq:qab b k12 a5 with _|⟨q,s'⟩
   ·rw[heq]at R;subst R;try dsimp only[hd,List.headD]
    have htr:=HTR.out;rw[N.out,heq]at htr;obtain⟨ex,ey⟩:=htr.end_;obtain⟨fx,fy,j1,j2,j3,j4,j5⟩:=j.out.xy;have ix:=Jaj XOK.out;have iy:=Jaj YOK.out;obtain⟨ix1,ix2,ix3,ix4,_⟩:=ix;obtain⟨iy1,iy2,iy3,iy4,_⟩:=iy;have x2:=XLE.out;have y2:=YLE.out;have hbel:=j.out.bel;have o1:=j.out.o1;have o2:=j.out.o2;have o3:=j.out.o3;have o5:=j.out.o5;have o4:=j.out.o4;have HJ:=hH (And.intro j1 (And.intro j2 (And.intro j3 (And.intro j4 j5))));have HBL2:=hH hbel;have HEX:=hH ex;have HEY:=hH ey;clear j1 j2 j3 j4 j5 htr ex ey heq hbel;go_wp2_with fail
    refine(Jax (z+2) (z+2) (xaf X) fx _ HJ.out.1 om om ix3 om).mono ?_;rintro Z w20 ⟨vu,fu,rfl,su,ku,nu,wu⟩;have HSU:=hH su;have HKU:=hH ku;have HNU:=hH nu;have HWU:=hH wu;have sz20:=wu.size;clear su ku nu wu;go_wp2_with fail
    refine(Jax (z+2) (z+3) (xaf Y) fy _ (HJ.out.2.1.wr HWU.out (fun p hp hq=>HJ.out.2.2.1 p hq hp) HJ.out.2.2.2.2) om om iy3 om).mono ?_
    rintro Z w21 ⟨vv,fv,rfl,sv,kv,nv,wv⟩;have hdu:∀p∈fu,p∉fy:=fun p hp hq=>by
     rcases HNU.out p hp with h|h
     ·exact HJ.out.2.2.1 p h hq
     ·have:=HJ.out.2.2.2.2 p hq;omega
    have hbw21:Below w w w21:=(HBL2.out.trans (HWU.out.below HBL2.out.size fun p hp=>by have:=HJ.out.1.fr.ge p hp;omega)).trans (wv.below (by have:=HBL2.out.size;omega) fun p hp=>by have:=HJ.out.2.1.fr.ge p hp;omega)
    have HU:Hid (uaf (z+2) w21 vu (normal (tfz a b).1)):=hH ⟨fu,by have:=HSU.out.wr wv hdu;rw[zaH,HEX.out]at this;exact this,wv.fresh HSU.out.live HKU.out⟩
    have HVV:Hid (uaf (z+2) w21 vv (normal (tfz a b).2)):=hH ⟨fv,by rw[zaH,HEY.out]at sv;exact sv,kv⟩
    have HB21:=hH hbw21;have s21:=hbw21.size;clear sv kv nv wv hdu hbw21 HSU HKU HNU HWU HJ HBL2;by_cases g1:yag (normal (tfz a b).1)=true
    rotate_left
    ·have HV:=hH (Zaq (a:=a) (b:=b) fun h=>g1 h.1)
     have g1:yag (normal (tfz a b).1)=false:=by simpa using g1
     go_wp2_with fail
     refine(Xad vu _ _ (let⟨_,h,_⟩:=HU.out;⟨_,h⟩)).mono ?_
     rintro Z w22 ⟨rfl,hb22⟩;rw[g1];go_wp2;exact bodyPost_ret (v:= .tuple #[zN,zN,false]) (by simp[results,Tryz.results178,go_sem, *]) rfl (vaw.no HV.out (HB21.out.trans (hb22.mono s21)))
    go_wp2_with fail
    refine(Xad vu _ _ (let⟨_,h,_⟩:=HU.out;⟨_,h⟩)).mono ?_
    rintro Z w22 ⟨rfl,hb22⟩;rw[g1];have HB22:=hH hb22;clear hb22;by_cases g2:yag (normal (tfz a b).2)=true
    rotate_left
    ·have HV:=hH (Zaq (a:=a) (b:=b) fun h=>g2 h.2)
     have g2:yag (normal (tfz a b).2)=false:=by simpa using g2
     go_wp2_with fail
     refine(Xad vv _ _ ((let⟨_,h,_⟩:=HVV.out;⟨_,h⟩:RdS w21 vv _).below HB22.out)).mono ?_
     rintro Z w23 ⟨rfl,hb23⟩;rw[g2];go_wp2;exact bodyPost_ret (v:= .tuple #[zN,zN,false]) (by simp[results,Tryz.results178,go_sem, *]) rfl (vaw.no HV.out (HB21.out.trans ((HB22.out.trans (hb23.mono HB22.out.size)).mono s21)))
    have HV:=hH (uaB a4.out ⟨g1,g2⟩);go_wp2_with fail
    refine(Xad vv _ _ ((let⟨_,h,_⟩:=HVV.out;⟨_,h⟩:RdS w21 vv _).below HB22.out)).mono ?_
    rintro Z w23 ⟨rfl,hb23⟩;rw[g2];have HB23:=hH (HB22.out.trans (hb23.mono HB22.out.size));clear hb23;go_wp2;exact bodyPost_ret (v:= .tuple #[vu,vv,true]) (by simp[results,Tryz.results178,go_sem, *]) rfl<|vaw.yes HV.out ((HU.out.mono om).below HB23.out) ((HVV.out.mono om).below HB23.out) (HB21.out.trans (HB23.out.mono s21))
   have Q:=hH heq;have HNq:=hH (by have h:=HSq.out;rw[heq]at h;exact Qam h:nsz q≠0)
   have hk:q.kind=2:=by
    by_cases k:q.kind=2
    ·exact k
    ·have htr:=HTR.out;rw[N.out,heq]at htr;obtain⟨⟨p,r',hh,_⟩,_⟩:=htr.others (.inl rfl) (.inr ⟨q,s',rfl,HNq.out,k⟩) (.inr sm);cases hh
   have HK:=hH hk;rw[heq]at R;subst R;try dsimp only[hd,List.headD]
   rw[hk];clear heq hk;have hC13:=Zad w z (.slice aa a.length ca) a B u _ j.out.p ha (by have:=j.out.o1;have:=j.out.o2;omega) j.out.bel a3.out j.out.cp (Zae.1 a4.out.1).2.1
   rw[HSp.out]at hC13;have HC13:=hH hC13;clear hC13;go_wp2_with fail
   refine HC13.out.mono ?_;rintro Z w13 ⟨J,D,R,hx,hc,hr,hw,hs⟩;obtain⟨_,_,I⟩:=hs (by first|trivial|rfl)
   replace j:=hH (j.out.below I);rw[N.out]at R;clear hx hc hr hw I HC13;subst R;try dsimp only[hd,List.headD]
   have hC14:=Zad w (z+1) (.slice ab b.length cb) b k12 a5 _ j.out.q hb (by have:=j.out.o1;have:=j.out.o2;omega) j.out.bel a2.out j.out.cq (Zae.1 a4.out.2.1).2.1
   rw[HSq.out]at hC14;have HC14:=hH hC14;clear hC14;go_wp2_with fail
   refine HC14.out.mono ?_;rintro Z w14 ⟨k14,d14,R,hx,hc,hr,hw,hs⟩;obtain⟨_,_,I⟩:=hs (by first|trivial|rfl)
   replace j:=hH (j.out.below I);rw[Q.out]at R;clear hx hc hr hw I HC14;subst R;try dsimp only[hd,List.headD]
   rw[HK.out];have htq:=HTR.out;rw[Q.out]at htq;obtain⟨_,hnq,hcq,hq0,hq2,htr2,hmu2⟩:=htq.putS (by rw[N.out];exact .inl rfl) HNq.out HK.out
   have hq200:nsz q<=200:=om;have HTR2:=hH htr2;have HNQ:=hH hnq;have U:Hid (mu (qab a B u)+mu (cutR q (nsz q)::s')<mu (qab a B u)+mu (qab b k12 a5)):=hH (by rw[Q.out];omega)
   clear htq htr2 hmu2 hcq hq0 hnq hq2;go_wp2_with fail
   refine(qam w (z+1) (.slice ab b.length cb) b k12 a5 q s' _ j.out.q hb j.out.bel a2.out j.out.cq Q.out).mono ?_;rintro Z w15 ⟨rfl,I⟩;replace j:=hH (j.out.below I);clear I;go_wp2_with fail
   refine(Zat w (z+1) (.slice ab b.length cb) b k12 a5 q s' _ j.out.q hb (by have:=j.out.o1;have:=j.out.o2;omega) j.out.bel a2.out j.out.cq Q.out HK.out).mono ?_
   rintro Z w16 ⟨vs,rfl,hvs,hx,hw⟩;replace j:Hid (CS w z (z+1) (z+2) (z+3) (.slice aa a.length ca) (.slice ab b.length cb) a b w16 B u k12 (a5+nsz q) (xaf X) (xaf Y)):=hH (j.out.stepQ hw hx (Qas a2.out j.out.cq Q.out (lr _)));have HVS:=hH hvs;clear hvs hx hw;have HCR:Hid (qab b k12 (a5+nsz q)=cutR q (nsz q)::s'):=hH (zaC Q.out _);replace U:Hid (mu (qab a B u)+mu (qab b k12 (a5+nsz q))<mu (qab a B u)+mu (qab b k12 a5)):=hH (by rw[HCR.out];exact U.out)
   obtain⟨fx17,hb17,hn17⟩:=j.out.y;have HB17:=hH hb17;have HN17:=hH hn17;have HI17:=hH (Jaj YOK.out);obtain⟨i17a,i17b,i17c,i17d,i17e⟩:=HI17.out;have i17l:=YLE.out;clear hb17 hn17;go_wp2_with fail
   refine(Qaq (z+2) (z+3) (xaf Y) fx17 vs q.signs _ HB17.out (by have:=j.out.o3;have:=j.out.o4;have:=j.out.o5;omega) HVS.out (by have:=HNQ.out;omega)).mono ?_
   rintro Z w17 hb;obtain⟨rfl,M⟩:=HN17.out _ _ _ hb;replace j:Hid (CS w z (z+1) (z+2) (z+3) (.slice aa a.length ca) (.slice ab b.length cb) a b w17 B u k12 (a5+nsz q) (xaf X) ((xaf Y).puts q.signs)):=hH M;clear hb M HB17 HN17 HI17 i17a i17b i17c i17d i17e i17l;obtain⟨fx18,hb18,hn18⟩:=j.out.x;have HB18:=hH hb18;have HN18:=hH hn18;have HI18:=hH (Jaj XOK.out);obtain⟨i18a,i18b,i18c,i18d,i18e⟩:=HI18.out;have i18l:=XLE.out;clear hb18 hn18;go_wp2_with fail
   refine(yak (z+2) (z+2) (xaf X) fx18 (nsz q:Int) _ HB18.out (by have:=j.out.o3;have:=j.out.o4;have:=j.out.o5;omega) om i18c om om om (fun q hq=>by have:=HI18.out.flushed q hq;omega)).mono ?_
   rintro Z w18 hb;obtain⟨rfl,M⟩:=HN18.out _ _ _ hb;replace j:Hid (CS w z (z+1) (z+2) (z+3) (.slice aa a.length ca) (.slice ab b.length cb) a b w18 B u k12 (a5+nsz q) ((xaf X).keep (nsz q)) ((xaf Y).puts q.signs)):=hH M;clear hb M HB18 HN18 HI18 i18a i18b i18c i18d i18e i18l;go_wp2;go_roundg (mu (qab a B u)+mu (qab b k12 (a5+nsz q)))
   case measure=>have:=HMU.out;have:=U.out;omega
   case rel=>exact⟨B,u,k12,(a5+nsz q),X++[⟨1,q.signs.length,[]⟩],Y++[q],rfl,by rw[xak,xak,kaV _ HK.out,Zax (p:=⟨1,q.signs.length,[]⟩) _ rfl,<-HNQ.out];exact j.out,by rw[HCR.out];exact HTR2.out⟩
  have N:=hH hep;have HNp:=hH (by have h:=HSp.out;rw[hep]at h;exact Qam h:nsz p≠0)
  rw[hep]at R;subst R;try dsimp only[hd,List.headD]
  have hk0:(p.kind==0)=false:=by
   have hall:=HTR.out.i.r;rw[hep]at hall;simp only[List.all_cons,Bool.and_eq_true]at hall;rcases Zab hall.1 with⟨k,_⟩|⟨k,_⟩|⟨k,_⟩<;>simp[k]
  clear hep;have hk1:¬p.kind=0:=by simpa using hk0
  have hk3:(p.kind !=0)=true:=by simpa using hk0
  by_cases kp2:p.kind=2
  ·have HK:=hH kp2;rw[kp2];clear kp2 hk0 hk1 hk3;have hC12:=Zad w z (.slice aa a.length ca) a B u _ j.out.p ha (by have:=j.out.o1;have:=j.out.o2;omega) j.out.bel a3.out j.out.cp (Zae.1 a4.out.1).2.1
   rw[HSp.out]at hC12;have HC12:=hH hC12;clear hC12;go_wp2_with fail
   refine HC12.out.mono ?_;rintro Z w12 ⟨k12,a5,R,hx,hc,hr,hw,hs⟩;obtain⟨_,_,I⟩:=hs (by first|trivial|rfl)
   replace j:=hH (j.out.below I);rw[N.out]at R;clear hx hc hr hw I HC12;subst R;try dsimp only[hd,List.headD]
   rw[HK.out];have htq:=HTR.out;rw[N.out]at htq;obtain⟨_,hnq,hcq,hq0,hq2,htr2,hmu2⟩:=htq.putR HNp.out HK.out;have hq200:nsz p<=200:=om;have HTR2:=hH htr2;have HNQ:=hH hnq;have U:Hid (mu (cutR p (nsz p)::r')+mu (qab b kq dq)<mu (qab a B u)+mu (qab b kq dq)):=hH (by rw[N.out];omega)
   clear htq htr2 hmu2 hcq hq0 hnq hq2;go_wp2_with fail
   refine(qam w z (.slice aa a.length ca) a B u p r' _ j.out.p ha j.out.bel a3.out j.out.cp N.out).mono ?_;rintro Z w13 ⟨rfl,I⟩;replace j:=hH (j.out.below I);clear I;go_wp2_with fail
   refine(Zat w z (.slice aa a.length ca) a B u p r' _ j.out.p ha (by have:=j.out.o1;have:=j.out.o2;omega) j.out.bel a3.out j.out.cp N.out HK.out).mono ?_
   rintro Z w14 ⟨vs,rfl,hvs,hx,hw⟩;replace j:Hid (CS w z (z+1) (z+2) (z+3) (.slice aa a.length ca) (.slice ab b.length cb) a b w14 B (u+nsz p) kq dq (xaf X) (xaf Y)):=hH (j.out.stepP hw hx (Qas a3.out j.out.cp N.out (lr _)));have HVS:=hH hvs;clear hvs hx hw;have HCR:Hid (qab a B (u+nsz p)=cutR p (nsz p)::r'):=hH (zaC N.out _);replace U:Hid (mu (qab a B (u+nsz p))+mu (qab b kq dq)<mu (qab a B u)+mu (qab b kq dq)):=hH (by rw[HCR.out];exact U.out)
   obtain⟨fx15,hb15,hn15⟩:=j.out.x;have HB15:=hH hb15;have HN15:=hH hn15;have HI15:=hH (Jaj XOK.out);obtain⟨i15a,i15b,i15c,i15d,i15e⟩:=HI15.out;have i15l:=XLE.out;clear hb15 hn15;go_wp2_with fail
   refine(Qaq (z+2) (z+2) (xaf X) fx15 vs p.signs _ HB15.out (by have:=j.out.o3;have:=j.out.o4;have:=j.out.o5;omega) HVS.out (by have:=HNQ.out;omega)).mono ?_
   rintro Z w15 hb;obtain⟨rfl,M⟩:=HN15.out _ _ _ hb;replace j:Hid (CS w z (z+1) (z+2) (z+3) (.slice aa a.length ca) (.slice ab b.length cb) a b w15 B (u+nsz p) kq dq ((xaf X).puts p.signs) (xaf Y)):=hH M;clear hb M HB15 HN15 HI15 i15a i15b i15c i15d i15e i15l;obtain⟨fx16,hb16,hn16⟩:=j.out.y;have HB16:=hH hb16;have HN16:=hH hn16;have HI16:=hH (Jaj YOK.out);obtain⟨i16a,i16b,i16c,i16d,i16e⟩:=HI16.out;have i16l:=YLE.out;clear hb16 hn16;go_wp2_with fail
   refine(yak (z+2) (z+3) (xaf Y) fx16 (nsz p:Int) _ HB16.out (by have:=j.out.o3;have:=j.out.o4;have:=j.out.o5;omega) om i16c om om om (fun q hq=>by have:=HI16.out.flushed q hq;omega)).mono ?_
   rintro Z w16 hb;obtain⟨rfl,M⟩:=HN16.out _ _ _ hb;replace j:Hid (CS w z (z+1) (z+2) (z+3) (.slice aa a.length ca) (.slice ab b.length cb) a b w16 B (u+nsz p) kq dq ((xaf X).puts p.signs) ((xaf Y).keep (nsz p))):=hH M;clear hb M HB16 HN16 HI16 i16a i16b i16c i16d i16e i16l;go_wp2;go_roundg (mu (qab a B (u+nsz p))+mu (qab b kq dq))
   case measure=>have:=HMU.out;have:=U.out;omega
   case rel=>exact⟨B,(u+nsz p),kq,dq,X++[p],Y++[⟨1,p.signs.length,[]⟩],rfl,by rw[xak,xak,kaV _ HK.out,Zax (p:=⟨1,p.signs.length,[]⟩) _ rfl,<-HNQ.out];exact j.out,by rw[HCR.out];exact HTR2.out⟩
  have HKP:=hH kp2;have k2b:(p.kind==2)=false:=by simpa using kp2
  have k2c:¬p.kind=2:=kp2;clear kp2;have hC12:=Zad w z (.slice aa a.length ca) a B u _ j.out.p ha (by have:=j.out.o1;have:=j.out.o2;omega) j.out.bel a3.out j.out.cp (Zae.1 a4.out.1).2.1
  rw[HSp.out]at hC12;have HC12:=hH hC12;clear hC12;go_wp2_with fail
  refine HC12.out.mono ?_;rintro Z w12 ⟨k12,a5,R,hx,hc,hr,hw,hs⟩;obtain⟨_,_,I⟩:=hs (by first|trivial|rfl)
  replace j:=hH (j.out.below I);rw[N.out]at R;clear hx hc hr hw I HC12;subst R;try dsimp only[hd,List.headD]
  have hC13:=Zad w (z+1) (.slice ab b.length cb) b kq dq _ j.out.q hb (by have:=j.out.o1;have:=j.out.o2;omega) j.out.bel a2.out j.out.cq (Zae.1 a4.out.2.1).2.1
  have HC13:=hH hC13;clear hC13;go_wp2_with fail
  refine HC13.out.mono ?_;rintro Z w13 ⟨J,D,R,hx,hc,hr,hw,hs⟩;replace j:Hid (CS w z (z+1) (z+2) (z+3) (.slice aa a.length ca) (.slice ab b.length cb) a b w13 B u J D (xaf X) (xaf Y)):=hH (j.out.stepQ hw hx hc);replace HTR:Hid (TR a b (qab a B u) (qab b J D) X Y):=hH (by rw[hr];exact HTR.out.skipS)
  replace HMU:Hid (mu (qab a B u)+mu (qab b J D)<=mu (qab a kp dp)+mu (qab b kq dq)):=hH (by have h1:=HMU.out;have h2:=Kao (qab b kq dq);rw[<-hr]at h2;omega)
  have HSq:Hid (skip (qab b J D)=qab b J D):=hH (by rw[hr,kam])
  rw[<-hr]at R;clear hx hc hr hw hs HC13;rcases heq:qab b J D with _|⟨q,s'⟩
  ·have htr:=HTR.out;rw[N.out,heq]at htr;obtain⟨_,q,s',hh,_⟩:=htr.others (.inr ⟨p,r',rfl,HNp.out,HKP.out⟩) (.inl rfl) (.inl sm);cases hh
  have Q:=hH heq;have HNq:=hH (by have h:=HSq.out;rw[heq]at h;exact Qam h:nsz q≠0)
  rw[heq]at R;subst R;try dsimp only[hd,List.headD]
  clear heq;by_cases kq2:q.kind=2
  ·have HK:=hH kq2;rw[kq2];clear kq2;have htq:=HTR.out;rw[Q.out]at htq;obtain⟨_,hnq,hcq,hq0,hq2,htr2,hmu2⟩:=htq.putS (by rw[N.out];exact .inr ⟨p,r',rfl,HNp.out,HKP.out⟩) HNq.out HK.out
   have hq200:nsz q<=200:=om;have HTR2:=hH htr2;have HNQ:=hH hnq;have U:Hid (mu (qab a B u)+mu (cutR q (nsz q)::s')<mu (qab a B u)+mu (qab b J D)):=hH (by rw[Q.out];omega)
   clear htq htr2 hmu2 hcq hq0 hnq hq2;go_wp2_with fail
   refine(qam w (z+1) (.slice ab b.length cb) b J D q s' _ j.out.q hb j.out.bel a2.out j.out.cq Q.out).mono ?_;rintro Z w14 ⟨rfl,I⟩;replace j:=hH (j.out.below I);clear I;go_wp2_with fail
   refine(Zat w (z+1) (.slice ab b.length cb) b J D q s' _ j.out.q hb (by have:=j.out.o1;have:=j.out.o2;omega) j.out.bel a2.out j.out.cq Q.out HK.out).mono ?_
   rintro Z w15 ⟨vs,rfl,hvs,hx,hw⟩;replace j:Hid (CS w z (z+1) (z+2) (z+3) (.slice aa a.length ca) (.slice ab b.length cb) a b w15 B u J (D+nsz q) (xaf X) (xaf Y)):=hH (j.out.stepQ hw hx (Qas a2.out j.out.cq Q.out (lr _)));have HVS:=hH hvs;clear hvs hx hw;have HCR:Hid (qab b J (D+nsz q)=cutR q (nsz q)::s'):=hH (zaC Q.out _);replace U:Hid (mu (qab a B u)+mu (qab b J (D+nsz q))<mu (qab a B u)+mu (qab b J D)):=hH (by rw[HCR.out];exact U.out)
   obtain⟨fx16,hb16,hn16⟩:=j.out.y;have HB16:=hH hb16;have HN16:=hH hn16;have HI16:=hH (Jaj YOK.out);obtain⟨i16a,i16b,i16c,i16d,i16e⟩:=HI16.out;have i16l:=YLE.out;clear hb16 hn16;go_wp2_with fail
   refine(Qaq (z+2) (z+3) (xaf Y) fx16 vs q.signs _ HB16.out (by have:=j.out.o3;have:=j.out.o4;have:=j.out.o5;omega) HVS.out (by have:=HNQ.out;omega)).mono ?_
   rintro Z w16 hb;obtain⟨rfl,M⟩:=HN16.out _ _ _ hb;replace j:Hid (CS w z (z+1) (z+2) (z+3) (.slice aa a.length ca) (.slice ab b.length cb) a b w16 B u J (D+nsz q) (xaf X) ((xaf Y).puts q.signs)):=hH M;clear hb M HB16 HN16 HI16 i16a i16b i16c i16d i16e i16l;obtain⟨fx17,hb17,hn17⟩:=j.out.x;have HB17:=hH hb17;have HN17:=hH hn17;have HI17:=hH (Jaj XOK.out);obtain⟨i17a,i17b,i17c,i17d,i17e⟩:=HI17.out;have i17l:=XLE.out;clear hb17 hn17;go_wp2_with fail
   refine(yak (z+2) (z+2) (xaf X) fx17 (nsz q:Int) _ HB17.out (by have:=j.out.o3;have:=j.out.o4;have:=j.out.o5;omega) om i17c om om om (fun q hq=>by have:=HI17.out.flushed q hq;omega)).mono ?_
   rintro Z w17 hb;obtain⟨rfl,M⟩:=HN17.out _ _ _ hb;replace j:Hid (CS w z (z+1) (z+2) (z+3) (.slice aa a.length ca) (.slice ab b.length cb) a b w17 B u J (D+nsz q) ((xaf X).keep (nsz q)) ((xaf Y).puts q.signs)):=hH M;clear hb M HB17 HN17 HI17 i17a i17b i17c i17d i17e i17l;go_wp2;go_roundg (mu (qab a B u)+mu (qab b J (D+nsz q)))
   case measure=>have:=HMU.out;have:=U.out;omega
   case rel=>exact⟨B,u,J,(D+nsz q),X++[⟨1,q.signs.length,[]⟩],Y++[q],rfl,by rw[xak,xak,kaV _ HK.out,Zax (p:=⟨1,q.signs.length,[]⟩) _ rfl,<-HNQ.out];exact j.out,by rw[HCR.out];exact HTR2.out⟩
  have HKQ:=hH kq2;have q2b:(q.kind==2)=false:=by simpa using kq2
  have q2c:¬q.kind=2:=kq2;have htq:=HTR.out;rw[N.out,Q.out]at htq;obtain⟨_,_,hkp,hkq,hnp,hnq,_,_,hp200,hq200,htr2,hm1,hm2⟩:=htq.both HNp.out HNq.out HKP.out HKQ.out;obtain⟨n,hn⟩:∃n:Nat,n=min (nsz p) (nsz q):=⟨_,rfl⟩;rw[<-hn]at htr2 hm1 hm2;have HMIN:Hid (min (nsz p:Int) (nsz q:Int)=n):=hH om;have hnb:n<=200:=om;have HNP1:Hid (n<=nsz p):=hH om;have HNQ1:Hid (n<=nsz q):=hH om;have HTR2:=hH htr2;have HCRp:Hid (qab a B (u+n)=cutR p n::r'):=hH (zaC N.out _);have HCRq:Hid (qab b J (D+n)=cutR q n::s'):=hH (zaC Q.out _);have U:Hid (mu (qab a B (u+n))+mu (qab b J (D+n))<mu (qab a B u)+mu (qab b J D)):=hH (by rw[Q.out,N.out,HCRp.out,HCRq.out];omega)
  have HNp0:=hH hnp;have HNq0:=hH hnq;clear htq htr2 hm1 hm2 kq2 hn hnp hnq;go_wp2_with fail
  refine(qam w z (.slice aa a.length ca) a B u p r' _ j.out.p ha j.out.bel a3.out j.out.cp N.out).mono ?_;rintro Z w14 ⟨rfl,I⟩;replace j:=hH (j.out.below I);clear I;go_wp2_with fail
  refine(qam w (z+1) (.slice ab b.length cb) b J D q s' _ j.out.q hb j.out.bel a2.out j.out.cq Q.out).mono ?_;rintro Z w15 ⟨rfl,I⟩;replace j:=hH (j.out.below I);clear I;go_wp2_with fail
  refine(KaV _ _ _).mono ?_;rintro Z w16 ⟨rfl,I⟩;rw[HMIN.out];replace j:=hH (j.out.below I);clear I;rcases hkp with kp1|kp1
  ·rcases hkq with kq1|kq1
   ·have HKp:=hH kp1;have HKq:=hH kq1;clear kp1 kq1;have a0:=Zad w z (.slice aa a.length ca) a B u _ j.out.p ha (by have:=j.out.o1;have:=j.out.o2;omega) j.out.bel a3.out j.out.cp (Zae.1 a4.out.1).2.1
    rw[HSp.out]at a0;have HC17:=hH a0;clear a0;go_wp2_with fail
    refine HC17.out.mono ?_;rintro Z w17 ⟨k17,d17,R,hx,hc,hr,hw,hs⟩;obtain⟨_,_,I⟩:=hs (by first|trivial|rfl)
    replace j:=hH (j.out.below I);rw[N.out]at R;clear hx hc hr hw I HC17;subst R;try dsimp only[hd,List.headD]
    rw[HKp.out];have a1:=Zad w (z+1) (.slice ab b.length cb) b J D _ j.out.q hb (by have:=j.out.o1;have:=j.out.o2;omega) j.out.bel a2.out j.out.cq (Zae.1 a4.out.2.1).2.1
    rw[HSq.out]at a1;have HC18:=hH a1;clear a1;go_wp2_with fail
    refine HC18.out.mono ?_;rintro Z w18 ⟨k18,d18,R,hx,hc,hr,hw,hs⟩;obtain⟨_,_,I⟩:=hs (by first|trivial|rfl)
    replace j:=hH (j.out.below I);rw[Q.out]at R;clear hx hc hr hw I HC18;subst R;try dsimp only[hd,List.headD]
    rw[HKq.out];obtain⟨fx19,hb19,hn19⟩:=j.out.x;have HB19:=hH hb19;have HN19:=hH hn19;have HI19:=hH (Jaj XOK.out);obtain⟨i19a,i19b,i19c,i19d,i19e⟩:=HI19.out;have i19l:=XLE.out;clear hb19 hn19;go_wp2_with fail
    refine(yak (z+2) (z+2) (xaf X) fx19 (n:Int) _ HB19.out (by have:=j.out.o3;have:=j.out.o4;have:=j.out.o5;omega) om i19c om om om (fun q hq=>by have:=HI19.out.flushed q hq;omega)).mono ?_
    rintro Z w19 hb;obtain⟨rfl,M⟩:=HN19.out _ _ _ hb;replace j:Hid (CS w z (z+1) (z+2) (z+3) (.slice aa a.length ca) (.slice ab b.length cb) a b w19 B u J D ((xaf X).keep n) (xaf Y)):=hH M;clear hb M HB19 HN19 HI19 i19a i19b i19c i19d i19e i19l;obtain⟨fx20,hb20,hn20⟩:=j.out.y;have HB20:=hH hb20;have HN20:=hH hn20;have HI20:=hH (Jaj YOK.out);obtain⟨i20a,i20b,i20c,i20d,i20e⟩:=HI20.out;have i20l:=YLE.out;clear hb20 hn20;go_wp2_with fail
    refine(yak (z+2) (z+3) (xaf Y) fx20 (n:Int) _ HB20.out (by have:=j.out.o3;have:=j.out.o4;have:=j.out.o5;omega) om i20c om om om (fun q hq=>by have:=HI20.out.flushed q hq;omega)).mono ?_
    rintro Z w20 hb;obtain⟨rfl,M⟩:=HN20.out _ _ _ hb;replace j:Hid (CS w z (z+1) (z+2) (z+3) (.slice aa a.length ca) (.slice ab b.length cb) a b w20 B u J D ((xaf X).keep n) ((xaf Y).keep n)):=hH M;clear hb M HB20 HN20 HI20 i20a i20b i20c i20d i20e i20l;obtain⟨z0,p0,p1,p2,y0,y1,y2⟩:=j.out.p.q3;obtain⟨zq,r0,r1,r2,x0,x1,x2⟩:=j.out.q.q3;have HCK1:=hH (Qas a3.out j.out.cp N.out HNP1.out);have HCK2:=hH (Qas a2.out j.out.cq Q.out HNQ1.out);have dpb:u<=200:=yay a3.out j.out.cp N.out;have dqb:D<=200:=yay a2.out j.out.cq Q.out;go_wp2;have hx1:=j.out.p.set 2 (.int .i64 ((u:Int)+n));have hcs1:CS w z (z+1) (z+2) (z+3) (.slice aa a.length ca) (.slice ab b.length cb) a b (w20.setCell ⟨z,2,none⟩ (.int .i64 ((u:Int)+n))) B (u+n) J D ((xaf X).keep n) ((xaf Y).keep n):=j.out.stepP ((Wr.refl _ _).put (b:=z) (o:=2) (Kaa.2 ⟨rfl,by simp,by simp⟩) _) (by rw[Int.natCast_add];exact hx1) HCK1.out
    have hx2:=hcs1.q.set 2 (.int .i64 ((D:Int)+n));have hcs2:CS w z (z+1) (z+2) (z+3) (.slice aa a.length ca) (.slice ab b.length cb) a b ((w20.setCell ⟨z,2,none⟩ (.int .i64 ((u:Int)+n))).setCell ⟨(z+1),2,none⟩ (.int .i64 ((D:Int)+n))) B (u+n) J (D+n) ((xaf X).keep n) ((xaf Y).keep n):=hcs1.stepQ ((Wr.refl _ _).put (b:=(z+1)) (o:=2) (Kaa.2 ⟨rfl,by simp,by simp⟩) _) (by rw[Int.natCast_add];exact hx2) HCK2.out
    have htr3:=HTR2.out;simp only[HKp.out,HKq.out]at htr3;go_roundg (mu (qab a B (u+n))+mu (qab b J (D+n)))
    case measure=>have:=HMU.out;have:=U.out;omega
    case rel=>exact⟨B,u+n,J,D+n,(X++[cutL p n]),(Y++[cutL q n]),rfl,(by rw[xak,Zax _ ((vaD p n).trans HKp.out),qa6 n HKP.out,xak,Zax _ ((vaD q n).trans HKq.out),qa6 n HKQ.out];exact hcs2),by rw[HCRp.out,HCRq.out];simpa using htr3⟩
   ·have HKp:=hH kp1;have HKq:=hH kq1;clear kp1 kq1;have a0:=Zad w z (.slice aa a.length ca) a B u _ j.out.p ha (by have:=j.out.o1;have:=j.out.o2;omega) j.out.bel a3.out j.out.cp (Zae.1 a4.out.1).2.1
    rw[HSp.out]at a0;have HC17:=hH a0;clear a0;go_wp2_with fail
    refine HC17.out.mono ?_;rintro Z w17 ⟨k17,d17,R,hx,hc,hr,hw,hs⟩;obtain⟨_,_,I⟩:=hs (by first|trivial|rfl)
    replace j:=hH (j.out.below I);rw[N.out]at R;clear hx hc hr hw I HC17;subst R;try dsimp only[hd,List.headD]
    rw[HKp.out];have a1:=Zad w (z+1) (.slice ab b.length cb) b J D _ j.out.q hb (by have:=j.out.o1;have:=j.out.o2;omega) j.out.bel a2.out j.out.cq (Zae.1 a4.out.2.1).2.1
    rw[HSq.out]at a1;have HC18:=hH a1;clear a1;go_wp2_with fail
    refine HC18.out.mono ?_;rintro Z w18 ⟨k18,d18,R,hx,hc,hr,hw,hs⟩;obtain⟨_,_,I⟩:=hs (by first|trivial|rfl)
    replace j:=hH (j.out.below I);rw[Q.out]at R;clear hx hc hr hw I HC18;subst R;try dsimp only[hd,List.headD]
    rw[HKq.out];obtain⟨fx19,hb19,hn19⟩:=j.out.y;have HB19:=hH hb19;have HN19:=hH hn19;have HI19:=hH (Jaj YOK.out);obtain⟨i19a,i19b,i19c,i19d,i19e⟩:=HI19.out;have i19l:=YLE.out;clear hb19 hn19;go_wp2_with fail
    refine(Qat (z+2) (z+3) (xaf Y) fx19 (n:Int) _ HB19.out i19c om om om).mono ?_;rintro Z w19 hb;obtain⟨rfl,M⟩:=HN19.out _ _ _ hb;replace j:Hid (CS w z (z+1) (z+2) (z+3) (.slice aa a.length ca) (.slice ab b.length cb) a b w19 B u J D (xaf X) ((xaf Y).drops n)):=hH M;clear hb M HB19 HN19 HI19 i19a i19b i19c i19d i19e i19l;obtain⟨z0,p0,p1,p2,y0,y1,y2⟩:=j.out.p.q3;obtain⟨zq,r0,r1,r2,x0,x1,x2⟩:=j.out.q.q3;have HCK1:=hH (Qas a3.out j.out.cp N.out HNP1.out);have HCK2:=hH (Qas a2.out j.out.cq Q.out HNQ1.out);have dpb:u<=200:=yay a3.out j.out.cp N.out;have dqb:D<=200:=yay a2.out j.out.cq Q.out;go_wp2;have hx1:=j.out.p.set 2 (.int .i64 ((u:Int)+n));have hcs1:CS w z (z+1) (z+2) (z+3) (.slice aa a.length ca) (.slice ab b.length cb) a b (w19.setCell ⟨z,2,none⟩ (.int .i64 ((u:Int)+n))) B (u+n) J D (xaf X) ((xaf Y).drops n):=j.out.stepP ((Wr.refl _ _).put (b:=z) (o:=2) (Kaa.2 ⟨rfl,by simp,by simp⟩) _) (by rw[Int.natCast_add];exact hx1) HCK1.out
    have hx2:=hcs1.q.set 2 (.int .i64 ((D:Int)+n));have hcs2:CS w z (z+1) (z+2) (z+3) (.slice aa a.length ca) (.slice ab b.length cb) a b ((w19.setCell ⟨z,2,none⟩ (.int .i64 ((u:Int)+n))).setCell ⟨(z+1),2,none⟩ (.int .i64 ((D:Int)+n))) B (u+n) J (D+n) (xaf X) ((xaf Y).drops n):=hcs1.stepQ ((Wr.refl _ _).put (b:=(z+1)) (o:=2) (Kaa.2 ⟨rfl,by simp,by simp⟩) _) (by rw[Int.natCast_add];exact hx2) HCK2.out
    have htr3:=HTR2.out;simp only[HKp.out,HKq.out]at htr3;go_roundg (mu (qab a B (u+n))+mu (qab b J (D+n)))
    case measure=>have:=HMU.out;have:=U.out;omega
    case rel=>exact⟨B,u+n,J,D+n,X,(Y++[cutL q n]),rfl,(by rw[xak,QaY _ ((vaD q n).trans HKq.out),qa6 n HKQ.out];exact hcs2),by rw[HCRp.out,HCRq.out];simpa using htr3⟩
  ·rcases hkq with kq1|kq1
   ·have HKp:=hH kp1;have HKq:=hH kq1;clear kp1 kq1;have a0:=Zad w z (.slice aa a.length ca) a B u _ j.out.p ha (by have:=j.out.o1;have:=j.out.o2;omega) j.out.bel a3.out j.out.cp (Zae.1 a4.out.1).2.1
    rw[HSp.out]at a0;have HC17:=hH a0;clear a0;go_wp2_with fail
    refine HC17.out.mono ?_;rintro Z w17 ⟨k17,d17,R,hx,hc,hr,hw,hs⟩;obtain⟨_,_,I⟩:=hs (by first|trivial|rfl)
    replace j:=hH (j.out.below I);rw[N.out]at R;clear hx hc hr hw I HC17;subst R;try dsimp only[hd,List.headD]
    rw[HKp.out];have a1:=Zad w (z+1) (.slice ab b.length cb) b J D _ j.out.q hb (by have:=j.out.o1;have:=j.out.o2;omega) j.out.bel a2.out j.out.cq (Zae.1 a4.out.2.1).2.1
    rw[HSq.out]at a1;have HC18:=hH a1;clear a1;go_wp2_with fail
    refine HC18.out.mono ?_;rintro Z w18 ⟨k18,d18,R,hx,hc,hr,hw,hs⟩;obtain⟨_,_,I⟩:=hs (by first|trivial|rfl)
    replace j:=hH (j.out.below I);rw[Q.out]at R;clear hx hc hr hw I HC18;subst R;try dsimp only[hd,List.headD]
    rw[HKq.out];obtain⟨fx19,hb19,hn19⟩:=j.out.x;have HB19:=hH hb19;have HN19:=hH hn19;have HI19:=hH (Jaj XOK.out);obtain⟨i19a,i19b,i19c,i19d,i19e⟩:=HI19.out;have i19l:=XLE.out;clear hb19 hn19;go_wp2_with fail
    refine(Qat (z+2) (z+2) (xaf X) fx19 (n:Int) _ HB19.out i19c om om om).mono ?_;rintro Z w19 hb;obtain⟨rfl,M⟩:=HN19.out _ _ _ hb;replace j:Hid (CS w z (z+1) (z+2) (z+3) (.slice aa a.length ca) (.slice ab b.length cb) a b w19 B u J D ((xaf X).drops n) (xaf Y)):=hH M;clear hb M HB19 HN19 HI19 i19a i19b i19c i19d i19e i19l;obtain⟨z0,p0,p1,p2,y0,y1,y2⟩:=j.out.p.q3;obtain⟨zq,r0,r1,r2,x0,x1,x2⟩:=j.out.q.q3;have HCK1:=hH (Qas a3.out j.out.cp N.out HNP1.out);have HCK2:=hH (Qas a2.out j.out.cq Q.out HNQ1.out);have dpb:u<=200:=yay a3.out j.out.cp N.out;have dqb:D<=200:=yay a2.out j.out.cq Q.out;go_wp2;have hx1:=j.out.p.set 2 (.int .i64 ((u:Int)+n));have hcs1:CS w z (z+1) (z+2) (z+3) (.slice aa a.length ca) (.slice ab b.length cb) a b (w19.setCell ⟨z,2,none⟩ (.int .i64 ((u:Int)+n))) B (u+n) J D ((xaf X).drops n) (xaf Y):=j.out.stepP ((Wr.refl _ _).put (b:=z) (o:=2) (Kaa.2 ⟨rfl,by simp,by simp⟩) _) (by rw[Int.natCast_add];exact hx1) HCK1.out
    have hx2:=hcs1.q.set 2 (.int .i64 ((D:Int)+n));have hcs2:CS w z (z+1) (z+2) (z+3) (.slice aa a.length ca) (.slice ab b.length cb) a b ((w19.setCell ⟨z,2,none⟩ (.int .i64 ((u:Int)+n))).setCell ⟨(z+1),2,none⟩ (.int .i64 ((D:Int)+n))) B (u+n) J (D+n) ((xaf X).drops n) (xaf Y):=hcs1.stepQ ((Wr.refl _ _).put (b:=(z+1)) (o:=2) (Kaa.2 ⟨rfl,by simp,by simp⟩) _) (by rw[Int.natCast_add];exact hx2) HCK2.out
    have htr3:=HTR2.out;simp only[HKp.out,HKq.out]at htr3;go_roundg (mu (qab a B (u+n))+mu (qab b J (D+n)))
    case measure=>have:=HMU.out;have:=U.out;omega
    case rel=>exact⟨B,u+n,J,D+n,(X++[cutL p n]),Y,rfl,(by rw[xak,QaY _ ((vaD p n).trans HKp.out),qa6 n HKP.out];exact hcs2),by rw[HCRp.out,HCRq.out];simpa using htr3⟩
   ·have HKp:=hH kp1;have HKq:=hH kq1;clear kp1 kq1;have a0:=Zad w z (.slice aa a.length ca) a B u _ j.out.p ha (by have:=j.out.o1;have:=j.out.o2;omega) j.out.bel a3.out j.out.cp (Zae.1 a4.out.1).2.1
    rw[HSp.out]at a0;have HC17:=hH a0;clear a0;go_wp2_with fail
    refine HC17.out.mono ?_;rintro Z w17 ⟨k17,d17,R,hx,hc,hr,hw,hs⟩;obtain⟨_,_,I⟩:=hs (by first|trivial|rfl)
    replace j:=hH (j.out.below I);rw[N.out]at R;clear hx hc hr hw I HC17;subst R;try dsimp only[hd,List.headD]
    rw[HKp.out];have a1:=Zad w (z+1) (.slice ab b.length cb) b J D _ j.out.q hb (by have:=j.out.o1;have:=j.out.o2;omega) j.out.bel a2.out j.out.cq (Zae.1 a4.out.2.1).2.1
    rw[HSq.out]at a1;have HC18:=hH a1;clear a1;go_wp2_with fail
    refine HC18.out.mono ?_;rintro Z w18 ⟨k18,d18,R,hx,hc,hr,hw,hs⟩;obtain⟨_,_,I⟩:=hs (by first|trivial|rfl)
    replace j:=hH (j.out.below I);rw[Q.out]at R;clear hx hc hr hw I HC18;subst R;try dsimp only[hd,List.headD]
    rw[HKq.out];obtain⟨z0,p0,p1,p2,y0,y1,y2⟩:=j.out.p.q3;obtain⟨zq,r0,r1,r2,x0,x1,x2⟩:=j.out.q.q3;have HCK1:=hH (Qas a3.out j.out.cp N.out HNP1.out);have HCK2:=hH (Qas a2.out j.out.cq Q.out HNQ1.out);have dpb:u<=200:=yay a3.out j.out.cp N.out;have dqb:D<=200:=yay a2.out j.out.cq Q.out;go_wp2;have hx1:=j.out.p.set 2 (.int .i64 ((u:Int)+n));have hcs1:CS w z (z+1) (z+2) (z+3) (.slice aa a.length ca) (.slice ab b.length cb) a b (w18.setCell ⟨z,2,none⟩ (.int .i64 ((u:Int)+n))) B (u+n) J D (xaf X) (xaf Y):=j.out.stepP ((Wr.refl _ _).put (b:=z) (o:=2) (Kaa.2 ⟨rfl,by simp,by simp⟩) _) (by rw[Int.natCast_add];exact hx1) HCK1.out
    have hx2:=hcs1.q.set 2 (.int .i64 ((D:Int)+n));have hcs2:CS w z (z+1) (z+2) (z+3) (.slice aa a.length ca) (.slice ab b.length cb) a b ((w18.setCell ⟨z,2,none⟩ (.int .i64 ((u:Int)+n))).setCell ⟨(z+1),2,none⟩ (.int .i64 ((D:Int)+n))) B (u+n) J (D+n) (xaf X) (xaf Y):=hcs1.stepQ ((Wr.refl _ _).put (b:=(z+1)) (o:=2) (Kaa.2 ⟨rfl,by simp,by simp⟩) _) (by rw[Int.natCast_add];exact hx2) HCK2.out
    have htr3:=HTR2.out;simp only[HKp.out,HKq.out]at htr3;go_roundg (mu (qab a B (u+n))+mu (qab b J (D+n)))
    case measure=>have:=HMU.out;have:=U.out;omega
    case rel=>exact⟨B,u+n,J,D+n,X,Y,rfl,(by exact hcs2),by rw[HCRp.out,HCRq.out];simpa using htr3⟩
