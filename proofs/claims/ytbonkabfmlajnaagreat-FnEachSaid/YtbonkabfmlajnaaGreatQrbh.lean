/- Leading an operation past others: both walks. -/
import Derived.Test.YtbonkabfmlajnaaGreatQrbg
import Derived.Test.YtbonkabfmlajnaaGreatQrat
set_option maxHeartbeats 4000000
set_option maxRecDepth 100000
set_option linter.defProp false
set_option linter.unusedSimpArgs false
namespace Go.Proofs.YtbonkabfmlajnaaGreat
open Go.RowKit
def qaW (l:List (List zaa))(b:List zaa):List zaa:=match past l b with
 |some z=>z.2
 |none=>[]
def XaO (w:World)(l:List (List zaa))(b:List zaa)(e:Ending)(w':World):Prop:=
 ∃v0 v1,e= .returned (.tuple #[v0,v1,.bool (past l b).isSome])/\uaf w w' v1 (qaW l b)/\Below w w w'
theorem XaO.no {w j:World}{l:List (List zaa)}{b:List zaa}(h:past l b=none)(hb:Below w w j):XaO w l b (.returned (.tuple #[zN,zN,false])) j:=by
 refine⟨_,_,by rw[h];rfl,?_,hb⟩
 unfold qaW;rw[h];exact uaf.empty _ _ _
theorem Zbd {l:List (List zaa)}{b:List zaa}(h:yag b=false):past l b=none:=by unfold past;rw[if_neg (by simp[h])]
theorem Xbf {l:List (List zaa)}{b:List zaa}(h:yag b=true):past l b=qax l b:=if_pos h
theorem uaV {z:List (List zaa)×List zaa}{o x y:List zaa}(h:Kaf o z.2=some (x,y)):Zam (some z) o=some (z.1++[x],y):=by simp[Zam,h]
theorem qaT {z:List (List zaa)×List zaa}{o:List zaa}(h:Kaf o z.2=none):Zam (some z) o=none:=by simp[Zam,h]
theorem ua6 {N_:Nat}(h_:N_=172\/N_=144)(vl vb:Value)(l:List (List zaa))(b:List zaa)(w:World)(hl:RdS w vl l)(hb:RdS w vb b)(hlen:l.length<=1000):Calls Tryz.prog N_ #[vl,vb] w (XaO w l b):=by
 rcases h_ with rfl|rfl
 have Q:Unit:=();have a7:=hH @Xad;have a8:=hH @vaI;go_enter Tryz.func172,Tryz.ntmps172;rotate_left;have Q:Bool:=true;have a7:=hH @jad;have a8:=hH @kaI;go_enter Tryz.func144,Tryz.ntmps144;all_goals
  have hll:=fun w1 ty=>hl.len Tryz.underlying116 w1 ty
  obtain⟨i0,hi,hz0,hz1,hz2⟩:=info_parts jaV;by_cases h1:yag b=true
  rotate_left
  ·have h1:yag b=false:=by simpa using h1
   have HV:=hH (Zbd (l:=l) h1);go_wp2_with fail
   refine(a7.out vb b _ hb).mono ?_;rintro e' w1 ⟨rfl,p⟩;rw[h1];go_wp2;exact bodyPost_ret (v:= .tuple #[zN,zN,false]) (by simp[results,Tryz.results172,Tryz.results144,go_sem, *]) rfl (XaO.no HV.out p)
  have HV:=hH (Xbf (l:=l) h1);go_wp2_with fail
  refine(a7.out vb b _ hb).mono ?_;rintro e' w1 ⟨rfl,p⟩;rw[h1];have s1:=p.size;go_wp2_with fail
  first
  |have:Unit:=Q
   clear this;refine(yaD vb b _ (hb.below ((p.alloc s1 _)))).mono ?_
  |refine(xaE vb b _ (hb.below p)).mono ?_
  rintro e' w2 ⟨v2,rfl,a3,a2⟩;first
  |have:Unit:=Q
   clear this;have HB2:=hH (((p.alloc s1 _)).trans (a2.mono ((by simp;omega))))
   have HO2:Hid (uaf w w2 v2 (Qak b)):=hH (a3.mono ((by simp;omega)))
  |have HB2:=hH ((p).trans (a2.mono s1))
   have HO2:Hid (uaf w w2 v2 (Qak b)):=hH (a3.mono s1)
  clear a3 p a2 s1;go_wp2_with fail
  first
  |have:Unit:=Q
   clear this;go_loopw [7,8,22] (fun u y i wr=>∃(k:Nat) (U y':Value) (z:List (List zaa)×List zaa),U=u/\y'=y/\k<=l.length/\i= .int .i64 k/\qax (l.take k) b=some z/\z.1.length=k/\uaf w wr U z.1/\uaf w wr y' z.2/\Below w w wr) (fun _ _ i _=>l.length-(intOf i).toNat)
  |go_loopw [7,8,21] (fun u y i wr=>∃(k:Nat) (U y':Value) (z:List (List zaa)×List zaa),U=u/\y'=y/\k<=l.length/\i= .int .i64 k/\qax (l.take k) b=some z/\z.1.length=k/\uaf w wr U z.1/\uaf w wr y' z.2/\Below w w wr) (fun _ _ i _=>l.length-(intOf i).toNat)
  case atStart=>exact⟨0,_,_,([],Qak b),rfl,rfl,lz _,rfl,rfl,rfl,uaf.empty _ _ _,HO2.out,HB2.out⟩
  case round=>
   obtain⟨k,U,y',z,rfl,rfl,hk,rfl,hx,a6,hu,hy,D⟩:=hrel;have J:=D.size;by_cases hlt:k<l.length
   ·obtain⟨o,ho⟩:=Jaa hlt;obtain⟨b1,o1,cs,g1,g2,g3⟩:=(hl.below D).idx Tryz.underlying116 szPS k ho;obtain⟨fp,v_o,rfl,a9⟩:=g3;have q0:=g2.one;obtain⟨ao,co,rfl⟩:=RdS.isSlice ⟨_,a9⟩;have a5:=Ka1 (b:=b) ho;rw[hx]at a5;have HST:=hH a5;have HU:=hH hu;have HY:=hH hy;have HZL:=hH a6;have I:=hH D;have HRO:Hid (RdS wr (.slice ao o.length co) o):=hH ⟨_,a9⟩;clear hx ho hu hy a6 a9 a5 D;rcases ht:Kaf o z.2 with _|⟨x,y⟩
    ·have HN:Hid (past l b=none):=hH (by rw[HV.out];exact Ka0 (k:=k+1) (by rw[HST.out,qaT ht]))
     have HI:Hid ((Kaf o z.2).isSome=false):=hH (by rw[ht];rfl)
     clear ht;go_wp2_with fail
     refine(a8.out _ _ o z.2 _ HRO.out (let⟨_,h,_⟩:=HY.out;⟨_,h⟩)).mono ?_
     rintro e' w3 ⟨v0,v1,rfl,M,N,B⟩;rw[HI.out];have HB3:=hH (I.out.trans (B.mono J));clear M N B;go_wp2;exact bodyPost_ret (v:= .tuple #[zN,zN,false]) (by simp[results,Tryz.results172,Tryz.results144,go_sem, *]) rfl (XaO.no HN.out HB3.out)
    ·have HS2:Hid (qax (l.take (k+1)) b=some (z.1++[x],y)):=hH (by rw[HST.out,uaV ht])
     have HI:Hid ((Kaf o z.2).isSome=true/\tfX o z.2=x/\tfY o z.2=y):=hH ⟨by rw[ht];rfl,by unfold tfX;rw[ht],by unfold tfY;rw[ht]⟩
     clear ht;obtain⟨fs,R,hfs⟩:=HU.out.row;have j:=hH R;have HFS:=hH hfs;clear R hfs;go_wp2_with fail
     refine(a8.out _ _ o z.2 _ HRO.out (let⟨_,h,_⟩:=HY.out;⟨_,h⟩)).mono ?_
     rintro e' w3 ⟨v0,v1,rfl,M,N,B⟩;rw[HI.out.1];rw[HI.out.2.1]at M;rw[HI.out.2.2]at N;obtain⟨fx,a4,hfr⟩:=M;obtain⟨a1,c1,rfl⟩:=RdS.isSlice ⟨_,a4⟩;obtain⟨fy,hyd,hyf⟩:=N;have Y:=hH B;have s3:=B.size;have HFR:=hH hfr;have Z:=hH a4;have a0:=hH hyd;have HYF:=hH hyf;have hkl:z.1.length<=1000:=by have:=HZL.out;omega
     clear B hfr a4 hyd hyf;go_wp2_with (at_builtin;go_must (refine qaa rfl _ _ 116 rfl Tryz.underlying116 hi hz0 hz1 hz2 rfl rfl rfl ((j.out.below Y.out).below ((lf _ _).alloc (lr _) _)) (Zac (x:=x) 30 ⟨_,rfl,Z.out⟩) (fun q hq hm=>by have e1:=HFR.out.ge q hq;have e2:=Live.lt (Live.append.1 j.out.1.live).1 q hm;omega) ?c1 ?c2 ?c3 ?_))
     case c1=>simp at hkl⊢;exact Xab om
     case c2=>simp at hkl⊢;omega
     case c3=>simp;omega
     intro v' w4 hr hw _;have HO:Hid (uaf w w4 v' (z.1++[x])):=hH (Row.grown j.out HFS.out (Y.out.alloc s3 _) (HFR.out.belowL ((lf _ _).alloc (lr _) _) (Live.lt Z.out.live)) (Z.out.belowW ((lf _ _).alloc (lr _) _)).live J hr hw);have hyo:∀q∈fy,q∉rowP (GoT.n (List zaa)) U:=fun q hq hm=>by have e1:=HYF.out.ge q hq;have e2:=Live.lt (Live.append.1 j.out.1.live).1 q hm;omega
     have HY4:Hid (uaf w w4 v1 y):=hH ⟨fy,(a0.out.belowW ((lf _ _).alloc (lr _) _)).wr hw hyo,(hw.fresh (a0.out.belowW ((lf _ _).alloc (lr _) _)).live (HYF.out.belowL ((lf _ _).alloc (lr _) _) (Live.lt a0.out.live))).mono J⟩;have HB4:Hid (Below w w w4):=hH (Zaf I.out (wrb (C:=w) hw (Y.out.alloc s3 _) J (fun q hq=>j.out.2.1.ge q hq)) (lr _))
     clear hr hw hyo;go_wp2;go_roundw
     case rel=>exact⟨k+1,_,_,(z.1++[x],y),rfl,rfl,by omega,by go_num,HS2.out,by simp[HZL.out],HO.out,HY4.out,HB4.out⟩
     case measure=>simp[intOf];omega
   ·obtain rfl:k=l.length:=om;rw[List.take_length]at hx;have HX:Hid (past l b=some z):=hH (by rw[HV.out];exact hx)
    have HE:Hid (qaW l b=z.2):=hH (by unfold qaW;rw[HX.out])
    have HY:=hH hy;have I:=hH D;clear hx hu hy a6 D;go_wp2;refine bodyPost_ret (v:= .tuple #[U,y',true]) (by simp[results,Tryz.results172,Tryz.results144,go_sem, *]) rfl ⟨_,_,by rw[HX.out];rfl,?_,I.out⟩
    rw[HE.out];exact HY.out
def xa1:=@ua6 172 (.inl rfl)
def Xa1:=@ua6 144 (.inr rfl)
theorem ka4 {u:Nat}(N:u=163\/u=119)(z vb:Value)(l:List (List zaa))(b:List zaa)(w:World)(Q:RdS w z l)(hb:RdS w vb b)(n:l.length<=1000):Calls Tryz.prog u #[z,vb] w (fun e D=>∃q,e= .returned (.tuple #[q,.bool (past l b).isSome])/\uaf w D q (qaW l b)/\Below w w D):=by
 rcases N with rfl|rfl
 have p:=hH @xa1;go_enter Tryz.func163,Tryz.ntmps163;rotate_left;have p:=hH @Xa1;go_enter Tryz.func119,Tryz.ntmps119;all_goals
  have J:=hH (p.out z vb l b w Q hb n);go_wp2_with fail
  refine J.out.mono ?_;rintro R Y ⟨U,q,rfl,B,j⟩;have M:=hH B;have I:=hH j;clear B j;go_wp2;exact bodyPost_ret (v:= .tuple #[q,.bool (past l b).isSome]) (by simp[results,Tryz.results163,Tryz.results119,go_sem, *]) rfl ⟨_,rfl,M.out,I.out⟩
def qa2:=@ka4 163 (.inl rfl)
def Qa1:=@ka4 119 (.inr rfl)
end Go.Proofs.YtbonkabfmlajnaaGreat
namespace Go.Proofs.YtbonkabfmlajnaaGreat
open Go.RowKit
theorem xaZ {d:Xac}{base:Int}{o:List zaa}(h:¬(Qad d=true/\yag o=true)):Xaa d base o=([],1):=if_neg h
theorem XaV {d:Xac}{base:Int}{o:List zaa}(h:Qad d=true/\yag o=true)(j:yaa d<base):Xaa d base o=([],2):=by unfold Xaa;rw[if_pos h,if_pos j]
theorem za7 {d:Xac}{base:Int}{o:List zaa}(h:Qad d=true/\yag o=true)(j:¬yaa d<base)(n:base<d.from_):Xaa d base o=([],3):=by unfold Xaa;rw[if_pos h,if_neg j,if_pos n]
theorem Qa0 {d:Xac}{base:Int}{o:List zaa}(h:Qad d=true/\yag o=true)(j:¬yaa d<base)(n:¬base<d.from_)(p:¬kad o=(uan d base).1.length):Xaa d base o=([],1):=by unfold Xaa;rw[if_pos h,if_neg j,if_neg n,if_neg p]
theorem zaX {d:Xac}{base:Int}{o:List zaa}(h:Qad d=true/\yag o=true)(j:¬yaa d<base)(n:¬base<d.from_)(p:kad o=(uan d base).1.length)(q:past (jaj d base).1 o=none):Xaa d base o=([],5):=by unfold Xaa;rw[if_pos h,if_neg j,if_neg n,if_pos p,q]
theorem ja7 {d:Xac}{base:Int}{o:List zaa}{z:List (List zaa)×List zaa}(h:Qad d=true/\yag o=true)(j:¬yaa d<base)(n:¬base<d.from_)(p:kad o=(uan d base).1.length)(q:past (jaj d base).1 o=some z):Xaa d base o=(z.2,0):=by unfold Xaa;rw[if_pos h,if_neg j,if_neg n,if_pos p,q]
theorem ua4 {d:Xac}{base:Int}(h:Qad d=true)(j:¬yaa d<base)(n:¬base<d.from_):uau d base:=⟨h,by omega,by omega⟩
theorem ZaS {N_:Nat}(h_:N_=152\/N_=82)(d:Xac)(J D I:Value)(base:Int)(vo:Value)(o:List zaa)(w:World)(B:d.name.size<=BIG)(u:RdS w J d.text)(p:RdS w D d.list)(q:RdS w I d.seen)(ho:RdS w vo o):
 Calls Tryz.prog N_ #[.agg #[d.name,d.from_,J,D,I],base,vo] w (Za2 w (Xaa d base o).1 (Xaa d base o).2):=by
 rcases h_ with rfl|rfl
 have Q:Unit:=();have k_1:=hH @kal;have k_2:=hH @Xad;have k_3:=hH @Qav;have k_4:=hH @Qaj;have k_5:=hH @XaN;have k_6:=hH @qa2;go_enter Tryz.func152,Tryz.ntmps152;rotate_left;have Q:Bool:=true;have k_1:=hH @zal;have k_2:=hH @jad;have k_3:=hH @uaC;have k_4:=hH @jai;have k_5:=hH @XaJ;have k_6:=hH @Qa1;go_enter Tryz.func82,Tryz.ntmps82;all_goals
  go_wp2_with fail
  refine(k_1.out d _ _ _ _ B (u.below ((lf w w).alloc om _)) (p.below ((lf w w).alloc om _)) (q.below ((lf w w).alloc om _))).mono ?_;rintro e' w1 ⟨rfl,hb1⟩;have s1:w+1<=w1.heap.size:=szl hb1;have j:=hH (((lf w w).alloc om _).trans (hb1.mono om));have n:Hid (Bx w1 w [d.name,d.from_,J,D,I]):=hH ((Bx.new (by first|rfl|simp|omega)).at hb1)
  have Kd:=n.out.o5;clear hb1;by_cases h1:Qad d=true
  rotate_left
  ·have h1:Qad d=false:=by simpa using h1
   rw[h1];have U:=hH (xaZ (base:=base) (o:=o) (d:=d) fun h=>by rw[h1]at h;cases h.1)
   go_wp2;have R:Hid (Below w w w1):=hH j.out;rw[U.out];exact bodyPost_ret (v:= .tuple #[zN,.int .i64 1]) (by simp[results,Tryz.results152,Tryz.results82,go_sem, *]) rfl ⟨_,_,rfl,Sl.nil,Qaa.nil _ _,R.out⟩
  rw[h1];go_wp2_with fail
  refine(k_2.out _ o _ (ho.below j.out)).mono ?_;rintro e' w2 ⟨rfl,hb2⟩;have s2:w1<=w2.heap.size:=szl hb2;replace j:=hH (j.out.trans (hb2.mono om));replace n:=hH (n.out.at hb2);replace Kd:=n.out.o5;clear hb2;by_cases h2:yag o=true
  rotate_left
  ·have h2:yag o=false:=by simpa using h2
   rw[h2];have U:=hH (xaZ (base:=base) (o:=o) (d:=d) fun h=>by rw[h2]at h;cases h.2)
   go_wp2;have R:Hid (Below w w w2):=hH j.out;rw[U.out];exact bodyPost_ret (v:= .tuple #[zN,.int .i64 1]) (by simp[results,Tryz.results152,Tryz.results82,go_sem, *]) rfl ⟨_,_,rfl,Sl.nil,Qaa.nil _ _,R.out⟩
  rw[h2];obtain⟨bh0,bh1,bf0,bf1⟩:=yaf h1;have a0:=hH (And.intro h1 h2);go_wp2_with fail
  first
  |have:Unit:=Q
   clear this;refine(Jab d _ _ _ _ (p.below j.out) om om).mono ?_
  |refine(Xaq d _ _ _ base _ (p.below j.out) om om).mono ?_
  rintro e' w3 ⟨rfl,hb3⟩;have s3:w2<=w3.heap.size:=szl hb3;replace j:=hH (j.out.trans (hb3.mono om));replace n:=hH (n.out.at hb3);replace Kd:=n.out.o5;clear hb3;by_cases h3:yaa d<base
  ·first
   |have:Unit:=Q
    clear this
   |have N:Jap d base=2:=by unfold Jap;rw[if_pos h3]
    rw[N];clear N
   have U:=hH (XaV a0.out h3);go_wp2;have R:Hid (Below w w w3):=hH j.out;rw[U.out];exact bodyPost_ret (v:= .tuple #[zN,.int .i64 2]) (by simp[results,Tryz.results152,Tryz.results82,go_sem, *]) rfl ⟨_,_,rfl,Sl.nil,Qaa.nil _ _,R.out⟩
  by_cases h4:base<d.from_
  ·first
   |have:Unit:=Q
    clear this
   |have N:Jap d base=3:=by unfold Jap;rw[if_neg h3,if_pos h4]
    rw[N];clear N
   have U:=hH (za7 a0.out h3 h4);go_wp2;have R:Hid (Below w w w3):=hH j.out;rw[U.out];exact bodyPost_ret (v:= .tuple #[zN,.int .i64 3]) (by simp[results,Tryz.results152,Tryz.results82,go_sem, *]) rfl ⟨_,_,rfl,Sl.nil,Qaa.nil _ _,R.out⟩
  first
  |have:Unit:=Q
   clear this
  |have N:Jap d base=0:=by unfold Jap;rw[if_neg h3,if_neg h4]
   rw[N];clear N
  have HAR:=hH (ua4 h1 h3 h4);have H3:Hid (base<=yaa d):=hH om;have H4:Hid (d.from_<=base):=hH om;go_wp2_with fail
  refine(k_3.out d _ _ _ base _ B (u.below j.out) (p.below j.out) (q.below j.out)).mono ?_;rintro e' w4 ⟨vt,ft,rfl,st,kt,hb4⟩;have HST:=hH st;obtain⟨at_,ct,rfl⟩:=RdS.isSlice ⟨_,st⟩
  clear st kt;have s4:w3<=w4.heap.size:=szl hb4;replace j:=hH (j.out.trans (hb4.mono om));replace n:=hH (n.out.at hb4);replace Kd:=n.out.o5;clear hb4;go_wp2_with fail
  refine(k_4.out _ o _ (ho.below j.out)).mono ?_;rintro e' w5 ⟨rfl,hb5⟩;have s5:w4<=w5.heap.size:=szl hb5;replace j:=hH (j.out.trans (hb5.mono om));replace n:=hH (n.out.at hb5);replace Kd:=n.out.o5;clear hb5;by_cases h5:kad o=((uan d base).1.length:Int)
  rotate_left
  ·have U:=hH (Qa0 a0.out (Int.not_lt.2 H3.out) (Int.not_lt.2 H4.out) h5);have h5b:(kad o==((uan d base).1.length:Int))=false:=by simpa using h5
   clear h5;go_wp2;have R:Hid (Below w w w5):=hH j.out;rw[U.out];exact bodyPost_ret (v:= .tuple #[zN,.int .i64 1]) (by simp[results,Tryz.results152,Tryz.results82,go_sem, *]) rfl ⟨_,_,rfl,Sl.nil,Qaa.nil _ _,R.out⟩
  have H5:=hH h5;have h5b:(kad o==((uan d base).1.length:Int))=true:=by simpa using h5
  have HLN:Hid ((jaj d base).1.length<=1000):=hH (by rw[Kaw HAR.out];have:=(jaf.1 h1).len;simp[xaq];omega)
  clear h5;go_wp2_with fail
  refine(k_5.out d _ _ _ base _ B (u.below j.out) (p.below j.out) (q.below j.out)).mono ?_;rintro e' w6 ⟨vl,fl,rfl,sl,kl,hb6⟩;have HSL:Hid (RdS w6 vl (jaj d base).1):=hH ⟨_,sl⟩;clear sl kl;have s6:w5<=w6.heap.size:=szl hb6;replace j:=hH (j.out.trans (hb6.mono om));replace n:=hH (n.out.at hb6);replace Kd:=n.out.o5;clear hb6;go_wp2_with fail
  refine(k_6.out _ _ _ o _ HSL.out (ho.below j.out) HLN.out).mono ?_;rintro e' w7 ⟨vp,rfl,hop,hb7⟩;have HOP:Hid (uaf w w7 vp (qaW (jaj d base).1 o)):=hH (hop.mono om);clear hop HSL;have s7:w6<=w7.heap.size:=szl hb7;replace j:=hH (j.out.trans (hb7.mono om));replace n:=hH (n.out.at hb7);replace Kd:=n.out.o5;clear hb7;rcases hp:past (jaj d base).1 o with _|z
  ·have U:=hH (zaX a0.out (Int.not_lt.2 H3.out) (Int.not_lt.2 H4.out) H5.out hp);clear hp;try dsimp only[Option.isSome]
   go_wp2;have R:Hid (Below w w w7):=hH j.out;rw[U.out];exact bodyPost_ret (v:= .tuple #[zN,.int .i64 5]) (by simp[results,Tryz.results152,Tryz.results82,go_sem, *]) rfl ⟨_,_,rfl,Sl.nil,Qaa.nil _ _,R.out⟩
  have U:=hH (ja7 a0.out (Int.not_lt.2 H3.out) (Int.not_lt.2 H4.out) H5.out hp);have HPY:Hid (qaW (jaj d base).1 o=z.2):=hH (by unfold qaW;rw[hp])
  have HAP:Hid ((zab z.2 (vae d)).2=true):=hH (kaS HAR.out h2 H5.out hp);clear hp;try dsimp only[Option.isSome]
  obtain⟨fp,sp,kp⟩:=HOP.out;have M:Hid (Sl BIG w7 vp z.2 fp):=hH (by rw[<-HPY.out];exact sp)
  have a1:=hH kp;clear sp kp;first
  |have:Unit:=Q
   clear this;go_wp2_with fail
   refine(uar d _ _ _ _ B (u.below j.out) (p.below j.out) (q.below j.out)).mono ?_;rintro e' w8 ⟨vh,fh,rfl,sh,kh,Y⟩;have HSH:Hid (RdS w8 vh (vae d)):=hH ⟨_,sh⟩;replace a1:=hH (a1.out.belowL Y (Live.lt M.out.live));replace M:=hH (M.out.belowW Y);clear sh kh;have s8:w7<=w8.heap.size:=szl Y;replace j:=hH (j.out.trans (Y.mono om));replace n:=hH (n.out.at Y);replace Kd:=n.out.o5;clear Y;go_wp2_with fail
   refine(jal z.2 (vae d) _ _ _ ⟨_,M.out⟩ HSH.out).mono ?_;rintro e' w9 ⟨va,fa,rfl,sa,ka,Z⟩;rw[HAP.out];replace a1:=hH (a1.out.belowL Z (Live.lt M.out.live));replace M:=hH (M.out.belowW Z);clear sa ka;have s9:w8<=w9.heap.size:=szl Z;replace j:=hH (j.out.trans (Z.mono om));replace n:=hH (n.out.at Z);replace Kd:=n.out.o5;clear Z
  |skip
  go_wp2;first
  |have:Unit:=Q
   clear this;have R:Hid (Below w w w9):=hH j.out
  |have R:Hid (Below w w w7):=hH j.out
  rw[U.out];exact bodyPost_ret (v:= .tuple #[vp,zI]) (by simp[results,Tryz.results152,Tryz.results82,go_sem, *]) rfl ⟨_,fp,rfl,M.out,a1.out,R.out⟩
def kaU:=@ZaS 152 (.inl rfl)
def vaU:=@ZaS 82 (.inr rfl)
theorem XaX:∀{o:List zaa},o.all kab=true->szL o<=201*o.length
 |[],_=>by simp[szL,szs]
 |p::l,h=>by
  simp only[List.all_cons,Bool.and_eq_true]at h;have n:=XaX h.2;have q:p.signs.length<=200:=by
   rcases Zab h.1 with⟨_,_,_,j⟩|⟨_,_,j,_⟩|⟨_,_,_,j⟩
   ·rw[j];simp
   ·exact j
   ·rw[j];simp
  have e:GoS.sz p=p.signs.length:=vaT p.signs;simp only[szL,szs,List.length_cons]at n⊢;omega
theorem kaC {d:Xac}{base:Int}{o:List zaa}(h:(Xaa d base o).2=0):yag (Xaa d base o).1=true/\Jan (Xaa d base o).1=true/\(zab (Xaa d base o).1 (vae d)).2=true:=by
 unfold Xaa at h⊢;split at h
 ·rename_i j
  rw[if_pos j];split at h
  ·simp at h
  ·rename_i p
   rw[if_neg p];split at h
   ·simp at h
   ·rename_i q
    rw[if_neg q];split at h
    ·rename_i n
     rw[if_pos n];rcases hp:past (jaj d base).1 o with _|z
     ·rw[hp]at h;simp at h
     ·simp only;have u:=ua4 j.1 p q;obtain⟨B,D,_⟩:=zaY u j.2 n hp;exact⟨B,D,kaS u j.2 n hp⟩
    ·simp at h
 ·simp at h
end Go.Proofs.YtbonkabfmlajnaaGreat
namespace Go.Proofs.YtbonkabfmlajnaaGreat
open Go.RowKit
def Two {α β:Type}[GoT α][GoT β](C D:Nat)(w:World)(v1 v2:Value)(l1:List α)(l2:List β)(f1 f2:List Pos):Prop:=Sl BIG w v1 l1 f1/\Sl BIG w v2 l2 f2/\Qaa C w (f1++f2)/\∀p∈f1++f2,p.1<D
section
variable {α β:Type} [GoT α] [GoT β] {C D:Nat} {w w':World} {v1 v2:Value} {l1:List α} {l2:List β} {f1 f2:List Pos}
theorem Two.block (h:Two C D w v1 v2 l1 l2 f1 f2)(q:∀k,C<=k->k<D->w'.heap[k]? =w.heap[k]?):Two C D w' v1 v2 l1 l2 f1 f2:=by
 obtain⟨a,b,c,d⟩:=h;have n:∀p∈f1++f2,w'.cell? ⟨p.1,p.2,none⟩=w.cell? ⟨p.1,p.2,none⟩:=fun p j=>by simp only[World.cell?];rw[q p.1 (c.ge p j) (d p j)]
 have u:∀p∈f1++f2,w'.frozen? ⟨p.1,p.2,none⟩=w.frozen? ⟨p.1,p.2,none⟩:=fun p j=>by simp only[World.frozen?];rw[q p.1 (c.ge p j) (d p j)]
 exact⟨a.keep fun p j=>n p (lu _ j),b.keep fun p j=>n p (lw _ j),⟨c.nodup,c.ge,fun p j=>(u p j).trans (c.free p j)⟩,d⟩
theorem Two.below (h:Two C D w v1 v2 l1 l2 f1 f2)(hb:Below D w w'):Two C D w' v1 v2 l1 l2 f1 f2:=h.block fun k _ j=>hb.block k j
theorem Two.setCell {b o:Nat}(h:Two C D w v1 v2 l1 l2 f1 f2)(p:b<C\/D<=b)(u:Value):Two C D (w.setCell ⟨b,o,none⟩ u) v1 v2 l1 l2 f1 f2:=h.block fun k j n=>Below.heap_setCell w ⟨b,o,none⟩ u k (by show k≠b;omega)
theorem Two.alloc (h:Two C D w v1 v2 l1 l2 f1 f2)(j:D<=w.heap.size)(o:Obj):Two C D (w.alloc o) v1 v2 l1 l2 f1 f2:=h.below ((lf _ _).alloc j o)
theorem Two.drew (h:Two C D w v1 v2 l1 l2 f1 f2):Two C D w.drew v1 v2 l1 l2 f1 f2:=h.block fun _ _ _=>rfl
end
