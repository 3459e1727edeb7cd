/- Leading an operation past others: both walks. -/
import Derived.Test.YtocdogemgojgaaaGreatItf
import Derived.Test.YtocdogemgojgaaaGreatDcp
set_option maxHeartbeats 4000000
set_option maxRecDepth 100000
namespace Go.Proofs.YtocdogemgojgaaaGreat
open Go.RowKit
def pastY (l:List (List DPart))(b:List DPart):List DPart:=match past l b with
 |some z=>z.2
 |none=>[]
def OutPast (w:World)(l:List (List DPart))(b:List DPart)(e:Ending)(w':World):Prop:=
 ∃v0 v1,e= .returned (.tuple #[v0,v1,.bool (past l b).isSome])/\OwnS w.heap.size w' v1 (pastY l b)/\Below w.heap.size w w'
theorem OutPast.no {w j:World}{l:List (List DPart)}{b:List DPart}(h:past l b=none)(hb:Below w.heap.size w j):OutPast w l b (.returned (.tuple #[.slice none 0 0,.slice none 0 0,.bool false])) j:=by
 refine⟨_,_,by rw[h];rfl,?_,hb⟩
 unfold pastY;rw[h];exact OwnS.empty _ _ _
theorem past_bad {l:List (List DPart)}{b:List DPart}(h:opOk b=false):past l b=none:=by unfold past;rw[if_neg (by simp[h])]
theorem past_ok {l:List (List DPart)}{b:List DPart}(h:opOk b=true):past l b=pastTo l b:=if_pos h
theorem pastStep_some {z:List (List DPart)×List DPart}{o x y:List DPart}(h:transform o z.2=some (x,y)):pastStep (some z) o=some (z.1++[x],y):=by simp[pastStep,h]
theorem pastStep_none {z:List (List DPart)×List DPart}{o:List DPart}(h:transform o z.2=none):pastStep (some z) o=none:=by simp[pastStep,h]
theorem spec_past_c (vl vb:Value)(l:List (List DPart))(b:List DPart)(w:World)(hl:RdS w vl l)(hb:RdS w vb b)(hlen:l.length<=1000):Calls Tryz.prog 231 #[vl,vb] w (OutPast w l b):=by
 have hll:=fun w1 ty=>hl.len Tryz.underlying164 w1 ty
 obtain⟨i0,hi,hz0,hz1,hz2⟩:=info_parts info_ops;by_cases h1:opOk b=true
 rotate_left
 ·have h1:opOk b=false:=by simpa using h1
  have HV:=hH (past_bad (l:=l) h1);go_enter Tryz.func231,Tryz.ntmps231
  go_wp2_with fail
  refine(spec_OpOk_c vb b _ hb).mono ?_;rintro e' w1 ⟨rfl,p⟩;rw[h1];go_wp2;exact bodyPost_ret (v:= .tuple #[.slice none 0 0,.slice none 0 0,.bool false]) (by simp[results,Tryz.results231,go_sem, *]) rfl (OutPast.no HV.out p)
 have HV:=hH (past_ok (l:=l) h1);go_enter Tryz.func231,Tryz.ntmps231
 go_wp2_with fail
 refine(spec_OpOk_c vb b _ hb).mono ?_;rintro e' w1 ⟨rfl,p⟩;rw[h1];have s1:=p.size;go_wp2_with fail
 refine(spec_OpNorm_c vb b _ (hb.below ((p.alloc s1 _)))).mono ?_;rintro e' w2 ⟨v2,rfl,ho2,hb2⟩;have HB2:=hH (((p.alloc s1 _)).trans (hb2.mono ((by simp;omega))))
 have HO2:Hid (OwnS w.heap.size w2 v2 (opNorm b)):=hH (ho2.mono ((by simp;omega)))
 clear ho2 p hb2 s1;go_wp2_with fail
 go_loopw [7,8,22] (fun u y i wr=>∃(k:Nat) (u' y':Value) (z:List (List DPart)×List DPart),u'=u/\y'=y/\k<=l.length/\i= .int .i64 k/\pastTo (l.take k) b=some z/\z.1.length=k/\OwnS w.heap.size wr u' z.1/\OwnS w.heap.size wr y' z.2/\Below w.heap.size w wr) (fun _ _ i _=>l.length-(intOf i).toNat)
 case atStart=>exact⟨0,_,_,([],opNorm b),rfl,rfl,lz _,rfl,rfl,rfl,OwnS.empty _ _ _,HO2.out,HB2.out⟩
 case round=>
  obtain⟨k,u',y',z,rfl,rfl,hk,rfl,hx,a2,hu,hy,D⟩:=hrel;have J:=D.size;by_cases hlt:k<l.length
  ·obtain⟨o,ho⟩:=get_some hlt;obtain⟨b1,o1,cs,g1,g2,g3⟩:=(hl.below D).idx Tryz.underlying164 szPS k ho;obtain⟨fp,v_o,rfl,a3⟩:=g3;have q0:=g2.one;obtain⟨ao,co,rfl⟩:=RdS.isSlice ⟨_,a3⟩;have a0:=pastTo_snoc (b:=b) ho;rw[hx]at a0;have HST:=hH a0;have HU:=hH hu;have HY:=hH hy;have HZL:=hH a2;have I:=hH D;have HRO:Hid (RdS wr (.slice ao o.length co) o):=hH ⟨_,a3⟩;clear hx ho hu hy a2 a3 a0 D;rcases ht:transform o z.2 with _|⟨x,y⟩
   ·have HN:Hid (past l b=none):=hH (by rw[HV.out];exact pastTo_none (k:=k+1) (by rw[HST.out,pastStep_none ht]))
    have HI:Hid ((transform o z.2).isSome=false):=hH (by rw[ht];rfl)
    clear ht;go_wp2_with fail
    refine(spec_Transform_c _ _ o z.2 _ HRO.out (let⟨_,h,_⟩:=HY.out;⟨_,h⟩)).mono ?_
    rintro e' w3 ⟨v0,v1,rfl,M,N,B⟩;rw[HI.out];have HB3:=hH (I.out.trans (B.mono J));clear M N B;go_wp2;exact bodyPost_ret (v:= .tuple #[.slice none 0 0,.slice none 0 0,.bool false]) (by simp[results,Tryz.results231,go_sem, *]) rfl (OutPast.no HN.out HB3.out)
   ·have HS2:Hid (pastTo (l.take (k+1)) b=some (z.1++[x],y)):=hH (by rw[HST.out,pastStep_some ht])
    have HI:Hid ((transform o z.2).isSome=true/\tfX o z.2=x/\tfY o z.2=y):=hH ⟨by rw[ht];rfl,by unfold tfX;rw[ht],by unfold tfY;rw[ht]⟩
    clear ht;obtain⟨fs,Q,hfs⟩:=HU.out.row;have j:=hH Q;have HFS:=hH hfs;clear Q hfs;go_wp2_with fail
    refine(spec_Transform_c _ _ o z.2 _ HRO.out (let⟨_,h,_⟩:=HY.out;⟨_,h⟩)).mono ?_
    rintro e' w3 ⟨v0,v1,rfl,M,N,B⟩;rw[HI.out.1];rw[HI.out.2.1]at M;rw[HI.out.2.2]at N;obtain⟨fx,Z,hfr⟩:=M;obtain⟨a1,c1,rfl⟩:=RdS.isSlice ⟨_,Z⟩;obtain⟨fy,hyd,hyf⟩:=N;have R:=hH B;have s3:=B.size;have HFR:=hH hfr;have U:=hH Z;have Y:=hH hyd;have HYF:=hH hyf;have hkl:z.1.length<=1000:=by have:=HZL.out;omega
    clear B hfr Z hyd hyf;go_wp2_with (at_builtin;go_must (refine wpList_append_row rfl _ _ 164 rfl Tryz.underlying164 hi hz0 hz1 hz2 rfl rfl rfl ((j.out.below R.out).below ((lf _ _).alloc (lr _) _)) (src_built (x:=x) 30 ⟨_,rfl,U.out⟩) (fun q hq hm=>by have e1:=HFR.out.ge q hq;have e2:=Live.lt (Live.append.1 j.out.1.live).1 q hm;omega) ?c1 ?c2 ?c3 ?_))
    case c1=>simp at hkl⊢;exact le_BIG (by omega)
    case c2=>simp at hkl⊢;omega
    case c3=>simp;omega
    intro v' w4 hr hw _;have HO:Hid (OwnS w.heap.size w4 v' (z.1++[x])):=hH (Row.grown j.out HFS.out (R.out.alloc s3 _) (HFR.out.belowL ((lf _ _).alloc (lr _) _) (Live.lt U.out.live)) (U.out.belowW ((lf _ _).alloc (lr _) _)).live J hr hw);have hyo:∀q∈fy,q∉rowP (GoT.n (List DPart)) u':=fun q hq hm=>by have e1:=HYF.out.ge q hq;have e2:=Live.lt (Live.append.1 j.out.1.live).1 q hm;omega
    have HY4:Hid (OwnS w.heap.size w4 v1 y):=hH ⟨fy,(Y.out.belowW ((lf _ _).alloc (lr _) _)).wr hw hyo,(hw.fresh (Y.out.belowW ((lf _ _).alloc (lr _) _)).live (HYF.out.belowL ((lf _ _).alloc (lr _) _) (Live.lt Y.out.live))).mono J⟩;have HB4:Hid (Below w.heap.size w w4):=hH (below_after2 I.out (wrb (C:=w.heap.size) hw (R.out.alloc s3 _) J (fun q hq=>j.out.2.1.ge q hq)) (lr _))
    clear hr hw hyo;go_wp2;go_roundw
    case rel=>exact⟨k+1,_,_,(z.1++[x],y),rfl,rfl,by omega,by go_num,HS2.out,by simp[HZL.out],HO.out,HY4.out,HB4.out⟩
    case measure=>simp[intOf];omega
  ·obtain rfl:k=l.length:=by omega
   rw[List.take_length]at hx;have HX:Hid (past l b=some z):=hH (by rw[HV.out];exact hx)
   have HE:Hid (pastY l b=z.2):=hH (by unfold pastY;rw[HX.out])
   have HY:=hH hy;have I:=hH D;clear hx hu hy a2 D;go_wp2;refine bodyPost_ret (v:= .tuple #[u',y',.bool true]) (by simp[results,Tryz.results231,go_sem, *]) rfl ⟨_,_,by rw[HX.out];rfl,?_,I.out⟩
   rw[HE.out];exact HY.out
theorem impl_past_c (vl vb:Value)(l:List (List DPart))(b:List DPart)(w:World)(hl:RdS w vl l)(hb:RdS w vb b)(hlen:l.length<=1000):Calls Tryz.prog 235 #[vl,vb] w (OutPast w l b):=by
 have hll:=fun w1 ty=>hl.len Tryz.underlying164 w1 ty
 obtain⟨i0,hi,hz0,hz1,hz2⟩:=info_parts info_ops;by_cases h1:opOk b=true
 rotate_left
 ·have h1:opOk b=false:=by simpa using h1
  have HV:=hH (past_bad (l:=l) h1);go_enter Tryz.func235,Tryz.ntmps235
  go_wp2_with fail
  refine(impl_OpOk_c vb b _ hb).mono ?_;rintro e' w1 ⟨rfl,p⟩;rw[h1];go_wp2;exact bodyPost_ret (v:= .tuple #[.slice none 0 0,.slice none 0 0,.bool false]) (by simp[results,Tryz.results235,go_sem, *]) rfl (OutPast.no HV.out p)
 have HV:=hH (past_ok (l:=l) h1);go_enter Tryz.func235,Tryz.ntmps235
 go_wp2_with fail
 refine(impl_OpOk_c vb b _ hb).mono ?_;rintro e' w1 ⟨rfl,p⟩;rw[h1];have s1:=p.size;go_wp2_with fail
 refine(impl_OpNorm_c vb b _ (hb.below (p))).mono ?_;rintro e' w2 ⟨v2,rfl,ho2,hb2⟩;have HB2:=hH ((p).trans (hb2.mono (s1)));have HO2:Hid (OwnS w.heap.size w2 v2 (opNorm b)):=hH (ho2.mono (s1));clear ho2 p hb2 s1;go_wp2_with fail
 go_loopw [7,8,21] (fun u y i wr=>∃(k:Nat) (u' y':Value) (z:List (List DPart)×List DPart),u'=u/\y'=y/\k<=l.length/\i= .int .i64 k/\pastTo (l.take k) b=some z/\z.1.length=k/\OwnS w.heap.size wr u' z.1/\OwnS w.heap.size wr y' z.2/\Below w.heap.size w wr) (fun _ _ i _=>l.length-(intOf i).toNat)
 case atStart=>exact⟨0,_,_,([],opNorm b),rfl,rfl,lz _,rfl,rfl,rfl,OwnS.empty _ _ _,HO2.out,HB2.out⟩
 case round=>
  obtain⟨k,u',y',z,rfl,rfl,hk,rfl,hx,a2,hu,hy,D⟩:=hrel;have J:=D.size;by_cases hlt:k<l.length
  ·obtain⟨o,ho⟩:=get_some hlt;obtain⟨b1,o1,cs,g1,g2,g3⟩:=(hl.below D).idx Tryz.underlying164 szPS k ho;obtain⟨fp,v_o,rfl,a3⟩:=g3;have q0:=g2.one;obtain⟨ao,co,rfl⟩:=RdS.isSlice ⟨_,a3⟩;have a0:=pastTo_snoc (b:=b) ho;rw[hx]at a0;have HST:=hH a0;have HU:=hH hu;have HY:=hH hy;have HZL:=hH a2;have I:=hH D;have HRO:Hid (RdS wr (.slice ao o.length co) o):=hH ⟨_,a3⟩;clear hx ho hu hy a2 a3 a0 D;rcases ht:transform o z.2 with _|⟨x,y⟩
   ·have HN:Hid (past l b=none):=hH (by rw[HV.out];exact pastTo_none (k:=k+1) (by rw[HST.out,pastStep_none ht]))
    have HI:Hid ((transform o z.2).isSome=false):=hH (by rw[ht];rfl)
    clear ht;go_wp2_with fail
    refine(impl_Transform_c _ _ o z.2 _ HRO.out (let⟨_,h,_⟩:=HY.out;⟨_,h⟩)).mono ?_
    rintro e' w3 ⟨v0,v1,rfl,M,N,B⟩;rw[HI.out];have HB3:=hH (I.out.trans (B.mono J));clear M N B;go_wp2;exact bodyPost_ret (v:= .tuple #[.slice none 0 0,.slice none 0 0,.bool false]) (by simp[results,Tryz.results235,go_sem, *]) rfl (OutPast.no HN.out HB3.out)
   ·have HS2:Hid (pastTo (l.take (k+1)) b=some (z.1++[x],y)):=hH (by rw[HST.out,pastStep_some ht])
    have HI:Hid ((transform o z.2).isSome=true/\tfX o z.2=x/\tfY o z.2=y):=hH ⟨by rw[ht];rfl,by unfold tfX;rw[ht],by unfold tfY;rw[ht]⟩
    clear ht;obtain⟨fs,Q,hfs⟩:=HU.out.row;have j:=hH Q;have HFS:=hH hfs;clear Q hfs;go_wp2_with fail
    refine(impl_Transform_c _ _ o z.2 _ HRO.out (let⟨_,h,_⟩:=HY.out;⟨_,h⟩)).mono ?_
    rintro e' w3 ⟨v0,v1,rfl,M,N,B⟩;rw[HI.out.1];rw[HI.out.2.1]at M;rw[HI.out.2.2]at N;obtain⟨fx,Z,hfr⟩:=M;obtain⟨a1,c1,rfl⟩:=RdS.isSlice ⟨_,Z⟩;obtain⟨fy,hyd,hyf⟩:=N;have R:=hH B;have s3:=B.size;have HFR:=hH hfr;have U:=hH Z;have Y:=hH hyd;have HYF:=hH hyf;have hkl:z.1.length<=1000:=by have:=HZL.out;omega
    clear B hfr Z hyd hyf;go_wp2_with (at_builtin;go_must (refine wpList_append_row rfl _ _ 164 rfl Tryz.underlying164 hi hz0 hz1 hz2 rfl rfl rfl ((j.out.below R.out).below ((lf _ _).alloc (lr _) _)) (src_built (x:=x) 30 ⟨_,rfl,U.out⟩) (fun q hq hm=>by have e1:=HFR.out.ge q hq;have e2:=Live.lt (Live.append.1 j.out.1.live).1 q hm;omega) ?c1 ?c2 ?c3 ?_))
    case c1=>simp at hkl⊢;exact le_BIG (by omega)
    case c2=>simp at hkl⊢;omega
    case c3=>simp;omega
    intro v' w4 hr hw _;have HO:Hid (OwnS w.heap.size w4 v' (z.1++[x])):=hH (Row.grown j.out HFS.out (R.out.alloc s3 _) (HFR.out.belowL ((lf _ _).alloc (lr _) _) (Live.lt U.out.live)) (U.out.belowW ((lf _ _).alloc (lr _) _)).live J hr hw);have hyo:∀q∈fy,q∉rowP (GoT.n (List DPart)) u':=fun q hq hm=>by have e1:=HYF.out.ge q hq;have e2:=Live.lt (Live.append.1 j.out.1.live).1 q hm;omega
    have HY4:Hid (OwnS w.heap.size w4 v1 y):=hH ⟨fy,(Y.out.belowW ((lf _ _).alloc (lr _) _)).wr hw hyo,(hw.fresh (Y.out.belowW ((lf _ _).alloc (lr _) _)).live (HYF.out.belowL ((lf _ _).alloc (lr _) _) (Live.lt Y.out.live))).mono J⟩;have HB4:Hid (Below w.heap.size w w4):=hH (below_after2 I.out (wrb (C:=w.heap.size) hw (R.out.alloc s3 _) J (fun q hq=>j.out.2.1.ge q hq)) (lr _))
    clear hr hw hyo;go_wp2;go_roundw
    case rel=>exact⟨k+1,_,_,(z.1++[x],y),rfl,rfl,by omega,by go_num,HS2.out,by simp[HZL.out],HO.out,HY4.out,HB4.out⟩
    case measure=>simp[intOf];omega
  ·obtain rfl:k=l.length:=by omega
   rw[List.take_length]at hx;have HX:Hid (past l b=some z):=hH (by rw[HV.out];exact hx)
   have HE:Hid (pastY l b=z.2):=hH (by unfold pastY;rw[HX.out])
   have HY:=hH hy;have I:=hH D;clear hx hu hy a2 D;go_wp2;refine bodyPost_ret (v:= .tuple #[u',y',.bool true]) (by simp[results,Tryz.results235,go_sem, *]) rfl ⟨_,_,by rw[HX.out];rfl,?_,I.out⟩
   rw[HE.out];exact HY.out
theorem spec_Past_c (q vb:Value)(l:List (List DPart))(b:List DPart)(w:World)(J:RdS w q l)(hb:RdS w vb b)(n:l.length<=1000):Calls Tryz.prog 208 #[q,vb] w (fun e z=>∃p,e= .returned (.tuple #[p,.bool (past l b).isSome])/\OwnS w.heap.size z p (pastY l b)/\Below w.heap.size w z):=by
 have D:=hH (spec_past_c q vb l b w J hb n);go_enter Tryz.func208,Tryz.ntmps208
 go_wp2_with fail
 refine D.out.mono ?_;rintro M Q ⟨N,p,rfl,u,j⟩;have I:=hH u;have B:=hH j;clear u j;go_wp2;exact bodyPost_ret (v:= .tuple #[p,.bool (past l b).isSome]) (by simp[results,Tryz.results208,go_sem, *]) rfl ⟨_,rfl,I.out,B.out⟩
theorem impl_Past_c (q vb:Value)(l:List (List DPart))(b:List DPart)(w:World)(J:RdS w q l)(hb:RdS w vb b)(n:l.length<=1000):Calls Tryz.prog 215 #[q,vb] w (fun e z=>∃p,e= .returned (.tuple #[p,.bool (past l b).isSome])/\OwnS w.heap.size z p (pastY l b)/\Below w.heap.size w z):=by
 have D:=hH (impl_past_c q vb l b w J hb n);go_enter Tryz.func215,Tryz.ntmps215
 go_wp2_with fail
 refine D.out.mono ?_;rintro M Q ⟨N,p,rfl,u,j⟩;have I:=hH u;have B:=hH j;clear u j;go_wp2;exact bodyPost_ret (v:= .tuple #[p,.bool (past l b).isSome]) (by simp[results,Tryz.results215,go_sem, *]) rfl ⟨_,rfl,I.out,B.out⟩
