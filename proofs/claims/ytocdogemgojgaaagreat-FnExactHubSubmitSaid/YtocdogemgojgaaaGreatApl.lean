/- Applying operations. -/
import Derived.Test.YtocdogemgojgaaaGreatCp
import Derived.Test.YtocdogemgojgaaaGreatWri
set_option maxHeartbeats 4000000
set_option maxRecDepth 100000
namespace Go.Proofs.YtocdogemgojgaaaGreat
open Go.RowKit
def signsOf (p:DPart):List Int:=p.signs
def applyP (o:List DPart)(t:List Int):List Int×Bool:=if opOk o=true/\textOk t=true/\opFrom o=t.length then((appFold signsOf t o).2,true)else([],false)
theorem applyP_yes {o:List DPart}{t:List Int}(h:opOk o=true)(j:textOk t=true)(n:opFrom o=t.length):applyP o t=((appFold signsOf t o).2,true):=if_pos ⟨h,j,n⟩
theorem applyP_no {o:List DPart}{t:List Int}(h:¬(opOk o=true/\textOk t=true/\opFrom o=t.length)):applyP o t=([],false):=if_neg h
theorem textOk_iff {t:List Int}:textOk t=true↔t.length<=200/\t.all signOk=true:=by simp[textOk,signsOk]
theorem appFold_all {sub:DPart->List Int}{t:List Int}(B:t.all signOk=true)(z:∀p,partOk p=true->p.kind=2->(sub p).all signOk=true){o:List DPart}(j:o.all partOk=true):∀k,k<=o.length->(appFold sub t (o.take k)).2.all signOk=true
 |0,_=>by simp[appFold]
 |k+1,I=>by
  obtain⟨x,D⟩:=get_some (l:=o) (k:=k) (by omega)
  have q:=appFold_all B z j k (by omega)
  rw[appFold_snoc D];have u:=all_at j D;rcases partOk_cases u with⟨n,_⟩|⟨n,_⟩|⟨n,_⟩
  ·simp only[appStep,n,if_true,List.all_append,Bool.and_eq_true];exact⟨q,all_drop (all_take B _) _⟩
  ·simp only[appStep,n];simp only[show ¬((2:Int)=1)from by decide,show ¬((2:Int)=3)from by decide,if_false,List.all_append,Bool.and_eq_true]
   exact⟨q,z x u n⟩
  ·simpa[appStep,n]using q
theorem signsOf_len (p:DPart)(_:partOk p=true)(_:p.kind=2):(signsOf p).length=p.signs.length:=rfl
theorem signsOf_ok (p:DPart)(h:partOk p=true)(q:p.kind=2):(signsOf p).all signOk=true:=by
 rcases partOk_cases h with⟨n,_⟩|⟨_,_,_,j⟩|⟨n,_⟩
 ·omega
 ·exact j
 ·omega
theorem applyP_text {o:List DPart}{t:List Int}(h:(applyP o t).2=true):textOk (applyP o t).1=true/\((applyP o t).1.length:Int)=opTo o:=by
 by_cases D:opOk o=true/\textOk t=true/\opFrom o=t.length
 ·obtain⟨n,u,z⟩:=D;rw[applyP_yes n u z];obtain⟨j,_,M,J⟩:=opOk_iff.1 n;have q:sumBut 2 o=t.length:=by rw[<-opFrom_of n];exact z
  have I:=appFold_len signsOf t (fun p a b=>signsOf_len p a b) j q o.length (lr _)
  have B:=appFold_all (textOk_iff.1 u).2 signsOf_ok j o.length (lr _);rw[List.take_length]at I B;refine⟨textOk_iff.2 ⟨by simp only;omega,B⟩,?_⟩
  rw[opTo_of n];exact I
 ·rw[applyP_no D]at h;cases h
theorem applyP_len (o:List DPart)(t:List Int):(applyP o t).1.length<=200:=by
 by_cases j:opOk o=true/\textOk t=true/\opFrom o=t.length
 ·have:=(applyP_text (o:=o) (t:=t) (by rw[applyP_yes j.1 j.2.1 j.2.2])).1
  exact(textOk_iff.1 this).1
 ·rw[applyP_no j];simp
def stepA (s:Option (List Int))(o:List DPart):Option (List Int):=s.bind fun t=>if(applyP o t).2=true then some (applyP o t).1 else none
def appTo (l:List (List DPart))(t:List Int):Option (List Int):=l.foldl stepA (some t)
theorem foldA_none:∀(l:List (List DPart)),l.foldl stepA none=none
 |[]=>rfl
 |_::l=>foldA_none l
theorem appTo_take_none {l:List (List DPart)}{t:List Int}{k:Nat}(h:appTo (l.take k) t=none):appTo l t=none:=by
 unfold appTo at *;rw[<-List.take_append_drop k l,List.foldl_append,h,foldA_none]
theorem appTo_succ {l:List (List DPart)}{t u:List Int}{k:Nat}{o:List DPart}(j:l[k]? =some o)(h:appTo (l.take k) t=some u):appTo (l.take (k+1)) t=if(applyP o u).2=true then some (applyP o u).1 else none:=by
 unfold appTo at *;rw[take_snoc j,List.foldl_append,h];rfl
def applyAllP (l:List (List DPart))(t:List Int):List Int×Bool:=if textOk t=true then(match appTo l t with
 |some u=>(u,true)
 |none=>([],false))else([],false)
theorem szPS:∀j,(sizeOf 30).run Tryz.prog j= .ok 1 j:=fun _=>by kernel_rfl
def allRes:Option (List Int)->List Int×Bool
 |some u=>(u,true)
 |none=>([],false)
theorem applyAllP_yes {l:List (List DPart)}{t:List Int}(h:textOk t=true):applyAllP l t=allRes (appTo l t):=by unfold applyAllP;rw[if_pos h];cases appTo l t<;>rfl
def fits (o:List DPart)(t:List Int):Bool:=opOk o&&textOk t&&decide (opFrom o=t.length)
theorem fits_yes {o:List DPart}{t:List Int}(h:fits o t=true):applyP o t=((appFold signsOf t o).2,true):=by
 simp only[fits,Bool.and_eq_true,decide_eq_true_eq]at h;exact applyP_yes h.1.1 h.1.2 h.2
theorem fits_no {o:List DPart}{t:List Int}(h:fits o t=false):applyP o t=([],false):=applyP_no fun j=>by
 simp[fits,j.1,j.2.1,j.2.2]at h
theorem spec_l03Fits_c (o:List DPart)(t:List Int)(Y Z:Value)(w:World)(J:RdS w Y o)(M:RdS w Z t):Calls Tryz.prog 209 #[Y,Z] w (Tells w (.bool (fits o t))):=by
 have a2:=fun N ty=>M.len Tryz.underlying31 N ty
 have bx:=M.le;by_cases D:opOk o=true
 rotate_left
 ·have D:opOk o=false:=by simpa using D
  have p:Hid (fits o t=false):=hH (by simp[fits,D])
  go_enter Tryz.func209,Tryz.ntmps209
  go_wp2_with fail
  refine(spec_OpOk_c _ o _ (J.below blw)).mono ?_;rintro e N ⟨rfl,j⟩;have B:=j.size;(try simp at B)
  obtain⟨u,z⟩:=bcell j;go_wp2;go_ret;exact⟨ret_bool (by rw[p.out];first|done|(simp;done)|(simp;omega)),blw⟩
 by_cases I:textOk t=true
 rotate_left
 ·have I:textOk t=false:=by simpa using I
  have p:Hid (fits o t=false):=hH (by simp[fits,I])
  go_enter Tryz.func209,Tryz.ntmps209
  go_wp2_with fail
  refine(spec_OpOk_c _ o _ (J.below blw)).mono ?_;rintro e N ⟨rfl,j⟩;have B:=j.size;(try simp at B)
  obtain⟨u,z⟩:=bcell j;go_wp2_with fail
  refine(spec_TextOk_c _ t _ (M.below blw)).mono ?_;rintro e w2 ⟨rfl,n⟩;have U:=n.size;(try simp at U)
  obtain⟨Q,R⟩:=bcell n;go_wp2;go_ret;exact⟨ret_bool (by rw[p.out];first|done|(simp;done)|(simp;omega)),blw⟩
 have p:Hid (fits o t=decide (opFrom o=t.length)):=hH (by simp[fits,D,I])
 go_enter Tryz.func209,Tryz.ntmps209
 go_wp2_with fail
 refine(spec_OpOk_c _ o _ (J.below blw)).mono ?_;rintro e N ⟨rfl,j⟩;have B:=j.size;(try simp at B)
 obtain⟨u,z⟩:=bcell j;go_wp2_with fail
 refine(spec_TextOk_c _ t _ (M.below blw)).mono ?_;rintro e w2 ⟨rfl,n⟩;have U:=n.size;(try simp at U)
 obtain⟨Q,R⟩:=bcell n;go_wp2_with fail
 refine(spec_OpFrom_c _ o _ (J.below blw)).mono ?_;rintro e w3 ⟨rfl,q⟩;have s3:=q.size;(try simp at s3)
 obtain⟨a0,a1⟩:=bcell q;go_wp2;go_ret;exact⟨ret_bool (by rw[p.out];first|rfl|(rw[beq_eq_decide])|(simp;done)),blw⟩
theorem spec_Apply_c (o:List DPart)(t:List Int)(vo vt:Value)(w:World)(ho:RdS w vo o)(ht:RdS w vt t):Calls Tryz.prog 167 #[vo,vt] w (Out_IntS_b w (applyP o t).1 (applyP o t).2):=by
 have hlo:=fun U ty=>ho.len Tryz.underlying30 U ty
 have hlx:=fun U ty=>ht.len Tryz.underlying31 U ty
 have bo:=ho.le;have bx:=ht.le;obtain⟨i0,hi,hz0,hz1,hz2⟩:=info_parts info_int1;by_cases hf:fits o t=true
 ·have HV:=hH (fits_yes hf);simp only[fits,Bool.and_eq_true,decide_eq_true_eq]at hf;obtain⟨⟨h1,ht0⟩,h2⟩:=hf;obtain⟨a0,h600,h200,h300⟩:=opOk_iff.1 h1;have Q:=hH a0;have hfr:sumBut 2 o=t.length:=by rw[<-opFrom_of h1];exact h2
  have HFR:=hH hfr;have H2:=hH h2;have hxl:t.length<=200:=by omega
  clear a0 hfr h2;have hft:fits o t=true:=by simp[fits,h1,ht0,H2.out]
  go_enter Tryz.func167,Tryz.ntmps167
  go_wp2_with fail
  refine(spec_l03Fits_c o t _ _ _ (ho.below blw) (ht.below blw)).mono ?_;rintro e U ⟨rfl,R⟩;have s1:=R.size;(try simp at s1)
  obtain⟨hc1,hf1⟩:=bcell R;clear hc1 hf1;go_wp2;go_loopw [6,7,17] (fun z at_ i wr=>∃(k:Nat) (u:Value),u=z/\k<=o.length/\i= .int .i64 k/\at_= .int .i64 (appFold signsOf t (o.take k)).1/\OwnS w.heap.size wr u (appFold signsOf t (o.take k)).2/\Below w.heap.size w wr) (fun _ _ i _=>o.length-(intOf i).toNat)
  case atStart=>exact⟨0,_,rfl,lz _,rfl,rfl,OwnS.empty _ _ _,blw⟩
  case round=>
   obtain⟨k,u,rfl,hk,rfl,rfl,hu,M⟩:=hrel;have hsz:=M.size;by_cases hlt:k<o.length
   ·obtain⟨p,Y⟩:=get_some hlt;have Z:=all_at Q.out Y;have q:=appFold_snoc (sub:=signsOf) (t:=t) Y;have hsm:=app_small signsOf (t:=t) signsOf_len Q.out HFR.out h300 k (by omega)
    have j:=fun h=>app_fits signsOf Q.out HFR.out Y h
    obtain⟨b1,o1,cs,g1,g2,g3⟩:=(ho.below M).idx Tryz.underlying30 szi_DPart k Y;obtain⟨v_signs,rfl,D⟩:=inv_DPart g3;have q0:=g2.zero;have q1:=g2 1 _ rfl;have q2:=g2 2 _ rfl;obtain⟨aa,ca,rfl⟩:=D.isSlice;obtain⟨a,S,haS⟩:∃a S,appFold signsOf t (o.take k)=(a,S):=⟨_,_,rfl⟩;rw[haS]at q hu hsm j;rw[haS];simp only at hu q hsm j⊢;clear haS Y;have I:=hH hu.ints;clear hu;rcases partOk_cases Z with⟨N,n1,n2,n3⟩|⟨N,n1,n2,_⟩|⟨N,n1,n2,n3⟩
    ·obtain⟨n,hn⟩:∃n:Nat,p.n=n:=⟨p.n.toNat,by omega⟩
     have J:=j (.inl N);rw[N]at q0;rw[hn]at q1 J;simp only[appStep,N,hn,if_true,Int.toNat_natCast]at q J;obtain⟨vc,hcut,hcr⟩:=(ht.below M).cut Tryz.underlying31 sz_int (lo:=a) (hi:=a+n) (by omega) J
     simp only[Int.natCast_add]at hcut;have hcl:((t.take (a+n)).drop a).length=n:=by simp;omega
     have HCR:=hH hcr;have B:=hH q;have HCL:=hH hcl;have b2:n<=200:=by omega
     clear q hcr hcl Z N n1 n2 n3 hn j;go_wp2_with (at_builtin;refine wpList_append_row rfl _ _ 31 rfl Tryz.underlying31 hi hz0 hz1 hz2 rfl rfl rfl (I.out.below blw) (Src.ints (HCR.out.below blw)) (fun _ h=>by cases h) ?c1 ?c2 ?c3 ?_)
     case c1=>rw[HCL.out];exact le_BIG (by omega)
     case c2=>rw[HCL.out];omega
     case c3=>simp;omega
     intro v' U hr hw _;have HO:=hH hr.ints.2;have HB:Hid (Below w.heap.size w U):=hH (below_after2 M (wrb (C:=w.heap.size) hw blw hsz (fun p Y=>I.out.2.1.ge p Y)) (lr _))
     have s1:=wrs hw (w:=wr) blw;have zb:wr.heap.size<U.heap.size:=lq (by simp) hw.size
     have k0:U.cell? ⟨wr.heap.size,1,none⟩=some (.int .i64 n):=by
      rw[hw.cell (wr.heap.size,1) (by simp) (fun hm=>by have:=Live.lt (Live.append.1 I.out.1.live).1 _ hm;simp at this)]
      simp
     clear hr hw;go_wp2;go_roundw
     case rel=>exact⟨k+1,_,rfl,by omega,by go_num,by rw[B.out];go_num,by rw[B.out];exact HO.out,HB.out⟩
     case measure=>simp[intOf];omega
    ·rw[N]at q0;simp only[appStep,N,signsOf]at q;have B:=hH q;have HPS:=hH D;clear q Z N n1 j;go_wp2_with (at_builtin;refine wpList_append_row rfl _ _ 31 rfl Tryz.underlying31 hi hz0 hz1 hz2 rfl rfl rfl (I.out.below blw) (Src.ints (HPS.out.below blw)) (fun _ h=>by cases h) ?c1 ?c2 ?c3 ?_)
     case c1=>exact le_BIG (by omega)
     case c2=>omega
     case c3=>simp;omega
     intro v' U hr hw _;have HO:=hH hr.ints.2;have HB:Hid (Below w.heap.size w U):=hH (below_after2 M (wrb (C:=w.heap.size) hw blw hsz (fun p Y=>I.out.2.1.ge p Y)) (lr _))
     clear hr hw;go_wp2;go_roundw
     case rel=>exact⟨k+1,_,rfl,by omega,by go_num,by rw[B.out];rfl,by rw[B.out];exact HO.out,HB.out⟩
     case measure=>simp[intOf];omega
    ·obtain⟨n,hn⟩:∃n:Nat,p.n=n:=⟨p.n.toNat,by omega⟩
     have J:=j (.inr N);rw[N]at q0;rw[hn]at q1 J;simp only[appStep,N,hn,Int.toNat_natCast]at q J;have B:=hH q;have b2:n<=200:=by omega
     have HU:=hH I.out.ints.2;clear q Z N n1 n2 n3 hn j;go_wp2;go_roundw
     case rel=>exact⟨k+1,_,rfl,by omega,by go_num,by rw[B.out];go_num,by rw[B.out];exact HU.out.below blw,blw⟩
     case measure=>simp[intOf];omega
   ·obtain rfl:k=o.length:=by omega
    rw[List.take_length]at hu;obtain⟨fp,hs,hf⟩:=hu;go_wp2;go_ret2
    rw[HV.out];exact⟨_,_,rfl,hs,hf,M⟩
 ·have hf:fits o t=false:=by simpa using hf
  have HV:=hH (fits_no hf);go_enter Tryz.func167,Tryz.ntmps167
  go_wp2_with fail
  refine(spec_l03Fits_c o t _ _ _ (ho.below blw) (ht.below blw)).mono ?_;rintro e U ⟨rfl,R⟩;have s1:=R.size;(try simp at s1)
  obtain⟨hc1,hf1⟩:=bcell R;go_wp2;go_ret2
  rw[HV.out];exact⟨_,_,rfl,Sl.nil,Fresh.nil _ _,blw⟩
theorem impl_Apply_c (o:List DPart)(t:List Int)(vo vt:Value)(w:World)(ho:RdS w vo o)(ht:RdS w vt t):Calls Tryz.prog 175 #[vo,vt] w (Out_IntS_b w (applyP o t).1 (applyP o t).2):=by
 have hlo:=fun U ty=>ho.len Tryz.underlying30 U ty
 have hlx:=fun U ty=>ht.len Tryz.underlying31 U ty
 have bo:=ho.le;have bx:=ht.le;obtain⟨i0,hi,hz0,hz1,hz2⟩:=info_parts info_int1;by_cases hf:fits o t=true
 ·have HV:=hH (fits_yes hf);simp only[fits,Bool.and_eq_true,decide_eq_true_eq]at hf;obtain⟨⟨h1,ht0⟩,h2⟩:=hf;obtain⟨hall,h600,h200,h300⟩:=opOk_iff.1 h1;have Y:=hH hall;have hfr:sumBut 2 o=t.length:=by rw[<-opFrom_of h1];exact h2
  have HFR:=hH hfr;have H2:=hH h2;have hxl:t.length<=200:=by omega
  have e2:(opFrom o !=(t.length:Int))=false:=by simpa using h2
  clear hall hfr h2;go_enter Tryz.func175,Tryz.ntmps175
  go_wp2_with fail
  refine(impl_OpOk_c _ o _ (ho.below blw)).mono ?_;rintro e U ⟨rfl,j⟩;have s1:=j.size;(try simp at s1)
  obtain⟨a0,hf1⟩:=bcell j;go_wp2_with fail
  refine(impl_TextOk_c _ t _ (ht.below blw)).mono ?_;rintro e w2 ⟨rfl,I⟩;have s2:=I.size;(try simp at s2)
  obtain⟨hc2,hf2⟩:=bcell I;go_wp2_with fail
  refine(impl_OpFrom_c _ o _ (ho.below blw)).mono ?_;rintro e w3 ⟨rfl,Z⟩;have s3:=Z.size;(try simp at s3)
  obtain⟨hc3,hf3⟩:=bcell Z;clear a0 hf1 hc2 hf2 hc3 hf3;go_wp2;go_loopw [6,7,27] (fun z at_ i wr=>∃(k:Nat) (u:Value),u=z/\k<=o.length/\i= .int .i64 k/\at_= .int .i64 (appFold signsOf t (o.take k)).1/\OwnS w.heap.size wr u (appFold signsOf t (o.take k)).2/\Below w.heap.size w wr) (fun _ _ i _=>o.length-(intOf i).toNat)
  case atStart=>exact⟨0,_,rfl,lz _,rfl,rfl,OwnS.empty _ _ _,blw⟩
  case round=>
   obtain⟨k,u,rfl,hk,rfl,rfl,hu,Q⟩:=hrel;have hsz:=Q.size;by_cases hlt:k<o.length
   ·obtain⟨p,hp⟩:=get_some hlt;have hpo:=all_at Y.out hp;have B:=appFold_snoc (sub:=signsOf) (t:=t) hp;have hsm:=app_small signsOf (t:=t) signsOf_len Y.out HFR.out h300 k (by omega)
    have q:=fun h=>app_fits signsOf Y.out HFR.out hp h
    obtain⟨b1,o1,cs,g1,g2,g3⟩:=(ho.below Q).idx Tryz.underlying30 szi_DPart k hp;obtain⟨v_signs,rfl,J⟩:=inv_DPart g3;have q0:=g2.zero;have q1:=g2 1 _ rfl;have q2:=g2 2 _ rfl;obtain⟨aa,ca,rfl⟩:=J.isSlice;obtain⟨a,S,haS⟩:∃a S,appFold signsOf t (o.take k)=(a,S):=⟨_,_,rfl⟩;rw[haS]at B hu hsm q;rw[haS];simp only at hu B hsm q⊢;clear haS hp;have M:=hH hu.ints;clear hu;rcases partOk_cases hpo with⟨R,n1,n2,n3⟩|⟨R,n1,n2,_⟩|⟨R,n1,n2,n3⟩
    ·obtain⟨n,hn⟩:∃n:Nat,p.n=n:=⟨p.n.toNat,by omega⟩
     have N:=q (.inl R);rw[R]at q0;rw[hn]at q1 N;simp only[appStep,R,hn,if_true,Int.toNat_natCast]at B N;obtain⟨vc,hcut,hcr⟩:=(ht.below Q).cut Tryz.underlying31 sz_int (lo:=a) (hi:=a+n) (by omega) N
     simp only[Int.natCast_add]at hcut;have hcl:((t.take (a+n)).drop a).length=n:=by simp;omega
     have HCR:=hH hcr;have D:=hH B;have HCL:=hH hcl;have b2:n<=200:=by omega
     clear B hcr hcl hpo R n1 n2 n3 hn q;go_wp2_with (at_builtin;refine wpList_append_row rfl _ _ 31 rfl Tryz.underlying31 hi hz0 hz1 hz2 rfl rfl rfl (M.out.below blw) (Src.ints (HCR.out.below blw)) (fun _ h=>by cases h) ?c1 ?c2 ?c3 ?_)
     case c1=>rw[HCL.out];exact le_BIG (by omega)
     case c2=>rw[HCL.out];omega
     case c3=>simp;omega
     intro v' U hr hw _;have HO:=hH hr.ints.2;have HB:Hid (Below w.heap.size w U):=hH (below_after2 Q (wrb (C:=w.heap.size) hw blw hsz (fun p hp=>M.out.2.1.ge p hp)) (lr _))
     have s1:=wrs hw (w:=wr) blw;have zb:wr.heap.size<U.heap.size:=lq (by simp) hw.size
     have k0:U.cell? ⟨wr.heap.size,1,none⟩=some (.int .i64 n):=by
      rw[hw.cell (wr.heap.size,1) (by simp) (fun hm=>by have:=Live.lt (Live.append.1 M.out.1.live).1 _ hm;simp at this)]
      simp
     clear hr hw;go_wp2;go_roundw
     case rel=>exact⟨k+1,_,rfl,by omega,by go_num,by rw[D.out];go_num,by rw[D.out];exact HO.out,HB.out⟩
     case measure=>simp[intOf];omega
    ·rw[R]at q0;simp only[appStep,R,signsOf]at B;have D:=hH B;have HPS:=hH J;clear B hpo R n1 q;go_wp2_with (at_builtin;refine wpList_append_row rfl _ _ 31 rfl Tryz.underlying31 hi hz0 hz1 hz2 rfl rfl rfl (M.out.below blw) (Src.ints (HPS.out.below blw)) (fun _ h=>by cases h) ?c1 ?c2 ?c3 ?_)
     case c1=>exact le_BIG (by omega)
     case c2=>omega
     case c3=>simp;omega
     intro v' U hr hw _;have HO:=hH hr.ints.2;have HB:Hid (Below w.heap.size w U):=hH (below_after2 Q (wrb (C:=w.heap.size) hw blw hsz (fun p hp=>M.out.2.1.ge p hp)) (lr _))
     clear hr hw;go_wp2;go_roundw
     case rel=>exact⟨k+1,_,rfl,by omega,by go_num,by rw[D.out];rfl,by rw[D.out];exact HO.out,HB.out⟩
     case measure=>simp[intOf];omega
    ·obtain⟨n,hn⟩:∃n:Nat,p.n=n:=⟨p.n.toNat,by omega⟩
     have N:=q (.inr R);rw[R]at q0;rw[hn]at q1 N;simp only[appStep,R,hn,Int.toNat_natCast]at B N;have D:=hH B;have b2:n<=200:=by omega
     have HU:=hH M.out.ints.2;clear B hpo R n1 n2 n3 hn q;go_wp2;go_roundw
     case rel=>exact⟨k+1,_,rfl,by omega,by go_num,by rw[D.out];go_num,by rw[D.out];exact HU.out.below blw,blw⟩
     case measure=>simp[intOf];omega
   ·obtain rfl:k=o.length:=by omega
    rw[List.take_length]at hu;obtain⟨fp,hs,hf⟩:=hu;go_wp2;go_ret2
    rw[HV.out];exact⟨_,_,rfl,hs,hf,Q⟩
 ·have HV:=hH (fits_no (o:=o) (t:=t) (by simpa using hf))
  by_cases h1:opOk o=true
  rotate_left
  ·have h1:opOk o=false:=by simpa using h1
   go_enter Tryz.func175,Tryz.ntmps175
   go_wp2_with fail
   refine(impl_OpOk_c _ o _ (ho.below blw)).mono ?_;rintro e U ⟨rfl,j⟩;have s1:=j.size;(try simp at s1)
   obtain⟨a0,hf1⟩:=bcell j;go_wp2;go_ret2
   rw[HV.out];exact⟨_,_,rfl,Sl.nil,Fresh.nil _ _,blw⟩
  by_cases h2:textOk t=true
  rotate_left
  ·have h2:textOk t=false:=by simpa using h2
   go_enter Tryz.func175,Tryz.ntmps175
   go_wp2_with fail
   refine(impl_OpOk_c _ o _ (ho.below blw)).mono ?_;rintro e U ⟨rfl,j⟩;have s1:=j.size;(try simp at s1)
   obtain⟨a0,hf1⟩:=bcell j;go_wp2_with fail
   refine(impl_TextOk_c _ t _ (ht.below blw)).mono ?_;rintro e w2 ⟨rfl,I⟩;have s2:=I.size;(try simp at s2)
   obtain⟨hc2,hf2⟩:=bcell I;go_wp2;go_ret2
   rw[HV.out];exact⟨_,_,rfl,Sl.nil,Fresh.nil _ _,blw⟩
  have e2:(opFrom o !=(t.length:Int))=true:=by simp[fits,h1,h2]at hf;simpa using hf
  clear hf;go_enter Tryz.func175,Tryz.ntmps175
  go_wp2_with fail
  refine(impl_OpOk_c _ o _ (ho.below blw)).mono ?_;rintro e U ⟨rfl,j⟩;have s1:=j.size;(try simp at s1)
  obtain⟨a0,hf1⟩:=bcell j;go_wp2_with fail
  refine(impl_TextOk_c _ t _ (ht.below blw)).mono ?_;rintro e w2 ⟨rfl,I⟩;have s2:=I.size;(try simp at s2)
  obtain⟨hc2,hf2⟩:=bcell I;go_wp2_with fail
  refine(impl_OpFrom_c _ o _ (ho.below blw)).mono ?_;rintro e w3 ⟨rfl,Z⟩;have s3:=Z.size;(try simp at s3)
  obtain⟨hc3,hf3⟩:=bcell Z;go_wp2;go_ret2
  rw[HV.out];exact⟨_,_,rfl,Sl.nil,Fresh.nil _ _,blw⟩
theorem impl_ApplyAll_c (l:List (List DPart))(t:List Int)(vl vt:Value)(w:World)(hl:RdS w vl l)(ht:RdS w vt t)(Q:t.length<=4000000):Calls Tryz.prog 129 #[vl,vt] w (Out_IntS_b w (applyAllP l t).1 (applyAllP l t).2):=by
 have hll:=fun w1 ty=>hl.len Tryz.underlying164 w1 ty
 have bl:=hl.le;by_cases h1:textOk t=true
 rotate_left
 ·have h1:textOk t=false:=by simpa using h1
  have Z:Hid (applyAllP l t=([],false)):=hH (by simp[applyAllP,h1])
  go_enter Tryz.func129,Tryz.ntmps129
  go_wp2_with fail
  refine(impl_TextOk_c _ t _ (ht.below blw)).mono ?_;rintro e w1 ⟨rfl,j⟩;have s1:=j.size;(try simp at s1)
  obtain⟨M,N⟩:=bcell j;go_wp2;go_ret2
  rw[Z.out];exact⟨_,_,rfl,Sl.nil,Fresh.nil _ _,blw⟩
 have Z:=hH (applyAllP_yes (l:=l) h1);go_enter Tryz.func129,Tryz.ntmps129
 go_wp2_with fail
 refine(impl_TextOk_c _ t _ (ht.below blw)).mono ?_;rintro e w1 ⟨rfl,j⟩;have s1:=j.size;(try simp at s1)
 obtain⟨M,N⟩:=bcell j;clear M N;go_wp2_with fail
 refine(impl_copyInts_c _ t _ (ht.below blw) Q).mono ?_;rintro e w2 ⟨v2,rfl,R,hb2⟩;have s2:=hb2.size;have HO2:Hid (OwnS w.heap.size w2 v2 t):=hH (R.mono (by omega))
 clear R;go_wp2;go_loopw [6,18] (fun z i wr=>∃(k:Nat) (u:Value) (x:List Int),u=z/\k<=l.length/\i= .int .i64 k/\appTo (l.take k) t=some x/\OwnS w.heap.size wr u x/\Below w.heap.size w wr) (fun _ i _=>l.length-(intOf i).toNat)
 case atStart=>exact⟨0,_,t,rfl,lz _,rfl,rfl,HO2.out,blw⟩
 case round=>
  obtain⟨k,u,x,rfl,hk,rfl,U,hu,n⟩:=hrel;have B:=n.size;by_cases hlt:k<l.length
  ·obtain⟨o,ho⟩:=get_some hlt;obtain⟨b1,o1,cs,g1,g2,g3⟩:=(hl.below n).idx Tryz.underlying164 szPS k ho;obtain⟨fp,v_o,rfl,D⟩:=g3;have q0:=g2.one;obtain⟨ao,co,rfl⟩:=RdS.isSlice ⟨_,D⟩;have J:=hH (appTo_succ ho U);have HU:=hH hu;have I:Hid (RdS wr (.slice ao o.length co) o):=hH ⟨_,D⟩;clear U ho hu D;by_cases hy:(applyP o x).2=true
   ·have HS2:Hid (appTo (l.take (k+1)) t=some (applyP o x).1):=hH (by rw[J.out,if_pos hy])
    go_wp2_with fail
    refine(impl_Apply_c o x _ _ _ (I.out.below blw) (HU.out.rd.below blw)).mono ?_;rintro e w3 ⟨v3,f3,rfl,S3,Y,q⟩;rw[hy];have HO3:Hid (OwnS w.heap.size w3 v3 (applyP o x).1):=hH ⟨f3,S3,Y.mono B⟩;have p:Hid (Below w.heap.size w w3):=hH (n.trans (q.mono B));clear S3 Y;go_wp2;go_roundw
    case rel=>exact⟨k+1,_,_,rfl,by omega,by go_num,HS2.out,HO3.out,p.out⟩
    case measure=>simp[intOf];omega
   ·have HN:Hid (appTo l t=none):=hH (appTo_take_none (k:=k+1) (by rw[J.out,if_neg hy]))
    have hy:(applyP o x).2=false:=by simpa using hy
    go_wp2_with fail
    refine(impl_Apply_c o x _ _ _ (I.out.below blw) (HU.out.rd.below blw)).mono ?_;rintro e w3 ⟨v3,f3,rfl,S3,Y,q⟩;rw[hy];have p:Hid (Below w.heap.size w w3):=hH (n.trans (q.mono B));clear S3 Y;go_wp2;go_ret2
    rw[Z.out,HN.out];exact⟨_,_,rfl,Sl.nil,Fresh.nil _ _,p.out⟩
  ·obtain rfl:k=l.length:=by omega
   rw[List.take_length]at U;have HX:=hH U;obtain⟨fp,hs,hf⟩:=hu;clear U;go_wp2;go_ret2
   rw[Z.out,HX.out];exact⟨_,_,rfl,hs,hf,n⟩
