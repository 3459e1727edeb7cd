/- Applying operations. -/
import Derived.Test.YtbonkabfmlajnaaGreatQrag
import Derived.Test.YtbonkabfmlajnaaGreatQrah
set_option maxHeartbeats 4000000
set_option maxRecDepth 100000
namespace Go.Proofs.YtbonkabfmlajnaaGreat
open Go.RowKit
def yaj (p:zaa):List Int:=p.signs
def zab (o:List zaa)(t:List Int):List Int×Bool:=if yag o=true/\jae t=true/\kad o=t.length then((xaj yaj t o).2,true)else([],false)
theorem XaE {o:List zaa}{t:List Int}(h:yag o=true)(j:jae t=true)(n:kad o=t.length):zab o t=((xaj yaj t o).2,true):=if_pos ⟨h,j,n⟩
theorem JaW {o:List zaa}{t:List Int}(h:¬(yag o=true/\jae t=true/\kad o=t.length)):zab o t=([],false):=if_neg h
theorem zan {t:List Int}:jae t=true↔t.length<=200/\t.all kai=true:=by simp[jae,xai]
theorem zaK {sub:zaa->List Int}{t:List Int}(B:t.all kai=true)(z:∀p,kab p=true->p.kind=2->(sub p).all kai=true){o:List zaa}(j:o.all kab=true):∀k,k<=o.length->(xaj sub t (o.take k)).2.all kai=true
 |0,_=>by simp[xaj]
 |k+1,I=>by
  obtain⟨x,D⟩:=Jaa (l:=o) (k:=k) om;have q:=zaK B z j k om;rw[Zap D];have u:=jat j D;rcases Zab u with⟨n,_⟩|⟨n,_⟩|⟨n,_⟩
  ·simp only[vak,n,if_true,List.all_append,Bool.and_eq_true];exact⟨q,XaI (zay B _) _⟩
  ·simp only[vak,n];simp only[show ¬((2:Int)=1)from by decide,show ¬((2:Int)=3)from by decide,if_false,List.all_append,Bool.and_eq_true]
   exact⟨q,z x u n⟩
  ·simpa[vak,n]using q
theorem yaB (p:zaa)(_:kab p=true)(_:p.kind=2):(yaj p).length=p.signs.length:=rfl
theorem ka7 (p:zaa)(h:kab p=true)(q:p.kind=2):(yaj p).all kai=true:=by
 rcases Zab h with⟨n,_⟩|⟨_,_,_,j⟩|⟨n,_⟩
 ·omega
 ·exact j
 ·omega
theorem xas {o:List zaa}{t:List Int}(h:(zab o t).2=true):jae (zab o t).1=true/\((zab o t).1.length:Int)=va8 o:=by
 by_cases D:yag o=true/\jae t=true/\kad o=t.length
 ·obtain⟨n,u,z⟩:=D;rw[XaE n u z];obtain⟨j,_,M,J⟩:=Jam.1 n;have q:vab 2 o=t.length:=by rw[<-Kan n];exact z
  have I:=XaA yaj t (fun p a b=>yaB p a b) j q o.length (lr _)
  have B:=zaK (zan.1 u).2 ka7 j o.length (lr _);rw[List.take_length]at I B;refine⟨zan.2 ⟨by simp only;omega,B⟩,?_⟩
  rw[va0 n];exact I
 ·rw[JaW D]at h;cases h
def QaV (s:Option (List Int))(o:List zaa):Option (List Int):=s.bind fun t=>if(zab o t).2=true then some (zab o t).1 else none
def vai (l:List (List zaa))(t:List Int):Option (List Int):=l.foldl QaV (some t)
theorem zar:∀(l:List (List zaa)),l.foldl QaV none=none
 |[]=>rfl
 |_::l=>zar l
theorem yax {l:List (List zaa)}{t:List Int}{k:Nat}(h:vai (l.take k) t=none):vai l t=none:=by
 unfold vai at *;rw[<-List.take_append_drop k l,List.foldl_append,h,zar]
theorem QaE {l:List (List zaa)}{t u:List Int}{k:Nat}{o:List zaa}(j:l[k]? =some o)(h:vai (l.take k) t=some u):vai (l.take (k+1)) t=if(zab o u).2=true then some (zab o u).1 else none:=by
 unfold vai at *;rw[Zag j,List.foldl_append,h];rfl
def yao (l:List (List zaa))(t:List Int):List Int×Bool:=if jae t=true then(match vai l t with
 |some u=>(u,true)
 |none=>([],false))else([],false)
theorem szPS:∀j,(sizeOf 30).run Tryz.prog j= .ok 1 j:=fun _=>by kernel_rfl
def kbh:Option (List Int)->List Int×Bool
 |some u=>(u,true)
 |none=>([],false)
theorem Jaq {l:List (List zaa)}{t:List Int}(h:jae t=true):yao l t=kbh (vai l t):=by unfold yao;rw[if_pos h];cases vai l t<;>rfl
def fits (o:List zaa)(t:List Int):Bool:=yag o&&jae t&&decide (kad o=t.length)
theorem Ka4 {o:List zaa}{t:List Int}(h:fits o t=true):zab o t=((xaj yaj t o).2,true):=by
 simp only[fits,Bool.and_eq_true,decide_eq_true_eq]at h;exact XaE h.1.1 h.1.2 h.2
theorem Xba {o:List zaa}{t:List Int}(h:fits o t=false):zab o t=([],false):=JaW fun j=>by
 simp[fits,j.1,j.2.1,j.2.2]at h
theorem vaz (o:List zaa)(t:List Int)(Y Z:Value)(w:World)(J:RdS w Y o)(M:RdS w Z t):Calls Tryz.prog 158 #[Y,Z] w (yae w (.bool (fits o t))):=by
 have a2:=fun N ty=>M.len Tryz.underlying31 N ty
 have bx:=M.le;by_cases D:yag o=true
 rotate_left
 ·have D:yag o=false:=by simpa using D
  have p:Hid (fits o t=false):=hH (by simp[fits,D])
  go_enter Tryz.func158,Tryz.ntmps158
  go_wp2_with fail
  refine(Xad _ o _ (J.below blw)).mono ?_;rintro e N ⟨rfl,j⟩;have B:=j.size;(try simp at B)
  obtain⟨u,z⟩:=jac j;go_wp2;go_ret;exact⟨jaa (by rw[p.out];first|done|(simp;done)|(simp;omega)),blw⟩
 by_cases I:jae t=true
 rotate_left
 ·have I:jae t=false:=by simpa using I
  have p:Hid (fits o t=false):=hH (by simp[fits,I])
  go_enter Tryz.func158,Tryz.ntmps158
  go_wp2_with fail
  refine(Xad _ o _ (J.below blw)).mono ?_;rintro e N ⟨rfl,j⟩;have B:=j.size;(try simp at B)
  obtain⟨u,z⟩:=jac j;go_wp2_with fail
  refine(Xaj _ t _ (M.below blw)).mono ?_;rintro e w2 ⟨rfl,n⟩;have U:=n.size;(try simp at U)
  obtain⟨Q,R⟩:=jac n;go_wp2;go_ret;exact⟨jaa (by rw[p.out];first|done|(simp;done)|(simp;omega)),blw⟩
 have p:Hid (fits o t=decide (kad o=t.length)):=hH (by simp[fits,D,I])
 go_enter Tryz.func158,Tryz.ntmps158
 go_wp2_with fail
 refine(Xad _ o _ (J.below blw)).mono ?_;rintro e N ⟨rfl,j⟩;have B:=j.size;(try simp at B)
 obtain⟨u,z⟩:=jac j;go_wp2_with fail
 refine(Xaj _ t _ (M.below blw)).mono ?_;rintro e w2 ⟨rfl,n⟩;have U:=n.size;(try simp at U)
 obtain⟨Q,R⟩:=jac n;go_wp2_with fail
 refine(Qaj _ o _ (J.below blw)).mono ?_;rintro e w3 ⟨rfl,q⟩;have s3:=q.size;(try simp at s3)
 obtain⟨a0,a1⟩:=jac q;go_wp2;go_ret;exact⟨jaa (by rw[p.out];first|rfl|(rw[beq_eq_decide])|(simp;done)),blw⟩
theorem jal (o:List zaa)(t:List Int)(vo vt:Value)(w:World)(ho:RdS w vo o)(ht:RdS w vt t):Calls Tryz.prog 147 #[vo,vt] w (uay w (zab o t).1 (zab o t).2):=by
 have hlo:=fun U ty=>ho.len Tryz.underlying30 U ty
 have hlx:=fun U ty=>ht.len Tryz.underlying31 U ty
 have bo:=ho.le;have bx:=ht.le;obtain⟨i0,hi,hz0,hz1,hz2⟩:=info_parts Zau;by_cases hf:fits o t=true
 ·have HV:=hH (Ka4 hf);simp only[fits,Bool.and_eq_true,decide_eq_true_eq]at hf;obtain⟨⟨h1,ht0⟩,h2⟩:=hf;obtain⟨a0,h600,h200,h300⟩:=Jam.1 h1;have Q:=hH a0;have hfr:vab 2 o=t.length:=by rw[<-Kan h1];exact h2
  have HFR:=hH hfr;have H2:=hH h2;have hxl:t.length<=200:=om;clear a0 hfr h2;have hft:fits o t=true:=by simp[fits,h1,ht0,H2.out]
  go_enter Tryz.func147,Tryz.ntmps147
  go_wp2_with fail
  refine(vaz o t _ _ _ (ho.below blw) (ht.below blw)).mono ?_;rintro e U ⟨rfl,R⟩;have s1:=R.size;(try simp at s1)
  obtain⟨hc1,hf1⟩:=jac R;clear hc1 hf1;go_wp2;go_loopw [6,7,17] (fun z at_ i wr=>∃(k:Nat) (u:Value),u=z/\k<=o.length/\i= .int .i64 k/\at_= .int .i64 (xaj yaj t (o.take k)).1/\uaf w wr u (xaj yaj t (o.take k)).2/\Below w w wr) (fun _ _ i _=>o.length-(intOf i).toNat)
  case atStart=>exact⟨0,_,rfl,lz _,rfl,rfl,uaf.empty _ _ _,blw⟩
  case round=>
   obtain⟨k,u,rfl,hk,rfl,rfl,hu,M⟩:=hrel;have hsz:=M.size;by_cases hlt:k<o.length
   ·obtain⟨p,Y⟩:=Jaa hlt;have Z:=jat Q.out Y;have q:=Zap (sub:=yaj) (t:=t) Y;have hsm:=qaX yaj (t:=t) yaB Q.out HFR.out h300 k om;have j:=fun h=>ya6 yaj Q.out HFR.out Y h
    obtain⟨b1,o1,cs,g1,g2,g3⟩:=(ho.below M).idx Tryz.underlying30 uae k Y;obtain⟨v_signs,rfl,D⟩:=xah g3;have q0:=g2.zero;have q1:=g2 1 _ rfl;have q2:=g2 2 _ rfl;obtain⟨aa,ca,rfl⟩:=D.isSlice;obtain⟨a,S,haS⟩:∃a S,xaj yaj t (o.take k)=(a,S):=⟨_,_,rfl⟩;rw[haS]at q hu hsm j;rw[haS];simp only at hu q hsm j⊢;clear haS Y;have I:=hH hu.ints;clear hu;rcases Zab Z with⟨N,n1,n2,n3⟩|⟨N,n1,n2,_⟩|⟨N,n1,n2,n3⟩
    ·obtain⟨n,hn⟩:∃n:Nat,p.n=n:=⟨p.n.toNat,by omega⟩
     have J:=j (.inl N);rw[N]at q0;rw[hn]at q1 J;simp only[vak,N,hn,if_true,Int.toNat_natCast]at q J;obtain⟨vc,hcut,hcr⟩:=(ht.below M).cut Tryz.underlying31 xaH (lo:=a) (hi:=a+n) om J;simp only[Int.natCast_add]at hcut;have hcl:((t.take (a+n)).drop a).length=n:=by simp;omega
     have HCR:=hH hcr;have B:=hH q;have HCL:=hH hcl;have b2:n<=200:=om;clear q hcr hcl Z N n1 n2 n3 hn j;go_wp2_with (at_builtin;refine qaa rfl _ _ 31 rfl Tryz.underlying31 hi hz0 hz1 hz2 rfl rfl rfl (I.out.below blw) (Src.ints (HCR.out.below blw)) (fun _ h=>by cases h) ?c1 ?c2 ?c3 ?_)
     case c1=>rw[HCL.out];exact Xab om
     case c2=>rw[HCL.out];omega
     case c3=>simp;omega
     intro v' U hr hw _;have HO:=hH hr.ints.2;have HB:Hid (Below w w U):=hH (Zaf M (wrb (C:=w) hw blw hsz (fun p Y=>I.out.2.1.ge p Y)) (lr _))
     have s1:=wrs hw (w:=wr) blw;have zb:wr<U.heap.size:=lq sm hw.size;have k0:U.cell? ⟨wr.heap.size,1,none⟩=some (.int .i64 n):=by
      rw[hw.cell (wr.heap.size,1) sm (fun hm=>by have:=Live.lt (Live.append.1 I.out.1.live).1 _ hm;simp at this)]
      simp
     clear hr hw;go_wp2;go_roundw
     case rel=>exact⟨k+1,_,rfl,by omega,by go_num,by rw[B.out];go_num,by rw[B.out];exact HO.out,HB.out⟩
     case measure=>simp[intOf];omega
    ·rw[N]at q0;simp only[vak,N,yaj]at q;have B:=hH q;have HPS:=hH D;clear q Z N n1 j;go_wp2_with (at_builtin;refine qaa rfl _ _ 31 rfl Tryz.underlying31 hi hz0 hz1 hz2 rfl rfl rfl (I.out.below blw) (Src.ints (HPS.out.below blw)) (fun _ h=>by cases h) ?c1 ?c2 ?c3 ?_)
     case c1=>exact Xab om
     case c2=>omega
     case c3=>simp;omega
     intro v' U hr hw _;have HO:=hH hr.ints.2;have HB:Hid (Below w w U):=hH (Zaf M (wrb (C:=w) hw blw hsz (fun p Y=>I.out.2.1.ge p Y)) (lr _))
     clear hr hw;go_wp2;go_roundw
     case rel=>exact⟨k+1,_,rfl,by omega,by go_num,by rw[B.out];rfl,by rw[B.out];exact HO.out,HB.out⟩
     case measure=>simp[intOf];omega
    ·obtain⟨n,hn⟩:∃n:Nat,p.n=n:=⟨p.n.toNat,by omega⟩
     have J:=j (.inr N);rw[N]at q0;rw[hn]at q1 J;simp only[vak,N,hn,Int.toNat_natCast]at q J;have B:=hH q;have b2:n<=200:=om;have HU:=hH I.out.ints.2;clear q Z N n1 n2 n3 hn j;go_wp2;go_roundw
     case rel=>exact⟨k+1,_,rfl,by omega,by go_num,by rw[B.out];go_num,by rw[B.out];exact HU.out.below blw,blw⟩
     case measure=>simp[intOf];omega
   ·obtain rfl:k=o.length:=om;rw[List.take_length]at hu;obtain⟨fp,hs,hf⟩:=hu;go_wp2;go_ret2
    rw[HV.out];exact⟨_,_,rfl,hs,hf,M⟩
 ·have hf:fits o t=false:=by simpa using hf
  have HV:=hH (Xba hf);go_enter Tryz.func147,Tryz.ntmps147
  go_wp2_with fail
  refine(vaz o t _ _ _ (ho.below blw) (ht.below blw)).mono ?_;rintro e U ⟨rfl,R⟩;have s1:=R.size;(try simp at s1)
  obtain⟨hc1,hf1⟩:=jac R;go_wp2;go_ret2
  rw[HV.out];exact⟨_,_,rfl,Sl.nil,Qaa.nil _ _,blw⟩
theorem uap (o:List zaa)(t:List Int)(vo vt:Value)(w:World)(ho:RdS w vo o)(ht:RdS w vt t):Calls Tryz.prog 84 #[vo,vt] w (uay w (zab o t).1 (zab o t).2):=by
 have hlo:=fun U ty=>ho.len Tryz.underlying30 U ty
 have hlx:=fun U ty=>ht.len Tryz.underlying31 U ty
 have bo:=ho.le;have bx:=ht.le;obtain⟨i0,hi,hz0,hz1,hz2⟩:=info_parts Zau;by_cases hf:fits o t=true
 ·have HV:=hH (Ka4 hf);simp only[fits,Bool.and_eq_true,decide_eq_true_eq]at hf;obtain⟨⟨h1,ht0⟩,h2⟩:=hf;obtain⟨hall,h600,h200,h300⟩:=Jam.1 h1;have Y:=hH hall;have hfr:vab 2 o=t.length:=by rw[<-Kan h1];exact h2
  have HFR:=hH hfr;have H2:=hH h2;have hxl:t.length<=200:=om;have e2:(kad o !=(t.length:Int))=false:=by simpa using h2
  clear hall hfr h2;go_enter Tryz.func84,Tryz.ntmps84
  go_wp2_with fail
  refine(jad _ o _ (ho.below blw)).mono ?_;rintro e U ⟨rfl,j⟩;have s1:=j.size;(try simp at s1)
  obtain⟨a0,hf1⟩:=jac j;go_wp2_with fail
  refine(Qaf _ t _ (ht.below blw)).mono ?_;rintro e w2 ⟨rfl,I⟩;have s2:=I.size;(try simp at s2)
  obtain⟨hc2,hf2⟩:=jac I;go_wp2_with fail
  refine(jai _ o _ (ho.below blw)).mono ?_;rintro e w3 ⟨rfl,Z⟩;have s3:=Z.size;(try simp at s3)
  obtain⟨hc3,hf3⟩:=jac Z;clear a0 hf1 hc2 hf2 hc3 hf3;go_wp2;go_loopw [6,7,27] (fun z at_ i wr=>∃(k:Nat) (u:Value),u=z/\k<=o.length/\i= .int .i64 k/\at_= .int .i64 (xaj yaj t (o.take k)).1/\uaf w wr u (xaj yaj t (o.take k)).2/\Below w w wr) (fun _ _ i _=>o.length-(intOf i).toNat)
  case atStart=>exact⟨0,_,rfl,lz _,rfl,rfl,uaf.empty _ _ _,blw⟩
  case round=>
   obtain⟨k,u,rfl,hk,rfl,rfl,hu,Q⟩:=hrel;have hsz:=Q.size;by_cases hlt:k<o.length
   ·obtain⟨p,hp⟩:=Jaa hlt;have hpo:=jat Y.out hp;have B:=Zap (sub:=yaj) (t:=t) hp;have hsm:=qaX yaj (t:=t) yaB Y.out HFR.out h300 k om;have q:=fun h=>ya6 yaj Y.out HFR.out hp h
    obtain⟨b1,o1,cs,g1,g2,g3⟩:=(ho.below Q).idx Tryz.underlying30 uae k hp;obtain⟨v_signs,rfl,J⟩:=xah g3;have q0:=g2.zero;have q1:=g2 1 _ rfl;have q2:=g2 2 _ rfl;obtain⟨aa,ca,rfl⟩:=J.isSlice;obtain⟨a,S,haS⟩:∃a S,xaj yaj t (o.take k)=(a,S):=⟨_,_,rfl⟩;rw[haS]at B hu hsm q;rw[haS];simp only at hu B hsm q⊢;clear haS hp;have M:=hH hu.ints;clear hu;rcases Zab hpo with⟨R,n1,n2,n3⟩|⟨R,n1,n2,_⟩|⟨R,n1,n2,n3⟩
    ·obtain⟨n,hn⟩:∃n:Nat,p.n=n:=⟨p.n.toNat,by omega⟩
     have N:=q (.inl R);rw[R]at q0;rw[hn]at q1 N;simp only[vak,R,hn,if_true,Int.toNat_natCast]at B N;obtain⟨vc,hcut,hcr⟩:=(ht.below Q).cut Tryz.underlying31 xaH (lo:=a) (hi:=a+n) om N;simp only[Int.natCast_add]at hcut;have hcl:((t.take (a+n)).drop a).length=n:=by simp;omega
     have HCR:=hH hcr;have D:=hH B;have HCL:=hH hcl;have b2:n<=200:=om;clear B hcr hcl hpo R n1 n2 n3 hn q;go_wp2_with (at_builtin;refine qaa rfl _ _ 31 rfl Tryz.underlying31 hi hz0 hz1 hz2 rfl rfl rfl (M.out.below blw) (Src.ints (HCR.out.below blw)) (fun _ h=>by cases h) ?c1 ?c2 ?c3 ?_)
     case c1=>rw[HCL.out];exact Xab om
     case c2=>rw[HCL.out];omega
     case c3=>simp;omega
     intro v' U hr hw _;have HO:=hH hr.ints.2;have HB:Hid (Below w w U):=hH (Zaf Q (wrb (C:=w) hw blw hsz (fun p hp=>M.out.2.1.ge p hp)) (lr _))
     have s1:=wrs hw (w:=wr) blw;have zb:wr<U.heap.size:=lq sm hw.size;have k0:U.cell? ⟨wr.heap.size,1,none⟩=some (.int .i64 n):=by
      rw[hw.cell (wr.heap.size,1) sm (fun hm=>by have:=Live.lt (Live.append.1 M.out.1.live).1 _ hm;simp at this)]
      simp
     clear hr hw;go_wp2;go_roundw
     case rel=>exact⟨k+1,_,rfl,by omega,by go_num,by rw[D.out];go_num,by rw[D.out];exact HO.out,HB.out⟩
     case measure=>simp[intOf];omega
    ·rw[R]at q0;simp only[vak,R,yaj]at B;have D:=hH B;have HPS:=hH J;clear B hpo R n1 q;go_wp2_with (at_builtin;refine qaa rfl _ _ 31 rfl Tryz.underlying31 hi hz0 hz1 hz2 rfl rfl rfl (M.out.below blw) (Src.ints (HPS.out.below blw)) (fun _ h=>by cases h) ?c1 ?c2 ?c3 ?_)
     case c1=>exact Xab om
     case c2=>omega
     case c3=>simp;omega
     intro v' U hr hw _;have HO:=hH hr.ints.2;have HB:Hid (Below w w U):=hH (Zaf Q (wrb (C:=w) hw blw hsz (fun p hp=>M.out.2.1.ge p hp)) (lr _))
     clear hr hw;go_wp2;go_roundw
     case rel=>exact⟨k+1,_,rfl,by omega,by go_num,by rw[D.out];rfl,by rw[D.out];exact HO.out,HB.out⟩
     case measure=>simp[intOf];omega
    ·obtain⟨n,hn⟩:∃n:Nat,p.n=n:=⟨p.n.toNat,by omega⟩
     have N:=q (.inr R);rw[R]at q0;rw[hn]at q1 N;simp only[vak,R,hn,Int.toNat_natCast]at B N;have D:=hH B;have b2:n<=200:=om;have HU:=hH M.out.ints.2;clear B hpo R n1 n2 n3 hn q;go_wp2;go_roundw
     case rel=>exact⟨k+1,_,rfl,by omega,by go_num,by rw[D.out];go_num,by rw[D.out];exact HU.out.below blw,blw⟩
     case measure=>simp[intOf];omega
   ·obtain rfl:k=o.length:=om;rw[List.take_length]at hu;obtain⟨fp,hs,hf⟩:=hu;go_wp2;go_ret2
    rw[HV.out];exact⟨_,_,rfl,hs,hf,Q⟩
 ·have HV:=hH (Xba (o:=o) (t:=t) (by simpa using hf))
  by_cases h1:yag o=true
  rotate_left
  ·have h1:yag o=false:=by simpa using h1
   go_enter Tryz.func84,Tryz.ntmps84
   go_wp2_with fail
   refine(jad _ o _ (ho.below blw)).mono ?_;rintro e U ⟨rfl,j⟩;have s1:=j.size;(try simp at s1)
   obtain⟨a0,hf1⟩:=jac j;go_wp2;go_ret2
   rw[HV.out];exact⟨_,_,rfl,Sl.nil,Qaa.nil _ _,blw⟩
  by_cases h2:jae t=true
  rotate_left
  ·have h2:jae t=false:=by simpa using h2
   go_enter Tryz.func84,Tryz.ntmps84
   go_wp2_with fail
   refine(jad _ o _ (ho.below blw)).mono ?_;rintro e U ⟨rfl,j⟩;have s1:=j.size;(try simp at s1)
   obtain⟨a0,hf1⟩:=jac j;go_wp2_with fail
   refine(Qaf _ t _ (ht.below blw)).mono ?_;rintro e w2 ⟨rfl,I⟩;have s2:=I.size;(try simp at s2)
   obtain⟨hc2,hf2⟩:=jac I;go_wp2;go_ret2
   rw[HV.out];exact⟨_,_,rfl,Sl.nil,Qaa.nil _ _,blw⟩
  have e2:(kad o !=(t.length:Int))=true:=by simp[fits,h1,h2]at hf;simpa using hf
  clear hf;go_enter Tryz.func84,Tryz.ntmps84
  go_wp2_with fail
  refine(jad _ o _ (ho.below blw)).mono ?_;rintro e U ⟨rfl,j⟩;have s1:=j.size;(try simp at s1)
  obtain⟨a0,hf1⟩:=jac j;go_wp2_with fail
  refine(Qaf _ t _ (ht.below blw)).mono ?_;rintro e w2 ⟨rfl,I⟩;have s2:=I.size;(try simp at s2)
  obtain⟨hc2,hf2⟩:=jac I;go_wp2_with fail
  refine(jai _ o _ (ho.below blw)).mono ?_;rintro e w3 ⟨rfl,Z⟩;have s3:=Z.size;(try simp at s3)
  obtain⟨hc3,hf3⟩:=jac Z;go_wp2;go_ret2
  rw[HV.out];exact⟨_,_,rfl,Sl.nil,Qaa.nil _ _,blw⟩
theorem uas (l:List (List zaa))(t:List Int)(vl vt:Value)(w:World)(hl:RdS w vl l)(ht:RdS w vt t)(Q:t.length<=4000000):Calls Tryz.prog 67 #[vl,vt] w (uay w (yao l t).1 (yao l t).2):=by
 have hll:=fun w1 ty=>hl.len Tryz.underlying116 w1 ty
 have bl:=hl.le;by_cases h1:jae t=true
 rotate_left
 ·have h1:jae t=false:=by simpa using h1
  have Z:Hid (yao l t=([],false)):=hH (by simp[yao,h1])
  go_enter Tryz.func67,Tryz.ntmps67
  go_wp2_with fail
  refine(Qaf _ t _ (ht.below blw)).mono ?_;rintro e w1 ⟨rfl,j⟩;have s1:=j.size;(try simp at s1)
  obtain⟨M,N⟩:=jac j;go_wp2;go_ret2
  rw[Z.out];exact⟨_,_,rfl,Sl.nil,Qaa.nil _ _,blw⟩
 have Z:=hH (Jaq (l:=l) h1);go_enter Tryz.func67,Tryz.ntmps67
 go_wp2_with fail
 refine(Qaf _ t _ (ht.below blw)).mono ?_;rintro e w1 ⟨rfl,j⟩;have s1:=j.size;(try simp at s1)
 obtain⟨M,N⟩:=jac j;clear M N;go_wp2_with fail
 refine(qal _ t _ (ht.below blw) Q).mono ?_;rintro e w2 ⟨v2,rfl,R,hb2⟩;have s2:=hb2.size;have HO2:Hid (uaf w w2 v2 t):=hH (R.mono om);clear R;go_wp2;go_loopw [6,18] (fun z i wr=>∃(k:Nat) (u:Value) (x:List Int),u=z/\k<=l.length/\i= .int .i64 k/\vai (l.take k) t=some x/\uaf w wr u x/\Below w w wr) (fun _ i _=>l.length-(intOf i).toNat)
 case atStart=>exact⟨0,_,t,rfl,lz _,rfl,rfl,HO2.out,blw⟩
 case round=>
  obtain⟨k,u,x,rfl,hk,rfl,U,hu,n⟩:=hrel;have B:=n.size;by_cases hlt:k<l.length
  ·obtain⟨o,ho⟩:=Jaa hlt;obtain⟨b1,o1,cs,g1,g2,g3⟩:=(hl.below n).idx Tryz.underlying116 szPS k ho;obtain⟨fp,v_o,rfl,D⟩:=g3;have q0:=g2.one;obtain⟨ao,co,rfl⟩:=RdS.isSlice ⟨_,D⟩;have J:=hH (QaE ho U);have HU:=hH hu;have I:Hid (RdS wr (.slice ao o.length co) o):=hH ⟨_,D⟩;clear U ho hu D;by_cases hy:(zab o x).2=true
   ·have HS2:Hid (vai (l.take (k+1)) t=some (zab o x).1):=hH (by rw[J.out,if_pos hy])
    go_wp2_with fail
    refine(uap o x _ _ _ (I.out.below blw) (HU.out.rd.below blw)).mono ?_;rintro e w3 ⟨v3,f3,rfl,S3,Y,q⟩;rw[hy];have HO3:Hid (uaf w w3 v3 (zab o x).1):=hH ⟨f3,S3,Y.mono B⟩;have p:Hid (Below w w w3):=hH (n.trans (q.mono B));clear S3 Y;go_wp2;go_roundw
    case rel=>exact⟨k+1,_,_,rfl,by omega,by go_num,HS2.out,HO3.out,p.out⟩
    case measure=>simp[intOf];omega
   ·have HN:Hid (vai l t=none):=hH (yax (k:=k+1) (by rw[J.out,if_neg hy]))
    have hy:(zab o x).2=false:=by simpa using hy
    go_wp2_with fail
    refine(uap o x _ _ _ (I.out.below blw) (HU.out.rd.below blw)).mono ?_;rintro e w3 ⟨v3,f3,rfl,S3,Y,q⟩;rw[hy];have p:Hid (Below w w w3):=hH (n.trans (q.mono B));clear S3 Y;go_wp2;go_ret2
    rw[Z.out,HN.out];exact⟨_,_,rfl,Sl.nil,Qaa.nil _ _,p.out⟩
  ·obtain rfl:k=l.length:=om;rw[List.take_length]at U;have HX:=hH U;obtain⟨fp,hs,hf⟩:=hu;clear U;go_wp2;go_ret2
   rw[Z.out,HX.out];exact⟨_,_,rfl,hs,hf,n⟩
