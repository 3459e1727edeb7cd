/- Applying operations. -/
import Derived.Test.YtocdogemgojgaaaGreatQaj
import Derived.Test.YtocdogemgojgaaaGreatQak
set_option maxHeartbeats 4000000
set_option maxRecDepth 100000
namespace Go.Proofs.YtocdogemgojgaaaGreat
open Go.RowKit
def Zai (p:zaa):List Int:=p.signs
def qab (o:List zaa)(t:List Int):List Int×Bool:=if jag o=true/\xae t=true/\xad o=t.length then((Xai Zai t o).2,true)else([],false)
theorem qaz {o:List zaa}{t:List Int}(h:jag o=true)(j:xae t=true)(n:xad o=t.length):qab o t=((Xai Zai t o).2,true):=if_pos ⟨h,j,n⟩
theorem ZaM {o:List zaa}{t:List Int}(h:¬(jag o=true/\xae t=true/\xad o=t.length)):qab o t=([],false):=if_neg h
theorem kan {t:List Int}:xae t=true↔t.length<=200/\t.all vak=true:=by simp[xae,yal]
theorem ZaL {sub:zaa->List Int}{t:List Int}(B:t.all vak=true)(z:∀p,jab p=true->p.kind=2->(sub p).all vak=true){o:List zaa}(j:o.all jab=true):∀k,k<=o.length->(Xai sub t (o.take k)).2.all vak=true
 |0,_=>by simp[Xai]
 |k+1,I=>by
  obtain⟨x,D⟩:=kaa (l:=o) (k:=k) (by omega)
  have q:=ZaL B z j k (by omega)
  rw[Xap D];have u:=yat j D;rcases Zab u with⟨n,_⟩|⟨n,_⟩|⟨n,_⟩
  ·simp only[kak,n,if_true,List.all_append,Bool.and_eq_true];exact⟨q,xaK (Jay B _) _⟩
  ·simp only[kak,n];simp only[show ¬((2:Int)=1)from by decide,show ¬((2:Int)=3)from by decide,if_false,List.all_append,Bool.and_eq_true]
   exact⟨q,z x u n⟩
  ·simpa[kak,n]using q
theorem uaB (p:zaa)(_:jab p=true)(_:p.kind=2):(Zai p).length=p.signs.length:=rfl
theorem Ka9 (p:zaa)(h:jab p=true)(q:p.kind=2):(Zai p).all vak=true:=by
 rcases Zab h with⟨n,_⟩|⟨_,_,_,j⟩|⟨n,_⟩
 ·omega
 ·exact j
 ·omega
theorem vas {o:List zaa}{t:List Int}(h:(qab o t).2=true):xae (qab o t).1=true/\((qab o t).1.length:Int)=Xba o:=by
 by_cases D:jag o=true/\xae t=true/\xad o=t.length
 ·obtain⟨n,u,z⟩:=D;rw[qaz n u z];obtain⟨j,_,M,J⟩:=Zam.1 n;have q:kab 2 o=t.length:=by rw[<-Zan n];exact z
  have I:=jaB Zai t (fun p a b=>uaB p a b) j q o.length (lr _)
  have B:=ZaL (kan.1 u).2 Ka9 j o.length (lr _);rw[List.take_length]at I B;refine⟨kan.2 ⟨by simp only;omega,B⟩,?_⟩
  rw[qa4 n];exact I
 ·rw[ZaM D]at h;cases h
theorem ja9 (o:List zaa)(t:List Int):(qab o t).1.length<=200:=by
 by_cases j:jag o=true/\xae t=true/\xad o=t.length
 ·have:=(vas (o:=o) (t:=t) (by rw[qaz j.1 j.2.1 j.2.2])).1
  exact(kan.1 this).1
 ·rw[ZaM j];simp
def va2 (s:Option (List Int))(o:List zaa):Option (List Int):=s.bind fun t=>if(qab o t).2=true then some (qab o t).1 else none
def Zaj (l:List (List zaa))(t:List Int):Option (List Int):=l.foldl va2 (some t)
theorem vau:∀(l:List (List zaa)),l.foldl va2 none=none
 |[]=>rfl
 |_::l=>vau l
theorem vay {l:List (List zaa)}{t:List Int}{k:Nat}(h:Zaj (l.take k) t=none):Zaj l t=none:=by
 unfold Zaj at *;rw[<-List.take_append_drop k l,List.foldl_append,h,vau]
theorem kaF {l:List (List zaa)}{t u:List Int}{k:Nat}{o:List zaa}(j:l[k]? =some o)(h:Zaj (l.take k) t=some u):Zaj (l.take (k+1)) t=if(qab o u).2=true then some (qab o u).1 else none:=by
 unfold Zaj at *;rw[zag j,List.foldl_append,h];rfl
def xao (l:List (List zaa))(t:List Int):List Int×Bool:=if xae t=true then(match Zaj l t with
 |some u=>(u,true)
 |none=>([],false))else([],false)
theorem szPS:∀j,(sizeOf 30).run Tryz.prog j= .ok 1 j:=fun _=>by kernel_rfl
def xbk:Option (List Int)->List Int×Bool
 |some u=>(u,true)
 |none=>([],false)
theorem Qaq {l:List (List zaa)}{t:List Int}(h:xae t=true):xao l t=xbk (Zaj l t):=by unfold xao;rw[if_pos h];cases Zaj l t<;>rfl
def fits (o:List zaa)(t:List Int):Bool:=jag o&&xae t&&decide (xad o=t.length)
theorem Za6 {o:List zaa}{t:List Int}(h:fits o t=true):qab o t=((Xai Zai t o).2,true):=by
 simp only[fits,Bool.and_eq_true,decide_eq_true_eq]at h;exact qaz h.1.1 h.1.2 h.2
theorem Zbe {o:List zaa}{t:List Int}(h:fits o t=false):qab o t=([],false):=ZaM fun j=>by
 simp[fits,j.1,j.2.1,j.2.2]at h
theorem qaA (o:List zaa)(t:List Int)(Y Z:Value)(w:World)(J:RdS w Y o)(M:RdS w Z t):Calls Tryz.prog 209 #[Y,Z] w (Qac w (.bool (fits o t))):=by
 have a2:=fun N ty=>M.len Tryz.underlying31 N ty
 have bx:=M.le;by_cases D:jag o=true
 rotate_left
 ·have D:jag o=false:=by simpa using D
  have p:Hid (fits o t=false):=hH (by simp[fits,D])
  go_enter Tryz.func209,Tryz.ntmps209
  go_wp2_with fail
  refine(kad _ o _ (J.below blw)).mono ?_;rintro e N ⟨rfl,j⟩;have B:=j.size;(try simp at B)
  obtain⟨u,z⟩:=zab j;go_wp2;go_ret;exact⟨qaa (by rw[p.out];first|done|(simp;done)|(simp;omega)),blw⟩
 by_cases I:xae t=true
 rotate_left
 ·have I:xae t=false:=by simpa using I
  have p:Hid (fits o t=false):=hH (by simp[fits,I])
  go_enter Tryz.func209,Tryz.ntmps209
  go_wp2_with fail
  refine(kad _ o _ (J.below blw)).mono ?_;rintro e N ⟨rfl,j⟩;have B:=j.size;(try simp at B)
  obtain⟨u,z⟩:=zab j;go_wp2_with fail
  refine(Qaj _ t _ (M.below blw)).mono ?_;rintro e w2 ⟨rfl,n⟩;have U:=n.size;(try simp at U)
  obtain⟨Q,R⟩:=zab n;go_wp2;go_ret;exact⟨qaa (by rw[p.out];first|done|(simp;done)|(simp;omega)),blw⟩
 have p:Hid (fits o t=decide (xad o=t.length)):=hH (by simp[fits,D,I])
 go_enter Tryz.func209,Tryz.ntmps209
 go_wp2_with fail
 refine(kad _ o _ (J.below blw)).mono ?_;rintro e N ⟨rfl,j⟩;have B:=j.size;(try simp at B)
 obtain⟨u,z⟩:=zab j;go_wp2_with fail
 refine(Qaj _ t _ (M.below blw)).mono ?_;rintro e w2 ⟨rfl,n⟩;have U:=n.size;(try simp at U)
 obtain⟨Q,R⟩:=zab n;go_wp2_with fail
 refine(jaj _ o _ (J.below blw)).mono ?_;rintro e w3 ⟨rfl,q⟩;have s3:=q.size;(try simp at s3)
 obtain⟨a0,a1⟩:=zab q;go_wp2;go_ret;exact⟨qaa (by rw[p.out];first|rfl|(rw[beq_eq_decide])|(simp;done)),blw⟩
theorem qal (o:List zaa)(t:List Int)(vo vt:Value)(w:World)(ho:RdS w vo o)(ht:RdS w vt t):Calls Tryz.prog 167 #[vo,vt] w (xaz w (qab o t).1 (qab o t).2):=by
 have hlo:=fun U ty=>ho.len Tryz.underlying30 U ty
 have hlx:=fun U ty=>ht.len Tryz.underlying31 U ty
 have bo:=ho.le;have bx:=ht.le;obtain⟨i0,hi,hz0,hz1,hz2⟩:=info_parts kaE;by_cases hf:fits o t=true
 ·have HV:=hH (Za6 hf);simp only[fits,Bool.and_eq_true,decide_eq_true_eq]at hf;obtain⟨⟨h1,ht0⟩,h2⟩:=hf;obtain⟨a0,h600,h200,h300⟩:=Zam.1 h1;have Q:=hH a0;have hfr:kab 2 o=t.length:=by rw[<-Zan h1];exact h2
  have HFR:=hH hfr;have H2:=hH h2;have hxl:t.length<=200:=om;clear a0 hfr h2;have hft:fits o t=true:=by simp[fits,h1,ht0,H2.out]
  go_enter Tryz.func167,Tryz.ntmps167
  go_wp2_with fail
  refine(qaA o t _ _ _ (ho.below blw) (ht.below blw)).mono ?_;rintro e U ⟨rfl,R⟩;have s1:=R.size;(try simp at s1)
  obtain⟨hc1,hf1⟩:=zab R;clear hc1 hf1;go_wp2;go_loopw [6,7,17] (fun z at_ i wr=>∃(k:Nat) (u:Value),u=z/\k<=o.length/\i= .int .i64 k/\at_= .int .i64 (Xai Zai t (o.take k)).1/\Xag w wr u (Xai Zai t (o.take k)).2/\Below w w wr) (fun _ _ i _=>o.length-(intOf i).toNat)
  case atStart=>exact⟨0,_,rfl,lz _,rfl,rfl,Xag.empty _ _ _,blw⟩
  case round=>
   obtain⟨k,u,rfl,hk,rfl,rfl,hu,M⟩:=hrel;have hsz:=M.size;by_cases hlt:k<o.length
   ·obtain⟨p,Y⟩:=kaa hlt;have Z:=yat Q.out Y;have q:=Xap (sub:=Zai) (t:=t) Y;have hsm:=kaZ Zai (t:=t) uaB Q.out HFR.out h300 k (by omega)
    have j:=fun h=>Ja6 Zai Q.out HFR.out Y h
    obtain⟨b1,o1,cs,g1,g2,g3⟩:=(ho.below M).idx Tryz.underlying30 Xae k Y;obtain⟨v_signs,rfl,D⟩:=qag g3;have q0:=g2.zero;have q1:=g2 1 _ rfl;have q2:=g2 2 _ rfl;obtain⟨aa,ca,rfl⟩:=D.isSlice;obtain⟨a,S,haS⟩:∃a S,Xai Zai t (o.take k)=(a,S):=⟨_,_,rfl⟩;rw[haS]at q hu hsm j;rw[haS];simp only at hu q hsm j⊢;clear haS Y;have I:=hH hu.ints;clear hu;rcases Zab Z with⟨N,n1,n2,n3⟩|⟨N,n1,n2,_⟩|⟨N,n1,n2,n3⟩
    ·obtain⟨n,hn⟩:∃n:Nat,p.n=n:=⟨p.n.toNat,by omega⟩
     have J:=j (.inl N);rw[N]at q0;rw[hn]at q1 J;simp only[kak,N,hn,if_true,Int.toNat_natCast]at q J;obtain⟨vc,hcut,hcr⟩:=(ht.below M).cut Tryz.underlying31 kaw (lo:=a) (hi:=a+n) (by omega) J
     simp only[Int.natCast_add]at hcut;have hcl:((t.take (a+n)).drop a).length=n:=by simp;omega
     have HCR:=hH hcr;have B:=hH q;have HCL:=hH hcl;have b2:n<=200:=om;clear q hcr hcl Z N n1 n2 n3 hn j;go_wp2_with (at_builtin;refine jaa rfl _ _ 31 rfl Tryz.underlying31 hi hz0 hz1 hz2 rfl rfl rfl (I.out.below blw) (Src.ints (HCR.out.below blw)) (fun _ h=>by cases h) ?c1 ?c2 ?c3 ?_)
     case c1=>rw[HCL.out];exact yac (by omega)
     case c2=>rw[HCL.out];omega
     case c3=>simp;omega
     intro v' U hr hw _;have HO:=hH hr.ints.2;have HB:Hid (Below w w U):=hH (kaf M (wrb (C:=w) hw blw hsz (fun p Y=>I.out.2.1.ge p Y)) (lr _))
     have s1:=wrs hw (w:=wr) blw;have zb:wr<U.heap.size:=lq (by simp) hw.size
     have k0:U.cell? ⟨wr.heap.size,1,none⟩=some (.int .i64 n):=by
      rw[hw.cell (wr.heap.size,1) (by simp) (fun hm=>by have:=Live.lt (Live.append.1 I.out.1.live).1 _ hm;simp at this)]
      simp
     clear hr hw;go_wp2;go_roundw
     case rel=>exact⟨k+1,_,rfl,by omega,by go_num,by rw[B.out];go_num,by rw[B.out];exact HO.out,HB.out⟩
     case measure=>simp[intOf];omega
    ·rw[N]at q0;simp only[kak,N,Zai]at q;have B:=hH q;have HPS:=hH D;clear q Z N n1 j;go_wp2_with (at_builtin;refine jaa rfl _ _ 31 rfl Tryz.underlying31 hi hz0 hz1 hz2 rfl rfl rfl (I.out.below blw) (Src.ints (HPS.out.below blw)) (fun _ h=>by cases h) ?c1 ?c2 ?c3 ?_)
     case c1=>exact yac (by omega)
     case c2=>omega
     case c3=>simp;omega
     intro v' U hr hw _;have HO:=hH hr.ints.2;have HB:Hid (Below w w U):=hH (kaf M (wrb (C:=w) hw blw hsz (fun p Y=>I.out.2.1.ge p Y)) (lr _))
     clear hr hw;go_wp2;go_roundw
     case rel=>exact⟨k+1,_,rfl,by omega,by go_num,by rw[B.out];rfl,by rw[B.out];exact HO.out,HB.out⟩
     case measure=>simp[intOf];omega
    ·obtain⟨n,hn⟩:∃n:Nat,p.n=n:=⟨p.n.toNat,by omega⟩
     have J:=j (.inr N);rw[N]at q0;rw[hn]at q1 J;simp only[kak,N,hn,Int.toNat_natCast]at q J;have B:=hH q;have b2:n<=200:=om;have HU:=hH I.out.ints.2;clear q Z N n1 n2 n3 hn j;go_wp2;go_roundw
     case rel=>exact⟨k+1,_,rfl,by omega,by go_num,by rw[B.out];go_num,by rw[B.out];exact HU.out.below blw,blw⟩
     case measure=>simp[intOf];omega
   ·obtain rfl:k=o.length:=om;rw[List.take_length]at hu;obtain⟨fp,hs,hf⟩:=hu;go_wp2;go_ret2
    rw[HV.out];exact⟨_,_,rfl,hs,hf,M⟩
 ·have hf:fits o t=false:=by simpa using hf
  have HV:=hH (Zbe hf);go_enter Tryz.func167,Tryz.ntmps167
  go_wp2_with fail
  refine(qaA o t _ _ _ (ho.below blw) (ht.below blw)).mono ?_;rintro e U ⟨rfl,R⟩;have s1:=R.size;(try simp at s1)
  obtain⟨hc1,hf1⟩:=zab R;go_wp2;go_ret2
  rw[HV.out];exact⟨_,_,rfl,Sl.nil,Xaa.nil _ _,blw⟩
theorem jap (o:List zaa)(t:List Int)(vo vt:Value)(w:World)(ho:RdS w vo o)(ht:RdS w vt t):Calls Tryz.prog 175 #[vo,vt] w (xaz w (qab o t).1 (qab o t).2):=by
 have hlo:=fun U ty=>ho.len Tryz.underlying30 U ty
 have hlx:=fun U ty=>ht.len Tryz.underlying31 U ty
 have bo:=ho.le;have bx:=ht.le;obtain⟨i0,hi,hz0,hz1,hz2⟩:=info_parts kaE;by_cases hf:fits o t=true
 ·have HV:=hH (Za6 hf);simp only[fits,Bool.and_eq_true,decide_eq_true_eq]at hf;obtain⟨⟨h1,ht0⟩,h2⟩:=hf;obtain⟨hall,h600,h200,h300⟩:=Zam.1 h1;have Y:=hH hall;have hfr:kab 2 o=t.length:=by rw[<-Zan h1];exact h2
  have HFR:=hH hfr;have H2:=hH h2;have hxl:t.length<=200:=om;have e2:(xad o !=(t.length:Int))=false:=by simpa using h2
  clear hall hfr h2;go_enter Tryz.func175,Tryz.ntmps175
  go_wp2_with fail
  refine(yad _ o _ (ho.below blw)).mono ?_;rintro e U ⟨rfl,j⟩;have s1:=j.size;(try simp at s1)
  obtain⟨a0,hf1⟩:=zab j;go_wp2_with fail
  refine(Zaf _ t _ (ht.below blw)).mono ?_;rintro e w2 ⟨rfl,I⟩;have s2:=I.size;(try simp at s2)
  obtain⟨hc2,hf2⟩:=zab I;go_wp2_with fail
  refine(zai _ o _ (ho.below blw)).mono ?_;rintro e w3 ⟨rfl,Z⟩;have s3:=Z.size;(try simp at s3)
  obtain⟨hc3,hf3⟩:=zab Z;clear a0 hf1 hc2 hf2 hc3 hf3;go_wp2;go_loopw [6,7,27] (fun z at_ i wr=>∃(k:Nat) (u:Value),u=z/\k<=o.length/\i= .int .i64 k/\at_= .int .i64 (Xai Zai t (o.take k)).1/\Xag w wr u (Xai Zai t (o.take k)).2/\Below w w wr) (fun _ _ i _=>o.length-(intOf i).toNat)
  case atStart=>exact⟨0,_,rfl,lz _,rfl,rfl,Xag.empty _ _ _,blw⟩
  case round=>
   obtain⟨k,u,rfl,hk,rfl,rfl,hu,Q⟩:=hrel;have hsz:=Q.size;by_cases hlt:k<o.length
   ·obtain⟨p,hp⟩:=kaa hlt;have hpo:=yat Y.out hp;have B:=Xap (sub:=Zai) (t:=t) hp;have hsm:=kaZ Zai (t:=t) uaB Y.out HFR.out h300 k (by omega)
    have q:=fun h=>Ja6 Zai Y.out HFR.out hp h
    obtain⟨b1,o1,cs,g1,g2,g3⟩:=(ho.below Q).idx Tryz.underlying30 Xae k hp;obtain⟨v_signs,rfl,J⟩:=qag g3;have q0:=g2.zero;have q1:=g2 1 _ rfl;have q2:=g2 2 _ rfl;obtain⟨aa,ca,rfl⟩:=J.isSlice;obtain⟨a,S,haS⟩:∃a S,Xai Zai t (o.take k)=(a,S):=⟨_,_,rfl⟩;rw[haS]at B hu hsm q;rw[haS];simp only at hu B hsm q⊢;clear haS hp;have M:=hH hu.ints;clear hu;rcases Zab hpo with⟨R,n1,n2,n3⟩|⟨R,n1,n2,_⟩|⟨R,n1,n2,n3⟩
    ·obtain⟨n,hn⟩:∃n:Nat,p.n=n:=⟨p.n.toNat,by omega⟩
     have N:=q (.inl R);rw[R]at q0;rw[hn]at q1 N;simp only[kak,R,hn,if_true,Int.toNat_natCast]at B N;obtain⟨vc,hcut,hcr⟩:=(ht.below Q).cut Tryz.underlying31 kaw (lo:=a) (hi:=a+n) (by omega) N
     simp only[Int.natCast_add]at hcut;have hcl:((t.take (a+n)).drop a).length=n:=by simp;omega
     have HCR:=hH hcr;have D:=hH B;have HCL:=hH hcl;have b2:n<=200:=om;clear B hcr hcl hpo R n1 n2 n3 hn q;go_wp2_with (at_builtin;refine jaa rfl _ _ 31 rfl Tryz.underlying31 hi hz0 hz1 hz2 rfl rfl rfl (M.out.below blw) (Src.ints (HCR.out.below blw)) (fun _ h=>by cases h) ?c1 ?c2 ?c3 ?_)
     case c1=>rw[HCL.out];exact yac (by omega)
     case c2=>rw[HCL.out];omega
     case c3=>simp;omega
     intro v' U hr hw _;have HO:=hH hr.ints.2;have HB:Hid (Below w w U):=hH (kaf Q (wrb (C:=w) hw blw hsz (fun p hp=>M.out.2.1.ge p hp)) (lr _))
     have s1:=wrs hw (w:=wr) blw;have zb:wr<U.heap.size:=lq (by simp) hw.size
     have k0:U.cell? ⟨wr.heap.size,1,none⟩=some (.int .i64 n):=by
      rw[hw.cell (wr.heap.size,1) (by simp) (fun hm=>by have:=Live.lt (Live.append.1 M.out.1.live).1 _ hm;simp at this)]
      simp
     clear hr hw;go_wp2;go_roundw
     case rel=>exact⟨k+1,_,rfl,by omega,by go_num,by rw[D.out];go_num,by rw[D.out];exact HO.out,HB.out⟩
     case measure=>simp[intOf];omega
    ·rw[R]at q0;simp only[kak,R,Zai]at B;have D:=hH B;have HPS:=hH J;clear B hpo R n1 q;go_wp2_with (at_builtin;refine jaa rfl _ _ 31 rfl Tryz.underlying31 hi hz0 hz1 hz2 rfl rfl rfl (M.out.below blw) (Src.ints (HPS.out.below blw)) (fun _ h=>by cases h) ?c1 ?c2 ?c3 ?_)
     case c1=>exact yac (by omega)
     case c2=>omega
     case c3=>simp;omega
     intro v' U hr hw _;have HO:=hH hr.ints.2;have HB:Hid (Below w w U):=hH (kaf Q (wrb (C:=w) hw blw hsz (fun p hp=>M.out.2.1.ge p hp)) (lr _))
     clear hr hw;go_wp2;go_roundw
     case rel=>exact⟨k+1,_,rfl,by omega,by go_num,by rw[D.out];rfl,by rw[D.out];exact HO.out,HB.out⟩
     case measure=>simp[intOf];omega
    ·obtain⟨n,hn⟩:∃n:Nat,p.n=n:=⟨p.n.toNat,by omega⟩
     have N:=q (.inr R);rw[R]at q0;rw[hn]at q1 N;simp only[kak,R,hn,Int.toNat_natCast]at B N;have D:=hH B;have b2:n<=200:=om;have HU:=hH M.out.ints.2;clear B hpo R n1 n2 n3 hn q;go_wp2;go_roundw
     case rel=>exact⟨k+1,_,rfl,by omega,by go_num,by rw[D.out];go_num,by rw[D.out];exact HU.out.below blw,blw⟩
     case measure=>simp[intOf];omega
   ·obtain rfl:k=o.length:=om;rw[List.take_length]at hu;obtain⟨fp,hs,hf⟩:=hu;go_wp2;go_ret2
    rw[HV.out];exact⟨_,_,rfl,hs,hf,Q⟩
 ·have HV:=hH (Zbe (o:=o) (t:=t) (by simpa using hf))
  by_cases h1:jag o=true
  rotate_left
  ·have h1:jag o=false:=by simpa using h1
   go_enter Tryz.func175,Tryz.ntmps175
   go_wp2_with fail
   refine(yad _ o _ (ho.below blw)).mono ?_;rintro e U ⟨rfl,j⟩;have s1:=j.size;(try simp at s1)
   obtain⟨a0,hf1⟩:=zab j;go_wp2;go_ret2
   rw[HV.out];exact⟨_,_,rfl,Sl.nil,Xaa.nil _ _,blw⟩
  by_cases h2:xae t=true
  rotate_left
  ·have h2:xae t=false:=by simpa using h2
   go_enter Tryz.func175,Tryz.ntmps175
   go_wp2_with fail
   refine(yad _ o _ (ho.below blw)).mono ?_;rintro e U ⟨rfl,j⟩;have s1:=j.size;(try simp at s1)
   obtain⟨a0,hf1⟩:=zab j;go_wp2_with fail
   refine(Zaf _ t _ (ht.below blw)).mono ?_;rintro e w2 ⟨rfl,I⟩;have s2:=I.size;(try simp at s2)
   obtain⟨hc2,hf2⟩:=zab I;go_wp2;go_ret2
   rw[HV.out];exact⟨_,_,rfl,Sl.nil,Xaa.nil _ _,blw⟩
  have e2:(xad o !=(t.length:Int))=true:=by simp[fits,h1,h2]at hf;simpa using hf
  clear hf;go_enter Tryz.func175,Tryz.ntmps175
  go_wp2_with fail
  refine(yad _ o _ (ho.below blw)).mono ?_;rintro e U ⟨rfl,j⟩;have s1:=j.size;(try simp at s1)
  obtain⟨a0,hf1⟩:=zab j;go_wp2_with fail
  refine(Zaf _ t _ (ht.below blw)).mono ?_;rintro e w2 ⟨rfl,I⟩;have s2:=I.size;(try simp at s2)
  obtain⟨hc2,hf2⟩:=zab I;go_wp2_with fail
  refine(zai _ o _ (ho.below blw)).mono ?_;rintro e w3 ⟨rfl,Z⟩;have s3:=Z.size;(try simp at s3)
  obtain⟨hc3,hf3⟩:=zab Z;go_wp2;go_ret2
  rw[HV.out];exact⟨_,_,rfl,Sl.nil,Xaa.nil _ _,blw⟩
theorem uar (l:List (List zaa))(t:List Int)(vl vt:Value)(w:World)(hl:RdS w vl l)(ht:RdS w vt t)(Q:t.length<=4000000):Calls Tryz.prog 129 #[vl,vt] w (xaz w (xao l t).1 (xao l t).2):=by
 have hll:=fun w1 ty=>hl.len Tryz.underlying164 w1 ty
 have bl:=hl.le;by_cases h1:xae t=true
 rotate_left
 ·have h1:xae t=false:=by simpa using h1
  have Z:Hid (xao l t=([],false)):=hH (by simp[xao,h1])
  go_enter Tryz.func129,Tryz.ntmps129
  go_wp2_with fail
  refine(Zaf _ t _ (ht.below blw)).mono ?_;rintro e w1 ⟨rfl,j⟩;have s1:=j.size;(try simp at s1)
  obtain⟨M,N⟩:=zab j;go_wp2;go_ret2
  rw[Z.out];exact⟨_,_,rfl,Sl.nil,Xaa.nil _ _,blw⟩
 have Z:=hH (Qaq (l:=l) h1);go_enter Tryz.func129,Tryz.ntmps129
 go_wp2_with fail
 refine(Zaf _ t _ (ht.below blw)).mono ?_;rintro e w1 ⟨rfl,j⟩;have s1:=j.size;(try simp at s1)
 obtain⟨M,N⟩:=zab j;clear M N;go_wp2_with fail
 refine(ual _ t _ (ht.below blw) Q).mono ?_;rintro e w2 ⟨v2,rfl,R,hb2⟩;have s2:=hb2.size;have HO2:Hid (Xag w w2 v2 t):=hH (R.mono (by omega))
 clear R;go_wp2;go_loopw [6,18] (fun z i wr=>∃(k:Nat) (u:Value) (x:List Int),u=z/\k<=l.length/\i= .int .i64 k/\Zaj (l.take k) t=some x/\Xag w wr u x/\Below w w wr) (fun _ i _=>l.length-(intOf i).toNat)
 case atStart=>exact⟨0,_,t,rfl,lz _,rfl,rfl,HO2.out,blw⟩
 case round=>
  obtain⟨k,u,x,rfl,hk,rfl,U,hu,n⟩:=hrel;have B:=n.size;by_cases hlt:k<l.length
  ·obtain⟨o,ho⟩:=kaa hlt;obtain⟨b1,o1,cs,g1,g2,g3⟩:=(hl.below n).idx Tryz.underlying164 szPS k ho;obtain⟨fp,v_o,rfl,D⟩:=g3;have q0:=g2.one;obtain⟨ao,co,rfl⟩:=RdS.isSlice ⟨_,D⟩;have J:=hH (kaF ho U);have HU:=hH hu;have I:Hid (RdS wr (.slice ao o.length co) o):=hH ⟨_,D⟩;clear U ho hu D;by_cases hy:(qab o x).2=true
   ·have HS2:Hid (Zaj (l.take (k+1)) t=some (qab o x).1):=hH (by rw[J.out,if_pos hy])
    go_wp2_with fail
    refine(jap o x _ _ _ (I.out.below blw) (HU.out.rd.below blw)).mono ?_;rintro e w3 ⟨v3,f3,rfl,S3,Y,q⟩;rw[hy];have HO3:Hid (Xag w w3 v3 (qab o x).1):=hH ⟨f3,S3,Y.mono B⟩;have p:Hid (Below w w w3):=hH (n.trans (q.mono B));clear S3 Y;go_wp2;go_roundw
    case rel=>exact⟨k+1,_,_,rfl,by omega,by go_num,HS2.out,HO3.out,p.out⟩
    case measure=>simp[intOf];omega
   ·have HN:Hid (Zaj l t=none):=hH (vay (k:=k+1) (by rw[J.out,if_neg hy]))
    have hy:(qab o x).2=false:=by simpa using hy
    go_wp2_with fail
    refine(jap o x _ _ _ (I.out.below blw) (HU.out.rd.below blw)).mono ?_;rintro e w3 ⟨v3,f3,rfl,S3,Y,q⟩;rw[hy];have p:Hid (Below w w w3):=hH (n.trans (q.mono B));clear S3 Y;go_wp2;go_ret2
    rw[Z.out,HN.out];exact⟨_,_,rfl,Sl.nil,Xaa.nil _ _,p.out⟩
  ·obtain rfl:k=l.length:=om;rw[List.take_length]at U;have HX:=hH U;obtain⟨fp,hs,hf⟩:=hu;clear U;go_wp2;go_ret2
   rw[Z.out,HX.out];exact⟨_,_,rfl,hs,hf,n⟩
