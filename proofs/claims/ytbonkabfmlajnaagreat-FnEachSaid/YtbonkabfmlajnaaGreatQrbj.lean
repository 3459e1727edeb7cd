/- Hubs: open a document. -/
import Derived.Test.YtbonkabfmlajnaaGreatQraz
import Derived.Test.YtbonkabfmlajnaaGreatQrbi
set_option maxHeartbeats 6000000
set_option maxRecDepth 100000
namespace Go.Proofs.YtbonkabfmlajnaaGreat
open Go.RowKit
def jao (name:ByteArray)(t:List Int):Xac:=⟨name,0,t,[],[]⟩
theorem xa5 (name:ByteArray)(t:List Int):Qad (jao name t)=(Kaj name&&jae t):=by
 simp[jao,Qad,within,xaq,vai,qas]
theorem uaZ {name:ByteArray}{t:List Int}(h:Kaj name=true)(j:jae t=true):kaq name t=(jao name t,true):=by
 have:Qad (jao name t)=true:=by rw[xa5,h,j];rfl
 exact if_pos this
theorem zaF {name:ByteArray}{t:List Int}(h:¬(Kaj name=true/\jae t=true)):kaq name t=(Xa3,false):=by
 have:¬Qad (jao name t)=true:=by rw[xa5];simpa using h
 exact if_neg this
theorem vaR {z:qae}{name:ByteArray}{t:List Int}(h:Qac z=false):kag z name t=(zao,1):=by unfold kag;rw[if_neg (by simp[h])]
theorem qaN {z:qae}{name:ByteArray}{t:List Int}(h:¬(Kaj name=true/\jae t=true)):kag z name t=(zao,1):=by unfold kag;rw[zaF h,if_neg sm]
section
variable {z:qae} {name:ByteArray} {t:List Int} (h:Qac z=true/\(kaq name t).2=true)
include h
theorem qaH (j:z.shut=true):kag z name t=(zao,12):=by unfold kag;rw[if_pos h,if_pos j]
theorem vaG (j:z.shut=false)(n:0<=zad z name):kag z name t=(zao,7):=by unfold kag;rw[if_pos h,if_neg (by simp[j]),if_pos n]
theorem yaH (j:z.shut=false)(n:¬0<=zad z name)(p:z.docs.length=5):kag z name t=(zao,10):=by unfold kag;rw[if_pos h,if_neg (by simp[j]),if_neg n,if_pos p]
theorem kaK (hd:kaq name t=(jao name t,true))(j:z.shut=false)(n:¬0<=zad z name)(p:¬z.docs.length=5):
 kag z name t=(⟨false,z.docs.take (KaH z.docs name)++jao name t::z.docs.drop (KaH z.docs name),z.subs,z.last⟩,0):=by unfold kag;rw[if_pos h,if_neg (by simp[j]),if_neg n,if_neg p,j,hd]
end
theorem ZaC:∀{l:List Xac} {name:ByteArray} {k:Nat},k<=l.length->(∀j<k,∀d,l[j]? =some d->slt d.name name=true)->(∀d,l[k]? =some d->slt d.name name=false)->KaH l name=k
 |[],_,k,n,_,_=>by simp at n;subst n;rfl
 |x::l,name,k,n,p,q=>by
  unfold KaH;cases k with
  |zero=>
   have:=q x rfl;simp[List.takeWhile,this]
  |succ k=>
   have z:=p 0 om x rfl;have u:=ZaC (l:=l) (name:=name) (k:=k) (by simpa using n) (fun j B d hd=>p (j+1) om d (by simpa using hd)) (fun d hd=>q d (by simpa using hd))
   unfold KaH at u;simp[List.takeWhile,z,u]
theorem Qab.docs {C D:Nat}{w:World}{Q vs:Value}{docs:List Xac}{I:List yai}(h:Qab C D w Q vs docs I){B ob:Nat}(hB:B<=C)(hCD:C<=D)(ho:D<=ob):∃M,Row C w Q docs M/\(∀p∈rowP (GoT.n Xac) Q++M,C<=p.1/\p.1<D)/\Qaa C w (rowP (GoT.n Xac) Q++M)/\
 ∀(W R:World) (v':Value) (j:List Xac) (z:List Pos),Below w w W->Wr (rowP (GoT.n Xac) Q) W R->Sl BIG R v' j z->Qaa B R z->(∀p∈z,p∈rowP (GoT.n Xac) Q++M\/p.1<C\/ob<p.1)->vag ob B R v' vs j I:=by
 obtain⟨fd,fs,sd,ss,N,U⟩:=h;obtain⟨M,rfl⟩:=sd.split;have Z:=ln.1 N.nodup;have ns:=ln.1 Z.1;refine⟨M,⟨sd,N.left.left,fun p u J=>ns.2.2 p J p u rfl⟩,fun p u=>⟨N.ge p (lu _ u),U p (lu _ u)⟩,N.left,?_⟩
 intro W R v' j z hb hw hs Y hm;have a0:=ss.wr2 hb hw (fun p u J=>Z.2.2 p (lu _ J) p u rfl)
 have k1:Qaa C R fs:=N.right.wr2 hb hw (Live.lt ss.live);refine⟨z,fs,hs,a0,Y.join (k1.mono hB) fun p u q J e=> ?_,fun p u=> ?_⟩
 ·subst e;have a:=U p (lw _ J);have b:=N.ge p (lw _ J);rcases hm p u with h|h|h
  ·exact Z.2.2 p h p J rfl
  ·omega
  ·omega
 ·rcases lm.1 u with u|u
  ·rcases hm p u with h|h|h
   ·have:=U p (lu _ h);omega
   ·omega
   ·omega
  ·have:=U p (lw _ u);omega
theorem Src.below {α:Type}[GoT α]{w z:World}{v:Value}{B:List α}{n:List Pos}(h:Src w v B n)(hb:Below w w z):Src z v B n:=by
 obtain⟨D,c,news,rfl,q,J⟩:=h;refine⟨D,c,news,rfl,q.keep (Live.same_below hb (Live.lt q.live)),J.imp id fun⟨a,I,h⟩=>⟨a,I,fun j u M=> ?_⟩⟩
 have p:=h j u M;exact(hb.cell (lk (w:=w) (a:=a.add j) p)).trans p
theorem Kar (n m:Nat)(j:Option Addr):rowP n (.slice j m 0)=[]:=by cases j<;>simp[rowP,own]
theorem Row.srcs {α:Type}[GoT α]{C:Nat}{w:World}{v:Value}{l:List α}{Q:List Pos}(h:Row C w v l Q){P:Program}{T E:TypeId}(hT:P.underlying T=some (.slice E))(hl:∀p,(sizeOf E).run P p= .ok (GoT.n α) p){k:Nat}(R:k<=l.length):
 ∃va vb M N,(∀p,(Instr.sliceAt T v none (some (.int .i64 k)) none).run P p= .ok va p)/\(∀p,(Instr.sliceAt T v (some (.int .i64 k)) none none).run P p= .ok vb p)/\Src w va (l.take k) M/\Src w vb (l.drop k) N/\Q=M++N:=by
 have ha:=fun p=>h.1.run_h hT hl (hi:=k) R p
 have hb:=fun p=>h.1.run_l hT hl (lo:=k) R p
 obtain⟨hs,_,_⟩:=h;rcases hs with⟨z,rfl,rfl,I⟩|⟨b,o,cap,cs,fs,rfl,k1,k2,k3,hc,I,hlv,hf⟩
 ·obtain rfl:k=0:=by simpa using R
  have:Q=[]:=by
   cases z with
   |none=>simpa[rowP]using I
   |some a=>simpa[rowP,own]using I
  subst this;refine⟨_,_,[],[],ha,hb,?_,?_,rfl⟩
  ·refine⟨z,0,[],by simp[cutV,vaA],Els.nil,?_⟩
   cases z with
   |none=>exact .inl ⟨rfl,rfl,rfl⟩
   |some a=>exact .inr ⟨a,rfl,fun j u q=>by simp at q⟩
  ·refine⟨z,0,[],by simp[cutV,vaA],Els.nil,?_⟩
   cases z with
   |none=>exact .inl ⟨rfl,rfl,rfl⟩
   |some a=>exact .inr ⟨a,rfl,fun j u q=>by simp at q⟩
 ·have Y:Q=fs:=List.append_cancel_left hf;subst Y;rw[<-List.take_append_drop k l]at I;obtain⟨c1,c2,M,N,rfl,e1,U,rfl⟩:=Els.append.1 I;have B:=e1.length;rw[List.length_take,Nat.min_eq_left R]at B;obtain⟨a1,a2⟩:=At.append.1 hc;rw[B]at a2;refine⟨_,_,M,N,ha,hb,?_,?_,rfl⟩
  ·refine⟨some ⟨b,o,none⟩,cap,c1,?_,e1,.inr ⟨_,rfl,fun j u q=>by rw[addr_add];exact a1 j u q⟩⟩
   have Z:(l.take k).length=k:=by simp;omega
   by_cases h0:cap=0<;>simp[cutV,vaA,h0,addr_add,Z]
  ·by_cases D:cap=k
   ·have J:l.length=k:=om;have:c2=[]:=by
     have:=U.length;rw[List.length_drop,J,Nat.sub_self,Nat.zero_mul]at this;exact List.eq_nil_of_length_eq_zero this
    subst this;refine⟨some ⟨b,o,none⟩,0,[],?_,U,.inr ⟨_,rfl,fun j u q=>by simp at q⟩⟩
    simp[cutV,vaA,D,J]
   ·refine⟨some ⟨b,o+k*GoT.n α,none⟩,cap-k,c2,?_,U,.inr ⟨_,rfl,fun j u q=>by rw[addr_add];exact a2 j u q⟩⟩
    simp[cutV,vaA,D,addr_add]
theorem zap (z:qae)(u D:Value)(name:ByteArray)(t:List Int)(vt:Value)(w:World)(R:RdS w u z.docs)(h_subs:RdS w D z.subs)(nn:name.size<=BIG)(ht:RdS w vt t)(b_t:t.length<=4000000):Calls Tryz.prog 52 #[.agg #[z.shut,u,D,z.last],name,vt] w (xau w (kag z name t).1 (kag z name t).2):=by
 have hOK:=fun(W':World) (a:RdS W' u z.docs) (b:RdS W' D z.subs)=>yal z u D W' a b
 have hCP:=fun(W':World) (a:RdS W' u z.docs) (b:RdS W' D z.subs) (c:uaM z)=>qaf z u D W' a b c
 have hF0:=fun(W':World) (a:RdS W' u z.docs)=>vaj z u D name W' a
 obtain⟨sh,hsh⟩:∃sh:Bool,z.shut=sh:=⟨_,rfl⟩;simp only[hsh]at hOK hCP hF0;rw[hsh];have HOK:=hH hOK;have HCP:=hH hCP;have HF0:=hH hF0;clear hOK hCP hF0;by_cases hnt:Kaj name=true/\jae t=true
 rotate_left
 ·have HV:=hH (qaN (z:=z) hnt);have hdb:=zaF hnt;have HDC:=hH (fun(W':World) (a:RdS W' vt t)=>(by have:=JaB name t vt W' nn a b_t;rw[hdb]at this;exact this:Calls Tryz.prog 89 #[name,vt] W' (vaC W' Xa3 false)))
  clear hdb;go_enter Tryz.func52,Tryz.ntmps52
  go_wp2_with fail
  refine(HDC.out _ (ht.below (((lf w w).alloc om _).alloc om _))).mono ?_;rintro e' w1 ⟨v0t,v0l,v0s,a4,a0,a3,rfl,st,sl,ss,_,kf,ac⟩;obtain⟨a7,aa,rfl⟩:=st.nilS;obtain⟨a5,a8,rfl⟩:=sl.nilS;obtain⟨a6,a9,rfl⟩:=ss.nilS;clear st sl ss kf;(try dsimp only[Xa3])
  have s1:w+2<=w1.heap.size:=szl ac;have I:=hH ((((lf w w).alloc om _).alloc om _).trans (ac.mono om));have M:Hid (Bx w1 w [sh,u,D,z.last]):=hH (((Bx.new (by first|rfl|simp|omega)).alloc _).at ac)
  have Kz:=M.out.o4;have J:Hid (Bx w1 (w+1) [false,zN,zN,zI]):=hH ((Bx.new (by first|rfl|simp|omega)).at ac)
  have Kr:=J.out.q4;clear ac;go_wp2_with fail
  refine(HOK.out _ (R.below (I.out.alloc om _)) (h_subs.below (I.out.alloc om _))).mono ?_;rintro e' w2 ⟨rfl,Y⟩;have s2:w1+1<=w2.heap.size:=szl Y;replace I:=hH ((I.out.alloc om _).trans (Y.mono om));replace M:=hH ((M.out.alloc _).at Y);replace Kz:=M.out.o4;replace J:=hH ((J.out.alloc _).at Y);replace Kr:=J.out.q4;have Z:Hid (Bx w2 w1 [.string ⟨#[]⟩,zI,.slice a7 0 aa,.slice a5 0 a8,.slice a6 0 a9]):=hH ((Bx.new (by first|rfl|simp|omega)).at Y)
  have Kd:=Z.out.q5;clear Y;cases h1:Qac z;all_goals
   go_wp2;rw[HV.out];exact bodyPost_ret (v:= .tuple #[.agg #[false,zN,zN,zI],.int .i64 1]) (by simp[results,Tryz.results52,go_sem,xaa, *]) rfl (qai (Kam I.out om))
 obtain⟨hn,hx⟩:=hnt;have hdn:=uaZ hn hx;have HDK:Hid ((kaq name t).2=true):=hH (by rw[hdn])
 have HDE:=hH hdn;have HDC:=hH (fun(W':World) (a:RdS W' vt t)=>(by have:=JaB name t vt W' nn a b_t;rw[hdn]at this;exact this:Calls Tryz.prog 89 #[name,vt] W' (vaC W' (jao name t) true)))
 clear hdn;go_enter Tryz.func52,Tryz.ntmps52
 go_wp2_with fail
 refine(HDC.out _ (ht.below (((lf w w).alloc om _).alloc om _))).mono ?_;rintro e' w1 ⟨v0t,v0l,v0s,a4,a0,a3,rfl,st,sl,ss,_,kf,ac⟩;obtain⟨a7,aa,rfl⟩:=RdS.isSlice ⟨_,st⟩;obtain⟨a5,a8,rfl⟩:=sl.nilS;obtain⟨a6,a9,rfl⟩:=ss.nilS;have Q:Hid (Tri (w+2) w1 w1 (.slice a7 t.length aa) (.slice a5 0 a8) (.slice a6 0 a9) t ([]:List yab) ([]:List qac) a4 a0 a3):=hH ⟨st,sl,ss,kf.mono (by first|exact lr _|(simp;done)|(simp;omega)),Live.lt (Live.append.2 ⟨st.live,Live.append.2 ⟨sl.live,ss.live⟩⟩)⟩
 clear st sl ss kf;(try dsimp only[jao])
 have s1:w+2<=w1.heap.size:=szl ac;have I:=hH ((((lf w w).alloc om _).alloc om _).trans (ac.mono om));have M:Hid (Bx w1 w [sh,u,D,z.last]):=hH (((Bx.new (by first|rfl|simp|omega)).alloc _).at ac)
 have Kz:=M.out.o4;have J:Hid (Bx w1 (w+1) [false,zN,zN,zI]):=hH ((Bx.new (by first|rfl|simp|omega)).at ac)
 have Kr:=J.out.q4;clear ac;go_wp2_with fail
 refine(HOK.out _ (R.below (I.out.alloc om _)) (h_subs.below (I.out.alloc om _))).mono ?_;rintro e' w2 ⟨rfl,Y⟩;have s2:w1+1<=w2.heap.size:=szl Y;replace I:=hH ((I.out.alloc om _).trans (Y.mono om));replace Q:Hid (Tri (w+2) w1 w2 (.slice a7 t.length aa) (.slice a5 0 a8) (.slice a6 0 a9) t ([]:List yab) ([]:List qac) a4 a0 a3):=hH (((Q.out.alloc om _).below (Y.mono om)));replace M:=hH ((M.out.alloc _).at Y);replace Kz:=M.out.o4;replace J:=hH ((J.out.alloc _).at Y);replace Kr:=J.out.q4;have Z:Hid (Bx w2 w1 [name,zI,.slice a7 t.length aa,.slice a5 0 a8,.slice a6 0 a9]):=hH ((Bx.new (by first|rfl|simp|omega)).at Y)
 have Kd:=Z.out.q5;clear Y;by_cases h1:Qac z=true
 rotate_left
 ·have h1:Qac z=false:=by simpa using h1
  rw[h1];have HV:=hH (vaR (name:=name) (t:=t) h1);go_wp2;rw[HV.out];exact bodyPost_ret (v:= .tuple #[.agg #[false,zN,zN,zI],.int .i64 1]) (by simp[results,Tryz.results52,go_sem,xaa, *]) rfl (qai (Kam I.out om))
 rw[h1];have HZ:=hH (yaT h1);cases sh;rotate_left
 ·have HV:=hH (qaH ⟨h1,HDK.out⟩ hsh);go_wp2;rw[HV.out];exact bodyPost_ret (v:= .tuple #[.agg #[false,zN,zN,zI],.int .i64 12]) (by simp[results,Tryz.results52,go_sem,xaa, *]) rfl (qai (Kam I.out om))
 go_wp2_with fail
 refine(HF0.out _ (R.below I.out)).mono ?_;rintro e' w3 ⟨rfl,hb3⟩;have s3:w2<=w3.heap.size:=szl hb3;replace I:=hH (I.out.trans (hb3.mono om));replace Q:Hid (Tri (w+2) w1 w3 (.slice a7 t.length aa) (.slice a5 0 a8) (.slice a6 0 a9) t ([]:List yab) ([]:List qac) a4 a0 a3):=hH ((Q.out.below (hb3.mono om)));replace M:=hH (M.out.at hb3);replace Kz:=M.out.o4;replace J:=hH (J.out.at hb3);replace Kr:=J.out.q4;replace Z:=hH (Z.out.at hb3);replace Kd:=Z.out.q5;clear hb3;by_cases h3:0<=zad z name
 ·have HV:=hH (vaG ⟨h1,HDK.out⟩ hsh h3);have h3b:decide (0<=zad z name)=true:=by simpa using h3
  go_wp2;rw[HV.out];exact bodyPost_ret (v:= .tuple #[.agg #[false,zN,zN,zI],.int .i64 7]) (by simp[results,Tryz.results52,go_sem,xaa, *]) rfl (qai (Kam I.out om))
 have h3b:decide (0<=zad z name)=false:=by simpa using h3
 have hld:=fun w1 ty=>R.len Tryz.underlying23 w1 ty
 by_cases h4:z.docs.length=5
 ·have HV:=hH (yaH ⟨h1,HDK.out⟩ hsh h3 h4);have e4:((z.docs.length:Int)==5)=true:=by simp;omega
  clear h4;go_wp2;rw[HV.out];exact bodyPost_ret (v:= .tuple #[.agg #[false,zN,zN,zI],.int .i64 10]) (by simp[results,Tryz.results52,go_sem,xaa, *]) rfl (qai (Kam I.out om))
 have HV:=hH (kaK ⟨h1,HDK.out⟩ HDE.out hsh h3 h4);have e4:((z.docs.length:Int)==5)=false:=by simp;omega
 have bd:=(vad.1 h1).nd;clear h4;go_wp2_with fail
 refine(HCP.out _ (R.below I.out) (h_subs.below I.out) HZ.out).mono ?_;rintro e' w4 ⟨_,rfl,ho4,hb4⟩;obtain⟨vd,vs,rfl,hown⟩:=Qab.of_own ho4;rw[hsh];obtain⟨ad,cd,rfl⟩:=hown.rd1.isSlice;obtain⟨as_,cs_,rfl⟩:=hown.rd2.isSlice;have HOWN:=hH (hown.mono (C':=w3) om);clear ho4 hown;have s4:w3<=w4.heap.size:=szl hb4;replace I:=hH (I.out.trans (hb4.mono om));replace Q:Hid (Tri (w+2) w1 w4 (.slice a7 t.length aa) (.slice a5 0 a8) (.slice a6 0 a9) t ([]:List yab) ([]:List qac) a4 a0 a3):=hH ((Q.out.below (hb4.mono om)));replace M:=hH (M.out.at hb4);replace Kz:=M.out.o4;replace J:=hH (J.out.at hb4);replace Kr:=J.out.q4;replace Z:=hH (Z.out.at hb4);replace Kd:=Z.out.q5;clear hb4;clear hld;go_upto_region 11 with(fail)
 obtain⟨V,hV⟩:∃V:World,V=(w4.alloc (.cells #[false,.slice ad z.docs.length cd,.slice as_ z.subs.length cs_,z.last] 26)):=⟨_,rfl⟩;have sV:w4+1<=V.heap.size:=by rw[hV];first|(simp;done)|(simp;omega)
 replace I:Hid (Below w w V):=hH (by rw[hV];exact(I.out.alloc om _))
 replace Q:Hid (Tri (w+2) w1 V (.slice a7 t.length aa) (.slice a5 0 a8) (.slice a6 0 a9) t ([]:List yab) ([]:List qac) a4 a0 a3):=hH (by rw[hV];exact(Q.out.alloc om _))
 replace HOWN:Hid (Qab w3 w4 V (.slice ad z.docs.length cd) (.slice as_ z.subs.length cs_) (z.docs) (z.subs)):=hH (by rw[hV];exact(HOWN.out.alloc om _))
 replace M:Hid (Bx V w [false,u,D,z.last]):=hH (by rw[hV];exact(M.out.alloc _))
 replace Kz:=M.out.o4;replace J:Hid (Bx V (w+1) [false,zN,zN,zI]):=hH (by rw[hV];exact(J.out.alloc _))
 replace Kr:=J.out.q4;replace Z:Hid (Bx V w1 [name,zI,.slice a7 t.length aa,.slice a5 0 a8,.slice a6 0 a9]):=hH (by rw[hV];exact(Z.out.alloc _))
 replace Kd:=Z.out.q5;have HXo:Hid (Bx V w4 [false,.slice ad z.docs.length cd,.slice as_ z.subs.length cs_,z.last]):=hH (by rw[hV];exact(Bx.new (by first|rfl|simp|omega)))
 have Ko:=HXo.out.q4;rw[<-hV];clear hV;have hrd:RdS V (.slice ad z.docs.length cd) z.docs:=HOWN.out.rd1;have hls:=fun w1 ty=>hrd.len Tryz.underlying23 w1 ty
 have HRD:=hH hrd;clear hrd;go_wp2_with fail
 go_loop [11] (fun i=>∃k:Nat,k<=z.docs.length/\i= .int .i64 k/\∀j<k,∀d,z.docs[j]? =some d->slt d.name name=true) (fun i=>z.docs.length-(intOf i).toNat)
 case atStart=>exact⟨0,lz _,rfl,fun j h=>absurd h (Nat.not_lt_zero j)⟩
 case round=>
  obtain⟨k,hk,rfl,hlow⟩:=hrel;have HLOW:=hH hlow;clear hlow;have fin:∀{m:Nat},True->True:=fun _=>trivial
  clear fin;by_cases hlt:k<z.docs.length
  rotate_left;have HAT:=hH (ZaC hk HLOW.out (fun d' hd'=>by have:=(lg.1 hd').1;omega))
  have hl2:¬(k:Int)<(z.docs.length:Int):=om;rotate_left;obtain⟨d,hd⟩:=Jaa hlt;obtain⟨b1,o1,cs,g1,g2,g3⟩:=HRD.out.idx Tryz.underlying23 uag k hd;obtain⟨d_text,d_list,d_seen,rfl,nd,r_text,r_list,r_seen⟩:=Kai g3;have q0:=g2.zero;have HD:=hH hd;clear g2 g3 r_text r_list r_seen hd;by_cases e2:slt d.name name=true
  ·have e3:Op.bytesLess d.name.toList name.toList=true:=e2;have hl2:(k:Int)<(z.docs.length:Int):=om;go_wp2;go_round
   case rel=>
    refine⟨k+1,by omega,by go_num,fun j hj d' hd'=> ?_⟩
    by_cases hjk:j<k
    ·exact HLOW.out j hjk d' hd'
    ·obtain rfl:j=k:=om;rw[HD.out]at hd';cases hd';exact e2
   case measure=>simp[intOf];omega
  have e2:slt d.name name=false:=by simpa using e2
  have e3:Op.bytesLess d.name.toList name.toList=false:=e2;have hl2:(k:Int)<(z.docs.length:Int):=om;have HAT:=hH (ZaC hk HLOW.out (fun d' hd'=>by rw[HD.out]at hd';cases hd';exact e2))
  all_goals
   go_upto_region 14 with(fail)
   obtain⟨gs,hrow,hlim,hfr,happ⟩:=HOWN.out.docs (B:=w+2) (ob:=w4) om om om;have hv1:Below V V (V.alloc (.cells #[] 67)):=(lf _ _).alloc (lr _) _;obtain⟨va,vb,g1,g2,hca,hcb,hsa,hsb,hgs⟩:=(hrow.below hv1).srcs Tryz.underlying23 (E:=67) uag hk;obtain⟨i0,hi,hz0,hz1,hz2⟩:=info_parts kaW;have hgx:GoT.rd BIG V [name,zI,.slice a7 t.length aa,.slice a5 0 a8,.slice a6 0 a9] (jao name t) (a4++(a0++a3)):=⟨_,_,_,_,_,_,rfl,nn,Q.out.1,Q.out.2.1,Q.out.2.2.1,rfl⟩;have HLIM:=hH hlim;have HAPP:=hH happ;have HFR:=hH hfr;have HGX:=hH hgx;have HGS:=hH hgs;have HSA:=hH hsa;have HSB:=hH hsb;have HGL:Hid (∀p∈gs,p.1<V):=hH (Live.lt hrow.live);have HXL:Hid (∀p∈a4++(a0++a3),p.1<V):=hH (Live.lt (GoT.live hgx));have HV1:=hH hv1;have z0:(((V.alloc (.cells #[] 67))).heap.size)=V.heap.size+1:=by simp
   have hk1:(z.docs.take k).length=k:=by simp;omega
   have HK1:=hH hk1;have HRE:Hid (Row (w+2) (V.alloc (.cells #[] 67)) (.slice (some ⟨V,0,none⟩) 0 0) ([]:List Xac) []):=hH (Row.empty _ _ _);have HDE0:Hid (∀q∈g1,q∉rowP (GoT.n Xac) (.slice (some ⟨V,0,none⟩) 0 0)):=hH fun q N hm=>by rw[Kar]at hm;cases hm
   clear hrow hlim hfr happ hgx hgs hsa hsb hv1 hk1;go_wp2_with (at_builtin;go_must (refine qaa rfl _ _ 23 rfl Tryz.underlying23 hi hz0 hz1 hz2 rfl rfl rfl HRE.out HSA.out HDE0.out ?c1 ?c2 ?c3 ?_))
   case c1=>have:=HK1.out;refine Xab ?_;first|omega|(simp;omega)
   case c2=>have:=HK1.out;first|omega|(simp;omega)
   case c3=>first|omega|(simp;omega)
   intro v21 w21 hr hw hn;have HR1:=hH hr;have HN1:=hH hn;have B1:Below V V w21:=HV1.out.trans (hw.below sm (fun q N=>by rw[Kar]at N;cases N))
   have s21:=B1.size;have s21b:=hw.size;have HB1V:Hid (Below ((V.alloc (.cells #[] 67))).heap.size (V.alloc (.cells #[] 67)) w21):=hH (hw.below (lr _) (fun q N=>by rw[Kar]at N;cases N))
   obtain⟨Zd1,Kd10,Kd11,Kd12,Kd13,Kd14,Gd10,Gd11,Gd12,Gd13,Gd14⟩:=(Z.out.at B1).q5;have HB1:=hH B1;clear hr hw hn B1;have W2:Hid (Below w21 w21 (w21.alloc (.cells #[name,zI,.slice a7 t.length aa,.slice a5 0 a8,.slice a6 0 a9] 67))):=hH ((lf _ _).alloc (lr _) _);have hsd:=Zac (x:=jao name t) 67 (GoT.keep HGX.out (Live.same_below HB1.out HXL.out));have HSD:=hH hsd;clear hsd;go_wp2_with (at_builtin;go_must (refine qaa rfl _ _ 23 rfl Tryz.underlying23 hi hz0 hz1 hz2 rfl rfl rfl (HR1.out.below W2.out) HSD.out (fun q N hm=>by have a1:=HXL.out q N;have a2:=HN1.out q.1 q.2 hm;(try rw[Kar]at a2);simp at a2;omega) ?c1 ?c2 ?c3 ?_))
   case c1=>have:=HK1.out;refine Xab ?_;first|omega|(simp;omega)
   case c2=>have:=HK1.out;first|omega|(simp;omega)
   case c3=>first|omega|(simp;omega)
   intro v22 w22 hr hw hn;have HR2:=hH hr;have HN2:Hid (∀q∈rowP (GoT.n Xac) v22,V<q.1):=hH fun q N=>by
    rcases hn q.1 q.2 N with h|h
    ·have a2:=HN1.out q.1 q.2 h;(try rw[Kar]at a2);simp at a2;omega
    ·(try simp at h);omega
   have B2:Below V V w22:=HB1.out.trans ((W2.out.mono s21).trans (hw.below (by simp;omega) (fun q N=>by have a2:=HN1.out q.1 q.2 N;(try rw[Kar]at a2);simp at a2;omega)))
   have s22:=B2.size;obtain⟨Zo2,Ko20,Ko21,Ko22,Ko23,Go20,Go21,Go22,Go23⟩:=(HXo.out.at B2).q4;have HB2:=hH B2;have HBV:Hid (Below ((V.alloc (.cells #[] 67))).heap.size (V.alloc (.cells #[] 67)) w22):=hH (HB1V.out.trans ((W2.out.mono s21b).trans (hw.below (by simp at s21b⊢;omega) (fun q N=>by have a2:=HN1.out q.1 q.2 N;(try rw[Kar]at a2);simp at a2;simp;omega))))
   have s22c:V+1<=w22.heap.size:=by have:=HBV.out.size;simp at this;omega
   clear hr hw hn B2 HN1 HR1;go_wp2_with (at_builtin;go_must (refine qaa rfl _ _ 23 rfl Tryz.underlying23 hi hz0 hz1 hz2 rfl rfl rfl HR2.out (HSB.out.below HBV.out) (fun q N hm=>by have a1:=HGL.out q (by rw[HGS.out];simp[N]);have a2:=HN2.out q hm;omega) ?c1 ?c2 ?c3 ?_))
   case c1=>have:=HK1.out;refine Xab ?_;first|omega|(simp;omega)
   case c2=>have:=HK1.out;first|omega|(simp;omega)
   case c3=>first|omega|(simp;omega)
   intro v23 w23 hr hw hn;obtain⟨a20,c20,e20⟩:=hr.rd.isSlice;have hll:(([]:List Xac)++z.docs.take k++[jao name t]++z.docs.drop k)=z.docs.take k++jao name t::z.docs.drop k:=by simp
   (try rw[hll]at hr)
   (try rw[hll]at e20)
   have hgg:g1++(a4++(a0++(a3++g2)))=([]++g1++(a4++(a0++a3)))++g2:=by simp
   (try rw[hgg]at hr)
   have hlen20:(z.docs.take k++jao name t::z.docs.drop k).length=z.docs.length+1:=by simp;omega
   rw[hlen20]at e20;subst e20;have B3:Below V V w23:=HB2.out.trans (hw.below om (fun q N=>by have:=HN2.out q N;omega))
   have hm3:∀q∈rowP (GoT.n Xac) (.slice a20 (z.docs.length+1) c20),V<q.1:=fun q N=>by
    rcases hn q.1 q.2 N with h|h
    ·exact HN2.out q h
    ·omega
   have hel:Qaa (w+2) V (([]++g1++(a4++(a0++a3)))++g2):=by
    have h1:=HFR.out.right;rw[HGS.out]at h1;have h2:=Q.out.2.2.2.1;refine((h1.left.mono om).join (h2.mono om) fun p hp q N e=> ?_).join (h1.right.mono om) fun p hp q N e=> ?_
    ·have a1:=HLIM.out p (lw _ (by rw[HGS.out];exact lu _ (by simpa using hp)));have a2:=Q.out.2.2.2.2 q N;rw[e]at a1;omega
    ·subst e;rcases lm.1 hp with hp|hp
     ·exact(ln.1 h1.nodup).2.2 p (by simpa using hp) p N rfl
     ·have a1:=HLIM.out p (lw _ (by rw[HGS.out];exact lw _ N));have a2:=Q.out.2.2.2.2 p hp;omega
   have hell:∀q∈(([]:List Pos)++g1++(a4++(a0++a3)))++g2,q.1<V:=fun q N=>by
    rcases lm.1 N with N|N
    ·rcases lm.1 N with N|N
     ·exact HGL.out q (by rw[HGS.out];exact lu _ (by simpa using N))
     ·exact HXL.out q N
    ·exact HGL.out q (by rw[HGS.out];exact lw _ N)
   have kp:=(hr.2.1).join (hel.belowL B3 hell) fun p hp q N e=>hr.2.2 q N (e▸hp)
   have HNEW:Hid (vag w4 (w+2) w23 (.slice a20 (z.docs.length+1) c20) (.slice as_ z.subs.length cs_) (z.docs.take k++jao name t::z.docs.drop k) z.subs):=hH (HAPP.out V _ _ _ _ (lf _ _) (Wr.of_below B3) hr.1 kp (fun p hp=>by
    rcases lm.1 hp with h|h
    ·have:=hm3 p h;right;right;omega
    ·rcases lm.1 h with h|h
     ·rcases lm.1 h with h|h
      ·exact .inl (lw _ (by rw[HGS.out];exact lu _ (by simpa using h)))
      ·have:=Q.out.2.2.2.2 p h;right;left;omega
     ·exact .inl (lw _ (by rw[HGS.out];exact lw _ h))))
   have HB3:=hH B3;have s23:=B3.size;clear hr hw hn hm3 hel hell kp B3;have s23:V<=w23.heap.size:=by have:=HB3.out.size;(try simp at this);omega
   replace I:Hid (Below w w w23):=hH (I.out.trans (HB3.out.mono om));replace M:Hid (Bx w23 w [false,u,D,z.last]):=hH (M.out.at HB3.out);replace Kz:=M.out.o4;replace J:Hid (Bx w23 (w+1) [false,zN,zN,zI]):=hH (J.out.at HB3.out);replace Kr:=J.out.q4;replace HXo:Hid (Bx w23 w4 [false,.slice ad z.docs.length cd,.slice as_ z.subs.length cs_,z.last]):=hH (HXo.out.at HB3.out);replace Ko:=HXo.out.q4;clear HAPP HFR HGX Q HOWN HRD HR2 HN2 HSB HSD W2 HB1 HB2 HBV HB1V;go_upto_region 17 with(fail)
   obtain⟨U,hU⟩:∃U:World,U=(w23.setCell ⟨w4,1,none⟩ (.slice a20 (z.docs.length+1) c20)):=⟨_,rfl⟩;have sU:w23<=U.heap.size:=by rw[hU];first|(simp;done)|(simp;omega)
   replace I:Hid (Below w w U):=hH (by rw[hU];exact(I.out.setCell (p:=⟨w4,1,none⟩) om _))
   replace HNEW:Hid (vag w4 (w+2) U (.slice a20 (z.docs.length+1) c20) (.slice as_ z.subs.length cs_) (z.docs.take k++jao name t::z.docs.drop k) z.subs):=hH (by rw[hU];exact(HNEW.out.setCell om _))
   replace M:Hid (Bx U w [false,u,D,z.last]):=hH (by rw[hU];exact(M.out.setO om))
   replace Kz:=M.out.o4;replace J:Hid (Bx U (w+1) [false,zN,zN,zI]):=hH (by rw[hU];exact(J.out.setO om))
   replace Kr:=J.out.q4;replace HXo:Hid (Bx U w4 [false,.slice a20 (z.docs.length+1) c20,.slice as_ z.subs.length cs_,z.last]):=hH (by rw[hU];exact(HXo.out.set 1 (.slice a20 (z.docs.length+1) c20)))
   replace Ko:=HXo.out.q4;rw[<-hU];clear hU;have HH:Hid (vag w4 (w+2) ((((U.setCell ⟨w+1,0,none⟩ false).setCell ⟨w+1,1,none⟩ (.slice a20 (z.docs.length+1) c20)).setCell ⟨w+1,2,none⟩ (.slice as_ z.subs.length cs_)).setCell ⟨w+1,3,none⟩ z.last) (.slice a20 (z.docs.length+1) c20) (.slice as_ z.subs.length cs_) (z.docs.take k++jao name t::z.docs.drop k) z.subs):=hH ((((HNEW.out.setCell om _).setCell om _).setCell om _).setCell om _);go_wp2;rw[HV.out,HAT.out];exact bodyPost_ret (v:= .tuple #[.agg #[false,.slice a20 (z.docs.length+1) c20,.slice as_ z.subs.length cs_,z.last],zI]) (by simp[results,Tryz.results52,go_sem,xaa, *]) rfl (vag.out_i (y:=⟨false,z.docs.take k++jao name t::z.docs.drop k,z.subs,z.last⟩) HH.out om (Kam I.out om))
theorem jaz (z:qae)(D M:Value)(name:ByteArray)(t:List Int)(vt:Value)(w:World)(N:RdS w D z.docs)(ac:RdS w M z.subs)(nn:name.size<=BIG)(ht:RdS w vt t)(b_t:t.length<=4000000):Calls Tryz.prog 15 #[.agg #[z.shut,D,M,z.last],name,vt] w (xau w (kag z name t).1 (kag z name t).2):=by
 have hOK:=fun(W':World) (a:RdS W' D z.docs) (b:RdS W' M z.subs)=>uah z D M W' a b
 have hCP:=fun(W':World) (a:RdS W' D z.docs) (b:RdS W' M z.subs) (c:uaM z)=>kaf z D M W' a b c
 have hF0:=fun(W':World) (a:RdS W' D z.docs)=>Xal z D M name W' a
 obtain⟨sh,hsh⟩:∃sh:Bool,z.shut=sh:=⟨_,rfl⟩;simp only[hsh]at hOK hCP hF0;rw[hsh];have HOK:=hH hOK;have HCP:=hH hCP;have HF0:=hH hF0;clear hOK hCP hF0;by_cases hnt:Kaj name=true/\jae t=true
 rotate_left
 ·have HV:=hH (qaN (z:=z) hnt);have hdb:=zaF hnt;clear hdb;go_enter Tryz.func15,Tryz.ntmps15
  go_wp2_with fail
  refine(HOK.out _ (N.below (((lf w w).alloc om _).alloc om _)) (ac.below (((lf w w).alloc om _).alloc om _))).mono ?_;rintro e' w1 ⟨rfl,R⟩;have s1:w+2<=w1.heap.size:=szl R;have u:=hH ((((lf w w).alloc om _).alloc om _).trans (R.mono om));have J:Hid (Bx w1 w [sh,D,M,z.last]):=hH (((Bx.new (by first|rfl|simp|omega)).alloc _).at R)
  have Kz:=J.out.o4;have I:Hid (Bx w1 (w+1) [false,zN,zN,zI]):=hH ((Bx.new (by first|rfl|simp|omega)).at R)
  have Kr:=I.out.q4;clear R;cases h1:Qac z
  ·go_wp2;rw[HV.out];exact bodyPost_ret (v:= .tuple #[.agg #[false,zN,zN,zI],.int .i64 1]) (by simp[results,Tryz.results15,go_sem,xaa, *]) rfl (qai (Kam u.out om))
  go_wp2_with fail
  refine(qaj name _ nn).mono ?_;rintro e' w2 ⟨rfl,Y⟩;have s2:w1<=w2.heap.size:=szl Y;replace u:=hH (u.out.trans (Y.mono om));replace J:=hH (J.out.at Y);replace Kz:=J.out.o4;replace I:=hH (I.out.at Y);replace Kr:=I.out.q4;clear Y;cases hn:Kaj name
  ·go_wp2;rw[HV.out];exact bodyPost_ret (v:= .tuple #[.agg #[false,zN,zN,zI],.int .i64 1]) (by simp[results,Tryz.results15,go_sem,xaa, *]) rfl (qai (Kam u.out om))
  have hx:jae t=false:=by cases h:jae t;rfl;exact absurd ⟨hn,h⟩ hnt
  go_wp2_with fail
  refine(Qaf _ t _ (ht.below u.out)).mono ?_;rintro e' w3 ⟨rfl,Z⟩;rw[hx];have s3:w2<=w3.heap.size:=szl Z;replace u:=hH (u.out.trans (Z.mono om));replace J:=hH (J.out.at Z);replace Kz:=J.out.o4;replace I:=hH (I.out.at Z);replace Kr:=I.out.q4;clear Z;go_wp2;rw[HV.out];exact bodyPost_ret (v:= .tuple #[.agg #[false,zN,zN,zI],.int .i64 1]) (by simp[results,Tryz.results15,go_sem,xaa, *]) rfl (qai (Kam u.out om))
 obtain⟨hn,hx⟩:=hnt;have hdn:=uaZ hn hx;have HDK:Hid ((kaq name t).2=true):=hH (by rw[hdn])
 have HDE:=hH hdn;have HDC:=hH (fun(W':World) (a:RdS W' vt t)=>(by have:=ZaU name t vt W' nn a b_t;rw[hdn]at this;exact this:Calls Tryz.prog 43 #[name,vt] W' (vaC W' (jao name t) true)))
 clear hdn;go_enter Tryz.func15,Tryz.ntmps15
 go_wp2_with fail
 refine(HOK.out _ (N.below (((lf w w).alloc om _).alloc om _)) (ac.below (((lf w w).alloc om _).alloc om _))).mono ?_;rintro e' w1 ⟨rfl,R⟩;have s1:w+2<=w1.heap.size:=szl R;have u:=hH ((((lf w w).alloc om _).alloc om _).trans (R.mono om));have J:Hid (Bx w1 w [sh,D,M,z.last]):=hH (((Bx.new (by first|rfl|simp|omega)).alloc _).at R)
 have Kz:=J.out.o4;have I:Hid (Bx w1 (w+1) [false,zN,zN,zI]):=hH ((Bx.new (by first|rfl|simp|omega)).at R)
 have Kr:=I.out.q4;clear R;by_cases h1:Qac z=true
 rotate_left
 ·have h1:Qac z=false:=by simpa using h1
  rw[h1];have HV:=hH (vaR (name:=name) (t:=t) h1);go_wp2;rw[HV.out];exact bodyPost_ret (v:= .tuple #[.agg #[false,zN,zN,zI],.int .i64 1]) (by simp[results,Tryz.results15,go_sem,xaa, *]) rfl (qai (Kam u.out om))
 rw[h1];have HZ:=hH (yaT h1);go_wp2_with fail
 refine(qaj name _ nn).mono ?_;rintro e' w2 ⟨rfl,Y⟩;rw[hn];have s2:w1<=w2.heap.size:=szl Y;replace u:=hH (u.out.trans (Y.mono om));replace J:=hH (J.out.at Y);replace Kz:=J.out.o4;replace I:=hH (I.out.at Y);replace Kr:=I.out.q4;clear Y;go_wp2_with fail
 refine(Qaf _ t _ (ht.below u.out)).mono ?_;rintro e' w3 ⟨rfl,Z⟩;rw[hx];have s3:w2<=w3.heap.size:=szl Z;replace u:=hH (u.out.trans (Z.mono om));replace J:=hH (J.out.at Z);replace Kz:=J.out.o4;replace I:=hH (I.out.at Z);replace Kr:=I.out.q4;clear Z;cases sh;rotate_left
 ·have HV:=hH (qaH ⟨h1,HDK.out⟩ hsh);go_wp2;rw[HV.out];exact bodyPost_ret (v:= .tuple #[.agg #[false,zN,zN,zI],.int .i64 12]) (by simp[results,Tryz.results15,go_sem,xaa, *]) rfl (qai (Kam u.out om))
 go_wp2_with fail
 refine(HF0.out _ (N.below u.out)).mono ?_;rintro e' w4 ⟨rfl,hb4⟩;have s4:w3<=w4.heap.size:=szl hb4;replace u:=hH (u.out.trans (hb4.mono om));replace J:=hH (J.out.at hb4);replace Kz:=J.out.o4;replace I:=hH (I.out.at hb4);replace Kr:=I.out.q4;clear hb4;by_cases h3:0<=zad z name
 ·have HV:=hH (vaG ⟨h1,HDK.out⟩ hsh h3);have h3b:decide (0<=zad z name)=true:=by simpa using h3
  go_wp2;rw[HV.out];exact bodyPost_ret (v:= .tuple #[.agg #[false,zN,zN,zI],.int .i64 7]) (by simp[results,Tryz.results15,go_sem,xaa, *]) rfl (qai (Kam u.out om))
 have h3b:decide (0<=zad z name)=false:=by simpa using h3
 have hld:=fun w1 ty=>N.len Tryz.underlying23 w1 ty
 by_cases h4:z.docs.length=5
 ·have HV:=hH (yaH ⟨h1,HDK.out⟩ hsh h3 h4);have e4:((z.docs.length:Int)==5)=true:=by simp;omega
  clear h4;go_wp2;rw[HV.out];exact bodyPost_ret (v:= .tuple #[.agg #[false,zN,zN,zI],.int .i64 10]) (by simp[results,Tryz.results15,go_sem,xaa, *]) rfl (qai (Kam u.out om))
 have HV:=hH (kaK ⟨h1,HDK.out⟩ HDE.out hsh h3 h4);have e4:((z.docs.length:Int)==5)=false:=by simp;omega
 have bd:=(vad.1 h1).nd;clear h4;go_wp2_with fail
 refine(HDC.out _ (ht.below u.out)).mono ?_;rintro e' w5 ⟨v0t,v0l,v0s,f0t,f0l,f0s,rfl,st,sl,ss,_,kf,hb5⟩;obtain⟨a4,a8,rfl⟩:=RdS.isSlice ⟨_,st⟩;obtain⟨a0,a6,rfl⟩:=sl.nilS;obtain⟨a3,a7,rfl⟩:=ss.nilS;have Q:Hid (Tri w4 w5 w5 (.slice a4 t.length a8) (.slice a0 0 a6) (.slice a3 0 a7) t ([]:List yab) ([]:List qac) f0t f0l f0s):=hH ⟨st,sl,ss,kf.mono (by first|exact lr _|(simp;done)|(simp;omega)),Live.lt (Live.append.2 ⟨st.live,Live.append.2 ⟨sl.live,ss.live⟩⟩)⟩
 clear st sl ss kf;(try dsimp only[jao])
 have s5:w4<=w5.heap.size:=szl hb5;replace u:=hH (u.out.trans (hb5.mono om));replace J:=hH (J.out.at hb5);replace Kz:=J.out.o4;replace I:=hH (I.out.at hb5);replace Kr:=I.out.q4;clear hb5;go_wp2_with fail
 refine(HCP.out _ (N.below (u.out.alloc om _)) (ac.below (u.out.alloc om _)) HZ.out).mono ?_;rintro e' w6 ⟨_,rfl,ho6,hb6⟩;obtain⟨vd,vs,rfl,hown⟩:=Qab.of_own ho6;rw[hsh];obtain⟨ad,cd,rfl⟩:=hown.rd1.isSlice;obtain⟨a5,a9,rfl⟩:=hown.rd2.isSlice;have HOWN:=hH (hown.mono (C':=w5+1) om);clear ho6 hown;have s6:w5+1<=w6.heap.size:=szl hb6;replace u:=hH ((u.out.alloc om _).trans (hb6.mono om));replace Q:Hid (Tri w4 w5 w6 (.slice a4 t.length a8) (.slice a0 0 a6) (.slice a3 0 a7) t ([]:List yab) ([]:List qac) f0t f0l f0s):=hH (((Q.out.alloc om _).below (hb6.mono om)));replace J:=hH ((J.out.alloc _).at hb6);replace Kz:=J.out.o4;replace I:=hH ((I.out.alloc _).at hb6);replace Kr:=I.out.q4;have HXd:Hid (Bx w6 w5 [name,zI,.slice a4 t.length a8,.slice a0 0 a6,.slice a3 0 a7]):=hH ((Bx.new (by first|rfl|simp|omega)).at hb6)
 have Kd:=HXd.out.q5;clear hb6;clear hld;go_upto_region 11 with(fail)
 obtain⟨V,hV⟩:∃V:World,V=(w6.alloc (.cells #[false,.slice ad z.docs.length cd,.slice a5 z.subs.length a9,z.last] 26)):=⟨_,rfl⟩;have sV:w6+1<=V.heap.size:=by rw[hV];first|(simp;done)|(simp;omega)
 replace u:Hid (Below w w V):=hH (by rw[hV];exact(u.out.alloc om _))
 replace Q:Hid (Tri w4 w5 V (.slice a4 t.length a8) (.slice a0 0 a6) (.slice a3 0 a7) t ([]:List yab) ([]:List qac) f0t f0l f0s):=hH (by rw[hV];exact(Q.out.alloc om _))
 replace HOWN:Hid (Qab (w5+1) w6 V (.slice ad z.docs.length cd) (.slice a5 z.subs.length a9) (z.docs) (z.subs)):=hH (by rw[hV];exact(HOWN.out.alloc om _))
 replace J:Hid (Bx V w [false,D,M,z.last]):=hH (by rw[hV];exact(J.out.alloc _))
 replace Kz:=J.out.o4;replace I:Hid (Bx V (w+1) [false,zN,zN,zI]):=hH (by rw[hV];exact(I.out.alloc _))
 replace Kr:=I.out.q4;replace HXd:Hid (Bx V w5 [name,zI,.slice a4 t.length a8,.slice a0 0 a6,.slice a3 0 a7]):=hH (by rw[hV];exact(HXd.out.alloc _))
 replace Kd:=HXd.out.q5;have HXo:Hid (Bx V w6 [false,.slice ad z.docs.length cd,.slice a5 z.subs.length a9,z.last]):=hH (by rw[hV];exact(Bx.new (by first|rfl|simp|omega)))
 have Ko:=HXo.out.q4;rw[<-hV];clear hV;have hrd:RdS V (.slice ad z.docs.length cd) z.docs:=HOWN.out.rd1;have hls:=fun w1 ty=>hrd.len Tryz.underlying23 w1 ty
 have HRD:=hH hrd;clear hrd;go_wp2_with fail
 go_loop [11] (fun i=>∃k:Nat,k<=z.docs.length/\i= .int .i64 k/\∀j<k,∀d,z.docs[j]? =some d->slt d.name name=true) (fun i=>z.docs.length-(intOf i).toNat)
 case atStart=>exact⟨0,lz _,rfl,fun j h=>absurd h (Nat.not_lt_zero j)⟩
 case round=>
  obtain⟨k,hk,rfl,hlow⟩:=hrel;have HLOW:=hH hlow;clear hlow;have fin:∀{m:Nat},True->True:=fun _=>trivial
  clear fin;by_cases hlt:k<z.docs.length
  rotate_left;have HAT:=hH (ZaC hk HLOW.out (fun d' hd'=>by have:=(lg.1 hd').1;omega))
  have hl2:¬(k:Int)<(z.docs.length:Int):=om;rotate_left;obtain⟨d,hd⟩:=Jaa hlt;obtain⟨b1,o1,cs,g1,g2,g3⟩:=HRD.out.idx Tryz.underlying23 uag k hd;obtain⟨d_text,d_list,d_seen,rfl,nd,r_text,r_list,r_seen⟩:=Kai g3;have q0:=g2.zero;have HD:=hH hd;clear g2 g3 r_text r_list r_seen hd;by_cases e2:slt d.name name=true
  ·have e3:Op.bytesLess d.name.toList name.toList=true:=e2;have hl2:(k:Int)<(z.docs.length:Int):=om;go_wp2;go_round
   case rel=>
    refine⟨k+1,by omega,by go_num,fun j hj d' hd'=> ?_⟩
    by_cases hjk:j<k
    ·exact HLOW.out j hjk d' hd'
    ·obtain rfl:j=k:=om;rw[HD.out]at hd';cases hd';exact e2
   case measure=>simp[intOf];omega
  have e2:slt d.name name=false:=by simpa using e2
  have e3:Op.bytesLess d.name.toList name.toList=false:=e2;have hl2:(k:Int)<(z.docs.length:Int):=om;have HAT:=hH (ZaC hk HLOW.out (fun d' hd'=>by rw[HD.out]at hd';cases hd';exact e2))
  all_goals
   go_upto_region 14 with(fail)
   obtain⟨gs,hrow,hlim,hfr,happ⟩:=HOWN.out.docs (B:=w+2) (ob:=w6) om om om;have hgx:GoT.rd BIG V [name,zI,.slice a4 t.length a8,.slice a0 0 a6,.slice a3 0 a7] (jao name t) (f0t++(f0l++f0s)):=⟨_,_,_,_,_,_,rfl,nn,Q.out.1,Q.out.2.1,Q.out.2.2.1,rfl⟩;have hdis:∀p∈f0t++(f0l++f0s),p∉rowP (GoT.n Xac) (.slice ad z.docs.length cd):=fun p hp hq=>by have a1:=Q.out.2.2.2.2 p hp;have a2:=hlim p (lu _ hq);omega
   have HINS:=hH (uaY (B:=w+2) (.slice ad z.docs.length cd) z.docs gs k (jao name t) [name,zI,.slice a4 t.length a8,.slice a0 0 a6,.slice a3 0 a7] _ V (hrow.mono om) hk hgx hdis om om);have aa:=hH hlim;have HAPP:=hH happ;have HFR:=hH hfr;have HGX:=hH hgx;have HLG:=hH hrow.live;clear hrow hlim hfr happ hgx hdis;go_wp2_with fail
   refine HINS.out.mono ?_;rintro e' w20 hins;have hba:Below V V (V.alloc (.cells #[name,zI,.slice a4 t.length a8,.slice a0 0 a6,.slice a3 0 a7] 67)):=(lf _ _).alloc (lr _) _;have hff:Qaa (w+2) (V.alloc (.cells #[name,zI,.slice a4 t.length a8,.slice a0 0 a6,.slice a3 0 a7] 67)) (gs++(f0t++(f0l++f0s))):=((HFR.out.right.mono om).join (Q.out.2.2.2.1.mono om) fun p hp q hq e=>by have a1:=Q.out.2.2.2.2 q hq;have a2:=aa.out p (lw _ hp);rw[e]at a2;omega).belowL hba (fun p hp=>by
    rcases lm.1 hp with hp|hp
    ·have:=aa.out p (lw _ hp);omega
    ·have:=Q.out.2.2.2.2 p hp;omega)
   have hlv:Live (V.alloc (.cells #[name,zI,.slice a4 t.length a8,.slice a0 0 a6,.slice a3 0 a7] 67)) (gs++(f0t++(f0l++f0s))):=Live.append.2 ⟨HLG.out.keep (Live.same_below hba (Live.lt HLG.out)),(GoT.live HGX.out).keep (Live.same_below hba (Live.lt (GoT.live HGX.out)))⟩;obtain⟨v20,fp,rfl,sp,kp,wp,mp⟩:=hins.owns hff hlv;obtain⟨a20,c20,e20⟩:=sp.isS;have hlen20:(z.docs.take k++jao name t::z.docs.drop k).length=z.docs.length+1:=by simp;omega
   rw[hlen20]at e20;subst e20;have HNEW:Hid (vag w6 (w+2) w20 (.slice a20 (z.docs.length+1) c20) (.slice a5 z.subs.length a9) (z.docs.take k++jao name t::z.docs.drop k) z.subs):=hH (HAPP.out _ _ _ _ _ hba wp sp kp (fun p hp=>by
    rcases mp p hp with h|h|h
    ·exact .inl (lu _ h)
    ·right;right;simp at h;omega
    ·rcases lm.1 h with h|h
     ·exact .inl (lw _ h)
     ·have:=Q.out.2.2.2.2 p h;right;left;omega))
   have s20:V+1<=w20.heap.size:=by have:=wp.size;(try simp at this);omega
   replace u:Hid (Below w w w20):=hH ((u.out.alloc om _).trans (wp.below (by simp;omega) (fun p hp=>by have:=aa.out p (lu _ hp);omega)))
   replace J:Hid (Bx w20 w [false,D,M,z.last]):=hH ((J.out.alloc _).wr wp (fun p hp e=>by have:=aa.out p (lu _ hp);omega))
   replace Kz:=J.out.o4;replace I:Hid (Bx w20 (w+1) [false,zN,zN,zI]):=hH ((I.out.alloc _).wr wp (fun p hp e=>by have:=aa.out p (lu _ hp);omega))
   replace Kr:=I.out.q4;replace HXo:Hid (Bx w20 w6 [false,.slice ad z.docs.length cd,.slice a5 z.subs.length a9,z.last]):=hH ((HXo.out.alloc _).wr wp (fun p hp e=>by have:=aa.out p (lu _ hp);omega))
   replace Ko:=HXo.out.q4;clear hins sp kp wp mp hba hff hlv HINS HAPP HFR HGX HLG Q HOWN HRD;go_upto_region 15 with(fail)
   obtain⟨U,hU⟩:∃U:World,U=(w20.setCell ⟨w6,1,none⟩ (.slice a20 (z.docs.length+1) c20)):=⟨_,rfl⟩;have sU:w20<=U.heap.size:=by rw[hU];first|(simp;done)|(simp;omega)
   replace u:Hid (Below w w U):=hH (by rw[hU];exact(u.out.setCell (p:=⟨w6,1,none⟩) om _))
   replace HNEW:Hid (vag w6 (w+2) U (.slice a20 (z.docs.length+1) c20) (.slice a5 z.subs.length a9) (z.docs.take k++jao name t::z.docs.drop k) z.subs):=hH (by rw[hU];exact(HNEW.out.setCell om _))
   replace J:Hid (Bx U w [false,D,M,z.last]):=hH (by rw[hU];exact(J.out.setO om))
   replace Kz:=J.out.o4;replace I:Hid (Bx U (w+1) [false,zN,zN,zI]):=hH (by rw[hU];exact(I.out.setO om))
   replace Kr:=I.out.q4;replace HXo:Hid (Bx U w6 [false,.slice a20 (z.docs.length+1) c20,.slice a5 z.subs.length a9,z.last]):=hH (by rw[hU];exact(HXo.out.set 1 (.slice a20 (z.docs.length+1) c20)))
   replace Ko:=HXo.out.q4;rw[<-hU];clear hU;have HH:Hid (vag w6 (w+2) ((((U.setCell ⟨w+1,0,none⟩ false).setCell ⟨w+1,1,none⟩ (.slice a20 (z.docs.length+1) c20)).setCell ⟨w+1,2,none⟩ (.slice a5 z.subs.length a9)).setCell ⟨w+1,3,none⟩ z.last) (.slice a20 (z.docs.length+1) c20) (.slice a5 z.subs.length a9) (z.docs.take k++jao name t::z.docs.drop k) z.subs):=hH ((((HNEW.out.setCell om _).setCell om _).setCell om _).setCell om _);go_wp2;rw[HV.out,HAT.out];exact bodyPost_ret (v:= .tuple #[.agg #[false,.slice a20 (z.docs.length+1) c20,.slice a5 z.subs.length a9,z.last],zI]) (by simp[results,Tryz.results15,go_sem,xaa, *]) rfl (vag.out_i (y:=⟨false,z.docs.take k++jao name t::z.docs.drop k,z.subs,z.last⟩) HH.out om (Kam u.out om))
