/- Documents: their texts, their operations, their entries. -/
import Derived.Test.YtbonkabfmlajnaaGreatQrar
set_option maxHeartbeats 16000000
set_option maxRecDepth 100000
set_option linter.defProp false
set_option linter.unusedSimpArgs false
namespace Go.Proofs.YtbonkabfmlajnaaGreat
open Go.RowKit
attribute [local go_sem ↓] Go.wp_at_zero Go.wp_at_succ
theorem xaB {d:Xac}{rev:Int}(h:uau d rev):∃K:Nat,K<=d.list.length/\rev=d.from_+K/\Xa0 d rev=K:=⟨Xa0 d rev,(ya9 h).1,(ya9 h).2,rfl⟩
theorem qay {d:Xac}{rev:Int}(h:Qad d=true):within rev d.from_ (yaa d)=decide (uau d rev):=by
 simp[within,uau,h]
theorem Xbe {d:Xac}{rev:Int}(h:Qad d=false):Qar d rev=([],1):=if_neg (by simp[h])
theorem kbc {d:Xac}{rev:Int}(h:Qad d=true)(j:yaa d<rev):Qar d rev=([],2):=by unfold Qar;rw[if_pos h,if_pos j]
theorem ybc {d:Xac}{rev:Int}(h:Qad d=true)(j:¬yaa d<rev)(n:rev<d.from_):Qar d rev=([],3):=by unfold Qar;rw[if_pos h,if_neg j,if_pos n]
theorem xbc {d:Xac}{rev:Int}(h:Qad d=true)(j:¬yaa d<rev)(n:¬rev<d.from_):Qar d rev=(d.list.drop (Xa0 d rev),0):=by unfold Qar;rw[if_pos h,if_neg j,if_neg n]
theorem ybd {d:Xac}{rev:Int}(h:Qad d=true)(j:¬yaa d<rev)(n:¬rev<d.from_):uau d rev:=⟨h,by omega,by omega⟩
theorem ua3 {α:Type}[GoT α][GoS α](l:List α)(k:Nat):szL (l.drop k)<=szL l:=(vaF l k).2
theorem kbd {α:Type}[GoT α][GoS α](l:List α)(k:Nat):szL (l.take k)<=szL l:=(vaF l k).1
theorem qaQ {N_:Nat}(h_:N_=135\/N_=88)(d:Xac)(n q j:Value)(rev:Int)(w:World)(a0:d.name.size<=BIG)(h_text:RdS w n d.text)(N:RdS w q d.list)(h_seen:RdS w j d.seen):Calls Tryz.prog N_ #[.agg #[d.name,d.from_,n,q,j],rev] w (uay w (uan d rev).1 (uan d rev).2):=by
 rcases h_ with rfl|rfl
 have k_0:Unit:=();have k_1:=hH @kal;have k_2:=hH @Jab;have k_3:=hH @Zaa;go_enter Tryz.func135,Tryz.ntmps135;rotate_left;have k_0:Bool:=true;have k_1:=hH @zal;have k_2:=hH @zac;have k_3:=hH @vaa;go_enter Tryz.func88,Tryz.ntmps88;all_goals
  obtain⟨W,hW⟩:∃W:World,W=w.alloc (.cells #[d.name,d.from_,n,q,j] 67):=⟨_,rfl⟩;have hWB:Below w w W:=by rw[hW];exact blw
  have sW:=hWB.size;have J:w<W.heap.size:=by rw[hW];first|(simp;done)|(simp;omega)
  have Q:W.cell? ⟨w.heap.size,0,none⟩=some (.string d.name):=by rw[hW];simp[go_sem]
  have R:W.cell? ⟨w.heap.size,1,none⟩=some (.int .i64 d.from_):=by rw[hW];simp[go_sem]
  have U:W.cell? ⟨w.heap.size,2,none⟩=some (n):=by rw[hW];simp[go_sem]
  have Y:W.cell? ⟨w.heap.size,3,none⟩=some (q):=by rw[hW];simp[go_sem]
  have Z:W.cell? ⟨w.heap.size,4,none⟩=some (j):=by rw[hW];simp[go_sem]
  have HXT:=hH (h_text.below hWB);have HXL:=hH (N.below hWB);have HXS:=hH (h_seen.below hWB);have hll:=fun w1 ty=>N.len Tryz.underlying34 w1 ty
  clear h_text N h_seen;by_cases hd:Qad d=true
  rotate_left
  ·have hd:Qad d=false:=by simpa using hd
   have HV:=hH (ZaB (rev:=rev) (d:=d) (fun h=>by have h1:=h.1;rw[hd]at h1;cases h1))
   go_wp2;rw[<-hW];clear hW;obtain⟨X,hX,F,hF,hFs⟩:=zae W;obtain⟨cd0,cd1,cd2,cd3,cd4⟩:=mx5 hF J Q R U Y Z;have M:=hH hF;have B:=hH hFs;clear hF hFs;have HD:=hH (fun(D:World) (hb:Below W W D)=>tb (k_1.out d _ _ _ D a0 (HXT.out.below hb) (HXL.out.below hb) (HXS.out.below hb)) hd)
   refine uaa (F:=F) (by kernel_rfl) (by kernel_rfl) (B.out _ blw) ?_
   repeat(go_big_quiet_step (((first|go_at_call 122|go_at_call 27);(with_reducible exact Calls.fam_tells M.out B.out (HD.out _ (M.out _))))))
   refine wpQuiet_nil ?_;intro x;obtain⟨w1,I⟩:∃wx:World,F x=wx:=⟨_,rfl⟩;have B1:Below W W w1:=by rw[<-I];exact M.out x
   rw[I];clear I cd0 cd1 cd2 cd3 cd4 M B HD;have s1:=B1.size;have z1d:w<w1.heap.size:=lq J s1;obtain⟨y1d0,y1d1,y1d2,y1d3,y1d4⟩:=mv5 B1 J Q R U Y Z;go_wp2;go_ret2
   rw[HV.out];exact⟨_,_,rfl,Sl.nil,Qaa.nil _ _,blw⟩
  have hbd:=yaf hd;by_cases hr:uau d rev
  rotate_left
  ·
   have HV:=hH (ZaB hr);have hw0:within rev d.from_ (yaa d)=false:=by rw[qay hd];simpa using hr
   go_wp2;rw[<-hW];clear hW;obtain⟨X,hX,F,hF,hFs⟩:=zae W;obtain⟨cd0,cd1,cd2,cd3,cd4⟩:=mx5 hF J Q R U Y Z;have M:=hH hF;have B:=hH hFs;clear hF hFs;have HD:=hH (fun(D:World) (hb:Below W W D)=>tb (k_1.out d _ _ _ D a0 (HXT.out.below hb) (HXL.out.below hb) (HXS.out.below hb)) hd)
   have HH:=hH (fun(D:World) (hb:Below W W D)=>(by have:=k_2.out d n _ j D (HXL.out.below hb) om om;exact this:Calls Tryz.prog _ #[.agg #[d.name,d.from_,n,q,j]] D (yae D (.int .i64 (yaa d)))))
   have HI:=hH (fun(D:World) (hb:Below W W D)=>tb (k_3.out rev d.from_ (yaa d) D) hw0)
   refine uaa (F:=F) (by kernel_rfl) (by kernel_rfl) (B.out _ blw) ?_
   repeat(go_big_quiet_step ((first|((first|go_at_call 122|go_at_call 27);(with_reducible exact Calls.fam_tells M.out B.out (HD.out _ (M.out _))))|((first|go_at_call 100|go_at_call 30);(with_reducible exact Calls.fam_tells M.out B.out (HH.out _ (M.out _))))|((first|go_at_call 106|go_at_call 26);(with_reducible exact Calls.fam_tells M.out B.out (HI.out _ (M.out _)))))))
   refine wpQuiet_nil ?_;intro x;obtain⟨w1,I⟩:∃wx:World,F x=wx:=⟨_,rfl⟩;have B1:Below W W w1:=by rw[<-I];exact M.out x
   rw[I];clear I cd0 cd1 cd2 cd3 cd4 M B HD HH HI;have s1:=B1.size;have z1d:w<w1.heap.size:=lq J s1;obtain⟨y1d0,y1d1,y1d2,y1d3,y1d4⟩:=mv5 B1 J Q R U Y Z;go_wp2;go_ret2
   rw[HV.out];exact⟨_,_,rfl,Sl.nil,Qaa.nil _ _,blw⟩
  have hw0:within rev d.from_ (yaa d)=true:=by rw[qay hd];simpa using hr
  have hp:=jaf.1 hd;have hl8:=hp.len;have ht2:=hp.tlen;have hsz:=hp.sz;have HP:=hH hp;clear hp;obtain⟨K,hK,hrev,hkk⟩:=xaB hr;obtain⟨tx,htx,hte,htt⟩:=vay hr;rw[hkk]at htx;have HV:=hH hte;have HTX:=hH htx;obtain⟨vc,hcut,hcr⟩:=HXL.out.cuth Tryz.underlying34 Kab hK;have HCR:=hH hcr;have hlc:=fun w1 ty=>hcr.len Tryz.underlying34 w1 ty
  have hmin:(d.list.take K).length=K:=by simp;omega
  rw[hmin]at hlc;clear hkk htx hte hcr htt hmin;first
  |have:Unit:=k_0
   clear this;obtain⟨i0,hi,hz0,hz1,hz2⟩:=info_parts Zau
  |skip
  subst hrev;go_wp2;rw[<-hW];clear hW;obtain⟨X,hX,F,hF,hFs⟩:=zae W;obtain⟨cd0,cd1,cd2,cd3,cd4⟩:=mx5 hF J Q R U Y Z;have M:=hH hF;have B:=hH hFs;clear hF hFs;have HD:=hH (fun(D:World) (hb:Below W W D)=>tb (k_1.out d _ _ _ D a0 (HXT.out.below hb) (HXL.out.below hb) (HXS.out.below hb)) hd)
  have HH:=hH (fun(D:World) (hb:Below W W D)=>(by have:=k_2.out d n _ j D (HXL.out.below hb) om om;exact this:Calls Tryz.prog _ #[.agg #[d.name,d.from_,n,q,j]] D (yae D (.int .i64 (yaa d)))))
  have HI:=hH (fun(D:World) (hb:Below W W D)=>tb (k_3.out (d.from_+(K:Int)) d.from_ (yaa d) D) hw0)
  refine uaa (F:=F) (by kernel_rfl) (by kernel_rfl) (B.out _ blw) ?_
  repeat(go_big_quiet_step ((first|((first|go_at_call 122|go_at_call 27);(with_reducible exact Calls.fam_tells M.out B.out (HD.out _ (M.out _))))|((first|go_at_call 100|go_at_call 30);(with_reducible exact Calls.fam_tells M.out B.out (HH.out _ (M.out _))))|((first|go_at_call 106|go_at_call 26);(with_reducible exact Calls.fam_tells M.out B.out (HI.out _ (M.out _)))))))
  refine wpQuiet_nil ?_;intro x;obtain⟨w1,I⟩:∃wx:World,F x=wx:=⟨_,rfl⟩;have B1:Below W W w1:=by rw[<-I];exact M.out x
  rw[I];clear I cd0 cd1 cd2 cd3 cd4 M B HD HH HI;have s1:=B1.size;have z1d:w<w1.heap.size:=lq J s1;obtain⟨y1d0,y1d1,y1d2,y1d3,y1d4⟩:=mv5 B1 J Q R U Y Z;have hs0:d.from_+(K:Int)-d.from_=(K:Int):=om;have hs1:IntKind.i64.wrap (d.from_+(K:Int)-d.from_)=(K:Int):=by rw[hs0];exact IntWalk.i64_in _ om
  have hs2:IntKind.i64.wrap (K:Int)=(K:Int):=IntWalk.i64_in _ om;first
  |have:Unit:=k_0
   clear this;go_wp2_with (at_builtin;refine qaa rfl _ _ 31 rfl Tryz.underlying31 hi hz0 hz1 hz2 rfl rfl rfl (Row.empty w1 _ _) (Src.ints2 (HXT.out.below blw)) (fun _ h=>by cases h) ?c1 ?c2 ?c3 ?_)
   case c1=>simp;exact Xab om
   case c2=>simp;omega
   case c3=>simp
   intro v2 w2 hr2 hw2 hn2;have hb2:Below w1 w1 w2:=(show Below w1 w1 _ from blw).trans (hw2.nilBelow.mono om);replace hr2:Row w1 w2 v2 d.text []:=hr2;have HO2:Hid (uaf w w2 v2 d.text):=hH ((hr2.owns (Qaa.nil _ _)).mono om);have B2:Below W W w2:=B1.trans (hb2.mono s1);clear hr2 hw2 hn2;have s2:=B2.size;have z2d:w<w2.heap.size:=lq J s2;obtain⟨y2d0,y2d1,y2d2,y2d3,y2d4⟩:=mv5 B2 J Q R U Y Z
  |have HALL:yao ((xaq d.list).take K) d.text=(tx,true):=by rw[Jaq HP.out.text,HTX.out];rfl
  go_wp2;first
  |have:Unit:=k_0
   clear this;clear hs0 hs1 hs2;go_loopw [6,33] (fun z i wr=>∃(k:Nat) (u:Value) (x:List Int),u=z/\k<=K/\i= .int .i64 k/\vai ((xaq d.list).take k) d.text=some x/\uaf w wr u x/\Below W W wr) (fun _ i _=>K-(intOf i).toNat)
   case atStart=>exact⟨0,_,d.text,rfl,lz _,rfl,rfl,HO2.out,blw⟩
   case round=>
    obtain⟨k,u,x,rfl,hk,rfl,hap,hu,hbr⟩:=hrel;have hsr:=hbr.size;have HAP:=hH hap;have HU:=hH hu;clear hap hu;by_cases hlt:k<K
    ·obtain⟨x1,hx⟩:=Jaa (l:=d.list) (k:=k) om;obtain⟨b1,o1,cs,g1,g2,g3⟩:=(HCR.out.below hbr).idx Tryz.underlying34 Kab k (by rw[List.getElem?_take,if_pos hlt];exact hx)
     obtain⟨v_o,rfl,r_o⟩:=qag g3;have q0:=g2.zero;have q1:=g2 1 _ rfl;have q2:=g2 2 _ rfl;obtain⟨aa,ca,rfl⟩:=r_o.isSlice;have HST:=hH (QaE (jaU hx) HAP.out);have hy:(zab x1.o x).2=true:=by
      obtain⟨v,hv,_⟩:=qaR (l:=(xaq d.list).take K) HTX.out (k+1);rw[List.take_take,Nat.min_eq_left om,HST.out]at hv;by_cases hy:(zab x1.o x).2=true
      ·exact hy
      ·rw[if_neg hy]at hv;cases hv
     have HS2:Hid (vai ((xaq d.list).take (k+1)) d.text=some (zab x1.o x).1):=hH (by rw[HST.out,if_pos hy])
     have HRO:=hH r_o;clear hx g2 g3 r_o hy;go_wp2_with fail
     refine(jal x1.o x _ _ _ (HRO.out.below blw) (HU.out.rd.below blw)).mono ?_;rintro e' w4 ⟨v4,f4,rfl,S4,F4,hb4⟩;have R4:Below wr wr w4:=(show Below wr wr _ from blw).trans (hb4.mono om);have r4:=R4.size;have HO4:Hid (uaf w w4 v4 (zab x1.o x).1):=hH ⟨f4,S4,F4.mono (by simp;omega)⟩
     have HB4:Hid (Below W W w4):=hH (hbr.trans (R4.mono hsr));clear hb4 S4 F4;go_wp2;go_roundw
     case rel=>exact⟨k+1,_,_,rfl,by omega,by go_num,HS2.out,HO4.out,HB4.out⟩
     case measure=>simp[intOf];omega
    ·obtain rfl:k=K:=om;have HX:Hid (x=tx):=hH (Option.some.inj (HAP.out.symm.trans HTX.out));obtain⟨fp,hs,hf⟩:=HU.out;go_wp2;go_ret2
     rw[HV.out];exact⟨_,_,rfl,by rw[<-HX.out];exact hs,hf,blw⟩
  |go_region_held3 (fun w'=>w'.cell? ⟨w.heap.size,0,none⟩=some (.string d.name)/\w'.cell? ⟨w.heap.size,1,none⟩=some (.int .i64 d.from_)/\w'.cell? ⟨w.heap.size,2,none⟩=some (n)/\w'.cell? ⟨w.heap.size,3,none⟩=some (q)/\w'.cell? ⟨w.heap.size,4,none⟩=some j) (go_keep)
   (first|(go_at_call 68;refine(zat _ (d.list.take K) _ (HCR.out.below blw) (Nat.le_trans (kbd _ _) om)).mono ?_;rintro e' w6 ⟨v6,rfl,ho6,hb6⟩;have HO6:Hid (RdS w6 v6 ((xaq d.list).take K)):=hH (by rw[<-Kbb];exact ho6.rd);have B6:Below W W w6:=(show Below W W _ from blw).trans (hb6.mono om);have s6:=B6.size;have z6d:w<w6.heap.size:=lq J s6;have y6d0:=(B6.cell (p:=⟨w,0,none⟩) J).trans Q;have y6d1:=(B6.cell (p:=⟨w,1,none⟩) J).trans R;have y6d2:=(B6.cell (p:=⟨w,2,none⟩) J).trans U;have y6d3:=(B6.cell (p:=⟨w,3,none⟩) J).trans Y;have y6d4:=(B6.cell (p:=⟨w,4,none⟩) J).trans Z;clear hb6 ho6)|(go_at_call 67;refine(uas ((xaq d.list).take K) d.text _ _ _ (HO6.out.below blw) (HXT.out.below blw) om).mono ?_;rintro e' w7 ⟨v7,f7,rfl,S7,F7,hb7⟩;rw[HALL]at S7;rw[HALL];have HS7:=hH S7;have HF7:Hid (Qaa w w7 f7):=hH (F7.mono (by first|omega|(simp;omega)));have B7:Below W W w7:=(show Below W W _ from blw).trans (hb7.mono om);have s7:=B7.size;have z7d:w<w7.heap.size:=lq J s7;have y7d0:=(B7.cell (p:=⟨w,0,none⟩) J).trans Q;have y7d1:=(B7.cell (p:=⟨w,1,none⟩) J).trans R;have y7d2:=(B7.cell (p:=⟨w,2,none⟩) J).trans U;have y7d3:=(B7.cell (p:=⟨w,3,none⟩) J).trans Y;have y7d4:=(B7.cell (p:=⟨w,4,none⟩) J).trans Z;clear hb7 S7 F7))
   all_goals
    go_wp2;go_ret2
    rw[HV.out];exact⟨_,_,rfl,HS7.out,HF7.out,blw⟩
def Qav:=@qaQ 135 (.inl rfl)
def uaC:=@qaQ 88 (.inr rfl)
theorem jaH {N_:Nat}(h_:N_=132\/N_=51)(d:Xac)(q u j:Value)(w:World)(J:d.name.size<=BIG)(I:RdS w q d.text)(B:RdS w u d.list)(D:RdS w j d.seen):Calls Tryz.prog N_ #[.agg #[d.name,d.from_,q,u,j]] w (zbd w (vae d)):=by
 rcases h_ with rfl|rfl
 have k_1:=hH @Jab;have a9:=hH @Qav;have k_3:=hH @zaI;go_enter Tryz.func132,Tryz.ntmps132;rotate_left;have k_1:=hH @zac;have a9:=hH @uaC;have k_3:=hH @uaI;go_enter Tryz.func51,Tryz.ntmps51;all_goals
  obtain⟨W,Q⟩:∃W:World,W=w.alloc (.cells #[d.name,d.from_,q,u,j] 67):=⟨_,rfl⟩;have a0:Below w w W:=by rw[Q];exact blw
  have sW:=a0.size;have z:w<W.heap.size:=by rw[Q];first|(simp;done)|(simp;omega)
  have a1:W.cell? ⟨w.heap.size,0,none⟩=some (.string d.name):=by rw[Q];simp[go_sem]
  have a2:W.cell? ⟨w.heap.size,1,none⟩=some (.int .i64 d.from_):=by rw[Q];simp[go_sem]
  have a3:W.cell? ⟨w.heap.size,2,none⟩=some (q):=by rw[Q];simp[go_sem]
  have a4:W.cell? ⟨w.heap.size,3,none⟩=some (u):=by rw[Q];simp[go_sem]
  have a5:W.cell? ⟨w.heap.size,4,none⟩=some (j):=by rw[Q];simp[go_sem]
  have HXT:=hH (I.below a0);have Z:=hH (B.below a0);have HXS:=hH (D.below a0);have hll:=fun w1 ty=>B.len Tryz.underlying34 w1 ty
  clear I B D;by_cases hd:Qad d=true
  ·
   have hbd:=yaf hd;have HV:Hid (vae d=(uan d (yaa d)).1):=hH rfl;go_wp2;rw[<-Q];clear Q;go_region_held3 (fun Y=>Y.cell? ⟨w.heap.size,0,none⟩=some (.string d.name)/\Y.cell? ⟨w.heap.size,1,none⟩=some (.int .i64 d.from_)/\Y.cell? ⟨w.heap.size,2,none⟩=some (q)/\Y.cell? ⟨w.heap.size,3,none⟩=some (u)/\Y.cell? ⟨w.heap.size,4,none⟩=some j) (go_keep)
    (first|((first|go_at_call 100|go_at_call 30);refine(k_1.out d q _ j _ (Z.out.below blw) om om).mono ?_;rintro e' w6 ⟨rfl,R⟩;have M:Below W W w6:=(show Below W W _ from blw).trans (R.mono om);have s6:=M.size;have z6d:w<w6.heap.size:=lq z s6;have y6d0:=(M.cell (p:=⟨w,0,none⟩) z).trans a1;have y6d1:=(M.cell (p:=⟨w,1,none⟩) z).trans a2;have y6d2:=(M.cell (p:=⟨w,2,none⟩) z).trans a3;have y6d3:=(M.cell (p:=⟨w,3,none⟩) z).trans a4;have y6d4:=(M.cell (p:=⟨w,4,none⟩) z).trans a5;clear R)|((first|go_at_call 135|go_at_call 88);refine(a9.out d _ _ _ (yaa d) _ J (HXT.out.below blw) (Z.out.below blw) (HXS.out.below blw)).mono ?_;rintro e' w7 ⟨v7,f7,rfl,S7,F7,U⟩;skip;have a7:=hH S7;have a6:Hid (Qaa w w7 f7):=hH (F7.mono (by first|omega|(simp;omega)));have N:Below W W w7:=(show Below W W _ from blw).trans (U.mono om);have s7:=N.size;have z7d:w<w7.heap.size:=lq z s7;have y7d0:=(N.cell (p:=⟨w,0,none⟩) z).trans a1;have y7d1:=(N.cell (p:=⟨w,1,none⟩) z).trans a2;have y7d2:=(N.cell (p:=⟨w,2,none⟩) z).trans a3;have y7d3:=(N.cell (p:=⟨w,3,none⟩) z).trans a4;have y7d4:=(N.cell (p:=⟨w,4,none⟩) z).trans a5;clear U S7 F7))
   all_goals
    go_wp2;go_ret;rw[HV.out];exact⟨_,_,rfl,a7.out,a6.out,blw⟩
  ·
   have a8:=fun n=>ZaB (d:=d) (rev:=n) (fun h=>hd h.1)
   have HNO:=hH a8;have HV:Hid (vae d=[]):=hH (by unfold vae;rw[a8])
   clear a8;go_wp2;rw[<-Q];clear Q;go_region_held3 (fun Y=>Y.cell? ⟨w.heap.size,0,none⟩=some (.string d.name)/\Y.cell? ⟨w.heap.size,1,none⟩=some (.int .i64 d.from_)/\Y.cell? ⟨w.heap.size,2,none⟩=some (q)/\Y.cell? ⟨w.heap.size,3,none⟩=some (u)/\Y.cell? ⟨w.heap.size,4,none⟩=some j) (go_keep)
    (first|((first|go_at_call 100|go_at_call 30);refine(k_3.out d q _ j _ (Z.out.below blw)).mono ?_;rintro e' w6 ⟨n,rfl,R⟩;have M:Below W W w6:=(show Below W W _ from blw).trans (R.mono om);have s6:=M.size;have z6d:w<w6.heap.size:=lq z s6;have y6d0:=(M.cell (p:=⟨w,0,none⟩) z).trans a1;have y6d1:=(M.cell (p:=⟨w,1,none⟩) z).trans a2;have y6d2:=(M.cell (p:=⟨w,2,none⟩) z).trans a3;have y6d3:=(M.cell (p:=⟨w,3,none⟩) z).trans a4;have y6d4:=(M.cell (p:=⟨w,4,none⟩) z).trans a5;clear R)|((first|go_at_call 135|go_at_call 88);refine(a9.out d _ _ _ n _ J (HXT.out.below blw) (Z.out.below blw) (HXS.out.below blw)).mono ?_;rintro e' w7 ⟨v7,f7,rfl,S7,F7,U⟩;rw[HNO.out]at S7;rw[HNO.out];have a7:=hH S7;have a6:Hid (Qaa w w7 f7):=hH (F7.mono (by first|omega|(simp;omega)));have N:Below W W w7:=(show Below W W _ from blw).trans (U.mono om);have s7:=N.size;have z7d:w<w7.heap.size:=lq z s7;have y7d0:=(N.cell (p:=⟨w,0,none⟩) z).trans a1;have y7d1:=(N.cell (p:=⟨w,1,none⟩) z).trans a2;have y7d2:=(N.cell (p:=⟨w,2,none⟩) z).trans a3;have y7d3:=(N.cell (p:=⟨w,3,none⟩) z).trans a4;have y7d4:=(N.cell (p:=⟨w,4,none⟩) z).trans a5;clear U S7 F7))
   all_goals
    go_wp2;go_ret;rw[HV.out];exact⟨_,_,rfl,a7.out,a6.out,blw⟩
def uar:=@jaH 132 (.inl rfl)
def Zaw:=@jaH 51 (.inr rfl)
theorem Xaq (d:Xac)(n p j:Value)(rev:Int)(w:World)(u:RdS w p d.list)(b1: -9000000000000000000<=d.from_)(b2:d.from_<=9000000000000000000):
 Calls Tryz.prog 109 #[.agg #[d.name,d.from_,n,p,j],rev] w (yae w (.int .i64 (Jap d rev))):=by
 obtain⟨W,z⟩:∃W:World,W=w.alloc (.cells #[d.name,d.from_,n,p,j] 67):=⟨_,rfl⟩;have hWB:Below w w W:=by rw[z];exact blw
 have sW:=hWB.size;have zd:w<W.heap.size:=by rw[z];first|(simp;done)|(simp;omega)
 have U:W.cell? ⟨w.heap.size,0,none⟩=some (.string d.name):=by rw[z];simp[go_sem]
 have Y:W.cell? ⟨w.heap.size,1,none⟩=some (.int .i64 d.from_):=by rw[z];simp[go_sem]
 have Z:W.cell? ⟨w.heap.size,2,none⟩=some (n):=by rw[z];simp[go_sem]
 have a0:W.cell? ⟨w.heap.size,3,none⟩=some (p):=by rw[z];simp[go_sem]
 have a1:W.cell? ⟨w.heap.size,4,none⟩=some (j):=by rw[z];simp[go_sem]
 have R:=hH (u.below hWB);clear u;by_cases h2:yaa d<rev
 ·have HV:Hid (Jap d rev=2):=hH (if_pos h2);go_enter Tryz.func109,Tryz.ntmps109
  go_wp2_with fail
  rw[<-z];clear z;go_wp2_with fail
  refine(zac d n _ j _ (R.out.below blw) b1 b2).mono ?_;rintro e' D ⟨rfl,q⟩;have B:Below W W D:=(show Below W W _ from blw).trans (q.mono om);have s1:=B.size;have z1d:w<D.heap.size:=lq zd s1;obtain⟨I,J,M,N,Q⟩:=mv5 B zd U Y Z a0 a1;clear q;go_wp2;go_ret;exact⟨Jah HV.out.symm,blw⟩
 ·by_cases h3:rev<d.from_
  ·have HV:Hid (Jap d rev=3):=hH (by unfold Jap;rw[if_neg h2,if_pos h3])
   go_enter Tryz.func109,Tryz.ntmps109
   go_wp2_with fail
   rw[<-z];clear z;go_wp2_with fail
   refine(zac d n _ j _ (R.out.below blw) b1 b2).mono ?_;rintro e' D ⟨rfl,q⟩;have B:Below W W D:=(show Below W W _ from blw).trans (q.mono om);have s1:=B.size;have z1d:w<D.heap.size:=lq zd s1;obtain⟨I,J,M,N,Q⟩:=mv5 B zd U Y Z a0 a1;clear q;go_wp2;go_ret;exact⟨Jah HV.out.symm,blw⟩
  ·have HV:Hid (Jap d rev=0):=hH (by unfold Jap;rw[if_neg h2,if_neg h3])
   go_enter Tryz.func109,Tryz.ntmps109
   go_wp2_with fail
   rw[<-z];clear z;go_wp2_with fail
   refine(zac d n _ j _ (R.out.below blw) b1 b2).mono ?_;rintro e' D ⟨rfl,q⟩;have B:Below W W D:=(show Below W W _ from blw).trans (q.mono om);have s1:=B.size;have z1d:w<D.heap.size:=lq zd s1;obtain⟨I,J,M,N,Q⟩:=mv5 B zd U Y Z a0 a1;clear q;go_wp2;go_ret;exact⟨Jah HV.out.symm,blw⟩
theorem uaX {N_:Nat}(h_:N_=139\/N_=65)(d:Xac)(n q j:Value)(rev:Int)(w:World)(p:d.name.size<=BIG)(a0:RdS w n d.text)(B:RdS w q d.list)(Z:RdS w j d.seen):Calls Tryz.prog N_ #[.agg #[d.name,d.from_,n,q,j],rev] w (kaY w (Qar d rev).1 (Qar d rev).2):=by
 rcases h_ with rfl|rfl
 have Y:Unit:=();have k_1:=hH @kal;have k_2:=hH @zaf;go_enter Tryz.func139,Tryz.ntmps139;rotate_left;have Y:Bool:=true;have k_1:=hH @zal;have k_2:=hH @uak;go_enter Tryz.func65,Tryz.ntmps65;all_goals
  obtain⟨W,U⟩:∃W:World,W=w.alloc (.cells #[d.name,d.from_,n,q,j] 67):=⟨_,rfl⟩;have hWB:Below w w W:=by rw[U];exact blw
  have sW:=hWB.size;have R:w<W.heap.size:=by rw[U];first|(simp;done)|(simp;omega)
  have I:W.cell? ⟨w.heap.size,0,none⟩=some (.string d.name):=by rw[U];simp[go_sem]
  have J:W.cell? ⟨w.heap.size,1,none⟩=some (.int .i64 d.from_):=by rw[U];simp[go_sem]
  have M:W.cell? ⟨w.heap.size,2,none⟩=some (n):=by rw[U];simp[go_sem]
  have N:W.cell? ⟨w.heap.size,3,none⟩=some (q):=by rw[U];simp[go_sem]
  have Q:W.cell? ⟨w.heap.size,4,none⟩=some (j):=by rw[U];simp[go_sem]
  have HXT:=hH (a0.below hWB);have u:=hH (B.below hWB);have HXS:=hH (Z.below hWB);have hll:=fun w1 ty=>B.len Tryz.underlying34 w1 ty
  clear a0 B Z;by_cases hd:Qad d=true
  rotate_left
  ·have hd:Qad d=false:=by simpa using hd
   have HV:=hH (Xbe (rev:=rev) hd);go_wp2_with fail
   rw[<-U];clear U;go_wp2_with fail
   refine(k_1.out d _ _ _ _ p (HXT.out.below blw) (u.out.below blw) (HXS.out.below blw)).mono ?_;rintro e' w1 ⟨rfl,z⟩;rw[hd];have B1:Below W W w1:=(show Below W W _ from blw).trans (z.mono om);have s1:=B1.size;have z1d:w<w1.heap.size:=lq R s1;obtain⟨y1d0,y1d1,y1d2,y1d3,y1d4⟩:=mv5 B1 R I J M N Q;clear z;go_wp2;go_ret2
   rw[HV.out];exact⟨_,_,rfl,Sl.nil,Qaa.nil _ _,blw⟩
  have hbd:=yaf hd;have hp:=jaf.1 hd;have hl8:=hp.len;have hsz:=hp.sz;clear hp;by_cases h2:yaa d<rev
  ·
   have HV:=hH (kbc hd h2);have HB0:Hid (Jap d rev=2):=hH (if_pos h2);go_wp2_with fail
   rw[<-U];clear U;go_wp2_with fail
   refine(k_1.out d _ _ _ _ p (HXT.out.below blw) (u.out.below blw) (HXS.out.below blw)).mono ?_;rintro e' w1 ⟨rfl,z⟩;rw[hd];have B1:Below W W w1:=(show Below W W _ from blw).trans (z.mono om);have s1:=B1.size;have z1d:w<w1.heap.size:=lq R s1;obtain⟨y1d0,y1d1,y1d2,y1d3,y1d4⟩:=mv5 B1 R I J M N Q;clear z;go_wp2_with fail
   first
   |have:Unit:=Y
    clear this;refine(Jab d n _ j _ (u.out.below blw) om om).mono ?_
   |refine(Xaq d n _ j _ _ (u.out.below blw) om om).mono ?_
   rintro e' w2 ⟨rfl,D⟩;first
   |have:Unit:=Y
    clear this
   |rw[HB0.out]
   have B2:Below W W w2:=(show Below W W _ from blw).trans (D.mono om);have s2:=B2.size;have z2d:w<w2.heap.size:=lq R s2;obtain⟨y2d0,y2d1,y2d2,y2d3,y2d4⟩:=mv5 B2 R I J M N Q;clear D;go_wp2;go_ret2
   rw[HV.out];exact⟨_,_,rfl,Sl.nil,Qaa.nil _ _,blw⟩
  by_cases h3:rev<d.from_
  ·
   have HV:=hH (ybc hd h2 h3);have HB0:Hid (Jap d rev=3):=hH (by unfold Jap;rw[if_neg h2,if_pos h3])
   go_wp2_with fail
   rw[<-U];clear U;go_wp2_with fail
   refine(k_1.out d _ _ _ _ p (HXT.out.below blw) (u.out.below blw) (HXS.out.below blw)).mono ?_;rintro e' w1 ⟨rfl,z⟩;rw[hd];have B1:Below W W w1:=(show Below W W _ from blw).trans (z.mono om);have s1:=B1.size;have z1d:w<w1.heap.size:=lq R s1;obtain⟨y1d0,y1d1,y1d2,y1d3,y1d4⟩:=mv5 B1 R I J M N Q;clear z;go_wp2_with fail
   first
   |have:Unit:=Y
    clear this;refine(Jab d n _ j _ (u.out.below blw) om om).mono ?_
   |refine(Xaq d n _ j _ _ (u.out.below blw) om om).mono ?_
   rintro e' w2 ⟨rfl,D⟩;first
   |have:Unit:=Y
    clear this
   |rw[HB0.out]
   have B2:Below W W w2:=(show Below W W _ from blw).trans (D.mono om);have s2:=B2.size;have z2d:w<w2.heap.size:=lq R s2;obtain⟨y2d0,y2d1,y2d2,y2d3,y2d4⟩:=mv5 B2 R I J M N Q;clear D;go_wp2;go_ret2
   rw[HV.out];exact⟨_,_,rfl,Sl.nil,Qaa.nil _ _,blw⟩
  have hr:=ybd hd h2 h3;have HV:=hH (xbc hd h2 h3);have HB0:Hid (Jap d rev=0):=hH (by unfold Jap;rw[if_neg h2,if_neg h3])
  obtain⟨K,hK,hrev,hkk⟩:=xaB hr;replace HV:=hH (HV.out.trans (by rw[hkk]))
  obtain⟨vc,hcut,hcr⟩:=u.out.cutl Tryz.underlying34 Kab hK;have HCR:=hH hcr;clear hkk hcr hr;subst hrev;have hs0:d.from_+(K:Int)-d.from_=(K:Int):=om;have hs2:IntKind.i64.wrap (K:Int)=(K:Int):=IntWalk.i64_in _ om;go_wp2_with fail
  rw[<-U];clear U;go_wp2_with fail
  refine(k_1.out d _ _ _ _ p (HXT.out.below blw) (u.out.below blw) (HXS.out.below blw)).mono ?_;rintro e' w1 ⟨rfl,z⟩;rw[hd];have B1:Below W W w1:=(show Below W W _ from blw).trans (z.mono om);have s1:=B1.size;have z1d:w<w1.heap.size:=lq R s1;obtain⟨y1d0,y1d1,y1d2,y1d3,y1d4⟩:=mv5 B1 R I J M N Q;clear z;go_wp2_with fail
  first
  |have:Unit:=Y
   clear this;refine(Jab d n _ j _ (u.out.below blw) om om).mono ?_
  |refine(Xaq d n _ j _ _ (u.out.below blw) om om).mono ?_
  rintro e' w2 ⟨rfl,D⟩;first
  |have:Unit:=Y
   clear this
  |rw[HB0.out]
  have B2:Below W W w2:=(show Below W W _ from blw).trans (D.mono om);have s2:=B2.size;have z2d:w<w2.heap.size:=lq R s2;obtain⟨y2d0,y2d1,y2d2,y2d3,y2d4⟩:=mv5 B2 R I J M N Q;clear D;go_wp2_with fail
  refine(k_2.out _ (d.list.drop K) _ (HCR.out.below blw) (Nat.le_trans (ua3 _ _) om)).mono ?_;rintro e' w3 ⟨v3,rfl,⟨f3,S3,F3⟩,hb3⟩;have HS3:=hH S3;have HF3:Hid (Qaa w w3 f3):=hH (F3.mono (by first|omega|(simp;omega)))
  have B3:Below W W w3:=(show Below W W _ from blw).trans (hb3.mono om);have s3:=B3.size;have z3d:w<w3.heap.size:=lq R s3;obtain⟨y3d0,y3d1,y3d2,y3d3,y3d4⟩:=mv5 B3 R I J M N Q;clear hb3 S3 F3;go_wp2;go_ret2
  rw[HV.out];exact⟨_,_,rfl,HS3.out,HF3.out,blw⟩
def XaY:=@uaX 139 (.inl rfl)
def vaY:=@uaX 65 (.inr rfl)
