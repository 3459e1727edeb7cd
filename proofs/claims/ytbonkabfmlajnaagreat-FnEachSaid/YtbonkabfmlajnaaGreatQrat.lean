/- Documents: their operations since a revision, new ones, what is forgotten, who wrote. -/
import Derived.Test.YtbonkabfmlajnaaGreatQras
set_option maxHeartbeats 16000000
set_option maxRecDepth 100000
set_option linter.defProp false
set_option linter.unusedSimpArgs false
namespace Go.Proofs.YtbonkabfmlajnaaGreat
open Go.RowKit
attribute [local go_sem ↓] Go.wp_at_zero Go.wp_at_succ
theorem zaG {N_:Nat}(h_:N_=162\/N_=118)(d:Xac)(n p j:Value)(rev:Int)(w:World)(N:d.name.size<=BIG)(a3:RdS w n d.text)(M:RdS w p d.list)(a2:RdS w j d.seen):Calls Tryz.prog N_ #[.agg #[d.name,d.from_,n,p,j],rev] w (KaX w (jaj d rev).1 (jaj d rev).2):=by
 rcases h_ with rfl|rfl
 have k_0:Unit:=();have k_1:=hH @kal;have k_2:=hH @Jab;have k_3:=hH @Zaa;go_enter Tryz.func162,Tryz.ntmps162;rotate_left;have k_0:Bool:=true;have k_1:=hH @zal;have k_2:=hH @zac;have k_3:=hH @vaa;go_enter Tryz.func118,Tryz.ntmps118;all_goals
  obtain⟨W,hW⟩:∃W:World,W=w.alloc (.cells #[d.name,d.from_,n,p,j] 67):=⟨_,rfl⟩;have hWB:Below w w W:=by rw[hW];exact blw
  have sW:=hWB.size;have zd:w<W.heap.size:=by rw[hW];first|(simp;done)|(simp;omega)
  have R:W.cell? ⟨w.heap.size,0,none⟩=some (.string d.name):=by rw[hW];simp[go_sem]
  have U:W.cell? ⟨w.heap.size,1,none⟩=some (.int .i64 d.from_):=by rw[hW];simp[go_sem]
  have Y:W.cell? ⟨w.heap.size,2,none⟩=some (n):=by rw[hW];simp[go_sem]
  have Z:W.cell? ⟨w.heap.size,3,none⟩=some (p):=by rw[hW];simp[go_sem]
  have a0:W.cell? ⟨w.heap.size,4,none⟩=some (j):=by rw[hW];simp[go_sem]
  have HXT:=hH (a3.below hWB);have a5:=hH (M.below hWB);have HXS:=hH (a2.below hWB);have hll:=fun w1 ty=>M.len Tryz.underlying34 w1 ty
  clear a3 M a2;by_cases hd:Qad d=true
  rotate_left
  ·have hd:Qad d=false:=by simpa using hd
   have HV:=hH (xaM (rev:=rev) (d:=d) (fun h=>by have h1:=h.1;rw[hd]at h1;cases h1))
   go_wp2;rw[<-hW];clear hW;obtain⟨X,hX,F,hF,Q⟩:=zae W;obtain⟨cd0,cd1,cd2,cd3,cd4⟩:=mx5 hF zd R U Y Z a0;have J:=hH hF;have D:=hH Q;clear hF Q;have HD:=hH (fun(B:World) (hb:Below W W B)=>(by have:=k_1.out d _ _ _ B N (HXT.out.below hb) (a5.out.below hb) (HXS.out.below hb);rw[hd]at this;exact this:Calls Tryz.prog _ #[.agg #[d.name,d.from_,n,p,j]] B (yae B (.bool false))))
   refine uaa (F:=F) (by kernel_rfl) (by kernel_rfl) (D.out _ blw) ?_
   repeat(go_big_quiet_step (((first|go_at_call 122|go_at_call 27);(with_reducible exact Calls.fam_tells J.out D.out (HD.out _ (J.out _))))))
   refine wpQuiet_nil ?_;intro x;obtain⟨w1,I⟩:∃wx:World,F x=wx:=⟨_,rfl⟩;have B1:Below W W w1:=by rw[<-I];exact J.out x
   rw[I];clear I cd0 cd1 cd2 cd3 cd4 J D HD;have s1:=B1.size;have z1d:w<w1.heap.size:=lq zd s1;obtain⟨y1d0,y1d1,y1d2,y1d3,y1d4⟩:=mv5 B1 zd R U Y Z a0;go_wp2;go_ret2
   rw[HV.out];exact⟨_,_,rfl,Sl.nil,Qaa.nil _ _,blw⟩
  have hbd:=yaf hd;by_cases hr:uau d rev
  rotate_left
  ·
   have HV:=hH (xaM hr);have hw0:within rev d.from_ (yaa d)=false:=by rw[qay hd];simpa using hr
   go_wp2;rw[<-hW];clear hW;obtain⟨X,hX,F,hF,Q⟩:=zae W;obtain⟨cd0,cd1,cd2,cd3,cd4⟩:=mx5 hF zd R U Y Z a0;have J:=hH hF;have D:=hH Q;clear hF Q;have HD:=hH (fun(B:World) (hb:Below W W B)=>(by have:=k_1.out d _ _ _ B N (HXT.out.below hb) (a5.out.below hb) (HXS.out.below hb);rw[hd]at this;exact this:Calls Tryz.prog _ #[.agg #[d.name,d.from_,n,p,j]] B (yae B (.bool true))))
   have HH:=hH (fun(B:World) (hb:Below W W B)=>(by have:=k_2.out d n _ j B (a5.out.below hb) om om;exact this:Calls Tryz.prog _ #[.agg #[d.name,d.from_,n,p,j]] B (yae B (.int .i64 (yaa d)))))
   have HI:=hH (fun(B:World) (hb:Below W W B)=>(by have:=k_3.out rev d.from_ (yaa d) B;rw[hw0]at this;exact this:Calls Tryz.prog _ #[rev,d.from_,(yaa d)] B (yae B (.bool false))))
   refine uaa (F:=F) (by kernel_rfl) (by kernel_rfl) (D.out _ blw) ?_
   repeat(go_big_quiet_step ((first|((first|go_at_call 122|go_at_call 27);(with_reducible exact Calls.fam_tells J.out D.out (HD.out _ (J.out _))))|((first|go_at_call 100|go_at_call 30);(with_reducible exact Calls.fam_tells J.out D.out (HH.out _ (J.out _))))|((first|go_at_call 106|go_at_call 26);(with_reducible exact Calls.fam_tells J.out D.out (HI.out _ (J.out _)))))))
   refine wpQuiet_nil ?_;intro x;obtain⟨w1,I⟩:∃wx:World,F x=wx:=⟨_,rfl⟩;have B1:Below W W w1:=by rw[<-I];exact J.out x
   rw[I];clear I cd0 cd1 cd2 cd3 cd4 J D HD HH HI;have s1:=B1.size;have z1d:w<w1.heap.size:=lq zd s1;obtain⟨y1d0,y1d1,y1d2,y1d3,y1d4⟩:=mv5 B1 zd R U Y Z a0;go_wp2;go_ret2
   rw[HV.out];exact⟨_,_,rfl,Sl.nil,Qaa.nil _ _,blw⟩
  have hw0:within rev d.from_ (yaa d)=true:=by rw[qay hd];simpa using hr
  have hp:=jaf.1 hd;have hl8:=hp.len;have ht2:=hp.tlen;have hsz:=hp.sz;have HP:=hH hp;clear hp;obtain⟨K,hK,hrev,hkk⟩:=xaB hr;have hval:=Kaw hr;rw[hkk]at hval;have HV:=hH hval;obtain⟨vc,hcut,hcr⟩:=a5.out.cutl Tryz.underlying34 Kab hK;have HCR:=hH hcr;have hlc:=fun w1 ty=>hcr.len Tryz.underlying34 w1 ty
  have hszc:szL (d.list.drop K)<=4000000:=Nat.le_trans (ua3 _ _) om;clear hkk hcr hval;subst hrev;first
  |have:Unit:=k_0
   clear this;obtain⟨i0,hi,hz0,hz1,hz2⟩:=info_parts jaV;have hlen8:(d.list.drop K).length<=8:=by simp;omega
   generalize d.list.drop K=L at *
  |skip
  go_wp2;rw[<-hW];clear hW;obtain⟨X,hX,F,hF,Q⟩:=zae W;obtain⟨cd0,cd1,cd2,cd3,cd4⟩:=mx5 hF zd R U Y Z a0;have J:=hH hF;have D:=hH Q;clear hF Q;have HD:=hH (fun(B:World) (hb:Below W W B)=>(by have:=k_1.out d _ _ _ B N (HXT.out.below hb) (a5.out.below hb) (HXS.out.below hb);rw[hd]at this;exact this:Calls Tryz.prog _ #[.agg #[d.name,d.from_,n,p,j]] B (yae B (.bool true))))
  have HH:=hH (fun(B:World) (hb:Below W W B)=>(by have:=k_2.out d n _ j B (a5.out.below hb) om om;exact this:Calls Tryz.prog _ #[.agg #[d.name,d.from_,n,p,j]] B (yae B (.int .i64 (yaa d)))))
  have HI:=hH (fun(B:World) (hb:Below W W B)=>(by have:=k_3.out (d.from_+(K:Int)) d.from_ (yaa d) B;rw[hw0]at this;exact this:Calls Tryz.prog _ #[.int .i64 (d.from_+(K:Int)),d.from_,(yaa d)] B (yae B (.bool true))))
  refine uaa (F:=F) (by kernel_rfl) (by kernel_rfl) (D.out _ blw) ?_
  repeat(go_big_quiet_step ((first|((first|go_at_call 122|go_at_call 27);(with_reducible exact Calls.fam_tells J.out D.out (HD.out _ (J.out _))))|((first|go_at_call 100|go_at_call 30);(with_reducible exact Calls.fam_tells J.out D.out (HH.out _ (J.out _))))|((first|go_at_call 106|go_at_call 26);(with_reducible exact Calls.fam_tells J.out D.out (HI.out _ (J.out _)))))))
  refine wpQuiet_nil ?_;intro x;obtain⟨w1,I⟩:∃wx:World,F x=wx:=⟨_,rfl⟩;have B1:Below W W w1:=by rw[<-I];exact J.out x
  rw[I];clear I cd0 cd1 cd2 cd3 cd4 J D HD HH HI;have s1:=B1.size;have z1d:w<w1.heap.size:=lq zd s1;obtain⟨y1d0,y1d1,y1d2,y1d3,y1d4⟩:=mv5 B1 zd R U Y Z a0;have hs0:d.from_+(K:Int)-d.from_=(K:Int):=om;have hs1:IntKind.i64.wrap (d.from_+(K:Int)-d.from_)=(K:Int):=by rw[hs0];exact IntWalk.i64_in _ om
  have hs2:IntKind.i64.wrap (K:Int)=(K:Int):=IntWalk.i64_in _ om;first
  |have:Unit:=k_0
   clear this
  |go_wp2_with fail
   refine(zat _ (d.list.drop K) _ (HCR.out.below blw) hszc).mono ?_;rintro e' w3 ⟨v3,rfl,⟨f3,S3,F3⟩,hb3⟩;have HS3:=hH S3;have HF3:Hid (Qaa w w3 f3):=hH (F3.mono (by first|omega|(simp;omega)))
   have B3:Below W W w3:=(show Below W W _ from blw).trans (hb3.mono om);have s3:=B3.size;have z3d:w<w3.heap.size:=lq zd s3;obtain⟨y3d0,y3d1,y3d2,y3d3,y3d4⟩:=mv5 B3 zd R U Y Z a0;clear hb3 S3 F3
  go_wp2;first
  |have:Unit:=k_0
   clear this;clear hs0 hs1 hs2;have H2:Hid (∀e∈L,szL e.o<=4000000):=hH fun e he=>by have:=kaE he;simp only[GoS.sz]at this;omega
   go_loopw [6,30] (fun z i wr=>∃(k:Nat) (u:Value),u=z/\k<=L.length/\i= .int .i64 k/\uaf W wr u ((xaq L).take k)/\Below W W wr) (fun _ i _=>L.length-(intOf i).toNat)
   case atStart=>exact⟨0,_,rfl,lz _,rfl,uaf.empty _ _ _,blw⟩
   case round=>
    obtain⟨k,u,rfl,hk,rfl,hu,hbr⟩:=hrel;have hsr:=hbr.size;by_cases hlt:k<L.length
    ·obtain⟨x1,hx⟩:=Jaa hlt;obtain⟨b1,o1,cs,g1,g2,g3⟩:=(HCR.out.below hbr).idx Tryz.underlying34 Kab k hx;obtain⟨v_o,rfl,r_o⟩:=qag g3;have q0:=g2.zero;have q1:=g2 1 _ rfl;have q2:=g2 2 _ rfl;obtain⟨aa,ca,rfl⟩:=r_o.isSlice;have HT:Hid ((xaq L).take (k+1)=(xaq L).take k++[x1.o]):=hH (Zag (jaU hx));have hps:=H2.out x1 (List.mem_of_getElem? hx);have hkl:((xaq L).take k).length<=8:=by simp[xaq];omega
     have HRO:=hH r_o;clear hx g2 g3 r_o;obtain⟨fs,hrow,hfs⟩:=hu.row;have a1:=hH hrow;have HFS:=hH hfs;clear hrow hfs hu;go_wp2_with fail
     refine(yaz _ x1.o _ (HRO.out.below blw) hps).mono ?_;rintro e w4 ⟨v4,rfl,ho,hb4⟩;obtain⟨f,hrd,hfr⟩:=ho;obtain⟨a4,c4,rfl⟩:=RdS.isSlice ⟨_,hrd⟩;have hb4':Below wr wr w4:=(show Below wr wr _ from blw).trans (hb4.mono om);have HB4:=hH hb4';have s4:=hb4'.size;have HFR:=hH (hfr.mono (B':=wr) sm);have HSV:=hH hrd;clear hb4 hfr hrd;go_wp2_with (at_builtin;refine qaa rfl _ _ 116 rfl Tryz.underlying116 hi hz0 hz1 hz2 rfl rfl rfl ((a1.out.below HB4.out).below ((lf _ _).alloc (lr _) _)) (Zac (x:=x1.o) 30 ⟨_,rfl,HSV.out⟩) (fun q hq hm=>by have e1:=HFR.out.ge q hq;have e2:=Live.lt (Live.append.1 a1.out.1.live).1 q hm;omega) ?c1 ?c2 ?c3 ?_)
     case c1=>simp at hkl⊢;exact Xab om
     case c2=>simp at hkl⊢;omega
     case c3=>simp;omega
     intro v' w5 hr5 hw5 _;have HO:Hid (uaf W w5 v' ((xaq L).take (k+1))):=hH (by
      rw[HT.out];exact Row.grown a1.out HFS.out (HB4.out.alloc om _) (HFR.out.belowL ((lf _ _).alloc (lr _) _) (Live.lt HSV.out.live)) (HSV.out.belowW ((lf _ _).alloc (lr _) _)).live hsr hr5 hw5)
     have HBX:Hid (Below W W w5):=hH (hbr.trans (wrb (C:=W) hw5 (HB4.out.alloc om _) hsr (fun q hq=>a1.out.2.1.ge q hq)))
     clear hr5 hw5;go_wp2;go_roundw
     case rel=>exact⟨k+1,_,rfl,by omega,by go_num,HO.out,HBX.out⟩
     case measure=>simp[intOf];omega
    ·obtain rfl:k=L.length:=om;rw[List.take_of_length_le (by simp[xaq])]at hu
     obtain⟨f,hs,hf⟩:=hu;go_wp2;go_ret2
     rw[HV.out];exact⟨_,_,rfl,hs,hf.mono om,blw⟩
  |go_ret2
   rw[HV.out];exact⟨_,_,rfl,HS3.out,HF3.out,blw⟩
def XaN:=@zaG 162 (.inl rfl)
def XaJ:=@zaG 118 (.inr rfl)
theorem XaQ {N_:Nat}(h_:N_=89\/N_=43)(name:ByteArray)(t:List Int)(v_t:Value)(w:World)(I:name.size<=BIG)(N:RdS w v_t t)(b_t:t.length<=4000000):Calls Tryz.prog N_ #[name,v_t] w (vaC w (kaq name t).1 (kaq name t).2):=by
 rcases h_ with rfl|rfl
 have Y:Unit:=();have a5:=hH @kal;go_enter Tryz.func89,Tryz.ntmps89;rotate_left;have Y:Bool:=true;have a5:=hH @zal;go_enter Tryz.func43,Tryz.ntmps43;all_goals
  first
  |have:Unit:=Y
   clear this;obtain⟨i0,hi,hz0,hz1,hz2⟩:=info_parts Zau;have HSRC:=hH (Src.ints2 N)
  |skip
  by_cases hd:Qad (⟨name,0,t,[],[]⟩:Xac)=true
  ·have HV:Hid (kaq name t=((⟨name,0,t,[],[]⟩:Xac),true)):=hH (if_pos hd);first
   |have:Unit:=Y
    clear this;go_wp2_with (at_builtin;refine qaa rfl _ _ 31 rfl Tryz.underlying31 hi hz0 hz1 hz2 rfl rfl rfl (Row.empty (w+1) _ _) (Src.ints2 (N.below blw)) (fun _ h=>by cases h) ?c1 ?c2 ?c3 ?_)
    case c1=>simp;exact Xab om
    case c2=>simp;omega
    case c3=>simp
    intro v1 n z Q a4;have j:Below (w+1) (w.alloc (.cells #[.string ⟨#[]⟩,zI,zN,zN,zN] 67)) n:=(show Below (w+1) (w.alloc (.cells #[.string ⟨#[]⟩,zI,zN,zN,zN] 67)) _ from blw).trans (Q.nilBelow.mono om);replace z:Row (w+1) n v1 t []:=z;obtain⟨J,c1,rfl⟩:=z.rd.isSlice;have u:uaf (w+1) n (.slice J t.length c1) t:=z.owns (Qaa.nil _ _);clear z Q a4
   |go_wp2_with fail
    refine(qal _ t _ (N.below blw) b_t).mono ?_;rintro e' n ⟨v1,rfl,u,j⟩;obtain⟨J,c1,rfl⟩:=u.rd.isSlice;replace u:uaf (w+1) n (.slice J t.length c1) t:=u.mono sm;replace j:Below (w+1) (w.alloc (.cells #[.string ⟨#[]⟩,zI,zN,zN,zN] 67)) n:=j.mono sm
   have s1:w+1<=n.heap.size:=by have:=j.size;simpa using this
   have a3:Below w w n:=((lf w w).alloc (lr _) _).trans (j.mono om);have a0:=hH u;clear u;have r0:n.cell? ⟨w.heap.size,0,none⟩=some (.string ⟨#[]⟩):=by rw[j.cell (p:=⟨w,0,none⟩) (ls _)];simp[go_sem]
   have f0:n.frozen? ⟨w.heap.size,0,none⟩=false:=by rw[j.frozen (p:=⟨w,0,none⟩) (ls _)];simp[go_sem]
   have r1:n.cell? ⟨w.heap.size,1,none⟩=some (.int .i64 0):=by rw[j.cell (p:=⟨w,1,none⟩) (ls _)];simp[go_sem]
   have f1:n.frozen? ⟨w.heap.size,1,none⟩=false:=by rw[j.frozen (p:=⟨w,1,none⟩) (ls _)];simp[go_sem]
   have r2:n.cell? ⟨w.heap.size,2,none⟩=some (.slice none 0 0):=by rw[j.cell (p:=⟨w,2,none⟩) (ls _)];simp[go_sem]
   have f2:n.frozen? ⟨w.heap.size,2,none⟩=false:=by rw[j.frozen (p:=⟨w,2,none⟩) (ls _)];simp[go_sem]
   have r3:n.cell? ⟨w.heap.size,3,none⟩=some (.slice none 0 0):=by rw[j.cell (p:=⟨w,3,none⟩) (ls _)];simp[go_sem]
   have f3:n.frozen? ⟨w.heap.size,3,none⟩=false:=by rw[j.frozen (p:=⟨w,3,none⟩) (ls _)];simp[go_sem]
   have r4:n.cell? ⟨w.heap.size,4,none⟩=some (.slice none 0 0):=by rw[j.cell (p:=⟨w,4,none⟩) (ls _)];simp[go_sem]
   have f4:n.frozen? ⟨w.heap.size,4,none⟩=false:=by rw[j.frozen (p:=⟨w,4,none⟩) (ls _)];simp[go_sem]
   clear j;go_wp2_with fail
   obtain⟨V,B⟩:∃V:World,V=n.alloc (.cells #[name,zI,.slice J t.length c1,zN,zN] 67):=⟨_,rfl⟩;have D:Below n n V:=by rw[B];exact(lf _ _).alloc (lr _) _
   have sV:n+1<=V.heap.size:=by rw[B];simp
   have R:w<n.heap.size:=om;have U:w<V.heap.size:=om;have a6:n<V.heap.size:=om;obtain⟨R0,R1,R2,R3,R4⟩:=mv5 D R r0 r1 r2 r3 r4;obtain⟨G0,G1,G2,G3,G4⟩:=mf5 D R f0 f1 f2 f3 f4;have k0:V.cell? ⟨n.heap.size,0,none⟩=some (.string name):=by rw[B];simp[go_sem]
   have k1:V.cell? ⟨n.heap.size,1,none⟩=some (.int .i64 0):=by rw[B];simp[go_sem]
   have k2:V.cell? ⟨n.heap.size,2,none⟩=some (.slice J t.length c1):=by rw[B];simp[go_sem]
   have k3:V.cell? ⟨n.heap.size,3,none⟩=some (.slice none 0 0):=by rw[B];simp[go_sem]
   have k4:V.cell? ⟨n.heap.size,4,none⟩=some (.slice none 0 0):=by rw[B];simp[go_sem]
   rw[<-B];clear B r0 r1 r2 r3 r4 f0 f1 f2 f3 f4;have M:=hH (a0.out.below D);refine(a5.out (⟨name,0,t,[],[]⟩:Xac) _ _ _ _ I M.out.rd RdS.nil RdS.nil).mono ?_;rintro e' w2 ⟨rfl,q⟩;rw[hd];have s2:=q.size;obtain⟨x0,x1,x2,x3,x4⟩:=mv5 q U R0 R1 R2 R3 R4;obtain⟨t0,t1,t2,t3,t4⟩:=mf5 q U G0 G1 G2 G3 G4;obtain⟨y0,y1,y2,y3,y4⟩:=mv5 q a6 k0 k1 k2 k3 k4;have a2:Below w w w2:=(a3.trans (D.mono om)).trans (q.mono om);have Z:=hH a2;have HO2:=hH (M.out.below q);clear q R0 R1 R2 R3 R4 G0 G1 G2 G3 G4 k0 k1 k2 k3 k4;go_wp2;have HB:Hid (Below w w (((((w2.setCell ⟨w,0,none⟩ name).setCell ⟨w,1,none⟩ zI).setCell ⟨w,2,none⟩ (.slice J t.length c1)).setCell ⟨w,3,none⟩ zN).setCell ⟨w,4,none⟩ zN)):=hH (((((Z.out.setCell sm _).setCell sm _).setCell sm _).setCell sm _).setCell sm _);obtain⟨f,sf,ff⟩:=(((((HO2.out.poke (b:=w) (o:=0) om (.string name)).poke (b:=w) (o:=1) om (.int .i64 0)).poke (b:=w) (o:=2) om (.slice J t.length c1)).poke (b:=w) (o:=3) om (.slice none 0 0)).poke (b:=w) (o:=4) om (.slice none 0 0));rw[HV.out];exact bodyPost_ret (v:= .tuple #[.agg #[name,zI,.slice J t.length c1,zN,zN],true]) (by simp[results,Tryz.results89,Tryz.results43,go_sem,xaa, *]) rfl ⟨_,_,_,f,[],[],rfl,sf,Sl.nil,Sl.nil,I,by simpa using ff.mono om,HB.out⟩
  ·have HV:Hid (kaq name t=(Xa3,false)):=hH (if_neg hd);have hd:Qad (⟨name,0,t,[],[]⟩:Xac)=false:=by simpa using hd
   first
   |have:Unit:=Y
    clear this;go_wp2_with (at_builtin;refine qaa rfl _ _ 31 rfl Tryz.underlying31 hi hz0 hz1 hz2 rfl rfl rfl (Row.empty (w+1) _ _) (Src.ints2 (N.below blw)) (fun _ h=>by cases h) ?c1 ?c2 ?c3 ?_)
    case c1=>simp;exact Xab om
    case c2=>simp;omega
    case c3=>simp
    intro v1 n z Q a4;have j:Below (w+1) (w.alloc (.cells #[.string ⟨#[]⟩,zI,zN,zN,zN] 67)) n:=(show Below (w+1) (w.alloc (.cells #[.string ⟨#[]⟩,zI,zN,zN,zN] 67)) _ from blw).trans (Q.nilBelow.mono om);replace z:Row (w+1) n v1 t []:=z;obtain⟨J,c1,rfl⟩:=z.rd.isSlice;have u:uaf (w+1) n (.slice J t.length c1) t:=z.owns (Qaa.nil _ _);clear z Q a4
   |go_wp2_with fail
    refine(qal _ t _ (N.below blw) b_t).mono ?_;rintro e' n ⟨v1,rfl,u,j⟩;obtain⟨J,c1,rfl⟩:=u.rd.isSlice;replace u:uaf (w+1) n (.slice J t.length c1) t:=u.mono sm;replace j:Below (w+1) (w.alloc (.cells #[.string ⟨#[]⟩,zI,zN,zN,zN] 67)) n:=j.mono sm
   have s1:w+1<=n.heap.size:=by have:=j.size;simpa using this
   have a3:Below w w n:=((lf w w).alloc (lr _) _).trans (j.mono om);have a0:=hH u;clear u;have r0:n.cell? ⟨w.heap.size,0,none⟩=some (.string ⟨#[]⟩):=by rw[j.cell (p:=⟨w,0,none⟩) (ls _)];simp[go_sem]
   have f0:n.frozen? ⟨w.heap.size,0,none⟩=false:=by rw[j.frozen (p:=⟨w,0,none⟩) (ls _)];simp[go_sem]
   have r1:n.cell? ⟨w.heap.size,1,none⟩=some (.int .i64 0):=by rw[j.cell (p:=⟨w,1,none⟩) (ls _)];simp[go_sem]
   have f1:n.frozen? ⟨w.heap.size,1,none⟩=false:=by rw[j.frozen (p:=⟨w,1,none⟩) (ls _)];simp[go_sem]
   have r2:n.cell? ⟨w.heap.size,2,none⟩=some (.slice none 0 0):=by rw[j.cell (p:=⟨w,2,none⟩) (ls _)];simp[go_sem]
   have f2:n.frozen? ⟨w.heap.size,2,none⟩=false:=by rw[j.frozen (p:=⟨w,2,none⟩) (ls _)];simp[go_sem]
   have r3:n.cell? ⟨w.heap.size,3,none⟩=some (.slice none 0 0):=by rw[j.cell (p:=⟨w,3,none⟩) (ls _)];simp[go_sem]
   have f3:n.frozen? ⟨w.heap.size,3,none⟩=false:=by rw[j.frozen (p:=⟨w,3,none⟩) (ls _)];simp[go_sem]
   have r4:n.cell? ⟨w.heap.size,4,none⟩=some (.slice none 0 0):=by rw[j.cell (p:=⟨w,4,none⟩) (ls _)];simp[go_sem]
   have f4:n.frozen? ⟨w.heap.size,4,none⟩=false:=by rw[j.frozen (p:=⟨w,4,none⟩) (ls _)];simp[go_sem]
   clear j;go_wp2_with fail
   obtain⟨V,B⟩:∃V:World,V=n.alloc (.cells #[name,zI,.slice J t.length c1,zN,zN] 67):=⟨_,rfl⟩;have D:Below n n V:=by rw[B];exact(lf _ _).alloc (lr _) _
   have sV:n+1<=V.heap.size:=by rw[B];simp
   have R:w<n.heap.size:=om;have U:w<V.heap.size:=om;have a6:n<V.heap.size:=om;obtain⟨R0,R1,R2,R3,R4⟩:=mv5 D R r0 r1 r2 r3 r4;obtain⟨G0,G1,G2,G3,G4⟩:=mf5 D R f0 f1 f2 f3 f4;have k0:V.cell? ⟨n.heap.size,0,none⟩=some (.string name):=by rw[B];simp[go_sem]
   have k1:V.cell? ⟨n.heap.size,1,none⟩=some (.int .i64 0):=by rw[B];simp[go_sem]
   have k2:V.cell? ⟨n.heap.size,2,none⟩=some (.slice J t.length c1):=by rw[B];simp[go_sem]
   have k3:V.cell? ⟨n.heap.size,3,none⟩=some (.slice none 0 0):=by rw[B];simp[go_sem]
   have k4:V.cell? ⟨n.heap.size,4,none⟩=some (.slice none 0 0):=by rw[B];simp[go_sem]
   rw[<-B];clear B r0 r1 r2 r3 r4 f0 f1 f2 f3 f4;have M:=hH (a0.out.below D);refine(a5.out (⟨name,0,t,[],[]⟩:Xac) _ _ _ _ I M.out.rd RdS.nil RdS.nil).mono ?_;rintro e' w2 ⟨rfl,q⟩;rw[hd];have s2:=q.size;obtain⟨x0,x1,x2,x3,x4⟩:=mv5 q U R0 R1 R2 R3 R4;obtain⟨t0,t1,t2,t3,t4⟩:=mf5 q U G0 G1 G2 G3 G4;obtain⟨y0,y1,y2,y3,y4⟩:=mv5 q a6 k0 k1 k2 k3 k4;have a2:Below w w w2:=(a3.trans (D.mono om)).trans (q.mono om);have Z:=hH a2;have HO2:=hH (M.out.below q);clear q R0 R1 R2 R3 R4 G0 G1 G2 G3 G4 k0 k1 k2 k3 k4;go_wp2;have HB:Hid (Below w w (((((w2.setCell ⟨w,0,none⟩ (.string ⟨#[]⟩)).setCell ⟨w,1,none⟩ zI).setCell ⟨w,2,none⟩ zN).setCell ⟨w,3,none⟩ zN).setCell ⟨w,4,none⟩ zN)):=hH (((((Z.out.setCell sm _).setCell sm _).setCell sm _).setCell sm _).setCell sm _);rw[HV.out];exact bodyPost_ret (v:= .tuple #[.agg #[.string ⟨#[]⟩,zI,zN,zN,zN],false]) (by simp[results,Tryz.results89,Tryz.results43,go_sem,xaa, *]) rfl ⟨_,_,_,[],[],[],rfl,Sl.nil,Sl.nil,Sl.nil,Xab (lz _),by simpa using Qaa.nil _ _,HB.out⟩
def JaB:=@XaQ 89 (.inl rfl)
def ZaU:=@XaQ 43 (.inr rfl)
