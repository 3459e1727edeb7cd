/- Calls: marked; answers: marked, and held. -/
import Derived.Test.YtocdogemgojgaaaGreatRby
set_option maxHeartbeats 2000000
set_option maxRecDepth 100000
namespace Go.Proofs.YtocdogemgojgaaaGreat
open Go.RowKit
end Go.Proofs.YtocdogemgojgaaaGreat
namespace Go.Proofs.YtocdogemgojgaaaGreat
open Go.RowKit
set_option linter.unusedSimpArgs false
instance:GoM xah where
 cnt:=fun x=>5+jab x.o+jab x.text
 mrk:=fun k x=>⟨k,JaN (k+1),k+2,k+3,k+4,mkL (k+5) x.o,mkL (k+5+jab x.o) x.text⟩
 cnt_mk:=fun k x=>by simp[Xag]
 mk_mk:=fun k x=>by simp[Xag,xap]
instance:Qbh xah:=⟨fun x=>by have:GoM.cnt x=5+jab x.o+jab x.text:=rfl;have:GoS.sz x=x.doc.size+szL x.o+szL x.text:=rfl;have:=zag x.o;have:=zag x.text;omega⟩
instance:GoM Zad where
 cnt:=fun x=>2+jab x.text+jab x.list
 mrk:=fun k x=>⟨k,k+1,mkL (k+2) x.text,mkL (k+2+jab x.text) x.list⟩
 cnt_mk:=fun k x=>by simp[Xag]
 mk_mk:=fun k x=>by simp[Xag,xap]
instance:Qbh Zad:=⟨fun x=>by have:GoM.cnt x=2+jab x.text+jab x.list:=rfl;have:GoS.sz x=szL x.text+szL x.list:=rfl;have:=zag x.text;have:=zag x.list;omega⟩
theorem Za5 (B:Nat)(v:Value)(l:List xah)(fp:List Pos)(w:World)(m:Int)(h0:0<=m)(h1:m+jab l<=4611686018427387904)(h:Sl BIG w v l fp)(hf:uaa B w fp):
 Calls Tryz.prog 38 #[v,m] w (Marks w v m l fp):=by
 have hl:=fun w1 ty=>h.len Tryz.underlying28 w1 ty
 have hb:=Jat h.leM;go_enter Tryz.func38,Tryz.ntmps38
 go_wp2;go_loopw [1,5] (fun c i wr=>∃k:Nat,k<=l.length/\i= .int .i64 k/\c= .int .i64 (m+jab (l.take k))/\Sl BIG wr v (marked m l k) fp/\Wr fp w wr) (fun _ i _=>l.length-(intOf i).toNat)
 case atStart=>exact⟨0,lz _,rfl,by simp[jab],by rw[jal];exact h,Wr.refl _ _⟩
 case round=>
  obtain⟨k,hk,rfl,rfl,hs,hw⟩:=hrel;have hc0:=Kab l k;by_cases hlt:k<l.length
  ·obtain⟨x,hx⟩:=jaa hlt;have hcs:=Qad hx;have hcl:=Kab l (k+1);have hgx:GoM.cnt x=5+jab x.o+jab x.text:=rfl;have hgm:=Xan (k:=m) hx;obtain⟨I,o1,cs1,f,g1,g2,g3,R,g5,gnd,g7⟩:=hs.lens hf.nodup Tryz.underlying28 ZaD k (Kan hx);obtain⟨v_o,v_text,D,q,rfl,n_doc,s_o,s_text,rfl⟩:=g3;have n:=hw.fresh h.live hf;have hff:uaa B wr (D++q):=⟨gnd,fun p hp=>n.ge p (g5 p hp),fun p hp=>n.free p (g5 p hp)⟩
   have q0_0:=g2.zero;have n0:=(R 0 (by decide)).2
   have y0:=(R 0 (by decide)).1
   have z0_0:=n.free _ y0;have q0_1:=g2 1 _ rfl;have n1:=(R 1 (by decide)).2
   have y1:=(R 1 (by decide)).1
   have z0_1:=n.free _ y1;have q0_2:=g2 2 _ rfl;have n2:=(R 2 (by decide)).2
   have y2:=(R 2 (by decide)).1
   have z0_2:=n.free _ y2;have q0_3:=g2 3 _ rfl;have n3:=(R 3 (by decide)).2
   have y3:=(R 3 (by decide)).1
   have z0_3:=n.free _ y3;have q0_4:=g2 4 _ rfl;have n4:=(R 4 (by decide)).2
   have y4:=(R 4 (by decide)).1
   have z0_4:=n.free _ y4;have q0_5:=g2 5 _ rfl;have n5:=(R 5 (by decide)).2
   have y5:=(R 5 (by decide)).1
   have z0_5:=n.free _ y5;have q0_6:=g2 6 _ rfl;have n6:=(R 6 (by decide)).2
   have y6:=(R 6 (by decide)).1
   have z0_6:=n.free _ y6;simp only[Nat.add_zero]at n0 y0 z0_0;have mo:∀j<7,(I,o1+j)∈own I o1 7++(D++q):=fun j hj=>lm.2 (.inl (Zaa.2 ⟨rfl,by simp,by simp;omega⟩))
   have mo0:=mo 0 (by decide)
   simp only[Nat.add_zero]at mo0;have W0:Wr (own I o1 7++(D++q)) wr wr:=Wr.refl _ _;have u:=hs.live;have A0:=g2;obtain⟨c,hc⟩:∃c:Nat,jab (l.take k)=c:=⟨_,rfl⟩;rw[hc]at hcs hc0 hgm;rw[hgx]at hcs;have HGM:=hH hgm;have HCS:=hH hcs;have hlim:c+(5+jab x.o+jab x.text)<=jab l:=om;have S0_o:=s_o;have F0_o:=hff.left;have M:=s_text;have F0_text:=hff.right;rw[hc];clear hx hcs hgm hgx hc hcl;have n0_o:(I,o1)∉D:=fun z=>n0 (by simp[z])
   have n1_o:(I,o1+1)∉D:=fun z=>n1 (by simp[z])
   have n2_o:(I,o1+2)∉D:=fun z=>n2 (by simp[z])
   have n3_o:(I,o1+3)∉D:=fun z=>n3 (by simp[z])
   have n4_o:(I,o1+4)∉D:=fun z=>n4 (by simp[z])
   have n5_o:(I,o1+5)∉D:=fun z=>n5 (by simp[z])
   have n6_o:(I,o1+6)∉D:=fun z=>n6 (by simp[z])
   have U:(I,o1)∉q:=fun z=>n0 (by simp[z])
   have Y:(I,o1+1)∉q:=fun z=>n1 (by simp[z])
   have Z:(I,o1+2)∉q:=fun z=>n2 (by simp[z])
   have a0:(I,o1+3)∉q:=fun z=>n3 (by simp[z])
   have a1:(I,o1+4)∉q:=fun z=>n4 (by simp[z])
   have n5_text:(I,o1+5)∉q:=fun z=>n5 (by simp[z])
   have n6_text:(I,o1+6)∉q:=fun z=>n6 (by simp[z])
   go_wp2_with fail
   refine(Zav _ _ om om).mono ?_;rintro e w1 ⟨rfl,hb1⟩;have hw1:Wr [] _ w1:=Wr.of_below hb1;have A1:=(A0.put0 sm _).wr hw1 (fun _ _ h=>by cases h)
   try dsimp only[List.set]at A1
   have W1:=(W0.put mo0 _).trans (hw1.sub (fun _ h=>by cases h))
   have S1_o:=(S0_o.put n0_o _).wr hw1 (fun _ _ h=>by cases h)
   have F1_o:=hw1.fresh (S0_o.put n0_o _).live (F0_o.put _ _);have N:=(M.put U _).wr hw1 (fun _ _ h=>by cases h)
   have F1_text:=hw1.fresh (M.put U _).live (F0_text.put _ _);have q1_0:=A1.zero;have z1_0:=(W1.fresh u n).free _ y0;have q1_1:=A1 1 _ rfl;have z1_1:=(W1.fresh u n).free _ y1;have q1_2:=A1 2 _ rfl;have z1_2:=(W1.fresh u n).free _ y2;have q1_3:=A1 3 _ rfl;have z1_3:=(W1.fresh u n).free _ y3;have q1_4:=A1 4 _ rfl;have z1_4:=(W1.fresh u n).free _ y4;have q1_5:=A1 5 _ rfl;have z1_5:=(W1.fresh u n).free _ y5;have q1_6:=A1 6 _ rfl;have z1_6:=(W1.fresh u n).free _ y6;go_wp2_with fail
   refine(ZaN B _ x.o D _ _ om om ((((S1_o.put n1_o _).put n2_o _).put n3_o _).put n4_o _) ((((F1_o.put _ _).put _ _).put _ _).put _ _)).mono ?_;rintro e w2 ⟨rfl,hs2,hw2⟩;have A2:=((((A1.put 1 sm _).put 2 sm _).put 3 sm _).put 4 sm _).wr hw2 (fun j hj=>fun z=>(R j (show j<7 from by simpa using hj)).2 (by simp[z]))
   try dsimp only[List.set]at A2
   have W2:=((((W1.put (mo 1 (by decide)) _).put (mo 2 (by decide)) _).put (mo 3 (by decide)) _).put (mo 4 (by decide)) _).trans (hw2.sub (fun p hp=>lm.2 (.inr (by simp[hp]))))
   have S2_o:=hs2;have F2_o:=hw2.fresh ((((S1_o.put n1_o _).put n2_o _).put n3_o _).put n4_o _).live ((((F1_o.put _ _).put _ _).put _ _).put _ _);have Q:=((((N.put Y _).put Z _).put a0 _).put a1 _).wr hw2 (fun p hp hq=>by have hh:=gnd;simp only[ln,lm]at hh;grind)
   have J:=hw2.fresh ((((N.put Y _).put Z _).put a0 _).put a1 _).live ((((F1_text.put _ _).put _ _).put _ _).put _ _);have q2_0:=A2.zero;have z2_0:=(W2.fresh u n).free _ y0;have q2_1:=A2 1 _ rfl;have z2_1:=(W2.fresh u n).free _ y1;have q2_2:=A2 2 _ rfl;have z2_2:=(W2.fresh u n).free _ y2;have q2_3:=A2 3 _ rfl;have z2_3:=(W2.fresh u n).free _ y3;have q2_4:=A2 4 _ rfl;have z2_4:=(W2.fresh u n).free _ y4;have q2_5:=A2 5 _ rfl;have z2_5:=(W2.fresh u n).free _ y5;have q2_6:=A2 6 _ rfl;have z2_6:=(W2.fresh u n).free _ y6;go_wp2_with fail
   refine(Qaz B _ x.text q _ _ om om Q J).mono ?_;rintro e w3 ⟨rfl,hs3,hw3⟩;have A3:=A2.wr hw3 (fun j hj=>fun z=>(R j (show j<7 from by simpa using hj)).2 (by simp[z]))
   try dsimp only[List.set]at A3
   have W3:=W2.trans (hw3.sub (fun p hp=>lm.2 (.inr (by simp[hp]))))
   have S3_o:=S2_o.wr hw3 (fun p hp hq=>by have hh:=gnd;simp only[ln,lm]at hh;grind)
   have F3_o:=hw3.fresh S2_o.live F2_o;have S3_text:=hs3;have F3_text:=hw3.fresh Q.live J;have q3_0:=A3.zero;have z3_0:=(W3.fresh u n).free _ y0;have q3_1:=A3 1 _ rfl;have z3_1:=(W3.fresh u n).free _ y1;have q3_2:=A3 2 _ rfl;have z3_2:=(W3.fresh u n).free _ y2;have q3_3:=A3 3 _ rfl;have z3_3:=(W3.fresh u n).free _ y3;have q3_4:=A3 4 _ rfl;have z3_4:=(W3.fresh u n).free _ y4;have q3_5:=A3 5 _ rfl;have z3_5:=(W3.fresh u n).free _ y5;have q3_6:=A3 6 _ rfl;have z3_6:=(W3.fresh u n).free _ y6;go_wp2;go_roundw
   case rel=>
    refine⟨k+1,by omega,by go_num,by rw[HCS.out];go_num,?_,?_⟩
    ·rw[<-HGM.out];refine g7 _ _ _ A3 ⟨_,_,_,_,(by(try simp only[GoM.mrk,Int.add_assoc,Int.reduceAdd])<;>(try rfl)),(zaY _),(S3_o.at_ om),(S3_text.at_ om),rfl⟩ fun p hp hn ho=>W3.cell p (u.lt p hp) fun z=> ?_
     rcases lm.1 z with z|z
     ·obtain⟨e1,e2,e3⟩:=Zaa.1 z;exact ho (p.2-o1) (by show _<7;omega) (by ext<;>simp<;>omega)
     ·exact hn z
    ·exact hw.trans (W3.sub fun p hp=>(lm.1 hp).elim (fun z=>by
      obtain⟨e1,e2,e3⟩:=Zaa.1 z;have:=(R (p.2-o1) (by show _<7;omega)).1
      rw[show((I,o1+(p.2-o1)):Pos)=p by ext<;>simp<;>omega]at this
      exact this) (g5 p))
   case measure=>simp[intOf];omega
  ·obtain rfl:k=l.length:=om;rw[Zan]at hs;go_wp2;go_ret;exact⟨Xab sm,hs,hw⟩
theorem jaY (B:Nat)(v:Value)(l:List Zad)(fp:List Pos)(w:World)(m:Int)(h0:0<=m)(h1:m+jab l<=4611686018427387904)(h:Sl BIG w v l fp)(hf:uaa B w fp):
 Calls Tryz.prog 39 #[v,m] w (Marks w v m l fp):=by
 have hl:=fun w1 ty=>h.len Tryz.underlying66 w1 ty
 have hb:=Jat h.leM;go_enter Tryz.func39,Tryz.ntmps39
 go_wp2;go_loopw [1,5] (fun c i wr=>∃k:Nat,k<=l.length/\i= .int .i64 k/\c= .int .i64 (m+jab (l.take k))/\Sl BIG wr v (marked m l k) fp/\Wr fp w wr) (fun _ i _=>l.length-(intOf i).toNat)
 case atStart=>exact⟨0,lz _,rfl,by simp[jab],by rw[jal];exact h,Wr.refl _ _⟩
 case round=>
  obtain⟨k,hk,rfl,rfl,hs,hw⟩:=hrel;have hc0:=Kab l k;by_cases hlt:k<l.length
  ·obtain⟨x,hx⟩:=jaa hlt;have hcs:=Qad hx;have hcl:=Kab l (k+1);have hgx:GoM.cnt x=2+jab x.text+jab x.list:=rfl;have hgm:=Xan (k:=m) hx;obtain⟨b1,o1,cs1,f,g1,g2,g3,g4,g5,gnd,g7⟩:=hs.lens hf.nodup Tryz.underlying66 jaw k (Kan hx);obtain⟨v_text,v_list,q,n,rfl,s_text,s_list,rfl⟩:=g3;have u:=hw.fresh h.live hf;have hff:uaa B wr (q++n):=⟨gnd,fun p hp=>u.ge p (g5 p hp),fun p hp=>u.free p (g5 p hp)⟩
   have q0_0:=g2.zero;have n0:=(g4 0 (by decide)).2
   have y0:=(g4 0 (by decide)).1
   have z0_0:=u.free _ y0;have q0_1:=g2 1 _ rfl;have n1:=(g4 1 (by decide)).2
   have y1:=(g4 1 (by decide)).1
   have z0_1:=u.free _ y1;have q0_2:=g2 2 _ rfl;have n2:=(g4 2 (by decide)).2
   have y2:=(g4 2 (by decide)).1
   have z0_2:=u.free _ y2;have q0_3:=g2 3 _ rfl;have n3:=(g4 3 (by decide)).2
   have y3:=(g4 3 (by decide)).1
   have z0_3:=u.free _ y3;simp only[Nat.add_zero]at n0 y0 z0_0;have mo:∀j<4,(b1,o1+j)∈own b1 o1 4++(q++n):=fun j hj=>lm.2 (.inl (Zaa.2 ⟨rfl,by simp,by simp;omega⟩))
   have mo0:=mo 0 (by decide)
   simp only[Nat.add_zero]at mo0;have W0:Wr (own b1 o1 4++(q++n)) wr wr:=Wr.refl _ _;have D:=hs.live;have A0:=g2;obtain⟨c,hc⟩:∃c:Nat,jab (l.take k)=c:=⟨_,rfl⟩;rw[hc]at hcs hc0 hgm;rw[hgx]at hcs;have HGM:=hH hgm;have HCS:=hH hcs;have hlim:c+(2+jab x.text+jab x.list)<=jab l:=om;have N:=s_text;have I:=hff.left;have M:=s_list;have F0_list:=hff.right;rw[hc];clear hx hcs hgm hgx hc hcl;have Y:(b1,o1)∉q:=fun z=>n0 (by simp[z])
   have a0:(b1,o1+1)∉q:=fun z=>n1 (by simp[z])
   have n2_text:(b1,o1+2)∉q:=fun z=>n2 (by simp[z])
   have n3_text:(b1,o1+3)∉q:=fun z=>n3 (by simp[z])
   have U:(b1,o1)∉n:=fun z=>n0 (by simp[z])
   have Z:(b1,o1+1)∉n:=fun z=>n1 (by simp[z])
   have n2_list:(b1,o1+2)∉n:=fun z=>n2 (by simp[z])
   have n3_list:(b1,o1+3)∉n:=fun z=>n3 (by simp[z])
   go_wp2_with fail
   refine(Qaz B _ x.text q _ _ om om ((N.put Y _).put a0 _) ((I.put _ _).put _ _)).mono ?_;rintro e w1 ⟨rfl,hs1,hw1⟩;have A1:=((A0.put0 sm _).put 1 sm _).wr hw1 (fun j hj=>fun z=>(g4 j (show j<4 from by simpa using hj)).2 (by simp[z]))
   try dsimp only[List.set]at A1
   have W1:=((W0.put mo0 _).put (mo 1 (by decide)) _).trans (hw1.sub (fun p hp=>lm.2 (.inr (by simp[hp]))))
   have R:=hs1;have F1_text:=hw1.fresh ((N.put Y _).put a0 _).live ((I.put _ _).put _ _);have Q:=((M.put U _).put Z _).wr hw1 (fun p hp hq=>by have hh:=gnd;simp only[ln,lm]at hh;grind)
   have J:=hw1.fresh ((M.put U _).put Z _).live ((F0_list.put _ _).put _ _);have q1_0:=A1.zero;have z1_0:=(W1.fresh D u).free _ y0;have q1_1:=A1 1 _ rfl;have z1_1:=(W1.fresh D u).free _ y1;have q1_2:=A1 2 _ rfl;have z1_2:=(W1.fresh D u).free _ y2;have q1_3:=A1 3 _ rfl;have z1_3:=(W1.fresh D u).free _ y3;go_wp2_with fail
   refine(uax B _ x.list n _ _ om om Q J).mono ?_;rintro e w2 ⟨rfl,hs2,hw2⟩;have A2:=A1.wr hw2 (fun j hj=>fun z=>(g4 j (show j<4 from by simpa using hj)).2 (by simp[z]))
   try dsimp only[List.set]at A2
   have W2:=W1.trans (hw2.sub (fun p hp=>lm.2 (.inr (by simp[hp]))))
   have S2_text:=R.wr hw2 (fun p hp hq=>by have hh:=gnd;simp only[ln,lm]at hh;grind)
   have F2_text:=hw2.fresh R.live F1_text;have S2_list:=hs2;have F2_list:=hw2.fresh Q.live J;have q2_0:=A2.zero;have z2_0:=(W2.fresh D u).free _ y0;have q2_1:=A2 1 _ rfl;have z2_1:=(W2.fresh D u).free _ y1;have q2_2:=A2 2 _ rfl;have z2_2:=(W2.fresh D u).free _ y2;have q2_3:=A2 3 _ rfl;have z2_3:=(W2.fresh D u).free _ y3;go_wp2;go_roundw
   case rel=>
    refine⟨k+1,by omega,by go_num,by rw[HCS.out];go_num,?_,?_⟩
    ·rw[<-HGM.out];refine g7 _ _ _ A2 ⟨_,_,_,_,rfl,(S2_text.at_ om),(S2_list.at_ om),rfl⟩ fun p hp hn ho=>W2.cell p (D.lt p hp) fun z=> ?_
     rcases lm.1 z with z|z
     ·obtain⟨e1,e2,e3⟩:=Zaa.1 z;exact ho (p.2-o1) (by show _<4;omega) (by ext<;>simp<;>omega)
     ·exact hn z
    ·exact hw.trans (W2.sub fun p hp=>(lm.1 hp).elim (fun z=>by
      obtain⟨e1,e2,e3⟩:=Zaa.1 z;have:=(g4 (p.2-o1) (by show _<4;omega)).1
      rw[show((b1,o1+(p.2-o1)):Pos)=p by ext<;>simp<;>omega]at this
      exact this) (g5 p))
   case measure=>simp[intOf];omega
  ·obtain rfl:k=l.length:=om;rw[Zan]at hs;go_wp2;go_ret;exact⟨Xab sm,hs,hw⟩
theorem QaF (v:Value)(l:List Zad)(w:World)(m:Int)(h0:0<=m)(h1:m+jab l<=4611686018427387904)(h:RdS w v l)(hm:mkL m l=l):
 Calls Tryz.prog 40 #[v,m] w (uac w (.int .i64 (m+jab l))):=by
 have hl:=fun Q ty=>h.len Tryz.underlying66 Q ty
 have hb:=h.le;have HM:=hH hm;clear hm;go_enter Tryz.func40,Tryz.ntmps40
 go_wp2;go_loopw [1,5] (fun c i wr=>∃k:Nat,k<=l.length/\i= .int .i64 k/\c= .int .i64 (m+jab (l.take k))/\Below w w wr) (fun _ i _=>l.length-(intOf i).toNat)
 case atStart=>exact⟨0,lz _,rfl,by simp[jab],lf _ _⟩
 case round=>
  obtain⟨k,hk,rfl,rfl,I⟩:=hrel;have hsz:=I.size;have hc0:=Kab l k;by_cases hlt:k<l.length
  ·obtain⟨x,Y⟩:=jaa hlt;have j:=Qad Y;have hcl:=Kab l (k+1);have R:GoM.cnt x=2+jab x.text+jab x.list:=rfl;obtain⟨u,o1,cs1,h2a,U,h3⟩:=(h.below I).idx Tryz.underlying66 jaw k Y;obtain⟨a0,Z,rfl,q,n⟩:=zaC h3;have J:GoM.mrk (m+jab (l.take k)) x=x:=Xat HM.out Y;obtain⟨c,hc⟩:∃c:Nat,jab (l.take k)=c:=⟨_,rfl⟩;rw[hc]at j hc0 J;rw[R]at j;have a1:=hH j;have hlim:c+(2+jab x.text+jab x.list)<=jab l:=om;rw[hc];clear Y j R hc hcl;have e0:x.code=m+c:=by have:=congrArg (fun x:Zad=>x.code) J;simp only[GoM.mrk]at this;omega
   have e1:x.rev=m+c+1:=by have:=congrArg (fun x:Zad=>x.rev) J;simp only[GoM.mrk]at this;omega
   have E2:Hid (mkL (m+c+2) x.text=x.text):=by have:=congrArg (fun x:Zad=>x.text) J;simp only[GoM.mrk]at this;exact hH ((congrArg (fun z=>mkL z x.text) om).trans this)
   have E3:Hid (mkL (m+c+2+jab x.text) x.list=x.list):=by have:=congrArg (fun x:Zad=>x.list) J;simp only[GoM.mrk]at this;exact hH ((congrArg (fun z=>mkL z x.list) om).trans this)
   have N:=U.zero;have q1:=U 1 _ rfl;have q2:=U 2 _ rfl;have q3:=U 3 _ rfl;rw[e0]at N;rw[e1]at q1;have M:u<wr.heap.size:=lk (w:=wr) (a:=⟨u,o1,none⟩) N;clear J e0 e1;go_wp2_with fail
   refine(ZaG _ x.text _ _ om om (q.below blw) (by refine(congrArg (fun z=>mkL z x.text) ?_).trans E2.out;omega)).mono ?_
   rintro e Q ⟨rfl,B⟩;have s1:wr<=Q.heap.size:=(by have:=B.size;(try simp at this);omega)
   have N:Q.cell? ⟨u,o1,none⟩=_:=(B.cell (p:=⟨u,o1,none⟩) M).trans N;obtain⟨q1,q2,q3⟩:=mv3 B M q1 q2 q3;have M:u<Q.heap.size:=om;go_wp2_with fail
   refine(Jax _ x.list _ _ om om (n.below blw) (by refine(congrArg (fun z=>mkL z x.list) ?_).trans E3.out;omega)).mono ?_
   rintro e w2 ⟨rfl,D⟩;have s2:Q<=w2.heap.size:=(by have:=D.size;(try simp at this);omega)
   have N:w2.cell? ⟨u,o1,none⟩=_:=(D.cell (p:=⟨u,o1,none⟩) M).trans N;obtain⟨q1,q2,q3⟩:=mv3 D M q1 q2 q3;have M:u<w2.heap.size:=om;go_wp2;go_roundw
   case rel=>exact⟨k+1,by omega,by go_num,by rw[a1.out];go_num,blw⟩
   case measure=>simp[intOf];omega
  ·obtain rfl:k=l.length:=om;go_wp2;go_ret;exact⟨Xab sm,I⟩
