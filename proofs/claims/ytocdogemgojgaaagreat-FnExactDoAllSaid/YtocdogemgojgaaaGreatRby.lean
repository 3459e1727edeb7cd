/- Marks. -/
import Derived.Test.YtocdogemgojgaaaGreatRad
set_option maxHeartbeats 2000000
set_option maxRecDepth 100000
namespace Go.Proofs.YtocdogemgojgaaaGreat
open Go.RowKit
theorem ZaN (B:Nat)(v:Value)(l:List zaa)(fp:List Pos)(w:World)(m:Int)(h0:0<=m)(h1:m+jab l<=4611686018427387904)(h:Sl BIG w v l fp)(hf:uaa B w fp):
 Calls Tryz.prog 46 #[v,m] w (Marks w v m l fp):=by
 have hl:=fun w1 ty=>h.len Tryz.underlying30 w1 ty
 have hb:=Jat h.leM;go_enter Tryz.func46,Tryz.ntmps46
 go_wp2;go_loopw [1,5] (fun c i wr=>∃k:Nat,k<=l.length/\i= .int .i64 k/\c= .int .i64 (m+jab (l.take k))/\Sl BIG wr v (marked m l k) fp/\Wr fp w wr) (fun _ i _=>l.length-(intOf i).toNat)
 case atStart=>exact⟨0,lz _,rfl,by simp[jab],by rw[jal];exact h,Wr.refl _ _⟩
 case round=>
  obtain⟨k,hk,rfl,rfl,hs,hw⟩:=hrel;have hc0:=Kab l k;by_cases hlt:k<l.length
  ·obtain⟨x,hx⟩:=jaa hlt;have Q:=Qad hx;have hcl:=Kab l (k+1);have hgx:GoM.cnt x=2+jab x.signs:=rfl;have a0:=Xan (k:=m) hx;obtain⟨Z,o1,cs1,n,g1,g2,g3,Y,g5,gnd,g7⟩:=hs.lens hf.nodup Tryz.underlying30 xaf k (Kan hx);obtain⟨v_signs,a3,rfl,N,rfl⟩:=g3;have I:=hw.fresh h.live hf;have hff:uaa B wr n:=⟨gnd,fun p R=>I.ge p (g5 p R),fun p R=>I.free p (g5 p R)⟩
   have q0_0:=g2.zero;have n0:=(Y 0 (by decide)).2
   have y0:=(Y 0 (by decide)).1
   have z0_0:=I.free _ y0;have q0_1:=g2 1 _ rfl;have n1:=(Y 1 (by decide)).2
   have y1:=(Y 1 (by decide)).1
   have z0_1:=I.free _ y1;have q0_2:=g2 2 _ rfl;have n2:=(Y 2 (by decide)).2
   have y2:=(Y 2 (by decide)).1
   have z0_2:=I.free _ y2;simp only[Nat.add_zero]at n0 y0 z0_0;have mo:∀j<3,(Z,o1+j)∈own Z o1 3++n:=fun j hj=>lm.2 (.inl (Zaa.2 ⟨rfl,by simp,by simp;omega⟩))
   have mo0:=mo 0 (by decide)
   simp only[Nat.add_zero]at mo0;have W0:Wr (own Z o1 3++n) wr wr:=Wr.refl _ _;have U:=hs.live;have A0:=g2;obtain⟨c,hc⟩:∃c:Nat,jab (l.take k)=c:=⟨_,rfl⟩;rw[hc]at Q hc0 a0;rw[hgx]at Q;have HGM:=hH a0;have HCS:=hH Q;have hlim:c+(2+jab x.signs)<=jab l:=om;have u:=N;have q:=hff;rw[hc];clear hx Q a0 hgx hc hcl;have z:(Z,o1)∉n:=fun J=>n0 (by simp[J])
   have D:(Z,o1+1)∉n:=fun J=>n1 (by simp[J])
   have a4:(Z,o1+2)∉n:=fun J=>n2 (by simp[J])
   go_wp2_with fail
   refine(Qaz B _ x.signs n _ _ om om ((u.put z _).put D _) ((q.put _ _).put _ _)).mono ?_;rintro e w1 ⟨rfl,hs1,a1⟩;have A1:=((A0.put0 sm _).put 1 sm _).wr a1 (fun j hj=>fun J=>(Y j (show j<3 from by simpa using hj)).2 (by simp[J]))
   try dsimp only[List.set]at A1
   have W1:=((W0.put mo0 _).put (mo 1 (by decide)) _).trans (a1.sub (fun p R=>lm.2 (.inr R)))
   have M:=hs1;have a2:=a1.fresh ((u.put z _).put D _).live ((q.put _ _).put _ _);have q1_0:=A1.zero;have z1_0:=(W1.fresh U I).free _ y0;have q1_1:=A1 1 _ rfl;have z1_1:=(W1.fresh U I).free _ y1;have q1_2:=A1 2 _ rfl;have z1_2:=(W1.fresh U I).free _ y2;go_wp2;go_roundw
   case rel=>
    refine⟨k+1,by omega,by go_num,by rw[HCS.out];go_num,?_,?_⟩
    ·rw[<-HGM.out];refine g7 _ _ _ A1 ⟨_,_,rfl,(M.at_ om),rfl⟩ fun p R hn ho=>W1.cell p (U.lt p R) fun J=> ?_
     rcases lm.1 J with J|J
     ·obtain⟨e1,e2,e3⟩:=Zaa.1 J;exact ho (p.2-o1) (by show _<3;omega) (by ext<;>simp<;>omega)
     ·exact hn J
    ·exact hw.trans (W1.sub fun p R=>(lm.1 R).elim (fun J=>by
      obtain⟨e1,e2,e3⟩:=Zaa.1 J;have:=(Y (p.2-o1) (by show _<3;omega)).1
      rw[show((Z,o1+(p.2-o1)):Pos)=p by ext<;>simp<;>omega]at this
      exact this) (g5 p))
   case measure=>simp[intOf];omega
  ·obtain rfl:k=l.length:=om;rw[Zan]at hs;go_wp2;go_ret;exact⟨Xab sm,hs,hw⟩
theorem ua6 (v:Value)(l:List zaa)(w:World)(m:Int)(h0:0<=m)(h1:m+jab l<=4611686018427387904)(h:RdS w v l)(hm:mkL m l=l):
 Calls Tryz.prog 163 #[v,m] w (uac w (.int .i64 (m+jab l))):=by
 have hl:=fun N ty=>h.len Tryz.underlying30 N ty
 have hb:=h.le;have HM:=hH hm;clear hm;go_enter Tryz.func163,Tryz.ntmps163
 go_wp2;go_loopw [1,5] (fun c i wr=>∃k:Nat,k<=l.length/\i= .int .i64 k/\c= .int .i64 (m+jab (l.take k))/\Below w w wr) (fun _ i _=>l.length-(intOf i).toNat)
 case atStart=>exact⟨0,lz _,rfl,by simp[jab],lf _ _⟩
 case round=>
  obtain⟨k,hk,rfl,rfl,B⟩:=hrel;have hsz:=B.size;have a0:=Kab l k;by_cases a2:k<l.length
  ·obtain⟨x,Q⟩:=jaa a2;have q:=Qad Q;have a1:=Kab l (k+1);have J:GoM.cnt x=2+jab x.signs:=rfl;obtain⟨D,o1,cs1,h2a,Y,h3⟩:=(h.below B).idx Tryz.underlying30 xaf k Q;obtain⟨M,rfl,j⟩:=jag h3;have I:GoM.mrk (m+jab (l.take k)) x=x:=Xat HM.out Q;obtain⟨c,Z⟩:∃c:Nat,jab (l.take k)=c:=⟨_,rfl⟩;rw[Z]at q a0 I;rw[J]at q;have U:=hH q;have hlim:c+(2+jab x.signs)<=jab l:=om;rw[Z];clear Q q J Z a1;have e0:x.kind=m+c:=by have:=congrArg (fun x:zaa=>x.kind) I;simp only[GoM.mrk]at this;omega
   have e1:x.n=m+c+1:=by have:=congrArg (fun x:zaa=>x.n) I;simp only[GoM.mrk]at this;omega
   have E2:Hid (mkL (m+c+2) x.signs=x.signs):=by have:=congrArg (fun x:zaa=>x.signs) I;simp only[GoM.mrk]at this;exact hH ((congrArg (fun z=>mkL z x.signs) om).trans this)
   have R:=Y.zero;have q1:=Y 1 _ rfl;have q2:=Y 2 _ rfl;rw[e0]at R;rw[e1]at q1;have l1:D<wr.heap.size:=lk (w:=wr) (a:=⟨D,o1,none⟩) R;clear I e0 e1;go_wp2_with fail
   refine(ZaG _ x.signs _ _ om om (j.below blw) (by refine(congrArg (fun z=>mkL z x.signs) ?_).trans E2.out;omega)).mono ?_
   rintro e N ⟨rfl,u⟩;have s1:wr<=N.heap.size:=(by have:=u.size;(try simp at this);omega)
   have R:N.cell? ⟨D,o1,none⟩=_:=(u.cell (p:=⟨D,o1,none⟩) l1).trans R;obtain⟨q1,q2⟩:=mv2 u l1 q1 q2;have l1:D<N.heap.size:=om;go_wp2;go_roundw
   case rel=>exact⟨k+1,by omega,by go_num,by rw[U.out];go_num,blw⟩
   case measure=>simp[intOf];omega
  ·obtain rfl:k=l.length:=om;go_wp2;go_ret;exact⟨Xab sm,B⟩
theorem uax (B:Nat)(v:Value)(l:List xab)(fp:List Pos)(w:World)(m:Int)(h0:0<=m)(h1:m+jab l<=4611686018427387904)(h:Sl BIG w v l fp)(hf:uaa B w fp):
 Calls Tryz.prog 96 #[v,m] w (Marks w v m l fp):=by
 have hl:=fun w1 ty=>h.len Tryz.underlying34 w1 ty
 have hb:=Jat h.leM;go_enter Tryz.func96,Tryz.ntmps96
 go_wp2;go_loopw [1,5] (fun c i wr=>∃k:Nat,k<=l.length/\i= .int .i64 k/\c= .int .i64 (m+jab (l.take k))/\Sl BIG wr v (marked m l k) fp/\Wr fp w wr) (fun _ i _=>l.length-(intOf i).toNat)
 case atStart=>exact⟨0,lz _,rfl,by simp[jab],by rw[jal];exact h,Wr.refl _ _⟩
 case round=>
  obtain⟨k,hk,rfl,rfl,hs,hw⟩:=hrel;have hc0:=Kab l k;by_cases hlt:k<l.length
  ·obtain⟨x,hx⟩:=jaa hlt;have z:=Qad hx;have hcl:=Kab l (k+1);have hgx:GoM.cnt x=2+jab x.o:=rfl;have Y:=Xan (k:=m) hx;obtain⟨U,o1,cs1,q,g1,g2,g3,N,g5,gnd,g7⟩:=hs.lens hf.nodup Tryz.underlying34 yac k (Kan hx);obtain⟨v_o,f_o',rfl,s_o,rfl⟩:=g3;have n:=hw.fresh h.live hf;have hff:uaa B wr q:=⟨gnd,fun p D=>n.ge p (g5 p D),fun p D=>n.free p (g5 p D)⟩
   have q0_0:=g2.zero;have n0:=(N 0 (by decide)).2
   have y0:=(N 0 (by decide)).1
   have z0_0:=n.free _ y0;have q0_1:=g2 1 _ rfl;have n1:=(N 1 (by decide)).2
   have y1:=(N 1 (by decide)).1
   have z0_1:=n.free _ y1;have q0_2:=g2 2 _ rfl;have n2:=(N 2 (by decide)).2
   have y2:=(N 2 (by decide)).1
   have z0_2:=n.free _ y2;simp only[Nat.add_zero]at n0 y0 z0_0;have mo:∀j<3,(U,o1+j)∈own U o1 3++q:=fun j hj=>lm.2 (.inl (Zaa.2 ⟨rfl,by simp,by simp;omega⟩))
   have mo0:=mo 0 (by decide)
   simp only[Nat.add_zero]at mo0;have W0:Wr (own U o1 3++q) wr wr:=Wr.refl _ _;have I:=hs.live;have A0:=g2;obtain⟨c,hc⟩:∃c:Nat,jab (l.take k)=c:=⟨_,rfl⟩;rw[hc]at z hc0 Y;rw[hgx]at z;have HGM:=hH Y;have HCS:=hH z;have hlim:c+(2+jab x.o)<=jab l:=om;have M:=s_o;have J:=hff;rw[hc];clear hx z Y hgx hc hcl;have Q:(U,o1)∉q:=fun u=>n0 (by simp[u])
   have R:(U,o1+1)∉q:=fun u=>n1 (by simp[u])
   have n2_o:(U,o1+2)∉q:=fun u=>n2 (by simp[u])
   go_wp2_with fail
   refine(ZaN B _ x.o q _ _ om om ((M.put Q _).put R _) ((J.put _ _).put _ _)).mono ?_;rintro e w1 ⟨rfl,hs1,Z⟩;have A1:=((A0.put0 sm _).put 1 sm _).wr Z (fun j hj=>fun u=>(N j (show j<3 from by simpa using hj)).2 (by simp[u]))
   try dsimp only[List.set]at A1
   have W1:=((W0.put mo0 _).put (mo 1 (by decide)) _).trans (Z.sub (fun p D=>lm.2 (.inr D)))
   have S1_o:=hs1;have F1_o:=Z.fresh ((M.put Q _).put R _).live ((J.put _ _).put _ _);have q1_0:=A1.zero;have z1_0:=(W1.fresh I n).free _ y0;have q1_1:=A1 1 _ rfl;have z1_1:=(W1.fresh I n).free _ y1;have q1_2:=A1 2 _ rfl;have z1_2:=(W1.fresh I n).free _ y2;go_wp2;go_roundw
   case rel=>
    refine⟨k+1,by omega,by go_num,by rw[HCS.out];go_num,?_,?_⟩
    ·rw[<-HGM.out];refine g7 _ _ _ A1 ⟨_,_,rfl,(S1_o.at_ om),rfl⟩ fun p D hn ho=>W1.cell p (I.lt p D) fun u=> ?_
     rcases lm.1 u with u|u
     ·obtain⟨e1,e2,e3⟩:=Zaa.1 u;exact ho (p.2-o1) (by show _<3;omega) (by ext<;>simp<;>omega)
     ·exact hn u
    ·exact hw.trans (W1.sub fun p D=>(lm.1 D).elim (fun u=>by
      obtain⟨e1,e2,e3⟩:=Zaa.1 u;have:=(N (p.2-o1) (by show _<3;omega)).1
      rw[show((U,o1+(p.2-o1)):Pos)=p by ext<;>simp<;>omega]at this
      exact this) (g5 p))
   case measure=>simp[intOf];omega
  ·obtain rfl:k=l.length:=om;rw[Zan]at hs;go_wp2;go_ret;exact⟨Xab sm,hs,hw⟩
theorem Jax (v:Value)(l:List xab)(w:World)(m:Int)(h0:0<=m)(h1:m+jab l<=4611686018427387904)(h:RdS w v l)(hm:mkL m l=l):
 Calls Tryz.prog 100 #[v,m] w (uac w (.int .i64 (m+jab l))):=by
 have hl:=fun I ty=>h.len Tryz.underlying34 I ty
 have hb:=h.le;have HM:=hH hm;clear hm;go_enter Tryz.func100,Tryz.ntmps100
 go_wp2;go_loopw [1,5] (fun c i wr=>∃k:Nat,k<=l.length/\i= .int .i64 k/\c= .int .i64 (m+jab (l.take k))/\Below w w wr) (fun _ i _=>l.length-(intOf i).toNat)
 case atStart=>exact⟨0,lz _,rfl,by simp[jab],lf _ _⟩
 case round=>
  obtain⟨k,hk,rfl,rfl,q⟩:=hrel;have hsz:=q.size;have U:=Kab l k;by_cases Z:k<l.length
  ·obtain⟨x,J⟩:=jaa Z;have j:=Qad J;have Y:=Kab l (k+1);have D:GoM.cnt x=2+jab x.o:=rfl;obtain⟨u,o1,cs1,h2a,Q,h3⟩:=(h.below q).idx Tryz.underlying34 yac k J;obtain⟨v_o,rfl,r_o⟩:=Zaf h3;have B:GoM.mrk (m+jab (l.take k)) x=x:=Xat HM.out J;obtain⟨c,R⟩:∃c:Nat,jab (l.take k)=c:=⟨_,rfl⟩;rw[R]at j U B;rw[D]at j;have N:=hH j;have hlim:c+(2+jab x.o)<=jab l:=om;rw[R];clear J j D R Y;have e0:x.client=m+c:=by have:=congrArg (fun x:xab=>x.client) B;simp only[GoM.mrk]at this;omega
   have e1:x.seq=m+c+1:=by have:=congrArg (fun x:xab=>x.seq) B;simp only[GoM.mrk]at this;omega
   have E2:Hid (mkL (m+c+2) x.o=x.o):=by have:=congrArg (fun x:xab=>x.o) B;simp only[GoM.mrk]at this;exact hH ((congrArg (fun z=>mkL z x.o) om).trans this)
   have M:=Q.zero;have q1:=Q 1 _ rfl;have q2:=Q 2 _ rfl;rw[e0]at M;rw[e1]at q1;have l1:u<wr.heap.size:=lk (w:=wr) (a:=⟨u,o1,none⟩) M;clear B e0 e1;go_wp2_with fail
   refine(ua6 _ x.o _ _ om om (r_o.below blw) (by refine(congrArg (fun z=>mkL z x.o) ?_).trans E2.out;omega)).mono ?_
   rintro e I ⟨rfl,n⟩;have s1:wr<=I.heap.size:=(by have:=n.size;(try simp at this);omega)
   have M:I.cell? ⟨u,o1,none⟩=_:=(n.cell (p:=⟨u,o1,none⟩) l1).trans M;obtain⟨q1,q2⟩:=mv2 n l1 q1 q2;have l1:u<I.heap.size:=om;go_wp2;go_roundw
   case rel=>exact⟨k+1,by omega,by go_num,by rw[N.out];go_num,blw⟩
   case measure=>simp[intOf];omega
  ·obtain rfl:k=l.length:=om;go_wp2;go_ret;exact⟨Xab sm,q⟩
theorem va4 (B:Nat)(v:Value)(l:List Zab)(fp:List Pos)(w:World)(m:Int)(h0:0<=m)(h1:m+jab l<=4611686018427387904)(h:Sl BIG w v l fp)(hf:uaa B w fp):
 Calls Tryz.prog 161 #[v,m] w (Marks w v m l fp):=by
 have hl:=fun w1 ty=>h.len Tryz.underlying97 w1 ty
 have hb:=Jat h.leM;go_enter Tryz.func161,Tryz.ntmps161
 go_wp2;go_loopw [1,5] (fun c i wr=>∃k:Nat,k<=l.length/\i= .int .i64 k/\c= .int .i64 (m+jab (l.take k))/\Sl BIG wr v (marked m l k) fp/\Wr fp w wr) (fun _ i _=>l.length-(intOf i).toNat)
 case atStart=>exact⟨0,lz _,rfl,by simp[jab],by rw[jal];exact h,Wr.refl _ _⟩
 case round=>
  obtain⟨k,hk,rfl,rfl,Y,hw⟩:=hrel;have hc0:=Kab l k;by_cases hlt:k<l.length
  ·obtain⟨x,Z⟩:=jaa hlt;have q:=Qad Z;have hcl:=Kab l (k+1);have M:GoM.cnt x=3:=rfl;have z:=Xan (k:=m) Z;obtain⟨R,o1,cs1,f,g1,U,g3,u,g5,gnd,g7⟩:=Y.lens hf.nodup Tryz.underlying97 yaj k (Kan Z);obtain⟨rfl,rfl⟩:=g3;have n:=hw.fresh h.live hf;have hff:uaa B wr []:=⟨gnd,fun p I=>n.ge p (g5 p I),fun p I=>n.free p (g5 p I)⟩
   have q0_0:=U.zero;have n0:=(u 0 (by decide)).2
   have y0:=(u 0 (by decide)).1
   have Q:=n.free _ y0;have q0_1:=U 1 _ rfl;have n1:=(u 1 (by decide)).2
   have y1:=(u 1 (by decide)).1
   have z0_1:=n.free _ y1;have q0_2:=U 2 _ rfl;have n2:=(u 2 (by decide)).2
   have y2:=(u 2 (by decide)).1
   have z0_2:=n.free _ y2;simp only[Nat.add_zero]at n0 y0 Q;have N:∀j<3,(R,o1+j)∈own R o1 3++[]:=fun j hj=>lm.2 (.inl (Zaa.2 ⟨rfl,by simp,by simp;omega⟩))
   have J:=N 0 (by decide)
   simp only[Nat.add_zero]at J;have W0:Wr (own R o1 3++[]) wr wr:=Wr.refl _ _;have hsl:=Y.live;have A0:=U;obtain⟨c,hc⟩:∃c:Nat,jab (l.take k)=c:=⟨_,rfl⟩;rw[hc]at q hc0 z;rw[M]at q;have a1:=hH z;have a0:=hH q;have hlim:c+(3)<=jab l:=om;rw[hc];clear Z q z M hc hcl;go_wp2;go_roundw
   case rel=>
    refine⟨k+1,by omega,by go_num,by rw[a0.out];go_num,?_,?_⟩
    ·rw[<-a1.out];refine g7 _ _ _ (((A0.put0 sm _).put 1 sm _).put 2 sm _) ⟨by(simp[GoM.mrk];try omega),rfl⟩ fun p I hn ho=>(((W0.put J _).put (N 1 (by decide)) _).put (N 2 (by decide)) _).cell p (hsl.lt p I) fun D=> ?_
     rcases lm.1 D with D|D
     ·obtain⟨e1,e2,e3⟩:=Zaa.1 D;exact ho (p.2-o1) (by show _<3;omega) (by ext<;>simp<;>omega)
     ·exact hn D
    ·exact hw.trans ((((W0.put J _).put (N 1 (by decide)) _).put (N 2 (by decide)) _).sub fun p I=>(lm.1 I).elim (fun D=>by
      obtain⟨e1,e2,e3⟩:=Zaa.1 D;have:=(u (p.2-o1) (by show _<3;omega)).1
      rw[show((R,o1+(p.2-o1)):Pos)=p by ext<;>simp<;>omega]at this
      exact this) (g5 p))
   case measure=>simp[intOf];omega
  ·obtain rfl:k=l.length:=om;rw[Zan]at Y;go_wp2;go_ret;exact⟨Xab sm,Y,hw⟩
theorem Xa6 (v:Value)(l:List Zab)(w:World)(m:Int)(h0:0<=m)(h1:m+jab l<=4611686018427387904)(h:RdS w v l)(Z:mkL m l=l):
 Calls Tryz.prog 162 #[v,m] w (uac w (.int .i64 (m+jab l))):=by
 have hl:=fun w1 ty=>h.len Tryz.underlying97 w1 ty
 have hb:=h.le;have HM:=hH Z;clear Z;go_enter Tryz.func162,Tryz.ntmps162
 go_wp2;go_loopw [1,5] (fun c i wr=>∃k:Nat,k<=l.length/\i= .int .i64 k/\c= .int .i64 (m+jab (l.take k))/\Below w w wr) (fun _ i _=>l.length-(intOf i).toNat)
 case atStart=>exact⟨0,lz _,rfl,by simp[jab],lf _ _⟩
 case round=>
  obtain⟨k,hk,rfl,rfl,n⟩:=hrel;have hsz:=n.size;have I:=Kab l k;by_cases M:k<l.length
  ·obtain⟨x,u⟩:=jaa M;have j:=Qad u;have J:=Kab l (k+1);have q:GoM.cnt x=3:=rfl;obtain⟨N,o1,cs1,h2a,B,h3⟩:=(h.below n).idx Tryz.underlying97 yaj k u;obtain rfl:=jaj h3;have p:GoM.mrk (m+jab (l.take k)) x=x:=Xat HM.out u;obtain⟨c,D⟩:∃c:Nat,jab (l.take k)=c:=⟨_,rfl⟩;rw[D]at j I p;rw[q]at j;have z:=hH j;have Y:c+(3)<=jab l:=om;rw[D];clear u j q D J;have Q:x.client=m+c:=by have:=congrArg (fun x:Zab=>x.client) p;simp only[GoM.mrk]at this;omega
   have R:x.seq=m+c+1:=by have:=congrArg (fun x:Zab=>x.seq) p;simp only[GoM.mrk]at this;omega
   have U:x.rev=m+c+2:=by have:=congrArg (fun x:Zab=>x.rev) p;simp only[GoM.mrk]at this;omega
   have q0:=B.zero;have q1:=B 1 _ rfl;have q2:=B 2 _ rfl;rw[Q]at q0;rw[R]at q1;rw[U]at q2;have l1:N<wr.heap.size:=lk (w:=wr) (a:=⟨N,o1,none⟩) q0;clear p Q R U;go_wp2;go_roundw
   case rel=>exact⟨k+1,by omega,by go_num,by rw[z.out];go_num,blw⟩
   case measure=>simp[intOf];omega
  ·obtain rfl:k=l.length:=om;go_wp2;go_ret;exact⟨Xab sm,n⟩
theorem kba (B:Nat)(v:Value)(l:List Jac)(fp:List Pos)(w:World)(m:Int)(h0:0<=m)(h1:m+jab l<=4611686018427387904)(h:Sl BIG w v l fp)(hf:uaa B w fp):
 Calls Tryz.prog 93 #[v,m] w (Marks w v m l fp):=by
 have hl:=fun w1 ty=>h.len Tryz.underlying23 w1 ty
 have hb:=Jat h.leM;go_enter Tryz.func93,Tryz.ntmps93
 go_wp2;go_loopw [1,5] (fun c i wr=>∃k:Nat,k<=l.length/\i= .int .i64 k/\c= .int .i64 (m+jab (l.take k))/\Sl BIG wr v (marked m l k) fp/\Wr fp w wr) (fun _ i _=>l.length-(intOf i).toNat)
 case atStart=>exact⟨0,lz _,rfl,by simp[jab],by rw[jal];exact h,Wr.refl _ _⟩
 case round=>
  obtain⟨k,hk,rfl,rfl,hs,hw⟩:=hrel;have hc0:=Kab l k;by_cases hlt:k<l.length
  ·obtain⟨x,hx⟩:=jaa hlt;have hcs:=Qad hx;have hcl:=Kab l (k+1);have hgx:GoM.cnt x=2+jab x.text+jab x.list+jab x.seen:=rfl;have hgm:=Xan (k:=m) hx;obtain⟨J,o1,cs1,f,g1,g2,g3,g4,g5,ah,g7⟩:=hs.lens hf.nodup Tryz.underlying23 uah k (Kan hx);obtain⟨v_text,v_list,v_seen,z,q,u,rfl,n_name,s_text,s_list,s_seen,rfl⟩:=g3;have n:=hw.fresh h.live hf;have hff:uaa B wr (z++(q++u)):=⟨ah,fun p M=>n.ge p (g5 p M),fun p M=>n.free p (g5 p M)⟩
   have q0_0:=g2.zero;have n0:=(g4 0 (by decide)).2
   have y0:=(g4 0 (by decide)).1
   have z0_0:=n.free _ y0;have q0_1:=g2 1 _ rfl;have n1:=(g4 1 (by decide)).2
   have y1:=(g4 1 (by decide)).1
   have z0_1:=n.free _ y1;have q0_2:=g2 2 _ rfl;have n2:=(g4 2 (by decide)).2
   have y2:=(g4 2 (by decide)).1
   have z0_2:=n.free _ y2;have q0_3:=g2 3 _ rfl;have n3:=(g4 3 (by decide)).2
   have y3:=(g4 3 (by decide)).1
   have z0_3:=n.free _ y3;have q0_4:=g2 4 _ rfl;have n4:=(g4 4 (by decide)).2
   have y4:=(g4 4 (by decide)).1
   have z0_4:=n.free _ y4;simp only[Nat.add_zero]at n0 y0 z0_0;have mo:∀j<5,(J,o1+j)∈own J o1 5++(z++(q++u)):=fun j hj=>lm.2 (.inl (Zaa.2 ⟨rfl,by simp,by simp;omega⟩))
   have mo0:=mo 0 (by decide)
   simp only[Nat.add_zero]at mo0;have W0:Wr (own J o1 5++(z++(q++u))) wr wr:=Wr.refl _ _;have I:=hs.live;have A0:=g2;obtain⟨c,hc⟩:∃c:Nat,jab (l.take k)=c:=⟨_,rfl⟩;rw[hc]at hcs hc0 hgm;rw[hgx]at hcs;have HGM:=hH hgm;have HCS:=hH hcs;have hlim:c+(2+jab x.text+jab x.list+jab x.seen)<=jab l:=om;have Z:=s_text;have F0_text:=hff.left;have U:=s_list;have F0_list:=hff.right.left;have Y:=s_seen;have F0_seen:=hff.right.right;rw[hc];clear hx hcs hgm hgx hc hcl;have ad:(J,o1)∉z:=fun D=>n0 (by simp[D])
   have ag:(J,o1+1)∉z:=fun D=>n1 (by simp[D])
   have n2_text:(J,o1+2)∉z:=fun D=>n2 (by simp[D])
   have n3_text:(J,o1+3)∉z:=fun D=>n3 (by simp[D])
   have n4_text:(J,o1+4)∉z:=fun D=>n4 (by simp[D])
   have aa:(J,o1)∉q:=fun D=>n0 (by simp[D])
   have ae:(J,o1+1)∉q:=fun D=>n1 (by simp[D])
   have n2_list:(J,o1+2)∉q:=fun D=>n2 (by simp[D])
   have n3_list:(J,o1+3)∉q:=fun D=>n3 (by simp[D])
   have n4_list:(J,o1+4)∉q:=fun D=>n4 (by simp[D])
   have ac:(J,o1)∉u:=fun D=>n0 (by simp[D])
   have af:(J,o1+1)∉u:=fun D=>n1 (by simp[D])
   have n2_seen:(J,o1+2)∉u:=fun D=>n2 (by simp[D])
   have n3_seen:(J,o1+3)∉u:=fun D=>n3 (by simp[D])
   have n4_seen:(J,o1+4)∉u:=fun D=>n4 (by simp[D])
   go_wp2_with fail
   refine(Zav _ _ om om).mono ?_;rintro e w1 ⟨rfl,hb1⟩;have a9:Wr [] _ w1:=Wr.of_below hb1;have A1:=A0.wr a9 (fun _ _ h=>by cases h)
   try dsimp only[List.set]at A1
   have W1:=W0.trans (a9.sub (fun _ h=>by cases h))
   have a2:=Z.wr a9 (fun _ _ h=>by cases h)
   have N:=a9.fresh Z.live F0_text;have a0:=U.wr a9 (fun _ _ h=>by cases h)
   have F1_list:=a9.fresh U.live F0_list;have a1:=Y.wr a9 (fun _ _ h=>by cases h)
   have F1_seen:=a9.fresh Y.live F0_seen;have q1_0:=A1.zero;have z1_0:=(W1.fresh I n).free _ y0;have q1_1:=A1 1 _ rfl;have z1_1:=(W1.fresh I n).free _ y1;have q1_2:=A1 2 _ rfl;have z1_2:=(W1.fresh I n).free _ y2;have q1_3:=A1 3 _ rfl;have z1_3:=(W1.fresh I n).free _ y3;have q1_4:=A1 4 _ rfl;have z1_4:=(W1.fresh I n).free _ y4;go_wp2_with fail
   refine(Qaz B _ x.text z _ _ om om ((a2.put ad _).put ag _) ((N.put _ _).put _ _)).mono ?_;rintro e w2 ⟨rfl,hs2,ai⟩;have A2:=((A1.put0 sm _).put 1 sm _).wr ai (fun j hj=>fun D=>(g4 j (show j<5 from by simpa using hj)).2 (by simp[D]))
   try dsimp only[List.set]at A2
   have W2:=((W1.put mo0 _).put (mo 1 (by decide)) _).trans (ai.sub (fun p M=>lm.2 (.inr (by simp[M]))))
   have a5:=hs2;have F2_text:=ai.fresh ((a2.put ad _).put ag _).live ((N.put _ _).put _ _);have a3:=((a0.put aa _).put ae _).wr ai (fun p M hq=>by have hh:=ah;simp only[ln,lm]at hh;grind)
   have Q:=ai.fresh ((a0.put aa _).put ae _).live ((F1_list.put _ _).put _ _);have a4:=((a1.put ac _).put af _).wr ai (fun p M hq=>by have hh:=ah;simp only[ln,lm]at hh;grind)
   have F2_seen:=ai.fresh ((a1.put ac _).put af _).live ((F1_seen.put _ _).put _ _);have q2_0:=A2.zero;have z2_0:=(W2.fresh I n).free _ y0;have q2_1:=A2 1 _ rfl;have z2_1:=(W2.fresh I n).free _ y1;have q2_2:=A2 2 _ rfl;have z2_2:=(W2.fresh I n).free _ y2;have q2_3:=A2 3 _ rfl;have z2_3:=(W2.fresh I n).free _ y3;have q2_4:=A2 4 _ rfl;have z2_4:=(W2.fresh I n).free _ y4;go_wp2_with fail
   refine(uax B _ x.list q _ _ om om a3 Q).mono ?_;rintro e w3 ⟨rfl,hs3,aj⟩;have A3:=A2.wr aj (fun j hj=>fun D=>(g4 j (show j<5 from by simpa using hj)).2 (by simp[D]))
   try dsimp only[List.set]at A3
   have W3:=W2.trans (aj.sub (fun p M=>lm.2 (.inr (by simp[M]))))
   have a8:=a5.wr aj (fun p M hq=>by have hh:=ah;simp only[ln,lm]at hh;grind)
   have F3_text:=aj.fresh a5.live F2_text;have a6:=hs3;have F3_list:=aj.fresh a3.live Q;have a7:=a4.wr aj (fun p M hq=>by have hh:=ah;simp only[ln,lm]at hh;grind)
   have R:=aj.fresh a4.live F2_seen;have q3_0:=A3.zero;have z3_0:=(W3.fresh I n).free _ y0;have q3_1:=A3 1 _ rfl;have z3_1:=(W3.fresh I n).free _ y1;have q3_2:=A3 2 _ rfl;have z3_2:=(W3.fresh I n).free _ y2;have q3_3:=A3 3 _ rfl;have z3_3:=(W3.fresh I n).free _ y3;have q3_4:=A3 4 _ rfl;have z3_4:=(W3.fresh I n).free _ y4;go_wp2_with fail
   refine(va4 B _ x.seen u _ _ om om a7 R).mono ?_;rintro e w4 ⟨rfl,hs4,ak⟩;have A4:=A3.wr ak (fun j hj=>fun D=>(g4 j (show j<5 from by simpa using hj)).2 (by simp[D]))
   try dsimp only[List.set]at A4
   have W4:=W3.trans (ak.sub (fun p M=>lm.2 (.inr (by simp[M]))))
   have S4_text:=a8.wr ak (fun p M hq=>by have hh:=ah;simp only[ln,lm]at hh;grind)
   have F4_text:=ak.fresh a8.live F3_text;have S4_list:=a6.wr ak (fun p M hq=>by have hh:=ah;simp only[ln,lm]at hh;grind)
   have F4_list:=ak.fresh a6.live F3_list;have S4_seen:=hs4;have F4_seen:=ak.fresh a7.live R;have q4_0:=A4.zero;have z4_0:=(W4.fresh I n).free _ y0;have q4_1:=A4 1 _ rfl;have z4_1:=(W4.fresh I n).free _ y1;have q4_2:=A4 2 _ rfl;have z4_2:=(W4.fresh I n).free _ y2;have q4_3:=A4 3 _ rfl;have z4_3:=(W4.fresh I n).free _ y3;have q4_4:=A4 4 _ rfl;have z4_4:=(W4.fresh I n).free _ y4;go_wp2;go_roundw
   case rel=>
    refine⟨k+1,by omega,by go_num,by rw[HCS.out];go_num,?_,?_⟩
    ·rw[<-HGM.out];refine g7 _ _ _ A4 ⟨_,_,_,_,_,_,rfl,(zaY _),(S4_text.at_ om),(S4_list.at_ om),(S4_seen.at_ om),rfl⟩ fun p M hn ho=>W4.cell p (I.lt p M) fun D=> ?_
     rcases lm.1 D with D|D
     ·obtain⟨e1,e2,e3⟩:=Zaa.1 D;exact ho (p.2-o1) (by show _<5;omega) (by ext<;>simp<;>omega)
     ·exact hn D
    ·exact hw.trans (W4.sub fun p M=>(lm.1 M).elim (fun D=>by
      obtain⟨e1,e2,e3⟩:=Zaa.1 D;have:=(g4 (p.2-o1) (by show _<5;omega)).1
      rw[show((J,o1+(p.2-o1)):Pos)=p by ext<;>simp<;>omega]at this
      exact this) (g5 p))
   case measure=>simp[intOf];omega
  ·obtain rfl:k=l.length:=om;rw[Zan]at hs;go_wp2;go_ret;exact⟨Xab sm,hs,hw⟩
theorem Xbb (v:Value)(l:List Jac)(w:World)(m:Int)(h0:0<=m)(h1:m+jab l<=4611686018427387904)(h:RdS w v l)(hm:mkL m l=l):
 Calls Tryz.prog 97 #[v,m] w (uac w (.int .i64 (m+jab l))):=by
 have hl:=fun w1 ty=>h.len Tryz.underlying23 w1 ty
 have hb:=h.le;have HM:=hH hm;clear hm;go_enter Tryz.func97,Tryz.ntmps97
 go_wp2;go_loopw [1,5] (fun c i wr=>∃k:Nat,k<=l.length/\i= .int .i64 k/\c= .int .i64 (m+jab (l.take k))/\Below w w wr) (fun _ i _=>l.length-(intOf i).toNat)
 case atStart=>exact⟨0,lz _,rfl,by simp[jab],lf _ _⟩
 case round=>
  obtain⟨k,hk,rfl,rfl,U⟩:=hrel;have hsz:=U.size;have hc0:=Kab l k;by_cases hlt:k<l.length
  ·obtain⟨x,hx⟩:=jaa hlt;have u:=Qad hx;have hcl:=Kab l (k+1);have hgx:GoM.cnt x=2+jab x.text+jab x.list+jab x.seen:=rfl;obtain⟨j,o1,cs1,h2a,h2,h3⟩:=(h.below U).idx Tryz.underlying23 uah k hx;obtain⟨v_text,v_list,v_seen,rfl,_,I,B,D⟩:=qai h3;have Y:GoM.mrk (m+jab (l.take k)) x=x:=Xat HM.out hx;obtain⟨c,hc⟩:∃c:Nat,jab (l.take k)=c:=⟨_,rfl⟩;rw[hc]at u hc0 Y;rw[hgx]at u;have HCS:=hH u;have hlim:c+(2+jab x.text+jab x.list+jab x.seen)<=jab l:=om;rw[hc];clear hx u hgx hc hcl;have e0:x.name=JaN (m+c):=by have:=congrArg (fun x:Jac=>x.name) Y;simp only[GoM.mrk]at this;rw[<-this];try(congr 1;omega)
   have e1:x.from_=m+c+1:=by have:=congrArg (fun x:Jac=>x.from_) Y;simp only[GoM.mrk]at this;omega
   have E2:Hid (mkL (m+c+2) x.text=x.text):=by have:=congrArg (fun x:Jac=>x.text) Y;simp only[GoM.mrk]at this;exact hH ((congrArg (fun z=>mkL z x.text) om).trans this)
   have E3:Hid (mkL (m+c+2+jab x.text) x.list=x.list):=by have:=congrArg (fun x:Jac=>x.list) Y;simp only[GoM.mrk]at this;exact hH ((congrArg (fun z=>mkL z x.list) om).trans this)
   have E4:Hid (mkL (m+c+2+jab x.text+jab x.list) x.seen=x.seen):=by have:=congrArg (fun x:Jac=>x.seen) Y;simp only[GoM.mrk]at this;exact hH ((congrArg (fun z=>mkL z x.seen) om).trans this)
   have q:=h2.zero;have q1:=h2 1 _ rfl;have q2:=h2 2 _ rfl;have q3:=h2 3 _ rfl;have q4:=h2 4 _ rfl;rw[e0]at q;rw[e1]at q1;have n:j<wr.heap.size:=lk (w:=wr) (a:=⟨j,o1,none⟩) q;clear Y e0 e1;go_wp2_with fail
   obtain⟨X,hX,F,hF,hFs⟩:=Zae wr;have cc:∀x,(F x).cell? ⟨j,o1,none⟩=some _:=fun x=>((hF x).cell (p:=⟨j,o1,none⟩) n).trans q
   have HF:=hH hF;have J:=hH hFs;clear hF hFs;have Hm:=hH (fun(W':World)=>Zav (m+c) W' om om)
   refine Xaa (F:=F) (by kernel_rfl) (by kernel_rfl) (J.out _ blw) ?_
   repeat(go_big_quiet_step ((go_at_call 101;(with_reducible exact Calls.fam_tells HF.out J.out (Hm.out _)))))
   refine wpQuiet_nil ?_;intro x';obtain⟨w1,Z⟩:∃wx:World,F x'=wx:=⟨_,rfl⟩;have M:Below wr wr w1:=by rw[<-Z];exact HF.out x'
   rw[Z];clear Z cc HF J Hm;have s1:wr<=w1.heap.size:=(by have:=M.size;(try simp at this);omega)
   have q:w1.cell? ⟨j,o1,none⟩=_:=(M.cell (p:=⟨j,o1,none⟩) n).trans q;obtain⟨q1,q2,q3,q4⟩:=mv4 M n q1 q2 q3 q4;have n:j<w1.heap.size:=om;go_wp2_with fail
   refine(ZaG _ x.text _ _ om om (I.below blw) (by refine(congrArg (fun z=>mkL z x.text) ?_).trans E2.out;omega)).mono ?_
   rintro e w2 ⟨rfl,N⟩;have s2:w1<=w2.heap.size:=(by have:=N.size;(try simp at this);omega)
   have q:w2.cell? ⟨j,o1,none⟩=_:=(N.cell (p:=⟨j,o1,none⟩) n).trans q;obtain⟨q1,q2,q3,q4⟩:=mv4 N n q1 q2 q3 q4;have n:j<w2.heap.size:=om;go_wp2_with fail
   refine(Jax _ x.list _ _ om om (B.below blw) (by refine(congrArg (fun z=>mkL z x.list) ?_).trans E3.out;omega)).mono ?_
   rintro e w3 ⟨rfl,Q⟩;have s3:w2<=w3.heap.size:=(by have:=Q.size;(try simp at this);omega)
   have q:w3.cell? ⟨j,o1,none⟩=_:=(Q.cell (p:=⟨j,o1,none⟩) n).trans q;obtain⟨q1,q2,q3,q4⟩:=mv4 Q n q1 q2 q3 q4;have n:j<w3.heap.size:=om;go_wp2_with fail
   refine(Xa6 _ x.seen _ _ om om (D.below blw) (by refine(congrArg (fun z=>mkL z x.seen) ?_).trans E4.out;omega)).mono ?_
   rintro e w4 ⟨rfl,R⟩;have s4:w3<=w4.heap.size:=(by have:=R.size;(try simp at this);omega)
   have q:w4.cell? ⟨j,o1,none⟩=_:=(R.cell (p:=⟨j,o1,none⟩) n).trans q;obtain⟨q1,q2,q3,q4⟩:=mv4 R n q1 q2 q3 q4;have n:j<w4.heap.size:=om;go_wp2;go_roundw
   case rel=>exact⟨k+1,by omega,by go_num,by rw[HCS.out];go_num,blw⟩
   case measure=>simp[intOf];omega
  ·obtain rfl:k=l.length:=om;go_wp2;go_ret;exact⟨Xab sm,U⟩
theorem qbd (B:Nat)(v:Value)(l:List kah)(fp:List Pos)(w:World)(m:Int)(h0:0<=m)(h1:m+jab l<=4611686018427387904)(h:Sl BIG w v l fp)(hf:uaa B w fp):
 Calls Tryz.prog 94 #[v,m] w (Marks w v m l fp):=by
 have hl:=fun w1 ty=>h.len Tryz.underlying24 w1 ty
 have hb:=Jat h.leM;go_enter Tryz.func94,Tryz.ntmps94
 go_wp2;go_loopw [1,5] (fun c i wr=>∃k:Nat,k<=l.length/\i= .int .i64 k/\c= .int .i64 (m+jab (l.take k))/\Sl BIG wr v (marked m l k) fp/\Wr fp w wr) (fun _ i _=>l.length-(intOf i).toNat)
 case atStart=>exact⟨0,lz _,rfl,by simp[jab],by rw[jal];exact h,Wr.refl _ _⟩
 case round=>
  obtain⟨k,hk,rfl,rfl,hs,hw⟩:=hrel;have hc0:=Kab l k;by_cases hlt:k<l.length
  ·obtain⟨x,hx⟩:=jaa hlt;have hcs:=Qad hx;have hcl:=Kab l (k+1);have hgx:GoM.cnt x=5+jab x.r.list:=rfl;have hgm:=Xan (k:=m) hx;obtain⟨b1,o1,cs1,n,g1,g2,g3,g4,g5,gnd,g7⟩:=hs.lens hf.nodup Tryz.underlying24 vaj k (Kan hx);obtain⟨c_r,f_r',rfl,n_doc,s_r,rfl⟩:=g3;obtain⟨v_r_list,f_r_list',rfl,s_r_list,rfl⟩:=s_r;have q:=hw.fresh h.live hf;have hff:uaa B wr n:=⟨gnd,fun p hp=>q.ge p (g5 p hp),fun p hp=>q.free p (g5 p hp)⟩
   try simp only[List.cons_append,List.nil_append]at g2
   try simp only[List.cons_append,List.nil_append]at g7
   have q0_0:=g2.zero;have n0:=(g4 0 (by decide)).2
   have y0:=(g4 0 (by decide)).1
   have z0_0:=q.free _ y0;have q0_1:=g2 1 _ rfl;have n1:=(g4 1 (by decide)).2
   have y1:=(g4 1 (by decide)).1
   have z0_1:=q.free _ y1;have q0_2:=g2 2 _ rfl;have n2:=(g4 2 (by decide)).2
   have y2:=(g4 2 (by decide)).1
   have z0_2:=q.free _ y2;have q0_3:=g2 3 _ rfl;have n3:=(g4 3 (by decide)).2
   have y3:=(g4 3 (by decide)).1
   have z0_3:=q.free _ y3;have q0_4:=g2 4 _ rfl;have n4:=(g4 4 (by decide)).2
   have y4:=(g4 4 (by decide)).1
   have z0_4:=q.free _ y4;have q0_5:=g2 5 _ rfl;have n5:=(g4 5 (by decide)).2
   have y5:=(g4 5 (by decide)).1
   have z0_5:=q.free _ y5;simp only[Nat.add_zero]at n0 y0 z0_0;have mo:∀j<6,(b1,o1+j)∈own b1 o1 6++n:=fun j hj=>lm.2 (.inl (Zaa.2 ⟨rfl,by simp,by simp;omega⟩))
   have mo0:=mo 0 (by decide)
   simp only[Nat.add_zero]at mo0;have W0:Wr (own b1 o1 6++n) wr wr:=Wr.refl _ _;have u:=hs.live;have A0:=g2;obtain⟨c,hc⟩:∃c:Nat,jab (l.take k)=c:=⟨_,rfl⟩;rw[hc]at hcs hc0 hgm;rw[hgx]at hcs;have HGM:=hH hgm;have HCS:=hH hcs;have hlim:c+(5+jab x.r.list)<=jab l:=om;have D:=s_r_list;have Y:=hff;rw[hc];clear hx hcs hgm hgx hc hcl;have J:(b1,o1)∉n:=fun U=>n0 (by simp[U])
   have M:(b1,o1+1)∉n:=fun U=>n1 (by simp[U])
   have N:(b1,o1+2)∉n:=fun U=>n2 (by simp[U])
   have Q:(b1,o1+3)∉n:=fun U=>n3 (by simp[U])
   have R:(b1,o1+4)∉n:=fun U=>n4 (by simp[U])
   have n5_r_list:(b1,o1+5)∉n:=fun U=>n5 (by simp[U])
   go_wp2_with fail
   refine(Zav _ _ om om).mono ?_;rintro e w1 ⟨rfl,hb1⟩;have hw1:Wr [] _ w1:=Wr.of_below hb1;have A1:=(A0.put0 sm _).wr hw1 (fun _ _ h=>by cases h)
   try dsimp only[List.set]at A1
   have W1:=(W0.put mo0 _).trans (hw1.sub (fun _ h=>by cases h))
   have I:=(D.put J _).wr hw1 (fun _ _ h=>by cases h)
   have z:=hw1.fresh (D.put J _).live (Y.put _ _);have q1_0:=A1.zero;have z1_0:=(W1.fresh u q).free _ y0;have q1_1:=A1 1 _ rfl;have z1_1:=(W1.fresh u q).free _ y1;have q1_2:=A1 2 _ rfl;have z1_2:=(W1.fresh u q).free _ y2;have q1_3:=A1 3 _ rfl;have z1_3:=(W1.fresh u q).free _ y3;have q1_4:=A1 4 _ rfl;have z1_4:=(W1.fresh u q).free _ y4;have q1_5:=A1 5 _ rfl;have z1_5:=(W1.fresh u q).free _ y5;go_wp2_with fail
   refine(uax B _ x.r.list n _ _ om om ((((I.put M _).put N _).put Q _).put R _) ((((z.put _ _).put _ _).put _ _).put _ _)).mono ?_;rintro e w2 ⟨rfl,hs2,hw2⟩;have A2:=((((A1.put 1 sm _).put 2 sm _).put 3 sm _).put 4 sm _).wr hw2 (fun j hj=>fun U=>(g4 j (show j<6 from by simpa using hj)).2 (by simp[U]))
   try dsimp only[List.set]at A2
   have W2:=((((W1.put (mo 1 (by decide)) _).put (mo 2 (by decide)) _).put (mo 3 (by decide)) _).put (mo 4 (by decide)) _).trans (hw2.sub (fun p hp=>lm.2 (.inr hp)))
   have Z:=hs2;have F2_r_list:=hw2.fresh ((((I.put M _).put N _).put Q _).put R _).live ((((z.put _ _).put _ _).put _ _).put _ _);have q2_0:=A2.zero;have z2_0:=(W2.fresh u q).free _ y0;have q2_1:=A2 1 _ rfl;have z2_1:=(W2.fresh u q).free _ y1;have q2_2:=A2 2 _ rfl;have z2_2:=(W2.fresh u q).free _ y2;have q2_3:=A2 3 _ rfl;have z2_3:=(W2.fresh u q).free _ y3;have q2_4:=A2 4 _ rfl;have z2_4:=(W2.fresh u q).free _ y4;have q2_5:=A2 5 _ rfl;have z2_5:=(W2.fresh u q).free _ y5;go_wp2;go_roundw
   case rel=>
    refine⟨k+1,by omega,by go_num,by rw[HCS.out];go_num,?_,?_⟩
    ·rw[<-HGM.out];refine g7 _ _ _ A2 ⟨_,_,rfl,(zaY _),⟨_,_,(by(try simp only[GoM.mrk,Int.add_assoc,Int.reduceAdd])<;>(try rfl)),(Z.at_ om),rfl⟩,rfl⟩ fun p hp hn ho=>W2.cell p (u.lt p hp) fun U=> ?_
     rcases lm.1 U with U|U
     ·obtain⟨e1,e2,e3⟩:=Zaa.1 U;exact ho (p.2-o1) (by show _<6;omega) (by ext<;>simp<;>omega)
     ·exact hn U
    ·exact hw.trans (W2.sub fun p hp=>(lm.1 hp).elim (fun U=>by
      obtain⟨e1,e2,e3⟩:=Zaa.1 U;have:=(g4 (p.2-o1) (by show _<6;omega)).1
      rw[show((b1,o1+(p.2-o1)):Pos)=p by ext<;>simp<;>omega]at this
      exact this) (g5 p))
   case measure=>simp[intOf];omega
  ·obtain rfl:k=l.length:=om;rw[Zan]at hs;go_wp2;go_ret;exact⟨Xab sm,hs,hw⟩
theorem Jbb (v:Value)(l:List kah)(w:World)(m:Int)(h0:0<=m)(h1:m+jab l<=4611686018427387904)(h:RdS w v l)(hm:mkL m l=l):
 Calls Tryz.prog 98 #[v,m] w (uac w (.int .i64 (m+jab l))):=by
 have hl:=fun Q ty=>h.len Tryz.underlying24 Q ty
 have hb:=h.le;have HM:=hH hm;clear hm;go_enter Tryz.func98,Tryz.ntmps98
 go_wp2;go_loopw [1,5] (fun c i wr=>∃k:Nat,k<=l.length/\i= .int .i64 k/\c= .int .i64 (m+jab (l.take k))/\Below w w wr) (fun _ i _=>l.length-(intOf i).toNat)
 case atStart=>exact⟨0,lz _,rfl,by simp[jab],lf _ _⟩
 case round=>
  obtain⟨k,hk,rfl,rfl,J⟩:=hrel;have hsz:=J.size;have hc0:=Kab l k;by_cases hlt:k<l.length
  ·obtain⟨x,hx⟩:=jaa hlt;have q:=Qad hx;have hcl:=Kab l (k+1);have a0:GoM.cnt x=5+jab x.r.list:=rfl;obtain⟨n,o1,cs1,h2a,R,h3⟩:=(h.below J).idx Tryz.underlying24 vaj k hx;obtain⟨Y,rfl,_,j⟩:=qan h3;have u:GoM.mrk (m+jab (l.take k)) x=x:=Xat HM.out hx;obtain⟨c,hc⟩:∃c:Nat,jab (l.take k)=c:=⟨_,rfl⟩;rw[hc]at q hc0 u;rw[a0]at q;have HCS:=hH q;have hlim:c+(5+jab x.r.list)<=jab l:=om;rw[hc];clear hx q a0 hc hcl;have e0:x.id=m+c:=by have:=congrArg (fun x:kah=>x.id) u;simp only[GoM.mrk]at this;omega
   have e1:x.doc=JaN (m+c+1):=by have:=congrArg (fun x:kah=>x.doc) u;simp only[GoM.mrk]at this;rw[<-this];try(congr 1;omega)
   have e2:x.r.cap=m+c+2:=by have:=congrArg (fun x:kah=>x.r.cap) u;simp only[GoM.mrk]at this;omega
   have e3:x.r.next=m+c+3:=by have:=congrArg (fun x:kah=>x.r.next) u;simp only[GoM.mrk]at this;omega
   have e4:x.r.out=((m+(c:Int)+1+1+1+1) % 3==0):=by have:=congrArg (fun x:kah=>x.r.out) u;simp only[GoM.mrk]at this;rw[<-this,Bool.eq_iff_iff,decide_eq_true_eq,beq_iff_eq];constructor<;>intro h<;>(try rw[<-h])<;>(try congr 1)<;>(try omega)
   have E5:Hid (mkL (m+c+5) x.r.list=x.r.list):=by have:=congrArg (fun x:kah=>x.r.list) u;simp only[GoM.mrk]at this;exact hH ((congrArg (fun z=>mkL z x.r.list) om).trans this)
   have U:=R.zero;have q1:=R 1 _ rfl;have q2:=R 2 _ rfl;have q3:=R 3 _ rfl;have q4:=R 4 _ rfl;have q5:=R 5 _ rfl;rw[e0]at U;rw[e1]at q1;rw[e2]at q2;rw[e3]at q3;rw[e4]at q4;have N:n<wr.heap.size:=lk (w:=wr) (a:=⟨n,o1,none⟩) U;clear u e0 e1 e2 e3 e4;go_wp2_with fail
   obtain⟨X,hX,F,hF,Z⟩:=Zae wr;have cc:∀x,(F x).cell? ⟨n,o1+1,none⟩=some _:=fun x=>((hF x).cell (p:=⟨n,o1+1,none⟩) N).trans q1
   have HF:=hH hF;have B:=hH Z;clear hF Z;have Hm:=hH (fun(W':World)=>Zav (m+c+1) W' om om)
   refine Xaa (F:=F) (by kernel_rfl) (by kernel_rfl) (B.out _ blw) ?_
   repeat(go_big_quiet_step ((go_at_call 101;(with_reducible exact Calls.fam_tells HF.out B.out (Hm.out _)))))
   refine wpQuiet_nil ?_;intro x';obtain⟨Q,M⟩:∃wx:World,F x'=wx:=⟨_,rfl⟩;have D:Below wr wr Q:=by rw[<-M];exact HF.out x'
   rw[M];clear M cc HF B Hm;have s1:wr<=Q.heap.size:=(by have:=D.size;(try simp at this);omega)
   have U:Q.cell? ⟨n,o1,none⟩=_:=(D.cell (p:=⟨n,o1,none⟩) N).trans U;obtain⟨q1,q2,q3,q4,q5⟩:=mv5 D N q1 q2 q3 q4 q5;have N:n<Q.heap.size:=om;go_wp2_with fail
   refine(Jax _ x.r.list _ _ om om (j.below blw) (by refine(congrArg (fun z=>mkL z x.r.list) ?_).trans E5.out;omega)).mono ?_
   rintro e w2 ⟨rfl,I⟩;have s2:Q<=w2.heap.size:=(by have:=I.size;(try simp at this);omega)
   have U:w2.cell? ⟨n,o1,none⟩=_:=(I.cell (p:=⟨n,o1,none⟩) N).trans U;obtain⟨q1,q2,q3,q4,q5⟩:=mv5 I N q1 q2 q3 q4 q5;have N:n<w2.heap.size:=om;go_wp2;go_roundw
   case rel=>exact⟨k+1,by omega,by go_num,by rw[HCS.out];go_num,blw⟩
   case measure=>simp[intOf];omega
  ·obtain rfl:k=l.length:=om;go_wp2;go_ret;exact⟨Xab sm,J⟩
theorem KaZ (B:Nat)(shut:Bool)(last:Int)(j:Value)(n:Value)(I:List Jac)(J:List kah)(q:List Pos)(u:List Pos)(w:World)(m:Int)(h0:0<=m)(h1:m+((jab I+jab J:Nat):Int)<=4611686018427387904)(s_docs:Sl BIG w j I q)(s_subs:Sl BIG w n J u)(hf:uaa B w (q++u)):
 Calls Tryz.prog 27 #[.agg #[shut,j,n,last],m] w (fun e w'=>e= .returned (.int .i64 (m+((jab I+jab J:Nat):Int)))/\Sl BIG w' j (mkL m I) q/\Sl BIG w' n (mkL (m+jab I) J) u/\Wr (q++u) w w'):=by
 have z:=Live.lt s_docs.live;have D:=Live.lt s_subs.live;have hbx:Below w w (w.alloc (.cells #[shut,j,n,last] 26)):=(lf _ _).alloc (lr _) _;have Q:uaa B _ q:=(hf.left).belowL hbx z;have U:=s_docs.belowW hbx;have F0_subs:uaa B _ u:=(hf.right).belowL hbx D;have Y:=s_subs.belowW hbx;have X0:Wr (q++u) w _:=Wr.of_below hbx;have c0_0:(w.alloc (.cells #[shut,j,n,last] 26)).cell? ⟨w.heap.size,0,none⟩=some (.bool shut):=by simp
 have c0_1:(w.alloc (.cells #[shut,j,n,last] 26)).cell? ⟨w.heap.size,1,none⟩=some (j):=by simp
 have c0_2:(w.alloc (.cells #[shut,j,n,last] 26)).cell? ⟨w.heap.size,2,none⟩=some (n):=by simp
 have c0_3:(w.alloc (.cells #[shut,j,n,last] 26)).cell? ⟨w.heap.size,3,none⟩=some (.int .i64 last):=by simp
 have z0:w.heap.size<(w.alloc (.cells #[shut,j,n,last] 26)).heap.size:=by simp
 have hnd:=hf.nodup;have HND:=hH hnd;clear hnd;go_enter Tryz.func27,Tryz.ntmps27
 go_wp2_with fail
 refine(kba B _ I q _ _ om om U Q).mono ?_;rintro e w1 ⟨rfl,T1_docs,M⟩;have Z:=T1_docs;have F1_docs:=M.fresh U.live Q;have a0:=Y.wr M (fun p hp hq=>by have hh:=HND.out;simp only[ln]at hh;(try simp only[lm]at hh);grind)
 have R:=M.fresh Y.live F0_subs;have X1:=X0.trans (M.sub (fun p hp=>by simp[hp]))
 have z1:w<w1.heap.size:=lq z0 M.size;have c1_0:w1.cell? ⟨w.heap.size,0,none⟩=some (.bool shut):=(M.cell (w,0) z0 (fun hm=>by have:=z _ hm;simp at this)).trans c0_0
 have c1_1:w1.cell? ⟨w.heap.size,1,none⟩=some (j):=(M.cell (w,1) z0 (fun hm=>by have:=z _ hm;simp at this)).trans c0_1
 have c1_2:w1.cell? ⟨w.heap.size,2,none⟩=some (n):=(M.cell (w,2) z0 (fun hm=>by have:=z _ hm;simp at this)).trans c0_2
 have c1_3:w1.cell? ⟨w.heap.size,3,none⟩=some (.int .i64 last):=(M.cell (w,3) z0 (fun hm=>by have:=z _ hm;simp at this)).trans c0_3
 clear M;go_wp2_with fail
 refine(qbd B _ J u _ _ om om a0 R).mono ?_;rintro e w2 ⟨rfl,T2_subs,N⟩;have S2_docs:=Z.wr N (fun p hp hq=>by have hh:=HND.out;simp only[ln]at hh;(try simp only[lm]at hh);grind)
 have F2_docs:=N.fresh Z.live F1_docs;have S2_subs:=T2_subs;have F2_subs:=N.fresh a0.live R;have X2:=X1.trans (N.sub (fun p hp=>by simp[hp]))
 have z2:w<w2.heap.size:=lq z1 N.size;have c2_0:w2.cell? ⟨w.heap.size,0,none⟩=some (.bool shut):=(N.cell (w,0) z1 (fun hm=>by have:=D _ hm;simp at this)).trans c1_0
 have c2_1:w2.cell? ⟨w.heap.size,1,none⟩=some (j):=(N.cell (w,1) z1 (fun hm=>by have:=D _ hm;simp at this)).trans c1_1
 have c2_2:w2.cell? ⟨w.heap.size,2,none⟩=some (n):=(N.cell (w,2) z1 (fun hm=>by have:=D _ hm;simp at this)).trans c1_2
 have c2_3:w2.cell? ⟨w.heap.size,3,none⟩=some (.int .i64 last):=(N.cell (w,3) z1 (fun hm=>by have:=D _ hm;simp at this)).trans c1_3
 clear N;go_wp2;go_ret;exact⟨Xab om,S2_docs,S2_subs,X2⟩
theorem vaZ (shut:Bool)(last:Int)(u:Value)(z:Value)(j:List Jac)(n:List kah)(w:World)(m:Int)(h0:0<=m)(h1:m+((jab j+jab n:Nat):Int)<=4611686018427387904)(I:RdS w u j)(J:RdS w z n)(p:mkL (m) j=j)(q:mkL (m+jab j) n=n):
 Calls Tryz.prog 30 #[.agg #[shut,u,z,last],m] w (uac w (.int .i64 (m+((jab j+jab n:Nat):Int)))):=by
 have B:=hH p;have D:=hH q;clear p q;go_enter Tryz.func30,Tryz.ntmps30
 go_wp2_with fail
 refine(Xbb _ j _ _ om om (I.below blw) B.out).mono ?_;rintro e w1 ⟨rfl,M⟩;have Z:=M.size;(try simp at Z)
 obtain⟨Q,U⟩:=kab M;have z1:w<w1.heap.size:=om;go_wp2_with fail
 refine(Jbb _ n _ _ om om (J.below blw) D.out).mono ?_;rintro e w2 ⟨rfl,N⟩;have s2:=N.size;(try simp at s2)
 obtain⟨R,Y⟩:=kab N;have z2:w<w2.heap.size:=om;go_wp2;go_ret;exact⟨Xab om,blw⟩
