/- Equalities, sizes and readings of the laws. -/
import Derived.Test.YtocdogemgojgaaaGreatRab
import Derived.StillTailTactics
import Derived.Deep.Slices
set_option maxHeartbeats 1000000
set_option maxRecDepth 100000
namespace Go.Proofs.YtocdogemgojgaaaGreat
open Go.RowKit
theorem Zbi (x:zaa)(p j:Value)(w:World)(q:RdS w p x.signs)(u:RdS w j x.signs):
 Calls Tryz.prog 110 #[.agg #[x.kind,x.n,p],.agg #[x.kind,x.n,j]] w (uac w (.bool true)):=by
 go_enter Tryz.func110,Tryz.ntmps110
 go_wp2_with fail
 refine(ZaK _ _ _ _ (q.below blw) (u.below blw)).mono ?_;rintro e B ⟨rfl,z⟩;have N:w+2<=B.heap.size:=szl z;obtain⟨J,M⟩:=kab z;have D:w<B.heap.size:=om;have I:w+1<B.heap.size:=om;go_wp2;go_ret;exact⟨rfl,blw⟩
theorem xaf:∀j,(sizeOf 142).run Tryz.prog j= .ok 3 j:=fun _=>by kernel_rfl
theorem yaZ (R vb:Value)(a:List zaa)(w:World)(J:RdS w R a)(hb:RdS w vb a):
 Calls Tryz.prog 45 #[R,vb] w (uac w (.bool true)):=by
 have a0:=fun Q ty=>J.len Tryz.underlying30 Q ty
 have a1:=fun Q ty=>hb.len Tryz.underlying30 Q ty
 have ba:=J.le;go_enter Tryz.func45,Tryz.ntmps45
 go_wp2;go_loopw [5] (fun i wr=>∃k:Nat,k<=a.length/\i= .int .i64 k/\Below w w wr) (fun i _=>a.length-(intOf i).toNat)
 case atStart=>exact⟨0,lz _,rfl,lf _ _⟩
 case round=>
  obtain⟨k,hk,rfl,j⟩:=hrel;by_cases M:k<a.length
  ·obtain⟨x,N⟩:=jaa M;obtain⟨b1,o1,U,h1,I,Z⟩:=(J.below j).idx Tryz.underlying30 xaf k N;obtain⟨z,rfl,n⟩:=jag Z;obtain⟨b2,o2,U,g1,D,Y⟩:=(hb.below j).idx Tryz.underlying30 xaf k N;obtain⟨u,rfl,p⟩:=jag Y;have q0:=I.zero;have q1:=I 1 _ rfl;have q2:=I 2 _ rfl;have p0:=D.zero;have p1:=D 1 _ rfl;have p2:=D 2 _ rfl;clear N;go_wp2_with fail
   go_still_tail 8,(by kernel_rfl)
   go_wp2_with fail
   refine(Zbi x _ _ _ (n.below blw) (p.below blw)).mono ?_;rintro e w2 ⟨rfl,q⟩;have B:Hid (Below w w w2):=(Below.drew j).trans (q.mono j.size);clear q j;go_wp2;go_roundw
   case rel=>exact⟨k+1,by omega,by go_num,B.out⟩
   case measure=>simp[intOf];omega
  ·go_wp2;go_ret;exact⟨rfl,j⟩
theorem Kbh (x:xab)(p n:Value)(w:World)(q:RdS w p x.o)(u:RdS w n x.o):
 Calls Tryz.prog 160 #[.agg #[x.client,x.seq,p],.agg #[x.client,x.seq,n]] w (uac w (.bool true)):=by
 go_enter Tryz.func160,Tryz.ntmps160
 go_wp2_with fail
 refine(yaZ _ _ _ _ (q.below blw) (u.below blw)).mono ?_;rintro e z ⟨rfl,j⟩;have M:w+2<=z.heap.size:=szl j;obtain⟨I,J⟩:=kab j;have B:w<z.heap.size:=om;have D:w+1<z.heap.size:=om;go_wp2;go_ret;exact⟨rfl,blw⟩
theorem yac:∀j,(sizeOf 118).run Tryz.prog j= .ok 3 j:=fun _=>by kernel_rfl
theorem kaH (N vb:Value)(a:List xab)(w:World)(z:RdS w N a)(hb:RdS w vb a):
 Calls Tryz.prog 92 #[N,vb] w (uac w (.bool true)):=by
 have Y:=fun M ty=>z.len Tryz.underlying34 M ty
 have Z:=fun M ty=>hb.len Tryz.underlying34 M ty
 have ba:=z.le;go_enter Tryz.func92,Tryz.ntmps92
 go_wp2;go_loopw [5] (fun i wr=>∃k:Nat,k<=a.length/\i= .int .i64 k/\Below w w wr) (fun i _=>a.length-(intOf i).toNat)
 case atStart=>exact⟨0,lz _,rfl,lf _ _⟩
 case round=>
  obtain⟨k,hk,rfl,j⟩:=hrel;by_cases B:k<a.length
  ·obtain⟨x,D⟩:=jaa B;obtain⟨b1,o1,Q,h1,u,U⟩:=(z.below j).idx Tryz.underlying34 yac k D;obtain⟨a1,rfl,I⟩:=Zaf U;obtain⟨b2,o2,Q,g1,q,R⟩:=(hb.below j).idx Tryz.underlying34 yac k D;obtain⟨a0,rfl,J⟩:=Zaf R;have q0:=u.zero;have q1:=u 1 _ rfl;have q2:=u 2 _ rfl;have p0:=q.zero;have p1:=q 1 _ rfl;have p2:=q 2 _ rfl;clear D;go_wp2_with fail
   go_still_tail 8,(by kernel_rfl)
   go_wp2_with fail
   refine(Kbh x _ _ _ (I.below blw) (J.below blw)).mono ?_;rintro e w2 ⟨rfl,n⟩;have p:Hid (Below w w w2):=(Below.drew j).trans (n.mono j.size);clear n j;go_wp2;go_roundw
   case rel=>exact⟨k+1,by omega,by go_num,p.out⟩
   case measure=>simp[intOf];omega
  ·go_wp2;go_ret;exact⟨rfl,j⟩
theorem Zbk (x:Zab)(w:World):
 Calls Tryz.prog 229 #[.agg #[x.client,x.seq,x.rev],.agg #[x.client,x.seq,x.rev]] w (uac w (.bool true)):=by
 go_enter Tryz.func229,Tryz.ntmps229
 go_wp2;go_ret;exact⟨rfl,blw⟩
theorem yaj:∀j,(sizeOf 167).run Tryz.prog j= .ok 3 j:=fun _=>by kernel_rfl
theorem Qbg (J vb:Value)(a:List Zab)(w:World)(z:RdS w J a)(hb:RdS w vb a):
 Calls Tryz.prog 203 #[J,vb] w (uac w (.bool true)):=by
 have R:=fun I ty=>z.len Tryz.underlying97 I ty
 have U:=fun I ty=>hb.len Tryz.underlying97 I ty
 have ba:=z.le;go_enter Tryz.func203,Tryz.ntmps203
 go_wp2;go_loopw [5] (fun i wr=>∃k:Nat,k<=a.length/\i= .int .i64 k/\Below w w wr) (fun i _=>a.length-(intOf i).toNat)
 case atStart=>exact⟨0,lz _,rfl,lf _ _⟩
 case round=>
  obtain⟨k,hk,rfl,j⟩:=hrel;by_cases B:k<a.length
  ·obtain⟨x,D⟩:=jaa B;obtain⟨Z,o1,M,h1,u,Q⟩:=(z.below j).idx Tryz.underlying97 yaj k D;obtain rfl:=jaj Q;obtain⟨b2,o2,M,g1,q,N⟩:=(hb.below j).idx Tryz.underlying97 yaj k D;obtain rfl:=jaj N;have q0:=u.zero;have q1:=u 1 _ rfl;have q2:=u 2 _ rfl;have p0:=q.zero;have p1:=q 1 _ rfl;have p2:=q 2 _ rfl;clear D;go_wp2_with fail
   go_still_tail 8,(by kernel_rfl)
   go_wp2_with fail
   refine(Zbk x _).mono ?_;rintro e Y ⟨rfl,n⟩;have p:Hid (Below w w Y):=(Below.drew j).trans (n.mono j.size);clear n j;go_wp2;go_roundw
   case rel=>exact⟨k+1,by omega,by go_num,p.out⟩
   case measure=>simp[intOf];omega
  ·go_wp2;go_ret;exact⟨rfl,j⟩
theorem Xbl (x:Jac)(z p:Value)(q j:Value)(u n:Value)(w:World)(I:RdS w z x.text)(N:RdS w p x.text)(B:RdS w q x.list)(J:RdS w j x.list)(D:RdS w u x.seen)(M:RdS w n x.seen):
 Calls Tryz.prog 158 #[.agg #[x.name,x.from_,z,q,u],.agg #[x.name,x.from_,p,j,n]] w (uac w (.bool true)):=by
 go_enter Tryz.func158,Tryz.ntmps158
 go_wp2_with fail
 refine(ZaK _ _ _ _ (I.below blw) (N.below blw)).mono ?_;rintro e Y ⟨rfl,Q⟩;have s1:w+2<=Y.heap.size:=szl Q;obtain⟨hc1,hf1⟩:=kab Q;have z1_0:w<Y.heap.size:=om;have z1_1:w+1<Y.heap.size:=om;go_wp2_with fail
 refine(kaH _ _ _ _ (B.below blw) (J.below blw)).mono ?_;rintro e Z ⟨rfl,R⟩;have s2:Y<=Z.heap.size:=szl R;obtain⟨hc2,hf2⟩:=kab R;have z2_0:w<Z.heap.size:=om;have z2_1:w+1<Z.heap.size:=om;go_wp2_with fail
 refine(Qbg _ _ _ _ (D.below blw) (M.below blw)).mono ?_;rintro e w3 ⟨rfl,U⟩;have s3:Z<=w3.heap.size:=szl U;obtain⟨hc3,hf3⟩:=kab U;have z3_0:w<w3.heap.size:=om;have z3_1:w+1<w3.heap.size:=om;go_wp2;go_ret;exact⟨rfl,blw⟩
theorem uah:∀j,(sizeOf 99).run Tryz.prog j= .ok 5 j:=fun _=>by kernel_rfl
theorem Jbi (va vb:Value)(a:List Jac)(w:World)(ha:RdS w va a)(hb:RdS w vb a):
 Calls Tryz.prog 89 #[va,vb] w (uac w (.bool true)):=by
 have hla:=fun w1 ty=>ha.len Tryz.underlying23 w1 ty
 have hlb:=fun w1 ty=>hb.len Tryz.underlying23 w1 ty
 have ba:=ha.le;go_enter Tryz.func89,Tryz.ntmps89
 go_wp2;go_loopw [5] (fun i wr=>∃k:Nat,k<=a.length/\i= .int .i64 k/\Below w w wr) (fun i _=>a.length-(intOf i).toNat)
 case atStart=>exact⟨0,lz _,rfl,lf _ _⟩
 case round=>
  obtain⟨k,hk,rfl,j⟩:=hrel;by_cases hlt:k<a.length
  ·obtain⟨x,hx⟩:=jaa hlt;obtain⟨b1,o1,cs,h1,I,h3⟩:=(ha.below j).idx Tryz.underlying23 uah k hx;obtain⟨Y,R,U,rfl,_,q,n,p⟩:=qai h3;obtain⟨b2,o2,cs,g1,D,g3⟩:=(hb.below j).idx Tryz.underlying23 uah k hx;obtain⟨Q,M,N,rfl,_,B,u,z⟩:=qai g3;have q0:=I.zero;have q1:=I 1 _ rfl;have q2:=I 2 _ rfl;have q3:=I 3 _ rfl;have q4:=I 4 _ rfl;have p0:=D.zero;have p1:=D 1 _ rfl;have p2:=D 2 _ rfl;have p3:=D 3 _ rfl;have p4:=D 4 _ rfl;clear hx;go_wp2_with fail
   go_still_tail 8,(by kernel_rfl)
   go_wp2_with fail
   refine(Xbl x _ _ _ _ _ _ _ (q.below blw) (B.below blw) (n.below blw) (u.below blw) (p.below blw) (z.below blw)).mono ?_;rintro e w2 ⟨rfl,J⟩;have Z:Hid (Below w w w2):=(Below.drew j).trans (J.mono j.size);clear J j;go_wp2;go_roundw
   case rel=>exact⟨k+1,by omega,by go_num,Z.out⟩
   case measure=>simp[intOf];omega
  ·go_wp2;go_ret;exact⟨rfl,j⟩
theorem zbj (x:kac)(n j:Value)(w:World)(p:RdS w n x.list)(q:RdS w j x.list):
 Calls Tryz.prog 204 #[.agg #[x.cap,x.next,x.out,n],.agg #[x.cap,x.next,x.out,j]] w (uac w (.bool true)):=by
 go_enter Tryz.func204,Tryz.ntmps204
 go_wp2_with fail
 refine(kaH _ _ _ _ (p.below blw) (q.below blw)).mono ?_;rintro e z ⟨rfl,u⟩;have M:w+2<=z.heap.size:=szl u;obtain⟨I,J⟩:=kab u;have B:w<z.heap.size:=om;have D:w+1<z.heap.size:=om;go_wp2;go_ret;exact⟨rfl,blw⟩
theorem jbl (x:kah)(n j:Value)(w:World)(p:RdS w n x.r.list)(q:RdS w j x.r.list):
 Calls Tryz.prog 159 #[.agg #[x.id,x.doc,x.r.cap,x.r.next,x.r.out,n],.agg #[x.id,x.doc,x.r.cap,x.r.next,x.r.out,j]] w (uac w (.bool true)):=by
 go_enter Tryz.func159,Tryz.ntmps159
 go_wp2_with fail
 refine(zbj x.r _ _ _ (p.below blw) (q.below blw)).mono ?_;rintro e z ⟨rfl,u⟩;have M:w+2<=z.heap.size:=szl u;obtain⟨I,J⟩:=kab u;have B:w<z.heap.size:=om;have D:w+1<z.heap.size:=om;go_wp2;go_ret;exact⟨rfl,blw⟩
theorem vaj:∀j,(sizeOf 104).run Tryz.prog j= .ok 6 j:=fun _=>by kernel_rfl
theorem jbk (R vb:Value)(a:List kah)(w:World)(J:RdS w R a)(hb:RdS w vb a):
 Calls Tryz.prog 90 #[R,vb] w (uac w (.bool true)):=by
 have a0:=fun Q ty=>J.len Tryz.underlying24 Q ty
 have a1:=fun Q ty=>hb.len Tryz.underlying24 Q ty
 have ba:=J.le;go_enter Tryz.func90,Tryz.ntmps90
 go_wp2;go_loopw [5] (fun i wr=>∃k:Nat,k<=a.length/\i= .int .i64 k/\Below w w wr) (fun i _=>a.length-(intOf i).toNat)
 case atStart=>exact⟨0,lz _,rfl,lf _ _⟩
 case round=>
  obtain⟨k,hk,rfl,j⟩:=hrel;by_cases M:k<a.length
  ·obtain⟨x,N⟩:=jaa M;obtain⟨b1,o1,U,h1,u,Z⟩:=(J.below j).idx Tryz.underlying24 vaj k N;obtain⟨B,rfl,_,n⟩:=qan Z;obtain⟨b2,o2,U,g1,q,Y⟩:=(hb.below j).idx Tryz.underlying24 vaj k N;obtain⟨z,rfl,_,p⟩:=qan Y;have q0:=u.zero;have q1:=u 1 _ rfl;have q2:=u 2 _ rfl;have q3:=u 3 _ rfl;have q4:=u 4 _ rfl;have q5:=u 5 _ rfl;have p0:=q.zero;have p1:=q 1 _ rfl;have p2:=q 2 _ rfl;have p3:=q 3 _ rfl;have p4:=q 4 _ rfl;have p5:=q 5 _ rfl;clear N;go_wp2_with fail
   go_still_tail 8,(by kernel_rfl)
   go_wp2_with fail
   refine(jbl x _ _ _ (n.below blw) (p.below blw)).mono ?_;rintro e w2 ⟨rfl,D⟩;have I:Hid (Below w w w2):=(Below.drew j).trans (D.mono j.size);clear D j;go_wp2;go_roundw
   case rel=>exact⟨k+1,by omega,by go_num,I.out⟩
   case measure=>simp[intOf];omega
  ·go_wp2;go_ret;exact⟨rfl,j⟩
theorem KaX (x:vaf)(p j:Value)(q n:Value)(w:World)(u:RdS w p x.docs)(B:RdS w j x.docs)(z:RdS w q x.subs)(D:RdS w n x.subs):
 Calls Tryz.prog 24 #[.agg #[x.shut,p,q,x.last],.agg #[x.shut,j,n,x.last]] w (uac w (.bool true)):=by
 go_enter Tryz.func24,Tryz.ntmps24
 go_wp2_with fail
 refine(Jbi _ _ _ _ (u.below blw) (B.below blw)).mono ?_;rintro e M ⟨rfl,I⟩;have s1:w+2<=M.heap.size:=szl I;obtain⟨Z,a1⟩:=kab I;have Q:w<M.heap.size:=om;have R:w+1<M.heap.size:=om;go_wp2_with fail
 refine(jbk _ _ _ _ (z.below blw) (D.below blw)).mono ?_;rintro e N ⟨rfl,J⟩;have s2:M<=N.heap.size:=szl J;obtain⟨a0,a2⟩:=kab J;have U:w<N.heap.size:=om;have Y:w+1<N.heap.size:=om;go_wp2;go_ret;exact⟨rfl,blw⟩
theorem vbk (x:xah)(I D:Value)(p j:Value)(w:World)(M:RdS w I x.o)(N:RdS w D x.o)(q:RdS w p x.text)(u:RdS w j x.text):
 Calls Tryz.prog 26 #[.agg #[x.kind,x.doc,x.client,x.seq,x.n,I,p],.agg #[x.kind,x.doc,x.client,x.seq,x.n,D,j]] w (uac w (.bool true)):=by
 go_enter Tryz.func26,Tryz.ntmps26
 go_wp2_with fail
 refine(yaZ _ _ _ _ (M.below blw) (N.below blw)).mono ?_;rintro e J ⟨rfl,z⟩;have s1:w+2<=J.heap.size:=szl z;obtain⟨a0,a2⟩:=kab z;have R:w<J.heap.size:=om;have U:w+1<J.heap.size:=om;go_wp2_with fail
 refine(ZaK _ _ _ _ (q.below blw) (u.below blw)).mono ?_;rintro e Q ⟨rfl,B⟩;have s2:J<=Q.heap.size:=szl B;obtain⟨a1,a3⟩:=kab B;have Y:w<Q.heap.size:=om;have Z:w+1<Q.heap.size:=om;go_wp2;go_ret;exact⟨rfl,blw⟩
theorem Xbc (x:Zad)(q n:Value)(p j:Value)(w:World)(z:RdS w q x.text)(D:RdS w n x.text)(u:RdS w p x.list)(B:RdS w j x.list):
 Calls Tryz.prog 25 #[.agg #[x.code,x.rev,q,p],.agg #[x.code,x.rev,n,j]] w (uac w (.bool true)):=by
 go_enter Tryz.func25,Tryz.ntmps25
 go_wp2_with fail
 refine(ZaK _ _ _ _ (z.below blw) (D.below blw)).mono ?_;rintro e M ⟨rfl,I⟩;have s1:w+2<=M.heap.size:=szl I;obtain⟨Z,a1⟩:=kab I;have Q:w<M.heap.size:=om;have R:w+1<M.heap.size:=om;go_wp2_with fail
 refine(kaH _ _ _ _ (u.below blw) (B.below blw)).mono ?_;rintro e N ⟨rfl,J⟩;have s2:M<=N.heap.size:=szl J;obtain⟨a0,a2⟩:=kab J;have U:w<N.heap.size:=om;have Y:w+1<N.heap.size:=om;go_wp2;go_ret;exact⟨rfl,blw⟩
theorem ZaD:∀j,(sizeOf 33).run Tryz.prog j= .ok 7 j:=fun _=>by kernel_rfl
theorem qbi (Y vb:Value)(a:List xah)(w:World)(J:RdS w Y a)(hb:RdS w vb a):
 Calls Tryz.prog 37 #[Y,vb] w (uac w (.bool true)):=by
 have hla:=fun U ty=>J.len Tryz.underlying28 U ty
 have hlb:=fun U ty=>hb.len Tryz.underlying28 U ty
 have ba:=J.le;go_enter Tryz.func37,Tryz.ntmps37
 go_wp2;go_loopw [5] (fun i wr=>∃k:Nat,k<=a.length/\i= .int .i64 k/\Below w w wr) (fun i _=>a.length-(intOf i).toNat)
 case atStart=>exact⟨0,lz _,rfl,lf _ _⟩
 case round=>
  obtain⟨k,hk,rfl,j⟩:=hrel;by_cases M:k<a.length
  ·obtain⟨x,N⟩:=jaa M;obtain⟨b1,o1,Z,h1,u,h3⟩:=(J.below j).idx Tryz.underlying28 ZaD k N;obtain⟨v_o,D,rfl,_,Q,n⟩:=xaG h3;obtain⟨b2,o2,Z,g1,q,g3⟩:=(hb.below j).idx Tryz.underlying28 ZaD k N;obtain⟨u_o,B,rfl,_,R,p⟩:=xaG g3;have q0:=u.zero;have q1:=u 1 _ rfl;have q2:=u 2 _ rfl;have q3:=u 3 _ rfl;have q4:=u 4 _ rfl;have q5:=u 5 _ rfl;have q6:=u 6 _ rfl;have p0:=q.zero;have p1:=q 1 _ rfl;have p2:=q 2 _ rfl;have p3:=q 3 _ rfl;have p4:=q 4 _ rfl;have p5:=q 5 _ rfl;have p6:=q 6 _ rfl;clear N;go_wp2_with fail
   go_still_tail 8,(by kernel_rfl)
   go_wp2_with fail
   refine(vbk x _ _ _ _ _ (Q.below blw) (R.below blw) (n.below blw) (p.below blw)).mono ?_;rintro e w2 ⟨rfl,z⟩;have I:Hid (Below w w w2):=(Below.drew j).trans (z.mono j.size);clear z j;go_wp2;go_roundw
   case rel=>exact⟨k+1,by omega,by go_num,I.out⟩
   case measure=>simp[intOf];omega
  ·go_wp2;go_ret;exact⟨rfl,j⟩
theorem jaw:∀j,(sizeOf 36).run Tryz.prog j= .ok 4 j:=fun _=>by kernel_rfl
theorem XaC (va vb:Value)(a:List Zad)(w:World)(R:RdS w va a)(hb:RdS w vb a):
 Calls Tryz.prog 36 #[va,vb] w (uac w (.bool true)):=by
 have hla:=fun Z ty=>R.len Tryz.underlying66 Z ty
 have hlb:=fun Z ty=>hb.len Tryz.underlying66 Z ty
 have ba:=R.le;go_enter Tryz.func36,Tryz.ntmps36
 go_wp2;go_loopw [5] (fun i wr=>∃k:Nat,k<=a.length/\i= .int .i64 k/\Below w w wr) (fun i _=>a.length-(intOf i).toNat)
 case atStart=>exact⟨0,lz _,rfl,lf _ _⟩
 case round=>
  obtain⟨k,hk,rfl,j⟩:=hrel;by_cases U:k<a.length
  ·obtain⟨x,Y⟩:=jaa U;obtain⟨b1,o1,cs,h1,D,h3⟩:=(R.below j).idx Tryz.underlying66 jaw k Y;obtain⟨N,M,rfl,p,n⟩:=zaC h3;obtain⟨b2,o2,cs,g1,B,g3⟩:=(hb.below j).idx Tryz.underlying66 jaw k Y;obtain⟨J,I,rfl,u,q⟩:=zaC g3;have q0:=D.zero;have q1:=D 1 _ rfl;have q2:=D 2 _ rfl;have q3:=D 3 _ rfl;have p0:=B.zero;have p1:=B 1 _ rfl;have p2:=B 2 _ rfl;have p3:=B 3 _ rfl;clear Y;go_wp2_with fail
   go_still_tail 8,(by kernel_rfl)
   go_wp2_with fail
   refine(Xbc x _ _ _ _ _ (p.below blw) (u.below blw) (n.below blw) (q.below blw)).mono ?_;rintro e w2 ⟨rfl,z⟩;have Q:Hid (Below w w w2):=(Below.drew j).trans (z.mono j.size);clear z j;go_wp2;go_roundw
   case rel=>exact⟨k+1,by omega,by go_num,Q.out⟩
   case measure=>simp[intOf];omega
  ·go_wp2;go_ret;exact⟨rfl,j⟩
def RdM {α:Type}[GoT α](M:Nat)(w:World)(cs:List Value)(x:α):Prop:=∃fp,GoT.rd M w cs x fp
def zau {α:Type}[GoT α](M:Nat)(w:World)(v:Value)(l:List α):Prop:=∃fp,Sl M w v l fp
section
variable {α:Type} [GoT α] {M:Nat} {w w':World} {v:Value} {l:List α}
theorem zau.below (h:zau M w v l)(hb:Below w w w'):zau M w' v l:=by
 obtain⟨fp,h⟩:=h;exact⟨fp,h.keep (Live.same_below hb (Live.lt h.live))⟩
theorem zau.len (h:zau M w v l){P:Program}{T E:TypeId}(n:P.underlying T=some (.slice E))(j:World)(ty:TypeId):
 (Builtin.len_ #[T] ty #[v]).run P j= .ok (.int .i64 l.length) j:=let⟨_,h⟩:=h;h.len n j ty
theorem zau.le (h:zau M w v l):l.length<=9223372036854775807:=let⟨_,h⟩:=h;by have:=h.le;unfold maxLen at this;omega
theorem zau.idx (h:zau M w v l){P:Program}{T E:TypeId}(B:P.underlying T=some (.slice E))(I:∀j,(sizeOf E).run P j= .ok (GoT.n α) j)(k:Nat){x:α}(D:l[k]? =some x):
 ∃b o p,(∀j,(Instr.indexAt T v (.int .i64 k)).run P j= .ok (.pointer (some ⟨b,o,none⟩)) j)/\At w b o p/\RdM M w p x:=by
 obtain⟨fp,h⟩:=h;obtain⟨b,o,p,f,q,u,z,_⟩:=h.idx B I k D;exact⟨b,o,p,q,u,f,z⟩
end
class GoS (α:Type) [GoT α] where
 sz:α->Nat
 up:∀{M N:Nat} {w:World} {cs:List Value} {x:α} {fp:List Pos},GoT.rd M w cs x fp->sz x<=N->GoT.rd N w cs x fp
def szs {α:Type}[GoT α][GoS α]:List α->Nat
 |[]=>0
 |x::xs=>GoS.sz x+szs xs
def szL {α:Type}[GoT α][GoS α](l:List α):Nat:=l.length+szs l
section
variable {α:Type} [GoT α] [GoS α]
theorem yaA:∀(a b:List α),szs (a++b)=szs a+szs b
 |[],b=>by simp[szs]
 |x::j,b=>by simp[szs,yaA j];omega
theorem kao {l:List α}{k:Nat}{x:α}(h:l[k]? =some x):szs (l.take (k+1))=szs (l.take k)+GoS.sz x:=by
 rw[kag h,yaA];simp[szs]
theorem uat (l:List α)(k:Nat):szs (l.take k)<=szs l:=by
 have:=yaA (l.take k) (l.drop k);rw[List.take_append_drop]at this;omega
theorem Els.up {M N:Nat}{w:World}:∀{l:List α} {j:List Value} {fp:List Pos},Els M w j l fp->szs l<=N->Els N w j l fp
 |[],_,_,h,_=>h
 |x::B,_,_,⟨c1,c2,f1,f2,q,n,p,u⟩,z=>by
  simp only[szs]at z;exact⟨c1,c2,f1,f2,q,GoS.up n om,Els.up p om,u⟩
theorem Sl.up {M N:Nat}{w:World}{v:Value}{l:List α}{fp:List Pos}(h:Sl M w v l fp)(B:szL l<=N):Sl N w v l fp:=by
 unfold szL at B;rcases h with h|⟨b,o,cap,j,fs,rfl,n,p,D,q,u,z,rfl⟩
 ·exact .inl h
 ·exact .inr ⟨b,o,cap,j,fs,rfl,n,p,by omega,q,u.up om,z,rfl⟩
end
instance:GoS Int where
 sz:=fun _=>0
 up:=fun h _=>h
theorem jbg:∀(l:List Int),szs l=0
 |[]=>rfl
 |x::j=>by simp[szs,jbg j,GoS.sz]
theorem qaw (l:List Int):szL l=l.length:=by simp[szL,jbg]
instance:GoS zaa where
 sz:=fun x=>szL x.signs
 up:=by
  rintro M N w cs x fp ⟨v_signs,f_signs,rfl,h_signs,rfl⟩ hs;exact⟨v_signs,_,rfl,h_signs.up om,rfl⟩
instance:GoS xab where
 sz:=fun x=>szL x.o
 up:=by
  rintro M N w cs x fp ⟨v_o,f_o,rfl,h_o,rfl⟩ hs;exact⟨v_o,_,rfl,h_o.up om,rfl⟩
instance:GoS Zab where
 sz:=fun _=>0
 up:=fun h _=>h
instance:GoS Jac where
 sz:=fun x=>x.name.size+szL x.text+szL x.list+szL x.seen
 up:=by
  rintro M N w cs x fp ⟨v_text,v_list,v_seen,f_text,f_list,f_seen,rfl,n_name,h_text,h_list,h_seen,rfl⟩ hs;exact⟨v_text,v_list,v_seen,_,_,_,rfl,om,h_text.up om,h_list.up om,h_seen.up om,rfl⟩
instance:GoS kac where
 sz:=fun x=>szL x.list
 up:=by
  rintro M N w cs x fp ⟨v_list,f_list,rfl,h_list,rfl⟩ hs;exact⟨v_list,_,rfl,h_list.up om,rfl⟩
instance:GoS kah where
 sz:=fun x=>x.doc.size+GoS.sz x.r
 up:=by
  rintro M N w cs x fp ⟨v_r,f_r,rfl,n_doc,h_r,rfl⟩ hs;exact⟨v_r,_,rfl,om,GoS.up h_r om,rfl⟩
instance:GoS vaf where
 sz:=fun x=>szL x.docs+szL x.subs
 up:=by
  rintro M N w cs x fp ⟨v_docs,v_subs,f_docs,f_subs,rfl,h_docs,h_subs,rfl⟩ hs;exact⟨v_docs,v_subs,_,_,rfl,h_docs.up om,h_subs.up om,rfl⟩
instance:GoS xah where
 sz:=fun x=>x.doc.size+szL x.o+szL x.text
 up:=by
  rintro M N w cs x fp ⟨v_o,v_text,f_o,f_text,rfl,n_doc,h_o,h_text,rfl⟩ hs;exact⟨v_o,v_text,_,_,rfl,om,h_o.up om,h_text.up om,rfl⟩
instance:GoS Zad where
 sz:=fun x=>szL x.text+szL x.list
 up:=by
  rintro M N w cs x fp ⟨v_text,v_list,f_text,f_list,rfl,h_text,h_list,rfl⟩ hs;exact⟨v_text,v_list,_,_,rfl,h_text.up om,h_list.up om,rfl⟩
theorem Kbb {M:Nat}{w:World}{u:List Value}{x:zaa}(h:RdM M w u x):∃j,u=[.int .i64 x.kind,.int .i64 x.n,j]/\zau M w j x.signs:=by
 obtain⟨fp,h⟩:=h;obtain⟨j,q,rfl,p,rfl⟩:=h;exact⟨j,rfl,⟨_,p⟩⟩
theorem ja5 {M:Nat}{w:World}{p:List Value}{x:xab}(h:RdM M w p x):∃j,p=[.int .i64 x.client,.int .i64 x.seq,j]/\zau M w j x.o:=by
 obtain⟨fp,h⟩:=h;obtain⟨j,q,rfl,n,rfl⟩:=h;exact⟨j,rfl,⟨_,n⟩⟩
theorem ybg {M:Nat}{w:World}{N:List Value}{x:Jac}(h:RdM M w N x):∃p j n,N=[.string x.name,.int .i64 x.from_,p,j,n]/\x.name.size<=M/\zau M w p x.text/\zau M w j x.list/\zau M w n x.seen:=by
 obtain⟨fp,h⟩:=h;obtain⟨p,j,n,J,D,I,rfl,B,z,q,u,rfl⟩:=h;exact⟨p,j,n,rfl,B,⟨_,z⟩,⟨_,q⟩,⟨_,u⟩⟩
theorem Kbf {M:Nat}{w:World}{z:List Value}{x:kah}(h:RdM M w z x):∃j,z=[.int .i64 x.id,.string x.doc,.int .i64 x.r.cap,.int .i64 x.r.next,.bool x.r.out,j]/\x.doc.size<=M/\zau M w j x.r.list:=by
 obtain⟨fp,h⟩:=h;obtain⟨B,D,rfl,p,u,rfl⟩:=h;obtain⟨j,q,rfl,n,rfl⟩:=u;exact⟨j,rfl,p,⟨_,n⟩⟩
theorem Xbh {M:Nat}{w:World}{B:List Value}{x:vaf}(h:RdM M w B x):∃j n,B=[.bool x.shut,j,n,.int .i64 x.last]/\zau M w j x.docs/\zau M w n x.subs:=by
 obtain⟨fp,h⟩:=h;obtain⟨j,n,u,z,rfl,p,q,rfl⟩:=h;exact⟨j,n,rfl,⟨_,p⟩,⟨_,q⟩⟩
theorem jbb {M:Nat}{w:World}{D:List Value}{x:xah}(h:RdM M w D x):∃q j,D=[.int .i64 x.kind,.string x.doc,.int .i64 x.client,.int .i64 x.seq,.int .i64 x.n,q,j]/\x.doc.size<=M/\zau M w q x.o/\zau M w j x.text:=by
 obtain⟨fp,h⟩:=h;obtain⟨q,j,I,z,rfl,u,B,p,rfl⟩:=h;exact⟨q,j,rfl,u,⟨_,B⟩,⟨_,p⟩⟩
theorem uaq (v:Value)(l:List Int)(w:World)(left:Int)(j:0<=left)(n:left<=1048576)(h:zau maxLen w v l):
 Calls Tryz.prog 77 #[v,left] w (uac w (.int .i64 (less left (szL l)))):=by
 obtain⟨fp,h⟩:=h;rw[qaw];exact xbj maxLen v l fp w left j n h
theorem Ka8 (x:zaa)(p:Value)(w:World)(left:Int)(M:0<=left)(N:left<=1048576)(j:zau maxLen w p x.signs):
 Calls Tryz.prog 102 #[.agg #[x.kind,x.n,p],left] w (uac w (.int .i64 (less left (GoS.sz x)))):=by
 have E:GoS.sz x=szL x.signs:=rfl;by_cases c0:((szL x.signs:Nat):Int)<=left
 ·rw[xad (show((GoS.sz x:Nat):Int)<=left by rw[E];omega)]
  have I:left-(GoS.sz x:Int)=left-((szL x.signs:Nat):Int):=by rw[E]<;>omega
  rw[I];clear I E;go_enter Tryz.func102,Tryz.ntmps102
  go_wp2_with fail
  refine(uaq _ _ _ _ om om (j.below blw)).mono ?_;rintro e u ⟨rfl,q⟩;rw[xad om];have J:w+1<=u.heap.size:=szl q;obtain⟨B,D⟩:=kab q;have z:w<u.heap.size:=om;go_wp2;go_ret;exact⟨Xab (by first|rfl|omega),blw⟩
 ·rw[Xac (show ¬((GoS.sz x:Nat):Int)<=left by rw[E];omega)];clear E
  go_enter Tryz.func102,Tryz.ntmps102
  go_wp2_with fail
  refine(uaq _ _ _ _ om om (j.below blw)).mono ?_;rintro e u ⟨rfl,q⟩;rw[Xac om];have J:w+1<=u.heap.size:=szl q;obtain⟨B,D⟩:=kab q;have z:w<u.heap.size:=om;go_wp2;go_ret;exact⟨Xab (by first|rfl|omega),blw⟩
theorem qaz (v:Value)(l:List zaa)(w:World)(left:Int)(g0:0<=left)(g1:left<=1048576)(h:zau maxLen w v l):
 Calls Tryz.prog 41 #[v,left] w (uac w (.int .i64 (less left (szL l)))):=by
 have hl:=fun w1 ty=>h.len Tryz.underlying52 w1 ty
 have hb:=h.le;have E:=hH (show szL l=l.length+szs l from rfl);by_cases Z:(l.length:Int)<=left
 ·go_enter Tryz.func41,Tryz.ntmps41
  go_wp2;go_loopw [1,5] (fun c i wr=>∃k:Nat,k<=l.length/\i= .int .i64 k/\((szs (l.take k):Nat):Int)<=left-l.length/\c= .int .i64 (left-l.length-szs (l.take k))/\Below w w wr) (fun _ i _=>l.length-(intOf i).toNat)
  case atStart=>exact⟨0,lz _,rfl,by simp[szs];omega,by simp[szs],lf _ _⟩
  case round=>
   obtain⟨k,hk,rfl,Y,rfl,j⟩:=hrel;by_cases D:k<l.length
   ·obtain⟨x,M⟩:=jaa D;have I:=kao M;have a0:=uat l (k+1);obtain⟨b1,o1,cs,h1,B,U⟩:=(h.below j).idx Tryz.underlying52 Xa0 k M;obtain⟨z,rfl,n⟩:=Kbb U;have q0:=B.zero;have q1:=B 1 _ rfl;have q2:=B 2 _ rfl;have R:=hH I;clear M;by_cases u:((GoS.sz x:Nat):Int)<=left-l.length-szs (l.take k)
    ·have J:((szs (l.take (k+1)):Nat):Int)<=left-l.length:=om;clear I;go_wp2_with fail
     refine(Ka8 x _ _ _ om om n).mono ?_;rintro e N ⟨rfl,p⟩;rw[xad u];have q:Hid (Below w w N):=j.trans (p.mono j.size);clear p j;go_wp2;go_roundw
     case rel=>exact⟨k+1,by omega,by go_num,J,by rw[R.out];go_num,q.out⟩
     case measure=>simp[intOf];omega
    ·have Q:Hid (less left (szL l)= -1):=Xac (by rw[E.out];omega)
     clear I;go_wp2_with fail
     refine(Ka8 x _ _ _ om om n).mono ?_;rintro e N ⟨rfl,p⟩;rw[Xac om];have q:Hid (Below w w N):=j.trans (p.mono j.size);clear p j;go_wp2;go_ret;exact⟨Xab Q.out.symm,q.out⟩
   ·obtain rfl:k=l.length:=om;go_wp2;go_ret;rw[List.take_length]at Y;exact⟨Xab (by rw[xad (by rw[E.out];omega),E.out,List.take_length];omega),j⟩
 ·rw[Xac (by rw[E.out];omega)]
  go_enter Tryz.func41,Tryz.ntmps41
  go_wp2;go_ret;exact⟨rfl,lf _ _⟩
theorem xa1 (x:xab)(p:Value)(w:World)(left:Int)(J:0<=left)(M:left<=1048576)(n:zau maxLen w p x.o):
 Calls Tryz.prog 226 #[.agg #[x.client,x.seq,p],left] w (uac w (.int .i64 (less left (GoS.sz x)))):=by
 have E:GoS.sz x=szL x.o:=rfl;by_cases c0:((szL x.o:Nat):Int)<=left
 ·rw[xad (show((GoS.sz x:Nat):Int)<=left by rw[E];omega)]
  have D:left-(GoS.sz x:Int)=left-((szL x.o:Nat):Int):=by rw[E]<;>omega
  rw[D];clear D E;go_enter Tryz.func226,Tryz.ntmps226
  go_wp2_with fail
  refine(qaz _ _ _ _ om om (n.below blw)).mono ?_;rintro e q ⟨rfl,j⟩;rw[xad om];have I:w+1<=q.heap.size:=szl j;obtain⟨z,B⟩:=kab j;have u:w<q.heap.size:=om;go_wp2;go_ret;exact⟨Xab (by first|rfl|omega),blw⟩
 ·rw[Xac (show ¬((GoS.sz x:Nat):Int)<=left by rw[E];omega)];clear E
  go_enter Tryz.func226,Tryz.ntmps226
  go_wp2_with fail
  refine(qaz _ _ _ _ om om (n.below blw)).mono ?_;rintro e q ⟨rfl,j⟩;rw[Xac om];have I:w+1<=q.heap.size:=szl j;obtain⟨z,B⟩:=kab j;have u:w<q.heap.size:=om;go_wp2;go_ret;exact⟨Xab (by first|rfl|omega),blw⟩
theorem yav (v:Value)(l:List xab)(w:World)(left:Int)(g0:0<=left)(g1:left<=1048576)(h:zau maxLen w v l):
 Calls Tryz.prog 194 #[v,left] w (uac w (.int .i64 (less left (szL l)))):=by
 have hl:=fun w1 ty=>h.len Tryz.underlying174 w1 ty
 have hb:=h.le;have E:=hH (show szL l=l.length+szs l from rfl);by_cases Y:(l.length:Int)<=left
 ·go_enter Tryz.func194,Tryz.ntmps194
  go_wp2;go_loopw [1,5] (fun c i wr=>∃k:Nat,k<=l.length/\i= .int .i64 k/\((szs (l.take k):Nat):Int)<=left-l.length/\c= .int .i64 (left-l.length-szs (l.take k))/\Below w w wr) (fun _ i _=>l.length-(intOf i).toNat)
  case atStart=>exact⟨0,lz _,rfl,by simp[szs];omega,by simp[szs],lf _ _⟩
  case round=>
   obtain⟨k,hk,rfl,U,rfl,j⟩:=hrel;by_cases B:k<l.length
   ·obtain⟨x,J⟩:=jaa B;have D:=kao J;have Z:=uat l (k+1);obtain⟨b1,o1,cs,h1,z,R⟩:=(h.below j).idx Tryz.underlying174 KaS k J;obtain⟨a0,rfl,u⟩:=ja5 R;have q0:=z.zero;have q1:=z 1 _ rfl;have q2:=z 2 _ rfl;have Q:=hH D;clear J;by_cases q:((GoS.sz x:Nat):Int)<=left-l.length-szs (l.take k)
    ·have I:((szs (l.take (k+1)):Nat):Int)<=left-l.length:=om;clear D;go_wp2_with fail
     refine(xa1 x _ _ _ om om u).mono ?_;rintro e M ⟨rfl,n⟩;rw[xad q];have p:Hid (Below w w M):=j.trans (n.mono j.size);clear n j;go_wp2;go_roundw
     case rel=>exact⟨k+1,by omega,by go_num,I,by rw[Q.out];go_num,p.out⟩
     case measure=>simp[intOf];omega
    ·have N:Hid (less left (szL l)= -1):=Xac (by rw[E.out];omega)
     clear D;go_wp2_with fail
     refine(xa1 x _ _ _ om om u).mono ?_;rintro e M ⟨rfl,n⟩;rw[Xac om];have p:Hid (Below w w M):=j.trans (n.mono j.size);clear n j;go_wp2;go_ret;exact⟨Xab N.out.symm,p.out⟩
   ·obtain rfl:k=l.length:=om;go_wp2;go_ret;rw[List.take_length]at U;exact⟨Xab (by rw[xad (by rw[E.out];omega),E.out,List.take_length];omega),j⟩
 ·rw[Xac (by rw[E.out];omega)]
  go_enter Tryz.func194,Tryz.ntmps194
  go_wp2;go_ret;exact⟨rfl,lf _ _⟩
theorem xa0 (v:Value)(l:List Zab)(w:World)(left:Int)(q:0<=left)(u:left<=1048576)(h:zau maxLen w v l):
 Calls Tryz.prog 195 #[v,left] w (uac w (.int .i64 (less left (szL l)))):=by
 have z:=fun p ty=>h.len Tryz.underlying175 p ty
 have hb:=h.le;have E:szL l=l.length:=by
  have:∀(m:List Zab),szs m=0:=fun m=>by
   induction m with
   |nil=>rfl
   |cons x B n=>simp[szs,n,GoS.sz]
  simp[szL,this]
 rw[E];clear E;by_cases j:(l.length:Int)<=left
 ·rw[xad j];go_enter Tryz.func195,Tryz.ntmps195
  go_wp2;go_ret;exact⟨rfl,lf _ _⟩
 ·rw[Xac j];go_enter Tryz.func195,Tryz.ntmps195
  go_wp2;go_ret;exact⟨rfl,lf _ _⟩
theorem jbf (x:Jac)(D:Value)(z:Value)(B:Value)(w:World)(left:Int)(g0:0<=left)(g1:left<=1048576)(Q:x.name.size<=maxLen)(j:zau maxLen w D x.text)(p:zau maxLen w z x.list)(u:zau maxLen w B x.seen):
 Calls Tryz.prog 142 #[.agg #[x.name,x.from_,D,z,B],left] w (uac w (.int .i64 (less left (GoS.sz x)))):=by
 have E:GoS.sz x=x.name.size+szL x.text+szL x.list+szL x.seen:=rfl;unfold maxLen at Q;by_cases c0:((x.name.size:Nat):Int)<=left
 ·by_cases c1:((szL x.text:Nat):Int)<=left-((x.name.size:Nat):Int)
  ·by_cases c2:((szL x.list:Nat):Int)<=left-((x.name.size:Nat):Int)-((szL x.text:Nat):Int)
   ·by_cases c3:((szL x.seen:Nat):Int)<=left-((x.name.size:Nat):Int)-((szL x.text:Nat):Int)-((szL x.list:Nat):Int)
    ·rw[xad (show((GoS.sz x:Nat):Int)<=left by rw[E];omega)]
     have E2:left-(GoS.sz x:Int)=left-((x.name.size:Nat):Int)-((szL x.text:Nat):Int)-((szL x.list:Nat):Int)-((szL x.seen:Nat):Int):=by rw[E]<;>omega
     rw[E2];clear E2 E;go_enter Tryz.func142,Tryz.ntmps142
     go_wp2_with fail
     refine(uaq _ _ _ _ om om (j.below blw)).mono ?_;rintro e I ⟨rfl,n⟩;rw[xad om];have s1:w+1<=I.heap.size:=szl n;obtain⟨U,Y⟩:=kab n;have M:w<I.heap.size:=om;go_wp2_with fail
     refine(yav _ _ _ _ om om (p.below blw)).mono ?_;rintro e N ⟨rfl,q⟩;rw[xad om];have s2:I<=N.heap.size:=szl q;obtain⟨Z,a0⟩:=kab q;have R:w<N.heap.size:=om;go_wp2_with fail
     refine(xa0 _ _ _ _ om om (u.below blw)).mono ?_;rintro e w3 ⟨rfl,J⟩;rw[xad om];have s3:N<=w3.heap.size:=szl J;obtain⟨hc3,hf3⟩:=kab J;have z3_0:w<w3.heap.size:=om;go_wp2;go_ret;exact⟨Xab (by first|rfl|omega),blw⟩
    ·rw[Xac (show ¬((GoS.sz x:Nat):Int)<=left by rw[E];omega)];clear E
     go_enter Tryz.func142,Tryz.ntmps142
     go_wp2_with fail
     refine(uaq _ _ _ _ om om (j.below blw)).mono ?_;rintro e I ⟨rfl,n⟩;rw[xad om];have s1:w+1<=I.heap.size:=szl n;obtain⟨U,Y⟩:=kab n;have M:w<I.heap.size:=om;go_wp2_with fail
     refine(yav _ _ _ _ om om (p.below blw)).mono ?_;rintro e N ⟨rfl,q⟩;rw[xad om];have s2:I<=N.heap.size:=szl q;obtain⟨Z,a0⟩:=kab q;have R:w<N.heap.size:=om;go_wp2_with fail
     refine(xa0 _ _ _ _ om om (u.below blw)).mono ?_;rintro e w3 ⟨rfl,J⟩;rw[Xac om];have s3:N<=w3.heap.size:=szl J;obtain⟨hc3,hf3⟩:=kab J;have z3_0:w<w3.heap.size:=om;go_wp2;go_ret;exact⟨Xab (by first|rfl|omega),blw⟩
   ·rw[Xac (show ¬((GoS.sz x:Nat):Int)<=left by rw[E];omega)];clear E
    go_enter Tryz.func142,Tryz.ntmps142
    go_wp2_with fail
    refine(uaq _ _ _ _ om om (j.below blw)).mono ?_;rintro e I ⟨rfl,n⟩;rw[xad om];have s1:w+1<=I.heap.size:=szl n;obtain⟨U,Y⟩:=kab n;have M:w<I.heap.size:=om;go_wp2_with fail
    refine(yav _ _ _ _ om om (p.below blw)).mono ?_;rintro e N ⟨rfl,q⟩;rw[Xac om];have s2:I<=N.heap.size:=szl q;obtain⟨Z,a0⟩:=kab q;have R:w<N.heap.size:=om;go_wp2;go_ret;exact⟨Xab (by first|rfl|omega),blw⟩
  ·rw[Xac (show ¬((GoS.sz x:Nat):Int)<=left by rw[E];omega)];clear E
   go_enter Tryz.func142,Tryz.ntmps142
   go_wp2_with fail
   refine(uaq _ _ _ _ om om (j.below blw)).mono ?_;rintro e I ⟨rfl,n⟩;rw[Xac om];have s1:w+1<=I.heap.size:=szl n;obtain⟨U,Y⟩:=kab n;have M:w<I.heap.size:=om;go_wp2;go_ret;exact⟨Xab (by first|rfl|omega),blw⟩
 ·rw[Xac (show ¬((GoS.sz x:Nat):Int)<=left by rw[E];omega)];clear E
  go_enter Tryz.func142,Tryz.ntmps142
  go_wp2;go_ret;exact⟨Xab (by first|rfl|omega),blw⟩
theorem xaY (v:Value)(l:List Jac)(w:World)(left:Int)(g0:0<=left)(g1:left<=1048576)(h:zau maxLen w v l):
 Calls Tryz.prog 75 #[v,left] w (uac w (.int .i64 (less left (szL l)))):=by
 have hl:=fun w1 ty=>h.len Tryz.underlying48 w1 ty
 have hb:=h.le;have E:=hH (show szL l=l.length+szs l from rfl);by_cases hle:(l.length:Int)<=left
 ·go_enter Tryz.func75,Tryz.ntmps75
  go_wp2;go_loopw [1,5] (fun c i wr=>∃k:Nat,k<=l.length/\i= .int .i64 k/\((szs (l.take k):Nat):Int)<=left-l.length/\c= .int .i64 (left-l.length-szs (l.take k))/\Below w w wr) (fun _ i _=>l.length-(intOf i).toNat)
  case atStart=>exact⟨0,lz _,rfl,by simp[szs];omega,by simp[szs],lf _ _⟩
  case round=>
   obtain⟨k,hk,rfl,hc,rfl,j⟩:=hrel;by_cases Q:k<l.length
   ·obtain⟨x,Y⟩:=jaa Q;have R:=kao Y;have hsl:=uat l (k+1);obtain⟨b1,o1,cs,h1,D,h3⟩:=(h.below j).idx Tryz.underlying48 Xa7 k Y;obtain⟨N,J,M,rfl,n,u,p,q⟩:=ybg h3;have q0:=D.zero;have q1:=D 1 _ rfl;have q2:=D 2 _ rfl;have q3:=D 3 _ rfl;have q4:=D 4 _ rfl;have HS:=hH R;clear Y;by_cases I:((GoS.sz x:Nat):Int)<=left-l.length-szs (l.take k)
    ·have U:((szs (l.take (k+1)):Nat):Int)<=left-l.length:=om;clear R;go_wp2_with fail
     refine(jbf x _ _ _ _ _ om om n u p q).mono ?_;rintro e Z ⟨rfl,z⟩;rw[xad I];have B:Hid (Below w w Z):=j.trans (z.mono j.size);clear z j;go_wp2;go_roundw
     case rel=>exact⟨k+1,by omega,by go_num,U,by rw[HS.out];go_num,B.out⟩
     case measure=>simp[intOf];omega
    ·have HN:Hid (less left (szL l)= -1):=Xac (by rw[E.out];omega)
     clear R;go_wp2_with fail
     refine(jbf x _ _ _ _ _ om om n u p q).mono ?_;rintro e Z ⟨rfl,z⟩;rw[Xac om];have B:Hid (Below w w Z):=j.trans (z.mono j.size);clear z j;go_wp2;go_ret;exact⟨Xab HN.out.symm,B.out⟩
   ·obtain rfl:k=l.length:=om;go_wp2;go_ret;rw[List.take_length]at hc;exact⟨Xab (by rw[xad (by rw[E.out];omega),E.out,List.take_length];omega),j⟩
 ·rw[Xac (by rw[E.out];omega)]
  go_enter Tryz.func75,Tryz.ntmps75
  go_wp2;go_ret;exact⟨rfl,lf _ _⟩
theorem Ja9 (x:kac)(n:Value)(w:World)(left:Int)(J:0<=left)(M:left<=1048576)(j:zau maxLen w n x.list):
 Calls Tryz.prog 196 #[.agg #[x.cap,x.next,x.out,n],left] w (uac w (.int .i64 (less left (GoS.sz x)))):=by
 have E:GoS.sz x=szL x.list:=rfl;by_cases c0:((szL x.list:Nat):Int)<=left
 ·rw[xad (show((GoS.sz x:Nat):Int)<=left by rw[E];omega)]
  have D:left-(GoS.sz x:Int)=left-((szL x.list:Nat):Int):=by rw[E]<;>omega
  rw[D];clear D E;go_enter Tryz.func196,Tryz.ntmps196
  go_wp2_with fail
  refine(yav _ _ _ _ om om (j.below blw)).mono ?_;rintro e q ⟨rfl,p⟩;rw[xad om];have I:w+1<=q.heap.size:=szl p;obtain⟨z,B⟩:=kab p;have u:w<q.heap.size:=om;go_wp2;go_ret;exact⟨Xab (by first|rfl|omega),blw⟩
 ·rw[Xac (show ¬((GoS.sz x:Nat):Int)<=left by rw[E];omega)];clear E
  go_enter Tryz.func196,Tryz.ntmps196
  go_wp2_with fail
  refine(yav _ _ _ _ om om (j.below blw)).mono ?_;rintro e q ⟨rfl,p⟩;rw[Xac om];have I:w+1<=q.heap.size:=szl p;obtain⟨z,B⟩:=kab p;have u:w<q.heap.size:=om;go_wp2;go_ret;exact⟨Xab (by first|rfl|omega),blw⟩
theorem kbh (x:kah)(n:Value)(w:World)(left:Int)(M:0<=left)(N:left<=1048576)(q:x.doc.size<=maxLen)(j:zau maxLen w n x.r.list):
 Calls Tryz.prog 143 #[.agg #[x.id,x.doc,x.r.cap,x.r.next,x.r.out,n],left] w (uac w (.int .i64 (less left (GoS.sz x)))):=by
 have E:GoS.sz x=x.doc.size+GoS.sz x.r:=rfl;unfold maxLen at q;by_cases c0:((x.doc.size:Nat):Int)<=left
 ·by_cases c1:((GoS.sz x.r:Nat):Int)<=left-((x.doc.size:Nat):Int)
  ·rw[xad (show((GoS.sz x:Nat):Int)<=left by rw[E];omega)]
   have I:left-(GoS.sz x:Int)=left-((x.doc.size:Nat):Int)-((GoS.sz x.r:Nat):Int):=by rw[E]<;>omega
   rw[I];clear I E;go_enter Tryz.func143,Tryz.ntmps143
   go_wp2_with fail
   refine(Ja9 x.r _ _ _ om om (j.below blw)).mono ?_;rintro e u ⟨rfl,p⟩;rw[xad om];have J:w+1<=u.heap.size:=szl p;obtain⟨B,D⟩:=kab p;have z:w<u.heap.size:=om;go_wp2;go_ret;exact⟨Xab (by first|rfl|omega),blw⟩
  ·rw[Xac (show ¬((GoS.sz x:Nat):Int)<=left by rw[E];omega)];clear E
   go_enter Tryz.func143,Tryz.ntmps143
   go_wp2_with fail
   refine(Ja9 x.r _ _ _ om om (j.below blw)).mono ?_;rintro e u ⟨rfl,p⟩;rw[Xac om];have J:w+1<=u.heap.size:=szl p;obtain⟨B,D⟩:=kab p;have z:w<u.heap.size:=om;go_wp2;go_ret;exact⟨Xab (by first|rfl|omega),blw⟩
 ·rw[Xac (show ¬((GoS.sz x:Nat):Int)<=left by rw[E];omega)];clear E
  go_enter Tryz.func143,Tryz.ntmps143
  go_wp2;go_ret;exact⟨Xab (by first|rfl|omega),blw⟩
theorem Qa8 (v:Value)(l:List kah)(w:World)(left:Int)(g0:0<=left)(g1:left<=1048576)(h:zau maxLen w v l):
 Calls Tryz.prog 76 #[v,left] w (uac w (.int .i64 (less left (szL l)))):=by
 have hl:=fun w1 ty=>h.len Tryz.underlying49 w1 ty
 have hb:=h.le;have E:=hH (show szL l=l.length+szs l from rfl);by_cases a0:(l.length:Int)<=left
 ·go_enter Tryz.func76,Tryz.ntmps76
  go_wp2;go_loopw [1,5] (fun c i wr=>∃k:Nat,k<=l.length/\i= .int .i64 k/\((szs (l.take k):Nat):Int)<=left-l.length/\c= .int .i64 (left-l.length-szs (l.take k))/\Below w w wr) (fun _ i _=>l.length-(intOf i).toNat)
  case atStart=>exact⟨0,lz _,rfl,by simp[szs];omega,by simp[szs],lf _ _⟩
  case round=>
   obtain⟨k,hk,rfl,Z,rfl,n⟩:=hrel;by_cases I:k<l.length
   ·obtain⟨x,N⟩:=jaa I;have J:=kao N;have a1:=uat l (k+1);obtain⟨b1,o1,cs,h1,z,Y⟩:=(h.below n).idx Tryz.underlying49 Xa8 k N;obtain⟨B,rfl,q,j⟩:=Kbf Y;have q0:=z.zero;have q1:=z 1 _ rfl;have q2:=z 2 _ rfl;have q3:=z 3 _ rfl;have q4:=z 4 _ rfl;have q5:=z 5 _ rfl;have U:=hH J;clear N;by_cases D:((GoS.sz x:Nat):Int)<=left-l.length-szs (l.take k)
    ·have M:((szs (l.take (k+1)):Nat):Int)<=left-l.length:=om;clear J;go_wp2_with fail
     refine(kbh x _ _ _ om om q j).mono ?_;rintro e Q ⟨rfl,p⟩;rw[xad D];have u:Hid (Below w w Q):=n.trans (p.mono n.size);clear p n;go_wp2;go_roundw
     case rel=>exact⟨k+1,by omega,by go_num,M,by rw[U.out];go_num,u.out⟩
     case measure=>simp[intOf];omega
    ·have R:Hid (less left (szL l)= -1):=Xac (by rw[E.out];omega)
     clear J;go_wp2_with fail
     refine(kbh x _ _ _ om om q j).mono ?_;rintro e Q ⟨rfl,p⟩;rw[Xac om];have u:Hid (Below w w Q):=n.trans (p.mono n.size);clear p n;go_wp2;go_ret;exact⟨Xab R.out.symm,u.out⟩
   ·obtain rfl:k=l.length:=om;go_wp2;go_ret;rw[List.take_length]at Z;exact⟨Xab (by rw[xad (by rw[E.out];omega),E.out,List.take_length];omega),n⟩
 ·rw[Xac (by rw[E.out];omega)]
  go_enter Tryz.func76,Tryz.ntmps76
  go_wp2;go_ret;exact⟨rfl,lf _ _⟩
theorem ubl (x:vaf)(q:Value)(u:Value)(w:World)(left:Int)(g0:0<=left)(g1:left<=1048576)(j:zau maxLen w q x.docs)(p:zau maxLen w u x.subs):
 Calls Tryz.prog 19 #[.agg #[x.shut,q,u,x.last],left] w (uac w (.int .i64 (less left (GoS.sz x)))):=by
 have E:GoS.sz x=szL x.docs+szL x.subs:=rfl;by_cases c0:((szL x.docs:Nat):Int)<=left
 ·by_cases c1:((szL x.subs:Nat):Int)<=left-((szL x.docs:Nat):Int)
  ·rw[xad (show((GoS.sz x:Nat):Int)<=left by rw[E];omega)]
   have U:left-(GoS.sz x:Int)=left-((szL x.docs:Nat):Int)-((szL x.subs:Nat):Int):=by rw[E]<;>omega
   rw[U];clear U E;go_enter Tryz.func19,Tryz.ntmps19
   go_wp2_with fail
   refine(xaY _ _ _ _ om om (j.below blw)).mono ?_;rintro e B ⟨rfl,n⟩;rw[xad om];have Y:w+1<=B.heap.size:=szl n;obtain⟨I,J⟩:=kab n;have D:w<B.heap.size:=om;go_wp2_with fail
   refine(Qa8 _ _ _ _ om om (p.below blw)).mono ?_;rintro e M ⟨rfl,z⟩;rw[xad om];have Z:B<=M.heap.size:=szl z;obtain⟨Q,R⟩:=kab z;have N:w<M.heap.size:=om;go_wp2;go_ret;exact⟨Xab (by first|rfl|omega),blw⟩
  ·rw[Xac (show ¬((GoS.sz x:Nat):Int)<=left by rw[E];omega)];clear E
   go_enter Tryz.func19,Tryz.ntmps19
   go_wp2_with fail
   refine(xaY _ _ _ _ om om (j.below blw)).mono ?_;rintro e B ⟨rfl,n⟩;rw[xad om];have Y:w+1<=B.heap.size:=szl n;obtain⟨I,J⟩:=kab n;have D:w<B.heap.size:=om;go_wp2_with fail
   refine(Qa8 _ _ _ _ om om (p.below blw)).mono ?_;rintro e M ⟨rfl,z⟩;rw[Xac om];have Z:B<=M.heap.size:=szl z;obtain⟨Q,R⟩:=kab z;have N:w<M.heap.size:=om;go_wp2;go_ret;exact⟨Xab (by first|rfl|omega),blw⟩
 ·rw[Xac (show ¬((GoS.sz x:Nat):Int)<=left by rw[E];omega)];clear E
  go_enter Tryz.func19,Tryz.ntmps19
  go_wp2_with fail
  refine(xaY _ _ _ _ om om (j.below blw)).mono ?_;rintro e B ⟨rfl,n⟩;rw[Xac om];have Y:w+1<=B.heap.size:=szl n;obtain⟨I,J⟩:=kab n;have D:w<B.heap.size:=om;go_wp2;go_ret;exact⟨Xab (by first|rfl|omega),blw⟩
theorem qa8 (x:xah)(N:Value)(q:Value)(w:World)(left:Int)(g0:0<=left)(g1:left<=1048576)(I:x.doc.size<=maxLen)(D:zau maxLen w N x.o)(p:zau maxLen w q x.text):
 Calls Tryz.prog 20 #[.agg #[x.kind,x.doc,x.client,x.seq,x.n,N,q],left] w (uac w (.int .i64 (less left (GoS.sz x)))):=by
 have E:GoS.sz x=x.doc.size+szL x.o+szL x.text:=rfl;unfold maxLen at I;by_cases c0:((x.doc.size:Nat):Int)<=left
 ·by_cases c1:((szL x.o:Nat):Int)<=left-((x.doc.size:Nat):Int)
  ·by_cases c2:((szL x.text:Nat):Int)<=left-((x.doc.size:Nat):Int)-((szL x.o:Nat):Int)
   ·rw[xad (show((GoS.sz x:Nat):Int)<=left by rw[E];omega)]
    have Z:left-(GoS.sz x:Int)=left-((x.doc.size:Nat):Int)-((szL x.o:Nat):Int)-((szL x.text:Nat):Int):=by rw[E]<;>omega
    rw[Z];clear Z E;go_enter Tryz.func20,Tryz.ntmps20
    go_wp2_with fail
    refine(qaz _ _ _ _ om om (D.below blw)).mono ?_;rintro e z ⟨rfl,j⟩;rw[xad om];have s1:w+1<=z.heap.size:=szl j;obtain⟨J,M⟩:=kab j;have B:w<z.heap.size:=om;go_wp2_with fail
    refine(uaq _ _ _ _ om om (p.below blw)).mono ?_;rintro e Q ⟨rfl,u⟩;rw[xad om];have s2:z<=Q.heap.size:=szl u;obtain⟨U,Y⟩:=kab u;have R:w<Q.heap.size:=om;go_wp2;go_ret;exact⟨Xab (by first|rfl|omega),blw⟩
   ·rw[Xac (show ¬((GoS.sz x:Nat):Int)<=left by rw[E];omega)];clear E
    go_enter Tryz.func20,Tryz.ntmps20
    go_wp2_with fail
    refine(qaz _ _ _ _ om om (D.below blw)).mono ?_;rintro e z ⟨rfl,j⟩;rw[xad om];have s1:w+1<=z.heap.size:=szl j;obtain⟨J,M⟩:=kab j;have B:w<z.heap.size:=om;go_wp2_with fail
    refine(uaq _ _ _ _ om om (p.below blw)).mono ?_;rintro e Q ⟨rfl,u⟩;rw[Xac om];have s2:z<=Q.heap.size:=szl u;obtain⟨U,Y⟩:=kab u;have R:w<Q.heap.size:=om;go_wp2;go_ret;exact⟨Xab (by first|rfl|omega),blw⟩
  ·rw[Xac (show ¬((GoS.sz x:Nat):Int)<=left by rw[E];omega)];clear E
   go_enter Tryz.func20,Tryz.ntmps20
   go_wp2_with fail
   refine(qaz _ _ _ _ om om (D.below blw)).mono ?_;rintro e z ⟨rfl,j⟩;rw[Xac om];have s1:w+1<=z.heap.size:=szl j;obtain⟨J,M⟩:=kab j;have B:w<z.heap.size:=om;go_wp2;go_ret;exact⟨Xab (by first|rfl|omega),blw⟩
 ·rw[Xac (show ¬((GoS.sz x:Nat):Int)<=left by rw[E];omega)];clear E
  go_enter Tryz.func20,Tryz.ntmps20
  go_wp2;go_ret;exact⟨Xab (by first|rfl|omega),blw⟩
theorem Kbg (v:Value)(l:List xah)(w:World)(left:Int)(g0:0<=left)(g1:left<=1048576)(h:zau maxLen w v l):
 Calls Tryz.prog 32 #[v,left] w (uac w (.int .i64 (less left (szL l)))):=by
 have hl:=fun w1 ty=>h.len Tryz.underlying64 w1 ty
 have hb:=h.le;have E:=hH (show szL l=l.length+szs l from rfl);by_cases hle:(l.length:Int)<=left
 ·go_enter Tryz.func32,Tryz.ntmps32
  go_wp2;go_loopw [1,5] (fun c i wr=>∃k:Nat,k<=l.length/\i= .int .i64 k/\((szs (l.take k):Nat):Int)<=left-l.length/\c= .int .i64 (left-l.length-szs (l.take k))/\Below w w wr) (fun _ i _=>l.length-(intOf i).toNat)
  case atStart=>exact⟨0,lz _,rfl,by simp[szs];omega,by simp[szs],lf _ _⟩
  case round=>
   obtain⟨k,hk,rfl,hc,rfl,j⟩:=hrel;by_cases J:k<l.length
   ·obtain⟨x,Q⟩:=jaa J;have M:=kao Q;have hsl:=uat l (k+1);obtain⟨b1,o1,cs,h1,z,Z⟩:=(h.below j).idx Tryz.underlying64 Ka2 k Q;obtain⟨v_o,I,rfl,q,D,n⟩:=jbb Z;have q0:=z.zero;have q1:=z 1 _ rfl;have q2:=z 2 _ rfl;have q3:=z 3 _ rfl;have q4:=z 4 _ rfl;have q5:=z 5 _ rfl;have q6:=z 6 _ rfl;have Y:=hH M;clear Q;by_cases B:((GoS.sz x:Nat):Int)<=left-l.length-szs (l.take k)
    ·have N:((szs (l.take (k+1)):Nat):Int)<=left-l.length:=om;clear M;go_wp2_with fail
     refine(qa8 x _ _ _ _ om om q D n).mono ?_;rintro e R ⟨rfl,p⟩;rw[xad B];have u:Hid (Below w w R):=j.trans (p.mono j.size);clear p j;go_wp2;go_roundw
     case rel=>exact⟨k+1,by omega,by go_num,N,by rw[Y.out];go_num,u.out⟩
     case measure=>simp[intOf];omega
    ·have U:Hid (less left (szL l)= -1):=Xac (by rw[E.out];omega)
     clear M;go_wp2_with fail
     refine(qa8 x _ _ _ _ om om q D n).mono ?_;rintro e R ⟨rfl,p⟩;rw[Xac om];have u:Hid (Below w w R):=j.trans (p.mono j.size);clear p j;go_wp2;go_ret;exact⟨Xab U.out.symm,u.out⟩
   ·obtain rfl:k=l.length:=om;go_wp2;go_ret;rw[List.take_length]at hc;exact⟨Xab (by rw[xad (by rw[E.out];omega),E.out,List.take_length];omega),j⟩
 ·rw[Xac (by rw[E.out];omega)]
  go_enter Tryz.func32,Tryz.ntmps32
  go_wp2;go_ret;exact⟨rfl,lf _ _⟩
theorem Xbm {α:Type}:∀{l:List α},l.length=3->∃j x1 x2,l=[j,x1,x2]
 |[j,x1,x2],_=>⟨j,x1,x2,rfl⟩
theorem xbn {α:Type}:∀{l:List α},l.length=4->∃j x1 x2 x3,l=[j,x1,x2,x3]
 |[j,x1,x2,x3],_=>⟨j,x1,x2,x3,rfl⟩
theorem Xbn {α:Type}:∀{l:List α},l.length=5->∃j x1 x2 x3 x4,l=[j,x1,x2,x3,x4]
 |[j,x1,x2,x3,x4],_=>⟨j,x1,x2,x3,x4,rfl⟩
theorem Kbn {α:Type}:∀{l:List α},l.length=6->∃j x1 x2 x3 x4 x5,l=[j,x1,x2,x3,x4,x5]
 |[j,x1,x2,x3,x4,x5],_=>⟨j,x1,x2,x3,x4,x5,rfl⟩
theorem Zbn {α:Type}:∀{l:List α},l.length=7->∃j x1 x2 x3 x4 x5 x6,l=[j,x1,x2,x3,x4,x5,x6]
 |[j,x1,x2,x3,x4,x5,x6],_=>⟨j,x1,x2,x3,x4,x5,x6,rfl⟩
theorem mapM_some {α β:Type}{f:α->Option β}:∀{l:List α} {r:List β},l.mapM f=some r->r.length=l.length/\∀(j:Nat) (x:α),l[j]? =some x->f x=r[j]?
 |[],r,h=>by
  simp at h;subst h;exact⟨rfl,fun j x n=>by simp at n⟩
 |a::l,r,h=>by
  simp only[List.mapM_cons,Option.bind_eq_bind,Option.bind_eq_some_iff,Option.pure_def,Option.some.injEq]at h;obtain⟨y,hy,z,p,rfl⟩:=h;obtain⟨q,u⟩:=mapM_some p;refine⟨by simp[q],fun j x n=> ?_⟩
  cases j with
  |zero=>simp only[List.getElem?_cons_zero,Option.some.injEq]at n⊢;subst n;exact hy
  |succ j=>simp only[List.getElem?_cons_succ]at n⊢;exact u j x n
theorem kaS {w:World}{base n:Nat}{a:Addr}{p:List Value}(h:w.cells? base a n=some p):p.length=n/\∀j,j<n->w.cell? (a.add j)=p[j]? :=by
 unfold World.cells? at h;split at h
 ·obtain⟨q,u⟩:=mapM_some h;rw[List.length_range]at q;exact⟨q,fun j z=>u j j (by rw[List.getElem?_range z])⟩
 ·cases h
def jaN (α:Type)[GoT α](P:Program)(t:TypeId):Prop:=
 ∀(H:Type) (enc:TypeId×Value->H) (w:World) (base:Nat) (held:Bool) (fuel:Nat) (cs:List Value) (x:DataW H×List MemPlace),DataW.trod enc P w base (fun _=>true) held fuel t cs=some x->∃d:α,RdM maxLen w cs d
theorem vaL {P:Program}{t:TypeId}(j:P.underlying t=some (.int .i64)):jaN Int P t:=by
 intro H enc w base held fuel p x h;obtain⟨n,rfl,_,_⟩:=DataW.trod_int j h;exact⟨n,[],rfl,rfl⟩
theorem vaO {α:Type}[GoT α]{w:World}:∀(j:List (List Value)),(∀n∈j,∃d:α,RdM maxLen w n d)->∃(l:List α) (fp:List Pos),l.length=j.length/\Els maxLen w j.flatten l fp
 |[],_=>⟨[],[],rfl,rfl,rfl⟩
 |c::j,h=>by
  obtain⟨d,f,hd⟩:=h c sm;obtain⟨l,fp,u,q⟩:=vaO j (fun n p=>h n (by simp[p]))
  exact⟨d::l,f++fp,by simp[u],c,j.flatten,f,fp,by simp,hd,q,rfl⟩
theorem yai {α:Type}[GoT α]{P:Program}{t e:TypeId}(ht:P.underlying t=some (.slice e))(hn:P.cellsOf e=GoT.n α)(ho:jaN α P e):jaN (List α) P t:=by
 intro H enc w base held fuel cs x h;rcases Go.Deep.open_slice ht h with⟨rfl,_⟩|⟨a,len,cap,m,n,D,Pl,rfl,hb,hl,hm,hmm,_,hx⟩
 ·exact⟨[],[],_,rfl,Sl.nil⟩
 ·simp only[if_true]at hmm;subst hmm;have R:=GoT.pos (α:=α);rw[hn]at hx;by_cases hc0:m=0
  ·subst hc0;obtain rfl:len=0:=om;exact⟨[],[],_,rfl,.inl ⟨_,rfl,rfl,rfl⟩⟩
  ·have U:a.spot=none:=by
    obtain⟨z,J,_⟩:=hx 0 om;obtain⟨Z,h3⟩:=kaS J;have N:=h3 0 R;rw[List.getElem?_eq_getElem om]at N;simp only[Nat.zero_mul,Addr.add,if_true]at N;unfold World.cell? at N;cases hsp:a.spot with
    |none=>rfl
    |some s=>
     rw[hsp]at N;split at N<;>simp at N
   obtain⟨b,o,sp⟩:=a;simp only at U;subst U;have M:∀i,i<m->∃z,z.length=GoT.n α/\(∀j,j<GoT.n α->w.cell? ⟨b,o+i*GoT.n α+j,none⟩=z[j]?)/\∃d:α,RdM maxLen w z d:=by
    intro i hi;obtain⟨z,J,Z⟩:=hx i hi;obtain⟨h3,N⟩:=kaS J;refine⟨z,h3,fun j Y=> ?_,ho _ _ _ _ _ _ _ _ Z⟩
    have:=N j Y;rwa[Addr.add_lit,Addr.add_lit]at this
   obtain⟨B,hcss⟩:∃B:List (List Value),B.length=m/\∀i,i<m->∃z,B[i]? =some z/\z.length=GoT.n α/\(∀j,j<GoT.n α->w.cell? ⟨b,o+i*GoT.n α+j,none⟩=z[j]?)/\∃d:α,RdM maxLen w z d:=by
    refine⟨(List.range m).map fun i=>if h:i<m then Classical.choose (M i h)else[],by simp,fun i hi=>⟨Classical.choose (M i hi),?_,Classical.choose_spec (M i hi)⟩⟩
    rw[List.getElem?_map,List.getElem?_range hi];simp[hi]
   obtain⟨hcl,a0⟩:=hcss;have a4:∀c∈B,c.length=GoT.n α:=by
    intro c hc;obtain⟨i,hi,rfl⟩:=List.getElem_of_mem hc;obtain⟨z,J,Z,_⟩:=a0 i om;rw[List.getElem?_eq_getElem hi]at J;cases J;exact Z
   have a1:∀(L:List (List Value)) (i:Nat) (c:List Value),(∀c∈L,c.length=GoT.n α)->L[i]? =some c->∀j,j<GoT.n α->L.flatten[i*GoT.n α+j]? =c[j]? :=by
    intro L;induction L with
    |nil=>intro i c _ h;simp at h
    |cons c0 L ih=>
     intro i c hL hi j Y;have h0:=hL c0 sm;cases i with
     |zero=>
      simp only[List.getElem?_cons_zero,Option.some.injEq]at hi;subst hi;rw[List.flatten_cons,Nat.zero_mul,Nat.zero_add,List.getElem?_append_left om]
     |succ i=>
      simp only[List.getElem?_cons_succ]at hi;rw[List.flatten_cons,List.getElem?_append_right (by rw[h0,Nat.add_mul];omega),h0,Nat.add_mul,Nat.one_mul]
      rw[show i*GoT.n α+GoT.n α+j-GoT.n α=i*GoT.n α+j by omega]
      exact ih i c (fun c hc=>hL c (by simp[hc])) hi j Y
   have I:∀q,q<m*GoT.n α->∃v,w.cell? ⟨b,o+q,none⟩=some v/\B.flatten[q]? =some v:=by
    intro q hq;have hi:q/GoT.n α<m:=(Nat.div_lt_iff_lt_mul R).2 hq;have Y:q % GoT.n α<GoT.n α:=Nat.mod_lt _ R;obtain⟨z,J,Z,h3,_⟩:=a0 _ hi;have hq':q/GoT.n α*GoT.n α+q % GoT.n α=q:=by rw[Nat.mul_comm];exact Nat.div_add_mod q _
    have N:=h3 _ Y;have h5:=a1 B _ z a4 J _ Y;rw[hq']at h5;rw[Nat.add_assoc,hq']at N;obtain⟨v,hv⟩:=jaa (l:=z) (k:=q % GoT.n α) om;rw[hv]at N h5;exact⟨v,N,h5⟩
   obtain⟨l,fp,hll,a3⟩:=vaO (B.take len) (fun c hc=>by
    obtain⟨i,hi,rfl⟩:=List.getElem_of_mem (List.mem_of_mem_take hc);obtain⟨z,J,_,_,N⟩:=a0 i om;rw[List.getElem?_eq_getElem hi]at J;cases J;exact N)
   have Q:l.length=len:=by rw[hll,List.length_take];omega
   refine⟨l,own b o (m*GoT.n α)++fp,_,rfl,.inr ⟨b,o,m,(B.take len).flatten,fp,by rw[Q],by omega,hm,by omega,?_,a3,?_,rfl⟩⟩
   ·intro j v Y;have a2:=(lg.1 Y).1;rw[a3.length,Q]at a2;have hjm:j<m*GoT.n α:=lq a2 (Nat.mul_le_mul_right _ hl);obtain⟨u,J,Z⟩:=I j hjm;have hpre:B.flatten=(B.take len).flatten++(B.drop len).flatten:=by rw[<-List.flatten_append,List.take_append_drop]
    rw[hpre,List.getElem?_append_left (by rw[a3.length,Q];exact a2),Y]at Z
    rw[J,<-Z]
   ·intro p hp;obtain⟨e1,e2,e3⟩:=Zaa.1 hp;obtain⟨v,J,_⟩:=I (p.2-o) om;rw[e1,show p.2=o+(p.2-o) by omega,J]
    rfl
theorem yaM:jaN zaa Tryz.prog 138:=by
 intro H enc w base held fuel cs x h;obtain⟨p,n,_,_,U,D,B⟩:=DataW.trod_struct Tryz.underlying138 h;rw[show Tryz.prog.cellsOf 138=3 by kernel_rfl]at U
 obtain⟨c0,c1,c2,rfl⟩:=Xbm U;have hxl:p.length=3:=D;have z:DataW.trod enc Tryz.prog w base (fun _=>true) held n 3 (List.take (Tryz.prog.cellsOf 3) (List.drop 0 [c0,c1,c2]))=p[0]? :=B 0 _ rfl
 obtain⟨y0,I⟩:=jaa (l:=p) (k:=0) om;rw[I,show Tryz.prog.cellsOf 3=1 by kernel_rfl]at z
 replace z:DataW.trod enc Tryz.prog w base (fun _=>true) held n 3 [c0]=some y0:=z
 have f1:DataW.trod enc Tryz.prog w base (fun _=>true) held n 3 (List.take (Tryz.prog.cellsOf 3) (List.drop 1 [c0,c1,c2]))=p[1]? :=B 1 _ rfl
 obtain⟨y1,J⟩:=jaa (l:=p) (k:=1) om;rw[J,show Tryz.prog.cellsOf 3=1 by kernel_rfl]at f1
 replace f1:DataW.trod enc Tryz.prog w base (fun _=>true) held n 3 [c1]=some y1:=f1
 have f2:DataW.trod enc Tryz.prog w base (fun _=>true) held n 31 (List.take (Tryz.prog.cellsOf 31) (List.drop 2 [c0,c1,c2]))=p[2]? :=B 2 _ rfl
 obtain⟨y2,M⟩:=jaa (l:=p) (k:=2) om;rw[M,show Tryz.prog.cellsOf 31=1 by kernel_rfl]at f2
 replace f2:DataW.trod enc Tryz.prog w base (fun _=>true) held n 31 [c2]=some y2:=f2
 obtain⟨Y,N,_,_⟩:=DataW.trod_int Tryz.underlying3 z;simp only[List.cons.injEq,and_true]at N;subst N;obtain⟨Z,Q,_,_⟩:=DataW.trod_int Tryz.underlying3 f1;simp only[List.cons.injEq,and_true]at Q;subst Q;obtain⟨d2,q,u,R,j⟩:=yai Tryz.underlying31 (by kernel_rfl) (vaL Tryz.underlying3) _ _ _ _ _ _ _ _ f2;simp only[List.cons.injEq,and_true]at R;subst R
 exact⟨⟨Y,Z,d2⟩,_,_,_,rfl,j,rfl⟩
theorem uaJ:jaN xab Tryz.prog 227:=by
 intro H enc w base held fuel cs x h;obtain⟨j,n,_,_,Q,z,u⟩:=DataW.trod_struct Tryz.underlying227 h;rw[show Tryz.prog.cellsOf 227=3 by kernel_rfl]at Q
 obtain⟨c0,c1,c2,rfl⟩:=Xbm Q;have a0:j.length=3:=z;have p:DataW.trod enc Tryz.prog w base (fun _=>true) held n 3 (List.take (Tryz.prog.cellsOf 3) (List.drop 0 [c0,c1,c2]))=j[0]? :=u 0 _ rfl
 obtain⟨y0,B⟩:=jaa (l:=j) (k:=0) om;rw[B,show Tryz.prog.cellsOf 3=1 by kernel_rfl]at p
 replace p:DataW.trod enc Tryz.prog w base (fun _=>true) held n 3 [c0]=some y0:=p
 have f1:DataW.trod enc Tryz.prog w base (fun _=>true) held n 3 (List.take (Tryz.prog.cellsOf 3) (List.drop 1 [c0,c1,c2]))=j[1]? :=u 1 _ rfl
 obtain⟨y1,D⟩:=jaa (l:=j) (k:=1) om;rw[D,show Tryz.prog.cellsOf 3=1 by kernel_rfl]at f1
 replace f1:DataW.trod enc Tryz.prog w base (fun _=>true) held n 3 [c1]=some y1:=f1
 have f2:DataW.trod enc Tryz.prog w base (fun _=>true) held n 52 (List.take (Tryz.prog.cellsOf 52) (List.drop 2 [c0,c1,c2]))=j[2]? :=u 2 _ rfl
 obtain⟨y2,I⟩:=jaa (l:=j) (k:=2) om;rw[I,show Tryz.prog.cellsOf 52=1 by kernel_rfl]at f2
 replace f2:DataW.trod enc Tryz.prog w base (fun _=>true) held n 52 [c2]=some y2:=f2
 obtain⟨R,J,_,_⟩:=DataW.trod_int Tryz.underlying3 p;simp only[List.cons.injEq,and_true]at J;subst J;obtain⟨U,M,_,_⟩:=DataW.trod_int Tryz.underlying3 f1;simp only[List.cons.injEq,and_true]at M;subst M;obtain⟨Y,Z,a1,N,q⟩:=yai Tryz.underlying52 (by kernel_rfl) yaM _ _ _ _ _ _ _ _ f2;simp only[List.cons.injEq,and_true]at N;subst N
 exact⟨⟨R,U,Y⟩,_,_,_,rfl,q,rfl⟩
theorem Xa4:jaN Zab Tryz.prog 230:=by
 intro H enc w base held fuel cs x h;obtain⟨j,n,_,_,N,u,q⟩:=DataW.trod_struct Tryz.underlying230 h;rw[show Tryz.prog.cellsOf 230=3 by kernel_rfl]at N
 obtain⟨c0,c1,c2,rfl⟩:=Xbm N;have Y:j.length=3:=u;have p:DataW.trod enc Tryz.prog w base (fun _=>true) held n 3 (List.take (Tryz.prog.cellsOf 3) (List.drop 0 [c0,c1,c2]))=j[0]? :=q 0 _ rfl
 obtain⟨y0,z⟩:=jaa (l:=j) (k:=0) om;rw[z,show Tryz.prog.cellsOf 3=1 by kernel_rfl]at p
 replace p:DataW.trod enc Tryz.prog w base (fun _=>true) held n 3 [c0]=some y0:=p
 have f1:DataW.trod enc Tryz.prog w base (fun _=>true) held n 3 (List.take (Tryz.prog.cellsOf 3) (List.drop 1 [c0,c1,c2]))=j[1]? :=q 1 _ rfl
 obtain⟨Z,B⟩:=jaa (l:=j) (k:=1) om;rw[B,show Tryz.prog.cellsOf 3=1 by kernel_rfl]at f1
 replace f1:DataW.trod enc Tryz.prog w base (fun _=>true) held n 3 [c1]=some Z:=f1
 have f2:DataW.trod enc Tryz.prog w base (fun _=>true) held n 3 (List.take (Tryz.prog.cellsOf 3) (List.drop 2 [c0,c1,c2]))=j[2]? :=q 2 _ rfl
 obtain⟨y2,D⟩:=jaa (l:=j) (k:=2) om;rw[D,show Tryz.prog.cellsOf 3=1 by kernel_rfl]at f2
 replace f2:DataW.trod enc Tryz.prog w base (fun _=>true) held n 3 [c2]=some y2:=f2
 obtain⟨Q,I,_,_⟩:=DataW.trod_int Tryz.underlying3 p;simp only[List.cons.injEq,and_true]at I;subst I;obtain⟨R,J,_,_⟩:=DataW.trod_int Tryz.underlying3 f1;simp only[List.cons.injEq,and_true]at J;subst J;obtain⟨U,M,_,_⟩:=DataW.trod_int Tryz.underlying3 f2;simp only[List.cons.injEq,and_true]at M;subst M;exact⟨⟨Q,R,U⟩,[],rfl,rfl⟩
theorem Zbb:jaN Jac Tryz.prog 177:=by
 intro H enc w base held fuel cs x h;obtain⟨j,n,_,_,hc,U,B⟩:=DataW.trod_struct Tryz.underlying177 h;rw[show Tryz.prog.cellsOf 177=5 by kernel_rfl]at hc
 obtain⟨c0,c1,c2,c3,c4,rfl⟩:=Xbn hc;have hxl:j.length=5:=U;have D:DataW.trod enc Tryz.prog w base (fun _=>true) held n 9 (List.take (Tryz.prog.cellsOf 9) (List.drop 0 [c0,c1,c2,c3,c4]))=j[0]? :=B 0 _ rfl
 obtain⟨y0,Y⟩:=jaa (l:=j) (k:=0) om;rw[Y,show Tryz.prog.cellsOf 9=1 by kernel_rfl]at D
 replace D:DataW.trod enc Tryz.prog w base (fun _=>true) held n 9 [c0]=some y0:=D
 have f1:DataW.trod enc Tryz.prog w base (fun _=>true) held n 3 (List.take (Tryz.prog.cellsOf 3) (List.drop 1 [c0,c1,c2,c3,c4]))=j[1]? :=B 1 _ rfl
 obtain⟨y1,Z⟩:=jaa (l:=j) (k:=1) om;rw[Z,show Tryz.prog.cellsOf 3=1 by kernel_rfl]at f1
 replace f1:DataW.trod enc Tryz.prog w base (fun _=>true) held n 3 [c1]=some y1:=f1
 have f2:DataW.trod enc Tryz.prog w base (fun _=>true) held n 31 (List.take (Tryz.prog.cellsOf 31) (List.drop 2 [c0,c1,c2,c3,c4]))=j[2]? :=B 2 _ rfl
 obtain⟨y2,a0⟩:=jaa (l:=j) (k:=2) om;rw[a0,show Tryz.prog.cellsOf 31=1 by kernel_rfl]at f2
 replace f2:DataW.trod enc Tryz.prog w base (fun _=>true) held n 31 [c2]=some y2:=f2
 have f3:DataW.trod enc Tryz.prog w base (fun _=>true) held n 174 (List.take (Tryz.prog.cellsOf 174) (List.drop 3 [c0,c1,c2,c3,c4]))=j[3]? :=B 3 _ rfl
 obtain⟨y3,a1⟩:=jaa (l:=j) (k:=3) om;rw[a1,show Tryz.prog.cellsOf 174=1 by kernel_rfl]at f3
 replace f3:DataW.trod enc Tryz.prog w base (fun _=>true) held n 174 [c3]=some y3:=f3
 have f4:DataW.trod enc Tryz.prog w base (fun _=>true) held n 175 (List.take (Tryz.prog.cellsOf 175) (List.drop 4 [c0,c1,c2,c3,c4]))=j[4]? :=B 4 _ rfl
 obtain⟨y4,a2⟩:=jaa (l:=j) (k:=4) om;rw[a2,show Tryz.prog.cellsOf 175=1 by kernel_rfl]at f4
 replace f4:DataW.trod enc Tryz.prog w base (fun _=>true) held n 175 [c4]=some y4:=f4
 obtain⟨d0,e0,_,z⟩:=DataW.trod_string Tryz.underlying9 D;simp only[List.cons.injEq,and_true]at e0;subst e0;obtain⟨d1,e1,_,_⟩:=DataW.trod_int Tryz.underlying3 f1;simp only[List.cons.injEq,and_true]at e1;subst e1;obtain⟨d2,M,R,e2,u⟩:=yai Tryz.underlying31 (by kernel_rfl) (vaL Tryz.underlying3) _ _ _ _ _ _ _ _ f2;simp only[List.cons.injEq,and_true]at e2;subst e2
 obtain⟨d3,I,N,e3,p⟩:=yai Tryz.underlying174 (by kernel_rfl) uaJ _ _ _ _ _ _ _ _ f3;simp only[List.cons.injEq,and_true]at e3;subst e3
 obtain⟨d4,J,Q,e4,q⟩:=yai Tryz.underlying175 (by kernel_rfl) Xa4 _ _ _ _ _ _ _ _ f4;simp only[List.cons.injEq,and_true]at e4;subst e4
 exact⟨⟨d0,d1,d2,d3,d4⟩,_,_,_,_,_,_,_,rfl,z,u,p,q,rfl⟩
theorem Qa4:jaN kac Tryz.prog 180:=by
 intro H enc w base held fuel cs x h;obtain⟨p,n,_,_,Z,D,z⟩:=DataW.trod_struct Tryz.underlying180 h;rw[show Tryz.prog.cellsOf 180=4 by kernel_rfl]at Z
 obtain⟨c0,c1,c2,c3,rfl⟩:=xbn Z;have hxl:p.length=4:=D;have q:DataW.trod enc Tryz.prog w base (fun _=>true) held n 3 (List.take (Tryz.prog.cellsOf 3) (List.drop 0 [c0,c1,c2,c3]))=p[0]? :=z 0 _ rfl
 obtain⟨y0,I⟩:=jaa (l:=p) (k:=0) om;rw[I,show Tryz.prog.cellsOf 3=1 by kernel_rfl]at q
 replace q:DataW.trod enc Tryz.prog w base (fun _=>true) held n 3 [c0]=some y0:=q
 have f1:DataW.trod enc Tryz.prog w base (fun _=>true) held n 3 (List.take (Tryz.prog.cellsOf 3) (List.drop 1 [c0,c1,c2,c3]))=p[1]? :=z 1 _ rfl
 obtain⟨y1,J⟩:=jaa (l:=p) (k:=1) om;rw[J,show Tryz.prog.cellsOf 3=1 by kernel_rfl]at f1
 replace f1:DataW.trod enc Tryz.prog w base (fun _=>true) held n 3 [c1]=some y1:=f1
 have f2:DataW.trod enc Tryz.prog w base (fun _=>true) held n 4 (List.take (Tryz.prog.cellsOf 4) (List.drop 2 [c0,c1,c2,c3]))=p[2]? :=z 2 _ rfl
 obtain⟨y2,M⟩:=jaa (l:=p) (k:=2) om;rw[M,show Tryz.prog.cellsOf 4=1 by kernel_rfl]at f2
 replace f2:DataW.trod enc Tryz.prog w base (fun _=>true) held n 4 [c2]=some y2:=f2
 have f3:DataW.trod enc Tryz.prog w base (fun _=>true) held n 174 (List.take (Tryz.prog.cellsOf 174) (List.drop 3 [c0,c1,c2,c3]))=p[3]? :=z 3 _ rfl
 obtain⟨y3,N⟩:=jaa (l:=p) (k:=3) om;rw[N,show Tryz.prog.cellsOf 174=1 by kernel_rfl]at f3
 replace f3:DataW.trod enc Tryz.prog w base (fun _=>true) held n 174 [c3]=some y3:=f3
 obtain⟨d0,Q,_,_⟩:=DataW.trod_int Tryz.underlying3 q;simp only[List.cons.injEq,and_true]at Q;subst Q;obtain⟨d1,R,_,_⟩:=DataW.trod_int Tryz.underlying3 f1;simp only[List.cons.injEq,and_true]at R;subst R;obtain⟨d2,U,_⟩:=DataW.trod_bool Tryz.underlying4 f2;simp only[List.cons.injEq,and_true]at U;subst U;obtain⟨d3,u,B,Y,j⟩:=yai Tryz.underlying174 (by kernel_rfl) uaJ _ _ _ _ _ _ _ _ f3;simp only[List.cons.injEq,and_true]at Y;subst Y
 exact⟨⟨d0,d1,d2,d3⟩,_,_,_,rfl,j,rfl⟩
theorem Zba:jaN kah Tryz.prog 182:=by
 intro H enc w base held fuel cs x h;obtain⟨p,n,_,_,Q,B,z⟩:=DataW.trod_struct Tryz.underlying182 h;rw[show Tryz.prog.cellsOf 182=6 by kernel_rfl]at Q
 obtain⟨c0,c1,c2,c3,c4,c5,rfl⟩:=Kbn Q;have a0:p.length=3:=B;have q:DataW.trod enc Tryz.prog w base (fun _=>true) held n 3 (List.take (Tryz.prog.cellsOf 3) (List.drop 0 [c0,c1,c2,c3,c4,c5]))=p[0]? :=z 0 _ rfl
 obtain⟨y0,D⟩:=jaa (l:=p) (k:=0) om;rw[D,show Tryz.prog.cellsOf 3=1 by kernel_rfl]at q
 replace q:DataW.trod enc Tryz.prog w base (fun _=>true) held n 3 [c0]=some y0:=q
 have f1:DataW.trod enc Tryz.prog w base (fun _=>true) held n 9 (List.take (Tryz.prog.cellsOf 9) (List.drop 1 [c0,c1,c2,c3,c4,c5]))=p[1]? :=z 1 _ rfl
 obtain⟨y1,I⟩:=jaa (l:=p) (k:=1) om;rw[I,show Tryz.prog.cellsOf 9=1 by kernel_rfl]at f1
 replace f1:DataW.trod enc Tryz.prog w base (fun _=>true) held n 9 [c1]=some y1:=f1
 have f2:DataW.trod enc Tryz.prog w base (fun _=>true) held n 180 (List.take (Tryz.prog.cellsOf 180) (List.drop 2 [c0,c1,c2,c3,c4,c5]))=p[2]? :=z 2 _ rfl
 obtain⟨y2,J⟩:=jaa (l:=p) (k:=2) om;rw[J,show Tryz.prog.cellsOf 180=4 by kernel_rfl]at f2
 replace f2:DataW.trod enc Tryz.prog w base (fun _=>true) held n 180 [c2,c3,c4,c5]=some y2:=f2
 obtain⟨R,M,_,_⟩:=DataW.trod_int Tryz.underlying3 q;simp only[List.cons.injEq,and_true]at M;subst M;obtain⟨U,N,_,j⟩:=DataW.trod_string Tryz.underlying9 f1;simp only[List.cons.injEq,and_true]at N;subst N;obtain⟨Y,Z,u⟩:=Qa4 _ _ _ _ _ _ _ _ f2;exact⟨⟨R,U,Y⟩,_,_,_,rfl,j,u,rfl⟩
theorem ybc:jaN vaf Tryz.prog 51:=by
 intro H enc w base held fuel cs x h;obtain⟨q,n,_,_,hc,M,D⟩:=DataW.trod_struct Tryz.underlying51 h;rw[show Tryz.prog.cellsOf 51=4 by kernel_rfl]at hc
 obtain⟨c0,c1,c2,c3,rfl⟩:=xbn hc;have hxl:q.length=4:=M;have u:DataW.trod enc Tryz.prog w base (fun _=>true) held n 4 (List.take (Tryz.prog.cellsOf 4) (List.drop 0 [c0,c1,c2,c3]))=q[0]? :=D 0 _ rfl
 obtain⟨y0,N⟩:=jaa (l:=q) (k:=0) om;rw[N,show Tryz.prog.cellsOf 4=1 by kernel_rfl]at u
 replace u:DataW.trod enc Tryz.prog w base (fun _=>true) held n 4 [c0]=some y0:=u
 have f1:DataW.trod enc Tryz.prog w base (fun _=>true) held n 48 (List.take (Tryz.prog.cellsOf 48) (List.drop 1 [c0,c1,c2,c3]))=q[1]? :=D 1 _ rfl
 obtain⟨y1,Q⟩:=jaa (l:=q) (k:=1) om;rw[Q,show Tryz.prog.cellsOf 48=1 by kernel_rfl]at f1
 replace f1:DataW.trod enc Tryz.prog w base (fun _=>true) held n 48 [c1]=some y1:=f1
 have f2:DataW.trod enc Tryz.prog w base (fun _=>true) held n 49 (List.take (Tryz.prog.cellsOf 49) (List.drop 2 [c0,c1,c2,c3]))=q[2]? :=D 2 _ rfl
 obtain⟨y2,R⟩:=jaa (l:=q) (k:=2) om;rw[R,show Tryz.prog.cellsOf 49=1 by kernel_rfl]at f2
 replace f2:DataW.trod enc Tryz.prog w base (fun _=>true) held n 49 [c2]=some y2:=f2
 have f3:DataW.trod enc Tryz.prog w base (fun _=>true) held n 3 (List.take (Tryz.prog.cellsOf 3) (List.drop 3 [c0,c1,c2,c3]))=q[3]? :=D 3 _ rfl
 obtain⟨y3,U⟩:=jaa (l:=q) (k:=3) om;rw[U,show Tryz.prog.cellsOf 3=1 by kernel_rfl]at f3
 replace f3:DataW.trod enc Tryz.prog w base (fun _=>true) held n 3 [c3]=some y3:=f3
 obtain⟨d0,Y,_⟩:=DataW.trod_bool Tryz.underlying4 u;simp only[List.cons.injEq,and_true]at Y;subst Y;obtain⟨d1,z,I,Z,j⟩:=yai Tryz.underlying48 (by kernel_rfl) Zbb _ _ _ _ _ _ _ _ f1;simp only[List.cons.injEq,and_true]at Z;subst Z
 obtain⟨d2,B,J,e2,p⟩:=yai Tryz.underlying49 (by kernel_rfl) Zba _ _ _ _ _ _ _ _ f2;simp only[List.cons.injEq,and_true]at e2;subst e2
 obtain⟨d3,e3,_,_⟩:=DataW.trod_int Tryz.underlying3 f3;simp only[List.cons.injEq,and_true]at e3;subst e3;exact⟨⟨d0,d1,d2,d3⟩,_,_,_,_,_,rfl,j,p,rfl⟩
theorem va6:jaN xah Tryz.prog 54:=by
 intro H enc w base held fuel cs x h;obtain⟨j,n,_,_,hc,J,q⟩:=DataW.trod_struct Tryz.underlying54 h;rw[show Tryz.prog.cellsOf 54=7 by kernel_rfl]at hc
 obtain⟨c0,c1,c2,c3,c4,c5,c6,rfl⟩:=Zbn hc;have hxl:j.length=7:=J;have z:DataW.trod enc Tryz.prog w base (fun _=>true) held n 3 (List.take (Tryz.prog.cellsOf 3) (List.drop 0 [c0,c1,c2,c3,c4,c5,c6]))=j[0]? :=q 0 _ rfl
 obtain⟨y0,M⟩:=jaa (l:=j) (k:=0) om;rw[M,show Tryz.prog.cellsOf 3=1 by kernel_rfl]at z
 replace z:DataW.trod enc Tryz.prog w base (fun _=>true) held n 3 [c0]=some y0:=z
 have f1:DataW.trod enc Tryz.prog w base (fun _=>true) held n 9 (List.take (Tryz.prog.cellsOf 9) (List.drop 1 [c0,c1,c2,c3,c4,c5,c6]))=j[1]? :=q 1 _ rfl
 obtain⟨y1,N⟩:=jaa (l:=j) (k:=1) om;rw[N,show Tryz.prog.cellsOf 9=1 by kernel_rfl]at f1
 replace f1:DataW.trod enc Tryz.prog w base (fun _=>true) held n 9 [c1]=some y1:=f1
 have f2:DataW.trod enc Tryz.prog w base (fun _=>true) held n 3 (List.take (Tryz.prog.cellsOf 3) (List.drop 2 [c0,c1,c2,c3,c4,c5,c6]))=j[2]? :=q 2 _ rfl
 obtain⟨y2,Q⟩:=jaa (l:=j) (k:=2) om;rw[Q,show Tryz.prog.cellsOf 3=1 by kernel_rfl]at f2
 replace f2:DataW.trod enc Tryz.prog w base (fun _=>true) held n 3 [c2]=some y2:=f2
 have f3:DataW.trod enc Tryz.prog w base (fun _=>true) held n 3 (List.take (Tryz.prog.cellsOf 3) (List.drop 3 [c0,c1,c2,c3,c4,c5,c6]))=j[3]? :=q 3 _ rfl
 obtain⟨y3,R⟩:=jaa (l:=j) (k:=3) om;rw[R,show Tryz.prog.cellsOf 3=1 by kernel_rfl]at f3
 replace f3:DataW.trod enc Tryz.prog w base (fun _=>true) held n 3 [c3]=some y3:=f3
 have f4:DataW.trod enc Tryz.prog w base (fun _=>true) held n 3 (List.take (Tryz.prog.cellsOf 3) (List.drop 4 [c0,c1,c2,c3,c4,c5,c6]))=j[4]? :=q 4 _ rfl
 obtain⟨y4,U⟩:=jaa (l:=j) (k:=4) om;rw[U,show Tryz.prog.cellsOf 3=1 by kernel_rfl]at f4
 replace f4:DataW.trod enc Tryz.prog w base (fun _=>true) held n 3 [c4]=some y4:=f4
 have f5:DataW.trod enc Tryz.prog w base (fun _=>true) held n 52 (List.take (Tryz.prog.cellsOf 52) (List.drop 5 [c0,c1,c2,c3,c4,c5,c6]))=j[5]? :=q 5 _ rfl
 obtain⟨y5,Y⟩:=jaa (l:=j) (k:=5) om;rw[Y,show Tryz.prog.cellsOf 52=1 by kernel_rfl]at f5
 replace f5:DataW.trod enc Tryz.prog w base (fun _=>true) held n 52 [c5]=some y5:=f5
 have f6:DataW.trod enc Tryz.prog w base (fun _=>true) held n 31 (List.take (Tryz.prog.cellsOf 31) (List.drop 6 [c0,c1,c2,c3,c4,c5,c6]))=j[6]? :=q 6 _ rfl
 obtain⟨y6,Z⟩:=jaa (l:=j) (k:=6) om;rw[Z,show Tryz.prog.cellsOf 31=1 by kernel_rfl]at f6
 replace f6:DataW.trod enc Tryz.prog w base (fun _=>true) held n 31 [c6]=some y6:=f6
 obtain⟨d0,e0,_,_⟩:=DataW.trod_int Tryz.underlying3 z;simp only[List.cons.injEq,and_true]at e0;subst e0;obtain⟨d1,e1,_,u⟩:=DataW.trod_string Tryz.underlying9 f1;simp only[List.cons.injEq,and_true]at e1;subst e1;obtain⟨d2,e2,_,_⟩:=DataW.trod_int Tryz.underlying3 f2;simp only[List.cons.injEq,and_true]at e2;subst e2;obtain⟨d3,e3,_,_⟩:=DataW.trod_int Tryz.underlying3 f3;simp only[List.cons.injEq,and_true]at e3;subst e3;obtain⟨d4,e4,_,_⟩:=DataW.trod_int Tryz.underlying3 f4;simp only[List.cons.injEq,and_true]at e4;subst e4;obtain⟨d5,f_o,v_o,e5,I⟩:=yai Tryz.underlying52 (by kernel_rfl) yaM _ _ _ _ _ _ _ _ f5;simp only[List.cons.injEq,and_true]at e5;subst e5
 obtain⟨d6,B,D,e6,p⟩:=yai Tryz.underlying31 (by kernel_rfl) (vaL Tryz.underlying3) _ _ _ _ _ _ _ _ f6;simp only[List.cons.injEq,and_true]at e6;subst e6
 exact⟨⟨d0,d1,d2,d3,d4,d5,d6⟩,_,_,_,_,_,rfl,u,I,p,rfl⟩
