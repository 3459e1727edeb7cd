/- What a refused call leaves (plain). -/
import Derived.Test.YtbonkabfmlajnaaGreatQrbw
set_option maxHeartbeats 4000000
set_option maxRecDepth 100000
namespace Go.Proofs.YtbonkabfmlajnaaGreat
open Go.RowKit
theorem ka1 {z:qae}{c:Jag}(h:¬(Kah z c).code=0):Kah z c=jaA (Kah z c).code:=by
 unfold Kah at h⊢;split
 ·rfl
 ·rename_i n
  rw[if_neg n]at h;split
  ·rfl
  ·rename_i p
   rw[if_neg p]at h;split
   ·rfl
   ·rename_i d hd
    simp only[hd]at h;split
    ·rename_i j;rw[if_pos j]at h;exact absurd rfl h
    ·rename_i j
     rw[if_neg j]at h;unfold Qar at h⊢;split
     ·rename_i q
      rw[if_pos q]at h;split
      ·rfl
      ·rename_i u
       rw[if_neg u]at h;split
       ·rfl
       ·rename_i B;rw[if_neg B]at h;exact absurd rfl h
     ·rfl
theorem va1 {z:qae}{c:Jag}(h:¬(Xai z c).2.code=0):Xai z c=(z,jaA (Xai z c).2.code):=by
 by_cases g:Qac z=true/\xac c=true
 rotate_left
 ·rw[xar g];rfl
 by_cases n:c.kind=3\/c.kind=4
 ·rw[Qao g n]at h⊢;exact congrArg (Prod.mk z) (ka1 h)
 by_cases j:(Xah z c).2.code=0
 ·rw[kay g n j]at h;exact absurd j h
 ·rw[ZaD g n j];rfl
theorem ya2 {z:qae}{c:Jag}(j:c.kind=3\/c.kind=4):(Xai z c).1=z:=by
 by_cases g:Qac z=true/\xac c=true
 ·rw[Qao g j]
 ·rw[xar g]
def Cd (n:Int):Prop:=0<=n/\n<=12
theorem Kba (d:Xac)(base:Int)(o:List zaa):Cd (Xaa d base o).2:=by
 unfold Xaa Cd;repeat' split
 all_goals simp
theorem Zbc (d:Xac)(client seq base:Int)(o:List zaa):Cd (Jae d client seq base o).2.2:=by
 have:=Kba d base o;unfold Jae;repeat' split
 all_goals first|exact this|simp[Cd]
theorem kbb (z:qae)(c:Jag):Cd (Kah z c).code:=by
 unfold Kah Qar jaA;repeat' split
 all_goals simp[Cd]
theorem ja2 (r:vac)(n:Int):Cd (xad r n).2.2:=by
 unfold xad;repeat' split
 all_goals simp[Cd]
theorem Qa4 (z:qae)(c:Jag):Cd (Xah z c).2.code:=by
 unfold Xah;repeat' split
 ·show Cd (kag z _ _).2;unfold kag;repeat' split
  all_goals simp[Cd]
 ·show Cd (Kac z _ _ _ _ _).2.2;unfold Kac;repeat' split
  all_goals first|exact Zbc _ _ _ _ _|simp[Cd]
 ·show Cd (yac z _ _).2.2;unfold yac;repeat' split
  all_goals simp[Cd]
 ·show Cd (qah z _ _).2.2;unfold qah;repeat' split
  all_goals first|exact ja2 _ _|simp[Cd]
 ·show Cd (kae z _).2.2.2;unfold kae;repeat' split
  all_goals simp[Cd]
 ·show Cd (xan z).2;unfold xan;repeat' split
  all_goals simp[Cd]
theorem Ja9 (z:qae)(c:Jag):Cd (Xai z c).2.code:=by
 unfold Xai;repeat' split
 ·exact kbb z c
 ·exact Qa4 z c
 ·exact Qa4 z c
 ·simp[Cd,jaA]
theorem ja8 {z:qae}{c:Jag}:¬(Xah z c).2.code=0->(Xah z c).2=jaA (Xah z c).2.code:=by
 unfold Xah jaA;split
 ·intro _;rfl
 split
 ·have h:¬(Kac z c.doc c.client c.seq c.n c.o).2.2=0->(Kac z c.doc c.client c.seq c.n c.o).2.1=0:=by
   unfold Kac;repeat' split
   all_goals simp
  intro j;simp only at j;rw[h j]
 split
 ·have h:¬(yac z c.doc c.n).2.2=0->(yac z c.doc c.n).2.1=0:=by
   unfold yac;repeat' split
   all_goals simp
  intro j;simp only at j;rw[h j]
 split
 ·have h:¬(qah z c.client c.n).2.2=0->(qah z c.client c.n).2.1=[]:=by
   unfold qah;repeat' split
   all_goals simp
  intro j;simp only at j;rw[h j]
 split
 ·have h:¬(kae z c.client).2.2.2=0->(kae z c.client).2.2.1=0/\(kae z c.client).2.1=[]:=by
   unfold kae;repeat' split
   all_goals simp
  intro j;simp only at j;rw[(h j).1,(h j).2]
 ·intro _;rfl
theorem Za7 {z:qae}{c:Jag}(h:Qac z=true/\xac c=true)(n:¬(c.kind=3\/c.kind=4)):(Xai z c).2=(Xah z c).2/\((Xai z c).2.code=0->(Xai z c).1=(Xah z c).1):=by
 by_cases j:(Xah z c).2.code=0
 ·rw[kay h n j];exact⟨rfl,fun _=>rfl⟩
 ·rw[ZaD h n j];exact⟨(ja8 j).symm,fun e=>absurd e j⟩
end Go.Proofs.YtbonkabfmlajnaaGreat
namespace Go.Proofs.YtbonkabfmlajnaaGreat
open Go.RowKit
theorem jaW {M:Nat}{w:World}:∀{l:List zah} {j:List Value} {fp:List Pos},Els M w j l fp->Els BIG w j l fp
 |[],_,_,h=>h
 |_::_,_,_,⟨c1,c2,f1,f2,q,n,p,u⟩=>⟨c1,c2,f1,f2,q,n,jaW p,u⟩
theorem vbe {w:World}{vb:Value}{bs:List zah}(D:Ka8 maxLen w vb bs)(j:bs.length<=1048576):RdS w vb bs:=by
 obtain⟨f,h⟩:=D;rcases h with h|⟨b,o,cap,n,fs,rfl,p,q,I,u,z,B,rfl⟩
 ·exact⟨f,.inl h⟩
 ·exact⟨_,.inr ⟨b,o,cap,n,fs,rfl,p,q,Xab om,u,jaW z,B,rfl⟩⟩
structure Kbe (w:World)(bh:Nat)(vl:Value)(l:List Jag)(wr:World)(z:qae)(vd vs:Value):Prop where
 be:Below w w wr
 lb:w.heap.size<=bh
 x3:Bx wr bh [z.shut,vd,vs,z.last]
 ok:Qac z=true
 hdh:DH (· ≠bh) wr z vd vs
 ll:RdG (bh+1) wr vl l
section
variable {w wr w':World} {bh:Nat} {vl vd vs:Value} {l:List Jag} {z:qae}
theorem Kbe.below (h:Kbe w bh vl l wr z vd vs)(hb:Below wr wr w'):Kbe w bh vl l w' z vd vs:=
 ⟨h.be.trans (hb.mono h.be.size),h.lb,h.x3.at hb,h.ok,h.hdh.below hb,h.ll.below hb⟩
theorem Kbe.put (h:Kbe w bh vl l wr z vd vs){y:qae}{n q:Value}{Q:Nat->Prop}(hy:Qac y=true)(hd:DH Q wr y n q)(I:∀k,Q k->k≠bh):Kbe w bh vl l ((((wr.setCell ⟨bh,0,none⟩ y.shut).setCell ⟨bh,1,none⟩ n).setCell ⟨bh,2,none⟩ q).setCell ⟨bh,3,none⟩ y.last) y n q:=by
 have D:=h.lb;have B:Wr [(bh,0),(bh,1),(bh,2),(bh,3)] wr ((((wr.setCell ⟨bh,0,none⟩ y.shut).setCell ⟨bh,1,none⟩ n).setCell ⟨bh,2,none⟩ q).setCell ⟨bh,3,none⟩ y.last):=((((Wr.refl _ wr).put (b:=bh) (o:=0) sm _).put (b:=bh) (o:=1) sm _).put (b:=bh) (o:=2) sm _).put (b:=bh) (o:=3) sm _;have u:∀p∈[(bh,0),(bh,1),(bh,2),(bh,3)],p.1=bh:=fun p j=>by simp only[List.mem_cons,List.not_mem_nil,or_false]at j;rcases j with rfl|rfl|rfl|rfl<;>rfl
 exact⟨h.be.trans (B.below h.be.size fun p j=>by have:=u p j;omega),D,(((h.x3.set 0 _).set 1 _).set 2 _).set 3 _,hy,(hd.imp I).set4 fun h=>h rfl,h.ll.wr B fun p j=>by have:=u p j;omega⟩
end
structure ubh (C b5 b6 b7:Nat)(wr:World)(c:Jag)(vo vt:Value)(y:qae)(vd vs:Value)(a:Kal)(at_ al:Value):Prop where
 x5:Bx wr b5 [c.kind,c.doc,c.client,c.seq,c.n,vo,vt]
 x6:Bx wr b6 [y.shut,vd,vs,y.last]
 x7:Bx wr b7 [a.code,a.rev,at_,al]
 ro:RdS wr vo c.o
 rt:RdS wr vt c.text
 hdh:DH (C≤ ·) wr y vd vs
 ru:RdS wr at_ a.text
 rl:RdS wr al a.list
theorem ubh.below {C n p q:Nat}{wr D:World}{c:Jag}{z B u vs at_ j:Value}{y:qae}{a:Kal}(h:ubh C n p q wr c z B y u vs a at_ j)(hb:Below wr wr D):ubh C n p q D c z B y u vs a at_ j:=
 ⟨h.x5.at hb,h.x6.at hb,h.x7.at hb,h.ro.below hb,h.rt.below hb,h.hdh.below hb,h.ru.below hb,h.rl.below hb⟩
theorem RdS.isSl3 {α:Type}[GoT α]{w:World}{v:Value}{l:List α}(h:RdS w v l):∃a n c,v= .slice a n c:=let⟨a,c,e⟩:=h.isSlice;⟨a,_,c,e⟩
end Go.Proofs.YtbonkabfmlajnaaGreat
namespace Go.Proofs.YtbonkabfmlajnaaGreat
open Go.RowKit
theorem va2 (J vb:Value)(a:List qac)(w:World)(q:RdS w J a)(hb:RdS w vb a):Calls Tryz.prog 75 #[J,vb] w (yae w (.bool true)):=by
 have R:=fun B ty=>q.len Tryz.underlying65 B ty
 have U:=fun B ty=>hb.len Tryz.underlying65 B ty
 have ba:=q.le;go_enter Tryz.func75,Tryz.ntmps75
 go_wp2;go_loopw [13] (fun i wr=>∃k:Nat,k<=a.length/\i= .int .i64 k/\Below w w wr) (fun i _=>a.length-(intOf i).toNat)
 case atStart=>exact⟨0,lz _,rfl,lf _ _⟩
 case round=>
  obtain⟨k,hk,rfl,j⟩:=hrel;have Y:=j.size;by_cases u:k<a.length
  ·obtain⟨x,z⟩:=Jaa u;obtain⟨D,o1,M,h1,p,Q⟩:=(q.below j).idx Tryz.underlying65 Jak k z;obtain rfl:=xam Q;obtain⟨I,o2,M,g1,n,N⟩:=(hb.below j).idx Tryz.underlying65 Jak k z;obtain rfl:=xam N;have q0:=p.zero;have q1:=p 1 _ rfl;have q2:=p 2 _ rfl;have Z:=n.zero;have p1:=n 1 _ rfl;have p2:=n 2 _ rfl;have l1:D<wr.heap.size:=lk (w:=wr) (a:=⟨D,o1,none⟩) q0;have l2:I<wr.heap.size:=lk (w:=wr) (a:=⟨I,o2,none⟩) Z;clear z;go_wp2;go_quiet (fail)
   go_wp2;go_roundw
   case rel=>exact⟨k+1,by omega,by go_num,blw⟩
   case measure=>simp[intOf];omega
  ·go_wp2;go_ret;exact⟨rfl,j⟩
theorem xaI (x:yab)(v u:Value)(w:World)(p:RdS w v x.o)(q:RdS w u x.o):Calls Tryz.prog 41 #[.agg #[x.client,x.seq,v],.agg #[x.client,x.seq,u]] w (yae w (.bool true)):=by
 have j:(x.client==x.client)=true:=by simp
 have n:(x.seq==x.seq)=true:=by simp
 go_enter Tryz.func41,Tryz.ntmps41
 go_wp2_with fail
 refine(van _ _ _ _ _ (p.below blw) (q.below blw)).mono ?_;rintro e B ⟨rfl,z⟩;rw[Jas rfl];go_wp2;go_ret;exact⟨rfl,blw⟩
theorem vax (Y vb:Value)(a:List yab)(w:World)(z:RdS w Y a)(hb:RdS w vb a):Calls Tryz.prog 40 #[Y,vb,.func (.func 41) #[] #[]] w (yae w (.bool true)):=by
 have hla:=fun I ty=>z.len Tryz.underlying34 I ty
 have hlb:=fun I ty=>hb.len Tryz.underlying34 I ty
 have ba:=z.le;go_enter Tryz.func40,Tryz.ntmps40
 go_wp2;go_loopw [17] (fun i wr=>∃k:Nat,k<=a.length/\i= .int .i64 k/\Below w w wr) (fun i _=>a.length-(intOf i).toNat)
 case atStart=>exact⟨0,lz _,rfl,lf _ _⟩
 case round=>
  obtain⟨k,hk,rfl,j⟩:=hrel;have hsz:=j.size;by_cases B:k<a.length
  ·obtain⟨x,D⟩:=Jaa B;obtain⟨N,o1,Z,h1,u,h3⟩:=(z.below j).idx Tryz.underlying34 Kab k D;obtain⟨v_o,rfl,n⟩:=qag h3;obtain⟨Q,o2,Z,g1,q,g3⟩:=(hb.below j).idx Tryz.underlying34 Kab k D;obtain⟨u_o,rfl,p⟩:=qag g3;have q0:=u.zero;have q1:=u 1 _ rfl;have q2:=u 2 _ rfl;have p0:=q.zero;have p1:=q 1 _ rfl;have p2:=q 2 _ rfl;have l1:N<wr.heap.size:=lk (w:=wr) (a:=⟨N,o1,none⟩) q0;have l2:Q<wr.heap.size:=lk (w:=wr) (a:=⟨Q,o2,none⟩) p0;obtain⟨J,R,rfl⟩:=n.isSlice;obtain⟨M,U,rfl⟩:=p.isSlice;clear D;go_wp2_with fail
   refine(xaI x _ _ _ (n.below blw) (p.below blw)).mono ?_;rintro e w2 ⟨rfl,hb2⟩;go_wp2;go_roundw
   case rel=>exact⟨k+1,by omega,by go_num,blw⟩
   case measure=>simp[intOf];omega
  ·go_wp2;go_ret;exact⟨rfl,j⟩
theorem QaP (x:Xac)(Y Q:Value)(Z R:Value)(v3 U:Value)(w:World)(n:RdS w Y x.text)(B:RdS w Q x.text)(p:RdS w Z x.list)(D:RdS w R x.list)(q:RdS w v3 x.seen)(I:RdS w U x.seen):Calls Tryz.prog 36 #[.agg #[x.name,x.from_,Y,Z,v3],.agg #[x.name,x.from_,Q,R,U]] w (yae w (.bool true)):=by
 have J:(x.name.toList==x.name.toList)=true:=Xa8 rfl;have j:(x.from_==x.from_)=true:=by simp
 go_enter Tryz.func36,Tryz.ntmps36
 go_wp2_with fail
 refine(uao _ _ _ _ _ (n.below blw) (B.below blw)).mono ?_;rintro e M ⟨rfl,u⟩;rw[Jas rfl];have s1:w+2<=M.heap.size:=szl u;obtain⟨hc1,hf1⟩:=jac u;have z1_0:w<M.heap.size:=om;have z1_1:w+1<M.heap.size:=om;go_wp2_with fail
 refine(vax _ _ _ _ (p.below blw) (D.below blw)).mono ?_;rintro e N ⟨rfl,z⟩;have s2:w+2<=N.heap.size:=szl z;obtain⟨hc2,hf2⟩:=jac z;have z2_0:w<N.heap.size:=om;have z2_1:w+1<N.heap.size:=om;go_wp2_with fail
 refine(va2 _ _ _ _ (q.below blw) (I.below blw)).mono ?_;rintro e w3 ⟨rfl,hb3⟩;go_wp2;go_ret;exact⟨rfl,blw⟩
theorem Ja6 (va vb:Value)(a:List Xac)(w:World)(ha:RdS w va a)(hb:RdS w vb a):Calls Tryz.prog 35 #[va,vb,.func (.func 36) #[] #[]] w (yae w (.bool true)):=by
 have hla:=fun w1 ty=>ha.len Tryz.underlying23 w1 ty
 have hlb:=fun w1 ty=>hb.len Tryz.underlying23 w1 ty
 have ba:=ha.le;go_enter Tryz.func35,Tryz.ntmps35
 go_wp2;go_loopw [17] (fun i wr=>∃k:Nat,k<=a.length/\i= .int .i64 k/\Below w w wr) (fun i _=>a.length-(intOf i).toNat)
 case atStart=>exact⟨0,lz _,rfl,lf _ _⟩
 case round=>
  obtain⟨k,hk,rfl,B⟩:=hrel;have hsz:=B.size;by_cases hlt:k<a.length
  ·obtain⟨x,hx⟩:=Jaa hlt;obtain⟨b1,o1,cs,h1,h2,h3⟩:=(ha.below B).idx Tryz.underlying23 uag k hx;obtain⟨v_text,v_list,v_seen,rfl,_,p,j,n⟩:=Kai h3;obtain⟨b2,o2,cs,g1,g2,g3⟩:=(hb.below B).idx Tryz.underlying23 uag k hx;obtain⟨u_text,u_list,u_seen,rfl,_,z,q,u⟩:=Kai g3;have q0:=h2.zero;have q1:=h2 1 _ rfl;have q2:=h2 2 _ rfl;have q3:=h2 3 _ rfl;have q4:=h2 4 _ rfl;have p0:=g2.zero;have p1:=g2 1 _ rfl;have p2:=g2 2 _ rfl;have p3:=g2 3 _ rfl;have p4:=g2 4 _ rfl;have l1:b1<wr.heap.size:=lk (w:=wr) (a:=⟨b1,o1,none⟩) q0;have l2:b2<wr.heap.size:=lk (w:=wr) (a:=⟨b2,o2,none⟩) p0;obtain⟨J,Y,rfl⟩:=p.isSlice;obtain⟨Q,a1,rfl⟩:=z.isSlice;obtain⟨D,R,rfl⟩:=j.isSlice;obtain⟨M,Z,rfl⟩:=q.isSlice;obtain⟨I,U,rfl⟩:=n.isSlice;obtain⟨N,a0,rfl⟩:=u.isSlice;clear hx;go_wp2_with fail
   refine(QaP x _ _ _ _ _ _ _ (p.below blw) (z.below blw) (j.below blw) (q.below blw) (n.below blw) (u.below blw)).mono ?_;rintro e w2 ⟨rfl,hb2⟩;go_wp2;go_roundw
   case rel=>exact⟨k+1,by omega,by go_num,blw⟩
   case measure=>simp[intOf];omega
  ·go_wp2;go_ret;exact⟨rfl,B⟩
theorem yaK (x:vac)(v u:Value)(w:World)(q:RdS w v x.list)(z:RdS w u x.list):Calls Tryz.prog 76 #[.agg #[x.cap,x.next,x.out,v],.agg #[x.cap,x.next,x.out,u]] w (yae w (.bool true)):=by
 have n:(x.cap==x.cap)=true:=by simp
 have j:(x.next==x.next)=true:=by simp
 have p:(x.out==x.out)=true:=by simp
 go_enter Tryz.func76,Tryz.ntmps76
 go_wp2_with fail
 refine(vax _ _ _ _ (q.below blw) (z.below blw)).mono ?_;rintro e D ⟨rfl,B⟩;go_wp2;go_ret;exact⟨rfl,blw⟩
theorem XaP (x:yai)(v u:Value)(w:World)(n:RdS w v x.r.list)(p:RdS w u x.r.list):Calls Tryz.prog 38 #[.agg #[x.id,x.doc,x.r.cap,x.r.next,x.r.out,v],.agg #[x.id,x.doc,x.r.cap,x.r.next,x.r.out,u]] w (yae w (.bool true)):=by
 have q:(x.id==x.id)=true:=by simp
 have j:(x.doc.toList==x.doc.toList)=true:=Xa8 rfl;go_enter Tryz.func38,Tryz.ntmps38
 go_wp2_with fail
 refine(yaK x.r _ _ _ (n.below blw) (p.below blw)).mono ?_;rintro e B ⟨rfl,z⟩;go_wp2;go_ret;exact⟨rfl,blw⟩
theorem Xa7 (va vb:Value)(a:List yai)(w:World)(N:RdS w va a)(hb:RdS w vb a):Calls Tryz.prog 37 #[va,vb,.func (.func 38) #[] #[]] w (yae w (.bool true)):=by
 have hla:=fun U ty=>N.len Tryz.underlying24 U ty
 have hlb:=fun U ty=>hb.len Tryz.underlying24 U ty
 have ba:=N.le;go_enter Tryz.func37,Tryz.ntmps37
 go_wp2;go_loopw [17] (fun i wr=>∃k:Nat,k<=a.length/\i= .int .i64 k/\Below w w wr) (fun i _=>a.length-(intOf i).toNat)
 case atStart=>exact⟨0,lz _,rfl,lf _ _⟩
 case round=>
  obtain⟨k,hk,rfl,p⟩:=hrel;have hsz:=p.size;by_cases Q:k<a.length
  ·obtain⟨x,R⟩:=Jaa Q;obtain⟨Y,o1,cs,h1,u,h3⟩:=(N.below p).idx Tryz.underlying24 ual k R;obtain⟨M,rfl,_,j⟩:=xap h3;obtain⟨Z,o2,cs,g1,q,g3⟩:=(hb.below p).idx Tryz.underlying24 ual k R;obtain⟨J,rfl,_,n⟩:=xap g3;have q0:=u.zero;have q1:=u 1 _ rfl;have q2:=u 2 _ rfl;have q3:=u 3 _ rfl;have q4:=u 4 _ rfl;have q5:=u 5 _ rfl;have p0:=q.zero;have p1:=q 1 _ rfl;have p2:=q 2 _ rfl;have p3:=q 3 _ rfl;have p4:=q 4 _ rfl;have p5:=q 5 _ rfl;have l1:Y<wr.heap.size:=lk (w:=wr) (a:=⟨Y,o1,none⟩) q0;have l2:Z<wr.heap.size:=lk (w:=wr) (a:=⟨Z,o2,none⟩) p0;obtain⟨z,D,rfl⟩:=j.isSlice;obtain⟨B,I,rfl⟩:=n.isSlice;clear R;go_wp2_with fail
   refine(XaP x _ _ _ (j.below blw) (n.below blw)).mono ?_;rintro e w2 ⟨rfl,hb2⟩;go_wp2;go_roundw
   case rel=>exact⟨k+1,by omega,by go_num,blw⟩
   case measure=>simp[intOf];omega
  ·go_wp2;go_ret;exact⟨rfl,p⟩
theorem xaQ (x:qae)(M I:Value)(N J:Value)(w:World)(j:RdS w M x.docs)(q:RdS w I x.docs)(n:RdS w N x.subs)(u:RdS w J x.subs):Calls Tryz.prog 12 #[.agg #[x.shut,M,N,x.last],.agg #[x.shut,I,J,x.last]] w (yae w (.bool true)):=by
 have B:(x.shut==x.shut)=true:=by simp
 have z:(x.last==x.last)=true:=by simp
 go_enter Tryz.func12,Tryz.ntmps12
 go_wp2_with fail
 refine(Ja6 _ _ _ _ (j.below blw) (q.below blw)).mono ?_;rintro e D ⟨rfl,p⟩;have s1:w+2<=D.heap.size:=szl p;obtain⟨Y,Z⟩:=jac p;have Q:w<D.heap.size:=om;have R:w+1<D.heap.size:=om;go_wp2_with fail
 refine(Xa7 _ _ _ _ (n.below blw) (u.below blw)).mono ?_;rintro e w2 ⟨rfl,U⟩;go_wp2;go_ret;exact⟨rfl,blw⟩
theorem ZaF (x:Kal)(M I:Value)(N J:Value)(w:World)(j:RdS w M x.text)(q:RdS w I x.text)(n:RdS w N x.list)(u:RdS w J x.list):Calls Tryz.prog 13 #[.agg #[x.code,x.rev,M,N],.agg #[x.code,x.rev,I,J]] w (yae w (.bool true)):=by
 have z:(x.code==x.code)=true:=by simp
 have B:(x.rev==x.rev)=true:=by simp
 go_enter Tryz.func13,Tryz.ntmps13
 go_wp2_with fail
 refine(uao _ _ _ _ _ (j.below blw) (q.below blw)).mono ?_;rintro e D ⟨rfl,p⟩;rw[Jas rfl];have s1:w+2<=D.heap.size:=szl p;obtain⟨Y,Z⟩:=jac p;have Q:w<D.heap.size:=om;have R:w+1<D.heap.size:=om;go_wp2_with fail
 refine(vax _ _ _ _ (n.below blw) (u.below blw)).mono ?_;rintro e w2 ⟨rfl,U⟩;go_wp2;go_ret;exact⟨rfl,blw⟩
