/- What a refused call leaves (plain). -/
import Derived.Test.YtbonkabfmlajnaaGreatQbw
set_option maxHeartbeats 4000000
set_option maxRecDepth 100000
namespace Go.Proofs.YtbonkabfmlajnaaGreat
open Go.RowKit
theorem Xa1 {z:kae}{c:xah}(h:¬(uah z c).code=0):uah z c=xaJ (uah z c).code:=by
 unfold uah at h⊢;split
 ·rfl
 ·rename_i n
  rw[if_neg n]at h;split
  ·rfl
  ·rename_i p
   rw[if_neg p]at h;split
   ·rfl
   ·rename_i d hd
    simp only[hd]at h;split
    ·rename_i j;rw[if_pos j]at h;exact absurd rfl h
    ·rename_i j
     rw[if_neg j]at h;unfold Kar at h⊢;split
     ·rename_i q
      rw[if_pos q]at h;split
      ·rfl
      ·rename_i u
       rw[if_neg u]at h;split
       ·rfl
       ·rename_i B;rw[if_neg B]at h;exact absurd rfl h
     ·rfl
theorem ua0 {z:kae}{c:xah}(h:¬(Zaj z c).2.code=0):Zaj z c=(z,xaJ (Zaj z c).2.code):=by
 by_cases g:uac z=true/\zac c=true
 rotate_left
 ·rw[yar g];rfl
 by_cases n:c.kind=3\/c.kind=4
 ·rw[Xao g n]at h⊢;exact congrArg (Prod.mk z) (Xa1 h)
 by_cases j:(Xap z c).2.code=0
 ·rw[JaE g n j]at h;exact absurd j h
 ·rw[qaM g n j];rfl
theorem qa3 {z:kae}{c:xah}(j:c.kind=3\/c.kind=4):(Zaj z c).1=z:=by
 by_cases g:uac z=true/\zac c=true
 ·rw[Xao g j]
 ·rw[yar g]
def Cd (n:Int):Prop:=0<=n/\n<=12
theorem ja9 (d:Qac)(base:Int)(o:List zaa):Cd (Xaa d base o).2:=by
 unfold Xaa Cd;repeat' split
 all_goals simp
theorem kbc (d:Qac)(client seq base:Int)(o:List zaa):Cd (Zae d client seq base o).2.2:=by
 have:=ja9 d base o;unfold Zae;repeat' split
 all_goals first|exact this|simp[Cd]
theorem ya9 (z:kae)(c:xah):Cd (uah z c).code:=by
 unfold uah Kar xaJ;repeat' split
 all_goals simp[Cd]
theorem ya3 (r:kac)(n:Int):Cd (Kac r n).2.2:=by
 unfold Kac;repeat' split
 all_goals simp[Cd]
theorem Xa3 (z:kae)(c:xah):Cd (Xap z c).2.code:=by
 unfold Xap;repeat' split
 ·show Cd (xag z _ _).2;unfold xag;repeat' split
  all_goals simp[Cd]
 ·show Cd (Zad z _ _ _ _ _).2.2;unfold Zad;repeat' split
  all_goals first|exact kbc _ _ _ _ _|simp[Cd]
 ·show Cd (Zac z _ _).2.2;unfold Zac;repeat' split
  all_goals simp[Cd]
 ·show Cd (Jai z _ _).2.2;unfold Jai;repeat' split
  all_goals first|exact ya3 _ _|simp[Cd]
 ·show Cd (Xaf z _).2.2.2;unfold Xaf;repeat' split
  all_goals simp[Cd]
 ·show Cd (kai z).2;unfold kai;repeat' split
  all_goals simp[Cd]
theorem xbc (z:kae)(c:xah):Cd (Zaj z c).2.code:=by
 unfold Zaj;repeat' split
 ·exact ya9 z c
 ·exact Xa3 z c
 ·exact Xa3 z c
 ·simp[Cd,xaJ]
end Go.Proofs.YtbonkabfmlajnaaGreat
namespace Go.Proofs.YtbonkabfmlajnaaGreat
open Go.RowKit
theorem Jbe {s:ByteArray}(h:¬s=⟨#[]⟩):¬s.toList=[]/\s.toList.isEmpty=false:=by
 have:=KaH h;rw[show(⟨#[]⟩:ByteArray).toList=[]from by simp]at this
 have k:¬s.toList=[]:=by simpa using this
 exact⟨k,by simpa using k⟩
theorem kaX {M:Nat}{w:World}:∀{l:List zah} {j:List Value} {fp:List Pos},Els M w j l fp->Els BIG w j l fp
 |[],_,_,h=>h
 |_::_,_,_,⟨c1,c2,f1,f2,q,n,p,u⟩=>⟨c1,c2,f1,f2,q,n,kaX p,u⟩
theorem kbe {w:World}{vb:Value}{bs:List zah}(D:Xa8 maxLen w vb bs)(j:bs.length<=1048576):RdS w vb bs:=by
 obtain⟨f,h⟩:=D;rcases h with h|⟨b,o,cap,n,fs,rfl,p,q,I,u,z,B,rfl⟩
 ·exact⟨f,.inl h⟩
 ·exact⟨_,.inr ⟨b,o,cap,n,fs,rfl,p,q,Xab om,u,kaX z,B,rfl⟩⟩
theorem zaU (n:Int)(h:Cd n)(w:World):Calls Tryz.prog 8 #[n] w (fun e q=>∃s:ByteArray,e= .returned (.string s)/\¬s=⟨#[]⟩/\Below w w q):=by
 obtain⟨B,D⟩:=h;rcases(show n=0\/n=1\/n=2\/n=3\/n=4\/n=5\/n=6\/n=7\/n=8\/n=9\/n=10\/n=11\/n=12 by omega)with rfl|rfl|rfl|rfl|rfl|rfl|rfl|rfl|rfl|rfl|rfl|rfl|rfl
 all_goals
  go_enter Tryz.func8,Tryz.ntmps8
  go_wp2_with fail
  refine(vaa _ 0 12 _).mono ?_;rintro z u ⟨rfl,hb⟩;rw[show within _ 0 12=true by decide]
  obtain⟨j,p⟩:=qac hb;have I:w<u.heap.size:=by have:=hb.size;simp at this;omega
  go_wp2;go_ret;exact⟨_,rfl,by simp,blw⟩
theorem kaU (n:Int)(h:1<=n/\n<=8)(w:World):Calls Tryz.prog 11 #[n] w (fun e q=>∃s:ByteArray,e= .returned (.string s)/\¬s=⟨#[]⟩/\Below w w q):=by
 obtain⟨B,D⟩:=h;rcases(show n=1\/n=2\/n=3\/n=4\/n=5\/n=6\/n=7\/n=8 by omega)with rfl|rfl|rfl|rfl|rfl|rfl|rfl|rfl
 all_goals
  go_enter Tryz.func11,Tryz.ntmps11
  go_wp2_with fail
  refine(vaa _ 1 8 _).mono ?_;rintro z u ⟨rfl,hb⟩;rw[show within _ 1 8=true by decide]
  obtain⟨j,p⟩:=qac hb;have I:w<u.heap.size:=by have:=hb.size;simp at this;omega
  go_wp2;go_ret;exact⟨_,rfl,by simp,blw⟩
structure Xbe (w:World)(bh:Nat)(vl:Value)(l:List xah)(wr:World)(z:kae)(vd vs:Value):Prop where
 be:Below w w wr
 lb:w.heap.size<=bh
 x3:Bx wr bh [z.shut,vd,vs,z.last]
 ok:uac z=true
 hdh:DH (· ≠bh) wr z vd vs
 ll:RdG (bh+1) wr vl l
section
variable {w wr w':World} {bh:Nat} {vl vd vs:Value} {l:List xah} {z:kae}
theorem Xbe.below (h:Xbe w bh vl l wr z vd vs)(hb:Below wr wr w'):Xbe w bh vl l w' z vd vs:=
 ⟨h.be.trans (hb.mono h.be.size),h.lb,h.x3.at hb,h.ok,h.hdh.below hb,h.ll.below hb⟩
theorem Xbe.put (h:Xbe w bh vl l wr z vd vs){y:kae}{n q:Value}{Q:Nat->Prop}(hy:uac y=true)(hd:DH Q wr y n q)(I:∀k,Q k->k≠bh):Xbe w bh vl l ((((wr.setCell ⟨bh,0,none⟩ y.shut).setCell ⟨bh,1,none⟩ n).setCell ⟨bh,2,none⟩ q).setCell ⟨bh,3,none⟩ y.last) y n q:=by
 have D:=h.lb;have B:Wr [(bh,0),(bh,1),(bh,2),(bh,3)] wr ((((wr.setCell ⟨bh,0,none⟩ y.shut).setCell ⟨bh,1,none⟩ n).setCell ⟨bh,2,none⟩ q).setCell ⟨bh,3,none⟩ y.last):=((((Wr.refl _ wr).put (b:=bh) (o:=0) sm _).put (b:=bh) (o:=1) sm _).put (b:=bh) (o:=2) sm _).put (b:=bh) (o:=3) sm _;have u:∀p∈[(bh,0),(bh,1),(bh,2),(bh,3)],p.1=bh:=fun p j=>by simp only[List.mem_cons,List.not_mem_nil,or_false]at j;rcases j with rfl|rfl|rfl|rfl<;>rfl
 exact⟨h.be.trans (B.below h.be.size fun p j=>by have:=u p j;omega),D,(((h.x3.set 0 _).set 1 _).set 2 _).set 3 _,hy,(hd.imp I).set4 fun h=>h rfl,h.ll.wr B fun p j=>by have:=u p j;omega⟩
end
structure kbh (C b5 b6 b7:Nat)(wr:World)(c:xah)(vo vt:Value)(y:kae)(vd vs:Value)(a:zaq)(at_ al:Value):Prop where
 x5:Bx wr b5 [c.kind,c.doc,c.client,c.seq,c.n,vo,vt]
 x6:Bx wr b6 [y.shut,vd,vs,y.last]
 x7:Bx wr b7 [a.code,a.rev,at_,al]
 ro:RdS wr vo c.o
 rt:RdS wr vt c.text
 hdh:DH (C≤ ·) wr y vd vs
 ru:RdS wr at_ a.text
 rl:RdS wr al a.list
theorem kbh.below {C n p q:Nat}{wr D:World}{c:xah}{z B u vs at_ j:Value}{y:kae}{a:zaq}(h:kbh C n p q wr c z B y u vs a at_ j)(hb:Below wr wr D):kbh C n p q D c z B y u vs a at_ j:=
 ⟨h.x5.at hb,h.x6.at hb,h.x7.at hb,h.ro.below hb,h.rt.below hb,h.hdh.below hb,h.ru.below hb,h.rl.below hb⟩
theorem RdS.isSl3 {α:Type}[GoT α]{w:World}{v:Value}{l:List α}(h:RdS w v l):∃a n c,v= .slice a n c:=let⟨a,c,e⟩:=h.isSlice;⟨a,_,c,e⟩
end Go.Proofs.YtbonkabfmlajnaaGreat
namespace Go.Proofs.YtbonkabfmlajnaaGreat
open Go.RowKit
theorem Xa0 (J vb:Value)(a:List xac)(w:World)(q:RdS w J a)(hb:RdS w vb a):Calls Tryz.prog 75 #[J,vb] w (yae w (.bool true)):=by
 have R:=fun B ty=>q.len Tryz.underlying65 B ty
 have U:=fun B ty=>hb.len Tryz.underlying65 B ty
 have ba:=q.le;go_enter Tryz.func75,Tryz.ntmps75
 go_wp2;go_loopw [13] (fun i wr=>∃k:Nat,k<=a.length/\i= .int .i64 k/\Below w w wr) (fun i _=>a.length-(intOf i).toNat)
 case atStart=>exact⟨0,lz _,rfl,lf _ _⟩
 case round=>
  obtain⟨k,hk,rfl,j⟩:=hrel;have Y:=j.size;by_cases u:k<a.length
  ·obtain⟨x,z⟩:=Jaa u;obtain⟨D,o1,M,h1,p,Q⟩:=(q.below j).idx Tryz.underlying65 Zak k z;obtain rfl:=zam Q;obtain⟨I,o2,M,g1,n,N⟩:=(hb.below j).idx Tryz.underlying65 Zak k z;obtain rfl:=zam N;have q0:=p.zero;have q1:=p 1 _ rfl;have q2:=p 2 _ rfl;have Z:=n.zero;have p1:=n 1 _ rfl;have p2:=n 2 _ rfl;have l1:D<wr.heap.size:=lk (w:=wr) (a:=⟨D,o1,none⟩) q0;have l2:I<wr.heap.size:=lk (w:=wr) (a:=⟨I,o2,none⟩) Z;clear z;go_wp2;go_quiet (fail)
   go_wp2;go_roundw
   case rel=>exact⟨k+1,by omega,by go_num,blw⟩
   case measure=>simp[intOf];omega
  ·go_wp2;go_ret;exact⟨rfl,j⟩
theorem qaI (x:yab)(v u:Value)(w:World)(p:RdS w v x.o)(q:RdS w u x.o):Calls Tryz.prog 41 #[.agg #[x.client,x.seq,v],.agg #[x.client,x.seq,u]] w (yae w (.bool true)):=by
 have j:(x.client==x.client)=true:=by simp
 have n:(x.seq==x.seq)=true:=by simp
 go_enter Tryz.func41,Tryz.ntmps41
 go_wp2_with fail
 refine(Xan _ _ _ _ _ (p.below blw) (q.below blw)).mono ?_;rintro e B ⟨rfl,z⟩;rw[Zas rfl];go_wp2;go_ret;exact⟨rfl,blw⟩
theorem Xax (Y vb:Value)(a:List yab)(w:World)(z:RdS w Y a)(hb:RdS w vb a):Calls Tryz.prog 40 #[Y,vb,.func (.func 41) #[] #[]] w (yae w (.bool true)):=by
 have hla:=fun I ty=>z.len Tryz.underlying34 I ty
 have hlb:=fun I ty=>hb.len Tryz.underlying34 I ty
 have ba:=z.le;go_enter Tryz.func40,Tryz.ntmps40
 go_wp2;go_loopw [17] (fun i wr=>∃k:Nat,k<=a.length/\i= .int .i64 k/\Below w w wr) (fun i _=>a.length-(intOf i).toNat)
 case atStart=>exact⟨0,lz _,rfl,lf _ _⟩
 case round=>
  obtain⟨k,hk,rfl,j⟩:=hrel;have hsz:=j.size;by_cases B:k<a.length
  ·obtain⟨x,D⟩:=Jaa B;obtain⟨N,o1,Z,h1,u,h3⟩:=(z.below j).idx Tryz.underlying34 Kab k D;obtain⟨v_o,rfl,n⟩:=jag h3;obtain⟨Q,o2,Z,g1,q,g3⟩:=(hb.below j).idx Tryz.underlying34 Kab k D;obtain⟨u_o,rfl,p⟩:=jag g3;have q0:=u.zero;have q1:=u 1 _ rfl;have q2:=u 2 _ rfl;have p0:=q.zero;have p1:=q 1 _ rfl;have p2:=q 2 _ rfl;have l1:N<wr.heap.size:=lk (w:=wr) (a:=⟨N,o1,none⟩) q0;have l2:Q<wr.heap.size:=lk (w:=wr) (a:=⟨Q,o2,none⟩) p0;obtain⟨J,R,rfl⟩:=n.isSlice;obtain⟨M,U,rfl⟩:=p.isSlice;clear D;go_wp2_with fail
   refine(qaI x _ _ _ (n.below blw) (p.below blw)).mono ?_;rintro e w2 ⟨rfl,hb2⟩;go_wp2;go_roundw
   case rel=>exact⟨k+1,by omega,by go_num,blw⟩
   case measure=>simp[intOf];omega
  ·go_wp2;go_ret;exact⟨rfl,j⟩
theorem qaP (x:Qac)(Y Q:Value)(Z R:Value)(v3 U:Value)(w:World)(n:RdS w Y x.text)(B:RdS w Q x.text)(p:RdS w Z x.list)(D:RdS w R x.list)(q:RdS w v3 x.seen)(I:RdS w U x.seen):Calls Tryz.prog 36 #[.agg #[x.name,x.from_,Y,Z,v3],.agg #[x.name,x.from_,Q,R,U]] w (yae w (.bool true)):=by
 have J:(x.name.toList==x.name.toList)=true:=ua7 rfl;have j:(x.from_==x.from_)=true:=by simp
 go_enter Tryz.func36,Tryz.ntmps36
 go_wp2_with fail
 refine(Zao _ _ _ _ _ (n.below blw) (B.below blw)).mono ?_;rintro e M ⟨rfl,u⟩;rw[Zas rfl];have s1:w+2<=M.heap.size:=szl u;obtain⟨hc1,hf1⟩:=qac u;have z1_0:w<M.heap.size:=om;have z1_1:w+1<M.heap.size:=om;go_wp2_with fail
 refine(Xax _ _ _ _ (p.below blw) (D.below blw)).mono ?_;rintro e N ⟨rfl,z⟩;have s2:w+2<=N.heap.size:=szl z;obtain⟨hc2,hf2⟩:=qac z;have z2_0:w<N.heap.size:=om;have z2_1:w+1<N.heap.size:=om;go_wp2_with fail
 refine(Xa0 _ _ _ _ (q.below blw) (I.below blw)).mono ?_;rintro e w3 ⟨rfl,hb3⟩;go_wp2;go_ret;exact⟨rfl,blw⟩
theorem ya8 (va vb:Value)(a:List Qac)(w:World)(ha:RdS w va a)(hb:RdS w vb a):Calls Tryz.prog 35 #[va,vb,.func (.func 36) #[] #[]] w (yae w (.bool true)):=by
 have hla:=fun w1 ty=>ha.len Tryz.underlying23 w1 ty
 have hlb:=fun w1 ty=>hb.len Tryz.underlying23 w1 ty
 have ba:=ha.le;go_enter Tryz.func35,Tryz.ntmps35
 go_wp2;go_loopw [17] (fun i wr=>∃k:Nat,k<=a.length/\i= .int .i64 k/\Below w w wr) (fun i _=>a.length-(intOf i).toNat)
 case atStart=>exact⟨0,lz _,rfl,lf _ _⟩
 case round=>
  obtain⟨k,hk,rfl,B⟩:=hrel;have hsz:=B.size;by_cases hlt:k<a.length
  ·obtain⟨x,hx⟩:=Jaa hlt;obtain⟨b1,o1,cs,h1,h2,h3⟩:=(ha.below B).idx Tryz.underlying23 vag k hx;obtain⟨v_text,v_list,v_seen,rfl,_,p,j,n⟩:=Qai h3;obtain⟨b2,o2,cs,g1,g2,g3⟩:=(hb.below B).idx Tryz.underlying23 vag k hx;obtain⟨u_text,u_list,u_seen,rfl,_,z,q,u⟩:=Qai g3;have q0:=h2.zero;have q1:=h2 1 _ rfl;have q2:=h2 2 _ rfl;have q3:=h2 3 _ rfl;have q4:=h2 4 _ rfl;have p0:=g2.zero;have p1:=g2 1 _ rfl;have p2:=g2 2 _ rfl;have p3:=g2 3 _ rfl;have p4:=g2 4 _ rfl;have l1:b1<wr.heap.size:=lk (w:=wr) (a:=⟨b1,o1,none⟩) q0;have l2:b2<wr.heap.size:=lk (w:=wr) (a:=⟨b2,o2,none⟩) p0;obtain⟨J,Y,rfl⟩:=p.isSlice;obtain⟨Q,a1,rfl⟩:=z.isSlice;obtain⟨D,R,rfl⟩:=j.isSlice;obtain⟨M,Z,rfl⟩:=q.isSlice;obtain⟨I,U,rfl⟩:=n.isSlice;obtain⟨N,a0,rfl⟩:=u.isSlice;clear hx;go_wp2_with fail
   refine(qaP x _ _ _ _ _ _ _ (p.below blw) (z.below blw) (j.below blw) (q.below blw) (n.below blw) (u.below blw)).mono ?_;rintro e w2 ⟨rfl,hb2⟩;go_wp2;go_roundw
   case rel=>exact⟨k+1,by omega,by go_num,blw⟩
   case measure=>simp[intOf];omega
  ·go_wp2;go_ret;exact⟨rfl,B⟩
theorem yaO (x:kac)(v u:Value)(w:World)(q:RdS w v x.list)(z:RdS w u x.list):Calls Tryz.prog 76 #[.agg #[x.cap,x.next,x.out,v],.agg #[x.cap,x.next,x.out,u]] w (yae w (.bool true)):=by
 have n:(x.cap==x.cap)=true:=by simp
 have j:(x.next==x.next)=true:=by simp
 have p:(x.out==x.out)=true:=by simp
 go_enter Tryz.func76,Tryz.ntmps76
 go_wp2_with fail
 refine(Xax _ _ _ _ (q.below blw) (z.below blw)).mono ?_;rintro e D ⟨rfl,B⟩;go_wp2;go_ret;exact⟨rfl,blw⟩
theorem zaP (x:Kah)(v u:Value)(w:World)(n:RdS w v x.r.list)(p:RdS w u x.r.list):Calls Tryz.prog 38 #[.agg #[x.id,x.doc,x.r.cap,x.r.next,x.r.out,v],.agg #[x.id,x.doc,x.r.cap,x.r.next,x.r.out,u]] w (yae w (.bool true)):=by
 have q:(x.id==x.id)=true:=by simp
 have j:(x.doc.toList==x.doc.toList)=true:=ua7 rfl;go_enter Tryz.func38,Tryz.ntmps38
 go_wp2_with fail
 refine(yaO x.r _ _ _ (n.below blw) (p.below blw)).mono ?_;rintro e B ⟨rfl,z⟩;go_wp2;go_ret;exact⟨rfl,blw⟩
theorem Ja7 (va vb:Value)(a:List Kah)(w:World)(N:RdS w va a)(hb:RdS w vb a):Calls Tryz.prog 37 #[va,vb,.func (.func 38) #[] #[]] w (yae w (.bool true)):=by
 have hla:=fun U ty=>N.len Tryz.underlying24 U ty
 have hlb:=fun U ty=>hb.len Tryz.underlying24 U ty
 have ba:=N.le;go_enter Tryz.func37,Tryz.ntmps37
 go_wp2;go_loopw [17] (fun i wr=>∃k:Nat,k<=a.length/\i= .int .i64 k/\Below w w wr) (fun i _=>a.length-(intOf i).toNat)
 case atStart=>exact⟨0,lz _,rfl,lf _ _⟩
 case round=>
  obtain⟨k,hk,rfl,p⟩:=hrel;have hsz:=p.size;by_cases Q:k<a.length
  ·obtain⟨x,R⟩:=Jaa Q;obtain⟨Y,o1,cs,h1,u,h3⟩:=(N.below p).idx Tryz.underlying24 Zal k R;obtain⟨M,rfl,_,j⟩:=jap h3;obtain⟨Z,o2,cs,g1,q,g3⟩:=(hb.below p).idx Tryz.underlying24 Zal k R;obtain⟨J,rfl,_,n⟩:=jap g3;have q0:=u.zero;have q1:=u 1 _ rfl;have q2:=u 2 _ rfl;have q3:=u 3 _ rfl;have q4:=u 4 _ rfl;have q5:=u 5 _ rfl;have p0:=q.zero;have p1:=q 1 _ rfl;have p2:=q 2 _ rfl;have p3:=q 3 _ rfl;have p4:=q 4 _ rfl;have p5:=q 5 _ rfl;have l1:Y<wr.heap.size:=lk (w:=wr) (a:=⟨Y,o1,none⟩) q0;have l2:Z<wr.heap.size:=lk (w:=wr) (a:=⟨Z,o2,none⟩) p0;obtain⟨z,D,rfl⟩:=j.isSlice;obtain⟨B,I,rfl⟩:=n.isSlice;clear R;go_wp2_with fail
   refine(zaP x _ _ _ (j.below blw) (n.below blw)).mono ?_;rintro e w2 ⟨rfl,hb2⟩;go_wp2;go_roundw
   case rel=>exact⟨k+1,by omega,by go_num,blw⟩
   case measure=>simp[intOf];omega
  ·go_wp2;go_ret;exact⟨rfl,p⟩
theorem Jat (x:kae)(M I:Value)(N J:Value)(w:World)(j:RdS w M x.docs)(q:RdS w I x.docs)(n:RdS w N x.subs)(u:RdS w J x.subs):Calls Tryz.prog 12 #[.agg #[x.shut,M,N,x.last],.agg #[x.shut,I,J,x.last]] w (yae w (.bool true)):=by
 have B:(x.shut==x.shut)=true:=by simp
 have z:(x.last==x.last)=true:=by simp
 go_enter Tryz.func12,Tryz.ntmps12
 go_wp2_with fail
 refine(ya8 _ _ _ _ (j.below blw) (q.below blw)).mono ?_;rintro e D ⟨rfl,p⟩;have s1:w+2<=D.heap.size:=szl p;obtain⟨Y,Z⟩:=qac p;have Q:w<D.heap.size:=om;have R:w+1<D.heap.size:=om;go_wp2_with fail
 refine(Ja7 _ _ _ _ (n.below blw) (u.below blw)).mono ?_;rintro e w2 ⟨rfl,U⟩;go_wp2;go_ret;exact⟨rfl,blw⟩
theorem KaD (x:zaq)(M I:Value)(N J:Value)(w:World)(j:RdS w M x.text)(q:RdS w I x.text)(n:RdS w N x.list)(u:RdS w J x.list):Calls Tryz.prog 13 #[.agg #[x.code,x.rev,M,N],.agg #[x.code,x.rev,I,J]] w (yae w (.bool true)):=by
 have z:(x.code==x.code)=true:=by simp
 have B:(x.rev==x.rev)=true:=by simp
 go_enter Tryz.func13,Tryz.ntmps13
 go_wp2_with fail
 refine(Zao _ _ _ _ _ (j.below blw) (q.below blw)).mono ?_;rintro e D ⟨rfl,p⟩;rw[Zas rfl];have s1:w+2<=D.heap.size:=szl p;obtain⟨Y,Z⟩:=qac p;have Q:w<D.heap.size:=om;have R:w+1<D.heap.size:=om;go_wp2_with fail
 refine(Xax _ _ _ _ (n.below blw) (u.below blw)).mono ?_;rintro e w2 ⟨rfl,U⟩;go_wp2;go_ret;exact⟨rfl,blw⟩
