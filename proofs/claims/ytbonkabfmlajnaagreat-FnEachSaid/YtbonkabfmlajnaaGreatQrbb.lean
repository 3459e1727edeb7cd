/- The reference's cursors; the state of its walk through two operations. -/
import Derived.Test.YtbonkabfmlajnaaGreatQrao
namespace Go.Proofs.YtbonkabfmlajnaaGreat
open Go.RowKit
theorem xbf:∀{l:List zaa},l.all kab=true->(mu l:Int)<=vab 2 l+vab 3 l+l.length
 |[],_=>by simp[mu,vab]
 |p::l,h=>by
  simp only[List.all_cons,Bool.and_eq_true]at h;have n:=xbf h.2;have j:=qau h.1;simp only[mu,vab,List.length_cons];split<;>split<;>omega
theorem vbd {a:List zaa}(h:yag a=true):mu a<=1000:=by
 obtain⟨j,n,p,q⟩:=Zae.1 h;have:=xbf j;omega
theorem Kau {p:zaa}{l:List zaa}(h:nsz p≠0):skip (p::l)=p::l:=by simp[skip,h]
theorem ka6 (m:Nat)(r s:List zaa):tf m (skip r) s=tf m r s:=by
 cases m with
 |zero=>rfl
 |succ m=>simp only[tf,kam]
theorem JaV:∀(m:Nat) (r s:List zaa),tf m r (skip s)=tf m r s
 |0,_,_=>rfl
 |m+1,r,s=>by
  rcases hr:skip r with _|⟨p,n⟩
  ·simp only[tf,hr,kam]
  ·by_cases k:p.kind=2
   ·have j:=JaV m (cutR p (nsz p)::n) s;simp only[tf,hr,if_pos k];rw[j]
   ·simp only[tf,hr,if_neg k,kam]
structure TR (a b r s X Y:List zaa):Prop where
 i:qa5 r s
 z:(tfz a b).1.all kab=true/\(tfz a b).2.all kab=true
 m:∃m,mu r+mu s<m/\X++(tf m r s).1=(tfz a b).1/\Y++(tf m r s).2=(tfz a b).2/\X.length+m<=mu a+mu b+1/\Y.length+m<=mu a+mu b+1
theorem TR.new {a b:List zaa}(j:yag a=true)(hb:yag b=true)(h:kad a=kad b):TR a b a b [] []:=
 have n:xbi (mu a+mu b+1) a b (tfz a b):=xa8 (mu a+mu b+1) a b (kaM j hb h) om
 ⟨kaM j hb h,⟨n.ax,n.ay⟩,mu a+mu b+1,by omega,rfl,rfl,by simp,by simp⟩
section
variable {a b r s X Y:List zaa}
theorem TR.skipR (h:TR a b r s X Y):TR a b (skip r) s X Y:=by
 obtain⟨m,q,j,n,p⟩:=h.m;have:=Kao r;exact⟨h.i.skipR,h.z,m,by omega,by rw[ka6];exact j,by rw[ka6];exact n,p⟩
theorem TR.skipS (h:TR a b r s X Y):TR a b r (skip s) X Y:=by
 obtain⟨m,q,j,n,p⟩:=h.m;have:=Kao s;exact⟨h.i.symm.skipR.symm,h.z,m,by omega,by rw[JaV];exact j,by rw[JaV];exact n,p⟩
theorem TR.lens (h:TR a b r s X Y)(j:yag a=true)(hb:yag b=true):X.length<=2000/\Y.length<=2000:=by
 obtain⟨m,n,p,q,u⟩:=h.m;have:=vbd j;have:=vbd hb;omega
theorem TR.oks (h:TR a b r s X Y):X.all kab=true/\Y.all kab=true:=by
 obtain⟨m,u,p,q,B⟩:=h.m;obtain⟨j,n⟩:=h.z;rw[<-p,List.all_append,Bool.and_eq_true]at j;rw[<-q,List.all_append,Bool.and_eq_true]at n;exact⟨j.1,n.1⟩
theorem TR.end_ (h:TR a b [] [] X Y):X=(tfz a b).1/\Y=(tfz a b).2:=by
 obtain⟨m,p,j,n,q⟩:=h.m;obtain⟨m,rfl⟩:∃k,m=k+1:=⟨m-1,by omega⟩
 have e:tf (m+1) [] []=([],[]):=by simp only[tf,skip]
 rw[e,List.append_nil]at j n;exact⟨j,n⟩
theorem TR.putR {p:zaa}{j:List zaa}(h:TR a b (p::j) s X Y)(M:nsz p≠0)(k:p.kind=2):
 kab p=true/\nsz p=p.signs.length/\cutL p (nsz p)=p/\p.n=0/\p.signs.length<=200/\TR a b (cutR p (nsz p)::j) s (X++[p]) (Y++[⟨1,p.signs.length,[]⟩])/\mu (cutR p (nsz p)::j)<mu (p::j):=by
 have D:=Kau (l:=j) M;obtain⟨N,Q,i3,u⟩:=kas h.i D k;obtain⟨U,I,z3,Z⟩:=KaF u k;obtain⟨m,h1,q,B,h4,h5⟩:=h.m;obtain⟨m,rfl⟩:∃k,m=k+1:=⟨m-1,by omega⟩
 have e:tf (m+1) (p::j) s=(cutL p (nsz p)::(tf m (cutR p (nsz p)::j) s).1,⟨1,p.signs.length,[]⟩::(tf m (cutR p (nsz p)::j) s).2):=by simp only[tf,D];rw[if_pos k]
 have J:p.n=0:=by
  rcases Zab u with⟨R,_⟩|⟨_,n,_⟩|⟨R,_⟩
  ·omega
  ·exact n
  ·omega
 rw[e]at q B;rw[I]at q;refine⟨u,U,I,J,Z,⟨N,h.z,m,by omega,?_,?_,?_,?_⟩,Q⟩
 ·rw[List.append_assoc];exact q
 ·rw[List.append_assoc];exact B
 ·simp only[List.length_append,List.length_singleton];omega
 ·simp only[List.length_append,List.length_singleton];omega
theorem TR.putS {q:zaa}{j:List zaa}(h:TR a b r (q::j) X Y)(Z:r=[]\/∃p I,r=p::I/\nsz p≠0/\p.kind≠2)(U:nsz q≠0)(k:q.kind=2):
 kab q=true/\nsz q=q.signs.length/\cutL q (nsz q)=q/\q.n=0/\q.signs.length<=200/\TR a b r (cutR q (nsz q)::j) (X++[⟨1,q.signs.length,[]⟩]) (Y++[q])/\mu (cutR q (nsz q)::j)<mu (q::j):=by
 have B:=Kau (l:=j) U;obtain⟨i1,i2,i3,D⟩:=kas h.i.symm B k;obtain⟨z1,M,z3,z4⟩:=KaF D k;obtain⟨m,h1,J,u,h4,h5⟩:=h.m;obtain⟨m,rfl⟩:∃k,m=k+1:=⟨m-1,by omega⟩
 have e:tf (m+1) r (q::j)=(⟨1,q.signs.length,[]⟩::(tf m r (cutR q (nsz q)::j)).1,cutL q (nsz q)::(tf m r (cutR q (nsz q)::j)).2):=by
  rcases Z with rfl|⟨p,I,rfl,R,kp⟩
  ·have N:skip ([]:List zaa)=[]:=rfl;simp only[tf,B,N];rw[if_pos k]
  ·simp only[tf,B,Kau (l:=I) R];rw[if_neg kp,if_pos k]
 have Q:q.n=0:=by
  rcases Zab D with⟨k',_⟩|⟨_,n,_⟩|⟨k',_⟩
  ·omega
  ·exact n
  ·omega
 rw[e]at J u;rw[M]at u;refine⟨D,z1,M,Q,z4,⟨i1.symm,h.z,m,by omega,?_,?_,?_,?_⟩,i2⟩
 ·rw[List.append_assoc];exact J
 ·rw[List.append_assoc];exact u
 ·simp only[List.length_append,List.length_singleton];omega
 ·simp only[List.length_append,List.length_singleton];omega
theorem TR.others (h:TR a b r s X Y)(M:r=[]\/∃p n,r=p::n/\nsz p≠0/\p.kind≠2)(I:s=[]\/∃q j,s=q::j/\nsz q≠0/\q.kind≠2)(u:r≠[]\/s≠[]):
 (∃p n,r=p::n/\nsz p≠0/\p.kind≠2)/\∃q j,s=q::j/\nsz q≠0/\q.kind≠2:=by
 rcases M with rfl|⟨p,n,rfl,D,J⟩
 ·rcases I with rfl|⟨q,j,rfl,z,B⟩
  ·simp at u
  ·exact(ZaI h.i.symm (Kau z) rfl B).elim
 ·rcases I with rfl|⟨q,j,rfl,z,B⟩
  ·exact(ZaI h.i (Kau D) rfl J).elim
  ·exact⟨⟨p,n,rfl,D,J⟩,q,j,rfl,z,B⟩
theorem TR.both {p q:zaa}{j u:List zaa}(h:TR a b (p::j) (q::u) X Y)(I:nsz p≠0)(hq:nsz q≠0)(B:p.kind≠2)(M:q.kind≠2):
 kab p=true/\kab q=true/\(p.kind=1\/p.kind=3)/\(q.kind=1\/q.kind=3)/\nsz p=p.n/\nsz q=q.n/\p.signs=[]/\q.signs=[]/\nsz p<=200/\nsz q<=200/\
 TR a b (cutR p (min (nsz p) (nsz q))::j) (cutR q (min (nsz p) (nsz q))::u) (X++(if q.kind=1 then[cutL p (min (nsz p) (nsz q))]else[])) (Y++(if p.kind=1 then[cutL q (min (nsz p) (nsz q))]else[]))/\
 mu (cutR p (min (nsz p) (nsz q))::j)<mu (p::j)/\mu (cutR q (min (nsz p) (nsz q))::u)<mu (q::u):=by
 have R:=Kau (l:=j) I;have U:=Kau (l:=u) hq;obtain⟨i1,i2,i3,Z,iq⟩:=yaY h.i R U B M;obtain⟨m,h1,N,Q,h4,h5⟩:=h.m;obtain⟨m,rfl⟩:∃k,m=k+1:=⟨m-1,by omega⟩
 have e:tf (m+1) (p::j) (q::u)=((if q.kind=1 then[cutL p (min (nsz p) (nsz q))]else[])++(tf m (cutR p (min (nsz p) (nsz q))::j) (cutR q (min (nsz p) (nsz q))::u)).1,
  (if p.kind=1 then[cutL q (min (nsz p) (nsz q))]else[])++(tf m (cutR p (min (nsz p) (nsz q))::j) (cutR q (min (nsz p) (nsz q))::u)).2):=by simp only[tf,R,U];rw[if_neg B,if_neg M]
 have J:∀{p:zaa},kab p=true->p.kind≠2->(p.kind=1\/p.kind=3)/\(nsz p:Int)=p.n/\p.signs=[]/\nsz p<=200:=by
  intro p I B;have J:=qau I;rcases Zab I with⟨k,n1,n2,D⟩|⟨k,_⟩|⟨k,n1,n2,D⟩
  ·have:Xae p=p.n:=by simp[Xae,D]
   exact⟨.inl k,by omega,D,by omega⟩
  ·exact absurd k B
  ·have:Xae p=p.n:=by simp[Xae,D]
   exact⟨.inr k,by omega,D,by omega⟩
 obtain⟨p1,p2,p3,p4⟩:=J Z B;obtain⟨q1,q2,q3,q4⟩:=J iq M;rw[e]at N Q;refine⟨Z,iq,p1,q1,p2,q2,p3,q3,p4,q4,⟨i1,h.z,m,by omega,?_,?_,?_,?_⟩,i2,i3⟩
 ·rw[List.append_assoc];exact N
 ·rw[List.append_assoc];exact Q
 ·rw[List.length_append];split<;>simp<;>omega
 ·rw[List.length_append];split<;>simp<;>omega
end
def qab (o:List zaa)(k d:Nat):List zaa:=match o.drop k with
 |[]=>[]
 |p::l=>cutR p d::l
structure Cok (o:List zaa)(k d:Nat):Prop where
 le:k<=o.length
 dn:∀p,o[k]? =some p->d<=nsz p
def hd (l:List zaa):zaa:=l.headD ⟨0,0,[]⟩
def Kbc (p:zaa):Int:=if p.kind=2 then p.signs.length else p.n
theorem za4 {p:zaa}(h:kab p=true):Kbc p=nsz p:=by
 have n:=qau h;unfold Kbc;rcases Zab h with⟨k,q,u,j⟩|⟨k,q,u,j⟩|⟨k,q,u,j⟩
 ·rw[if_neg om,n];simp[Xae,j]
 ·rw[if_pos k,n];simp[Xae,q]
 ·rw[if_neg om,n];simp[Xae,j]
theorem vba {p:zaa}(h:kab p=true):nsz p<=200:=by
 have z:=qau h;rcases Zab h with⟨k,q,u,j⟩|⟨k,q,u,j⟩|⟨k,q,u,j⟩
 ·have:Xae p=p.n:=by simp[Xae,j]
  omega
 ·have:Xae p=p.signs.length:=by simp[Xae,q]
  omega
 ·have:Xae p=p.n:=by simp[Xae,j]
  omega
theorem jbc {o:List zaa}{k:Nat}{p:zaa}(h:o[k]? =some p):o.drop k=p::o.drop (k+1):=by
 obtain⟨j,rfl⟩:=lg.1 h;exact List.drop_eq_getElem_cons j
theorem Jao {o:List zaa}{k d:Nat}{p:zaa}(h:o[k]? =some p):qab o k d=cutR p d::o.drop (k+1):=by
 unfold qab;rw[jbc h]
theorem zaE {o:List zaa}{k d:Nat}(h:o.length<=k):qab o k d=[]:=by
 unfold qab;rw[List.drop_eq_nil_of_le h]
theorem Jba (p:zaa):cutR p 0=p:=by
 unfold cutR;split<;>simp
theorem ua9 (p:zaa)(d n:Nat):cutR (cutR p d) n=cutR p (d+n):=by
 by_cases h:p.kind=2
 ·simp[cutR,h,List.drop_drop]
 ·simp[cutR,h];omega
theorem ZaA (o:List zaa)(k:Nat):qab o k 0=o.drop k:=by
 unfold qab;split
 ·rename_i h;rw[h]
 ·rename_i h;rw[h,Jba]
theorem Cok.zero {o:List zaa}{k:Nat}(h:k<=o.length):Cok o k 0:=⟨h,fun _ _=>lz _⟩
theorem jbd {o:List zaa}{k d:Nat}{p:zaa}(h:o[k]? =some p)(j:kab p=true)(hd:d=nsz p):skip (qab o k d)=skip (qab o (k+1) 0):=by
 subst hd;rw[Jao h,ZaA];have:=Xav j (lr (nsz p));simp[skip,this]
theorem Ka5 {o:List zaa}{k d:Nat}{p:zaa}(h:o[k]? =some p)(j:kab p=true)(hd:d<nsz p):skip (qab o k d)=qab o k d:=by
 rw[Jao h];have:=Xav j (Nat.le_of_lt hd);exact Kau om
theorem JaY {o:List zaa}{k d:Nat}(h:o.length<=k):skip (qab o k d)=[]:=by rw[zaE h];rfl
theorem qa4 {o:List zaa}{k d:Nat}{p:zaa}{l:List zaa}(h:qab o k d=p::l):∃q,o[k]? =some q/\p=cutR q d/\l=o.drop (k+1):=by
 by_cases n:k<o.length
 ·obtain⟨q,j⟩:=Jaa n;rw[Jao j]at h;cases h;exact⟨q,j,rfl,rfl⟩
 ·rw[zaE om]at h;cases h
theorem zaC {o:List zaa}{k d:Nat}{p:zaa}{l:List zaa}(h:qab o k d=p::l)(n:Nat):qab o k (d+n)=cutR p n::l:=by
 obtain⟨q,j,rfl,rfl⟩:=qa4 h;rw[Jao j,ua9]
theorem xaJ {o:List zaa}(j:o.all kab=true){k d:Nat}{p:zaa}{l:List zaa}(D:Cok o k d)(h:qab o k d=p::l):∃q,o[k]? =some q/\kab q=true/\Kbc q=nsz q/\nsz q<=200/\d<=nsz q/\nsz p=nsz q-d/\p.kind=q.kind/\(∀n,n<=nsz p->Cok o k (d+n))/\(q.kind=2->p.signs=q.signs.drop d/\q.signs.length=nsz q):=by
 obtain⟨q,B,rfl,rfl⟩:=qa4 h;have u:=jat j B;have hd:=D.dn q B;have J:=Xav u hd;refine⟨q,B,u,za4 u,vba u,hd,J,?_,fun n M=>⟨D.le,fun N z=> ?_⟩,fun I=>⟨?_,?_⟩⟩
 ·unfold cutR;split<;>rfl
 ·rw[B]at z;cases z;omega
 ·simp[cutR,I]
 ·have:=(KaF u I).1;omega
theorem Qas {o:List zaa}(j:o.all kab=true){k d:Nat}{p:zaa}{l:List zaa}(u:Cok o k d)(h:qab o k d=p::l){n:Nat}(z:n<=nsz p):Cok o k (d+n):=by
 obtain⟨_,_,_,_,_,_,_,_,q,_⟩:=xaJ j u h;exact q n z
theorem yay {o:List zaa}(j:o.all kab=true){k d:Nat}{p:zaa}{l:List zaa}(n:Cok o k d)(h:qab o k d=p::l):d<=200:=by
 obtain⟨q,_,_,_,u,z,_⟩:=xaJ j n h;omega
theorem kba {p:zaa}{l:List zaa}(h:nsz p=0):skip (p::l)≠p::l:=by
 intro e;have j:skip (p::l)=skip l:=by simp[skip,h]
 have:=Ka3 l;rw[j]at e;rw[e,List.length_cons]at this;omega
structure CS (w0:World)(bp bq bx b2:Nat)(va vb:Value)(a b:List zaa)(w:World)(kp dp kq dq:Nat)(sx sy:Bst):Prop where
 o1:w0.heap.size<=bp
 o2:bp<bq
 o3:bq<bx
 o4:bx<b2
 o5:b2<w.heap.size
 p:Bx w bp [va,kp,dp]
 q:Bx w bq [vb,kq,dq]
 xy:∃fx fy,Bld bx w (bx,0) (bx,1) (bx,2) sx fx/\Bld bx w (b2,0) (b2,1) (b2,2) sy fy/\(∀p∈fx,p∉fy)/\(∀p∈fx,p.1<w)/\∀p∈fy,p.1<w
 bel:Below w0 w0 w
 cp:Cok a kp dp
 cq:Cok b kq dq
section
variable {w0 w w':World} {bp bq bx b2:Nat} {va vb:Value} {a b:List zaa} {kp dp kq dq k d:Nat} {sx sy s:Bst}
theorem Bld.wr {B:Nat}{pl u q:Pos}{fp g:List Pos}(h:Bld B w pl u q s fp)(n:Wr g w w')(hd:∀p∈fp,p∉g)(J:∀p∈fp,p.1<w):Bld B w' pl u q s fp:=by
 obtain⟨Y,Z,D,I,M,N,Q,R,U,rfl⟩:=h.ex;have z:∀p∈bpl pl u q++(D++I),w'.cell? ⟨p.1,p.2,none⟩=w.cell? ⟨p.1,p.2,none⟩:=fun p j=>n.cell p (J p j) (hd p j)
 exact⟨⟨Y,Z,D,I,(z pl (by simp[bpl])).trans M,(z u (by simp[bpl])).trans N,(z q (by simp[bpl])).trans Q,R.wr n fun p j=>hd p (by simp[j]),U.wr n fun p j=>hd p (by simp[j]),rfl⟩,
  ⟨h.fr.nodup,h.fr.ge,fun p j=>(n.frozen p (J p j)).trans (h.fr.free p j)⟩⟩
theorem kaA {b o n:Nat}{p:Pos}(h:p∈own b o n):p.1=b:=(Kaa.1 h).1
theorem CS.below (h:CS w0 bp bq bx b2 va vb a b w kp dp kq dq sx sy)(hb:Below w w w'):CS w0 bp bq bx b2 va vb a b w' kp dp kq dq sx sy:=by
 obtain⟨u,z,B,D,I,J,M⟩:=h.xy;have n:=hb.size;exact⟨h.o1,h.o2,h.o3,h.o4,lq h.o5 n,h.p.at hb,h.q.at hb,⟨u,z,B.below hb,D.below hb,I,fun p j=>lq (J p j) n,fun p j=>lq (M p j) n⟩,h.bel.trans (hb.mono h.bel.size),h.cp,h.cq⟩
theorem CS.stepP (h:CS w0 bp bq bx b2 va vb a b w kp dp kq dq sx sy)(n:Wr (own bp 0 3) w w')(Y:Bx w' bp [va,k,d])(R:Cok a k d):CS w0 bp bq bx b2 va vb a b w' k d kq dq sx sy:=by
 obtain⟨M,N,z,B,Q,D,I⟩:=h.xy;have u:=n.size;have o1:=h.o1;have o2:=h.o2;have o3:=h.o3;have o4:=h.o4;have J:∀{f:List Pos} {pl pp Z:Pos} {s:Bst},Bld bx w pl pp Z s f->∀p∈f,p∉own bp 0 3:=fun hb p j U=>by have:=hb.fr.ge p j;have:=kaA U;omega
 exact⟨o1,o2,o3,o4,lq h.o5 u,Y,h.q.wr n fun p j=>by have:=kaA j;omega,⟨M,N,z.wr n (J z) D,B.wr n (J B) I,Q,fun p j=>lq (D p j) u,fun p j=>lq (I p j) u⟩,
  h.bel.trans (n.below h.bel.size fun p j=>by have:=kaA j;omega),R,h.cq⟩
theorem CS.stepQ (h:CS w0 bp bq bx b2 va vb a b w kp dp kq dq sx sy)(n:Wr (own bq 0 3) w w')(U:Bx w' bq [vb,k,d])(Q:Cok b k d):CS w0 bp bq bx b2 va vb a b w' kp dp k d sx sy:=by
 obtain⟨J,M,u,z,N,B,D⟩:=h.xy;have q:=n.size;have o1:=h.o1;have o2:=h.o2;have o3:=h.o3;have o4:=h.o4;have I:∀{f:List Pos} {pl Z Y:Pos} {s:Bst},Bld bx w pl Z Y s f->∀p∈f,p∉own bq 0 3:=fun hb p j R=>by have:=hb.fr.ge p j;have:=kaA R;omega
 exact⟨o1,o2,o3,o4,lq h.o5 q,h.p.wr n fun p j=>by have:=kaA j;omega,U,⟨J,M,u.wr n (I u) B,z.wr n (I z) D,N,fun p j=>lq (B p j) q,fun p j=>lq (D p j) q⟩,
  h.bel.trans (n.below h.bel.size fun p j=>by have:=kaA j;omega),h.cp,Q⟩
theorem CS.x (h:CS w0 bp bq bx b2 va vb a b w kp dp kq dq sx sy):∃B,Bld bx w (bx,0) (bx,1) (bx,2) sx B/\∀(s:Bst) (e:Ending) (I:World),Kaq bx w (bx,0) (bx,1) (bx,2) s B e I->e= .returned (.tuple #[])/\CS w0 bp bq bx b2 va vb a b I kp dp kq dq s sy:=by
 obtain⟨B,U,M,Y,N,h4,J⟩:=h.xy;refine⟨B,M,fun s e I hb=> ?_⟩
 obtain⟨Z,f,R,z,k3⟩:=hb;have Q:=z.size;have o1:=h.o1;have o2:=h.o2;have o3:=h.o3;have n:=M.fr.ge;obtain⟨vl,vp,fl,fq,u,_,_,sq,hf,_⟩:=R.open;have hl:∀p∈f,p.1<I:=by
  intro p j;rw[hf]at j;rcases lm.1 j with j|j
  ·exact Live.lt u.live p (lm.2 (.inl j))
  ·rcases lm.1 j with j|j
   ·exact Live.lt u.live p (lm.2 (.inr j))
   ·exact Live.lt sq.live p j
 refine⟨Z,o1,o2,o3,h.o4,lq h.o5 Q,h.p.wr z fun p j=>by have:=n p j;omega,h.q.wr z fun p j=>by have:=n p j;omega,
  ⟨f,U,R,Y.wr z (fun p j D=>N p D j) J,fun p j D=> ?_,hl,fun p j=>lq (J p j) Q⟩,h.bel.trans (z.below h.bel.size fun p j=>by have:=n p j;omega),h.cp,h.cq⟩
 rcases k3 p j with j|j
 ·exact N p j D
 ·have:=J p D;omega
theorem CS.y (h:CS w0 bp bq bx b2 va vb a b w kp dp kq dq sx sy):∃B,Bld bx w (b2,0) (b2,1) (b2,2) sy B/\∀(s:Bst) (e:Ending) (I:World),Kaq bx w (b2,0) (b2,1) (b2,2) s B e I->e= .returned (.tuple #[])/\CS w0 bp bq bx b2 va vb a b I kp dp kq dq sx s:=by
 obtain⟨U,B,Y,M,N,J,h5⟩:=h.xy;refine⟨B,M,fun s e I hb=> ?_⟩
 obtain⟨Z,f,R,z,k3⟩:=hb;have Q:=z.size;have o1:=h.o1;have o2:=h.o2;have o3:=h.o3;have n:=M.fr.ge;obtain⟨vl,vp,fl,fq,u,_,_,sq,hf,_⟩:=R.open;have hl:∀p∈f,p.1<I:=by
  intro p j;rw[hf]at j;rcases lm.1 j with j|j
  ·exact Live.lt u.live p (lm.2 (.inl j))
  ·rcases lm.1 j with j|j
   ·exact Live.lt u.live p (lm.2 (.inr j))
   ·exact Live.lt sq.live p j
 refine⟨Z,o1,o2,o3,h.o4,lq h.o5 Q,h.p.wr z fun p j=>by have:=n p j;omega,h.q.wr z fun p j=>by have:=n p j;omega,
  ⟨U,f,Y.wr z N J,R,fun p j D=> ?_,fun p j=>lq (J p j) Q,hl⟩,h.bel.trans (z.below h.bel.size fun p j=>by have:=n p j;omega),h.cp,h.cq⟩
 rcases k3 p D with D|D
 ·exact N p j D
 ·have:=J p j;omega
end
def xaf (X:List zaa):Bst:=X.foldl Bst.step ⟨[],[],0⟩
theorem xak (X:List zaa)(p:zaa):xaf (X++[p])=(xaf X).step p:=by unfold xaf;rw[List.foldl_append];rfl
theorem Jaj {X:List zaa}(h:X.all kab=true):(xaf X).inv X.length:=by
 have:=JaD h X.length (lr _);unfold Zai at this;rwa[List.take_length]at this
theorem zaH (X:List zaa):(xaf X).flush.list=normal X:=rfl
theorem Kat (p:zaa)(v:Value)(w:World)(h:RdS w v p.signs):Calls Tryz.prog 184 #[.agg #[p.kind,p.n,v]] w (yae w (.int .i64 (Kbc p))):=by
 have q:=fun j ty=>h.len Tryz.underlying31 j ty
 by_cases k:p.kind=2
 ·have e:Kbc p=p.signs.length:=if_pos k;go_enter Tryz.func184,Tryz.ntmps184
  go_wp2;go_ret;exact⟨Jah (by rw[e]),blw⟩
 ·have e:Kbc p=p.n:=if_neg k;go_enter Tryz.func184,Tryz.ntmps184
  go_wp2;go_ret;exact⟨Jah (by rw[e]),blw⟩
