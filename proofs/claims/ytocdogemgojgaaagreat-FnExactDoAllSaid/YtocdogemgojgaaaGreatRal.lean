/- The shape of a normal form: what is normal stays as it is; sums are kept. -/
import Derived.Test.YtocdogemgojgaaaGreatRaj
namespace Go.Proofs.YtocdogemgojgaaaGreat
open Go.RowKit
def jbi (k:Int)(l:List zaa):Prop:=∃m p,l=m++[p]/\p.kind=k
inductive NF:List zaa->Prop
 |nil:NF []
 |keep (l:List zaa) (n:Int):NF l->¬jbi 1 l->0<n->NF (l++[⟨1,n,[]⟩])
 |put (l:List zaa) (g:List Int):NF l->(l=[]\/jbi 1 l)->g≠[]->NF (l++[⟨2,0,g⟩])
 |drop (l:List zaa) (n:Int):NF l->¬jbi 3 l->0<n->NF (l++[⟨3,n,[]⟩])
theorem Qam {k:Int}{l:List zaa}{p:zaa}:jbi k (l++[p])↔p.kind=k:=by
 constructor
 ·rintro⟨m,q,e,h⟩;have:=List.append_inj_right' e sm;simp at this;rw[this];exact h
 ·intro h;exact⟨l,p,rfl,h⟩
theorem za7 {k:Int}:¬jbi k []:=by rintro⟨m,p,e,_⟩;simp at e
theorem vbl {k j:Int}{l:List zaa}(h:jbi k l)(n:k≠j):¬jbi j l:=by
 obtain⟨m,p,rfl,h⟩:=h;rw[Qam];omega
structure BNF (s:Bst):Prop where
 nf:NF s.list
 e:s.list=[]\/jbi 1 s.list
 d:0<=s.drop
theorem BNF.flush {s:Bst}(h:BNF s):NF s.flush.list/\(s.flush.list=s.list\/¬jbi 1 s.flush.list):=by
 unfold Bst.flush;simp only;by_cases j:s.put=[]
 ·by_cases hd:0<s.drop
  ·rw[if_pos j,if_pos hd,List.append_nil];refine⟨.drop _ _ h.nf ?_ hd,.inr (by rw[Qam];simp)⟩
   rcases h.e with e|e
   ·rw[e];exact za7
   ·exact vbl e (by decide)
  ·rw[if_pos j,if_neg hd];simp only[List.append_nil];exact⟨h.nf,.inl trivial⟩
 ·have n:NF (s.list++[⟨2,0,s.put⟩]):= .put _ _ h.nf h.e j;by_cases hd:0<s.drop
  ·rw[if_neg j,if_pos hd];exact⟨.drop _ _ n (by rw[Qam];simp) hd,.inr (by rw[Qam];simp)⟩
  ·rw[if_neg j,if_neg hd,List.append_nil];exact⟨n,.inr (by rw[Qam];simp)⟩
theorem NF.last {l:List zaa}{p:zaa}(h:NF (l++[p]))(k:p.kind=1):NF l/\¬jbi 1 l/\0<p.n/\p.signs=[]:=by
 generalize e:l++[p]=L at h;cases h with
 |nil=>simp at e
 |keep B n q u z=>
  obtain⟨rfl,j⟩:=List.append_inj' e sm;simp at j;subst j;exact⟨q,u,z,rfl⟩
 |put B g q u z=>
  obtain⟨rfl,j⟩:=List.append_inj' e sm;simp at j;subst j;simp at k
 |drop B n q u z=>
  obtain⟨rfl,j⟩:=List.append_inj' e sm;simp at j;subst j;simp at k
theorem BNF.keep {s:Bst}(h:BNF s){n:Int}(p:0<=n):BNF (s.keep n):=by
 unfold Bst.keep;split
 ·exact h
 ·rename_i I
  have p:0<n:=om;obtain⟨f1,f2⟩:=h.flush;rcases List.eq_nil_or_concat s.flush.list with e|⟨m,q,e⟩
  ·rw[e,zas];exact⟨.keep [] n .nil za7 p,.inr ⟨[],_,rfl,rfl⟩,Int.le_refl _⟩
  ·rw[List.concat_eq_append]at e;rw[e]at f1⊢;by_cases j:q.kind=1
   ·rw[Jap m q n j];obtain⟨u,z,D,B⟩:=f1.last j;refine⟨?_,.inr ⟨m,_,rfl,j⟩,Int.le_refl _⟩;simp only[j,B];exact .keep m (q.n+n) u z om
   ·rw[Qal m q n j];refine⟨.keep _ n f1 (by rw[Qam];exact j) p,.inr ⟨_,_,rfl,rfl⟩,Int.le_refl _⟩
theorem BNF.step {s:Bst}(h:BNF s){p:zaa}(z:vab p=true):BNF (s.step p):=by
 unfold Bst.step;rcases Jab z with⟨j,n,q,u⟩|⟨j,n,q,_⟩|⟨j,n,q,u⟩
 ·rw[if_pos j];exact h.keep n
 ·rw[if_neg om,if_pos j];exact⟨h.nf,h.e,h.d⟩
 ·rw[if_neg om,if_neg om];exact⟨h.nf,h.e,by have:=h.d;simp only[Bst.drops];omega⟩
theorem BNF.fold:∀(o:List zaa) (s:Bst),BNF s->o.all vab=true->BNF (o.foldl Bst.step s)
 |[],s,h,_=>h
 |p::o,s,h,j=>by
  simp only[List.all_cons,Bool.and_eq_true]at j;exact BNF.fold o _ (h.step j.1) j.2
theorem qa3 {o:List zaa}(h:o.all vab=true):NF (normal o):=(BNF.fold o ⟨[],[],0⟩ ⟨.nil,.inl rfl,Int.le_refl _⟩ h).flush.1
theorem NF.fold {l:List zaa}(h:NF l):(l.foldl Bst.step ⟨[],[],0⟩).flush.list=l/\0<=(l.foldl Bst.step ⟨[],[],0⟩).drop:=by
 induction h with
 |nil=>exact⟨rfl,Int.le_refl _⟩
 |keep l n D p B u=>
  rw[List.foldl_append];generalize l.foldl Bst.step ⟨[],[],0⟩=s at u;have e:[(⟨1,n,[]⟩:zaa)].foldl Bst.step s=⟨l++[⟨1,n,[]⟩],[],0⟩:=by
   simp only[List.foldl_cons,List.foldl_nil,Bst.step,if_true,Bst.keep];rw[if_neg om,u.1];rcases List.eq_nil_or_concat l with e|⟨m,q,e⟩
   ·rw[e];rfl
   ·rw[List.concat_eq_append]at e;rw[e]at p⊢;rw[Qal m q n (by rwa[Qam]at p)]
  rw[e];exact⟨by simp[Bst.flush],Int.le_refl _⟩
 |put l g D p B u=>
  rw[List.foldl_append];generalize l.foldl Bst.step ⟨[],[],0⟩=s at u;obtain⟨j,M⟩:=u;have z:s.put=[]/\s.drop=0:=by
   unfold Bst.flush at j;simp only at j;by_cases hd:0<s.drop
   ·rw[if_pos hd]at j;rcases p with p|p
    ·rw[p]at j;simp at j
    ·rw[<-j,Qam]at p;simp at p
   ·rw[if_neg hd,List.append_nil]at j;by_cases I:s.put=[]
    ·exact⟨I,by omega⟩
    ·rw[if_neg I]at j;rcases p with p|p
     ·rw[p]at j;simp at j
     ·rw[<-j,Qam]at p;simp at p
  have J:s.list=l:=by
   rw[<-j];simp[Bst.flush,z.1,z.2]
  have e:[(⟨2,0,g⟩:zaa)].foldl Bst.step s=⟨l,g,0⟩:=by
   simp only[List.foldl_cons,List.foldl_nil,Bst.step,Bst.puts];rw[if_neg (by decide),if_pos trivial,J,z.1,z.2];rfl
  rw[e];exact⟨by simp[Bst.flush,B],Int.le_refl _⟩
 |drop l n D p B u=>
  rw[List.foldl_append];generalize l.foldl Bst.step ⟨[],[],0⟩=s at u;obtain⟨j,M⟩:=u;have z:s.drop=0:=by
   unfold Bst.flush at j;simp only at j;by_cases hd:0<s.drop
   ·rw[if_pos hd]at j;rw[<-j,Qam]at p;simp at p
   ·omega
  have e:[(⟨3,n,[]⟩:zaa)].foldl Bst.step s=⟨s.list,s.put,n⟩:=by
   simp only[List.foldl_cons,List.foldl_nil,Bst.step,Bst.drops];rw[if_neg (by decide),if_neg (by decide),z];simp
  rw[e];refine⟨?_,Int.le_of_lt B⟩;unfold Bst.flush at j⊢;simp only at j⊢;simp only[z,show ¬((0:Int)<0)from by decide,if_false,List.append_nil]at j
  simp only[B,if_true,j]
theorem uaM {o:List zaa}(h:o.all vab=true):normal (normal o)=normal o:=(qa3 h).fold.1
def Jbf (b:Int)(s:Bst):Int:=Qab b s.list+(if b=2 then 0 else(s.put.length:Int))+(if b=3 then 0 else s.drop)
theorem QaT (b:Int){s:Bst}(h:0<=s.drop):Qab b s.flush.list=Jbf b s:=by
 unfold Bst.flush Jbf;simp only[qah];have n:Qab b (if s.put=[]then[]else[⟨2,0,s.put⟩])=if b=2 then 0 else(s.put.length:Int):=by
  by_cases j:s.put=[]
  ·rw[if_pos j,j];simp[Qab]
  ·rw[if_neg j];simp only[Qab,yaf];by_cases hb:b=2
   ·rw[if_pos hb,if_pos hb.symm];simp
   ·rw[if_neg hb,if_neg (Ne.symm hb)];simp
 have p:Qab b (if 0<s.drop then[⟨3,s.drop,[]⟩]else[])=if b=3 then 0 else s.drop:=by
  by_cases hd:0<s.drop
  ·rw[if_pos hd];simp only[Qab,yaf];by_cases hb:b=3
   ·rw[if_pos hb,if_pos hb.symm];simp
   ·rw[if_neg hb,if_neg (Ne.symm hb)];simp
  ·rw[if_neg hd];simp only[Qab];split<;>omega
 rw[n,p]
theorem kaY (b:Int)(hb:b≠1)(l:List zaa)(n:Int):Qab b (Xav l n)=Qab b l+n:=by
 rcases List.eq_nil_or_concat l with e|⟨m,q,e⟩
 ·rw[e,zas];simp[Qab,yaf,Ne.symm hb]
 ·rw[List.concat_eq_append]at e;rw[e];by_cases j:q.kind=1
  ·rw[Jap m q n j,qah,qah];simp only[Qab,yaf,j,if_neg (Ne.symm hb)];omega
  ·rw[Qal m q n j,qah];simp[Qab,yaf,Ne.symm hb]
theorem kbd (b:Int)(hb:b≠1){s:Bst}(hd:0<=s.drop){p:zaa}(I:vab p=true):Jbf b (s.step p)=Jbf b s+(if p.kind=b then 0 else yaf p):=by
 unfold Bst.step;rcases Jab I with⟨q,z,D,B⟩|⟨q,z,D,_⟩|⟨q,z,D,B⟩
 ·rw[if_pos q,q,if_neg (Ne.symm hb)];unfold Bst.keep;have u:yaf p=p.n:=by simp[yaf,B]
  split
  ·omega
  ·unfold Jbf;simp only[kaY b hb,QaT b hd];rw[u];unfold Jbf;simp;try(split<;>split<;>omega)
 ·rw[if_neg om,if_pos q,q];unfold Jbf Bst.puts;have u:yaf p=p.signs.length:=by simp[yaf,z]
  by_cases j:b=2
  ·subst j;simp
  ·simp only[if_neg j,if_neg (Ne.symm j),List.length_append,u];omega
 ·rw[if_neg om,if_neg om,q];unfold Jbf Bst.drops;have u:yaf p=p.n:=by simp[yaf,B]
  by_cases j:b=3
  ·subst j;simp
  ·simp only[if_neg j,if_neg (Ne.symm j),u];omega
theorem ZaZ (b:Int)(hb:b≠1):∀(o:List zaa) (s:Bst),BNF s->o.all vab=true->Jbf b (o.foldl Bst.step s)=Jbf b s+Qab b o
 |[],s,_,_=>by simp[Qab]
 |p::o,s,h,j=>by
  simp only[List.all_cons,Bool.and_eq_true]at j;rw[List.foldl_cons,ZaZ b hb o _ (h.step j.1) j.2,kbd b hb h.d j.1];simp only[Qab];omega
theorem qas (b:Int)(hb:b≠1){o:List zaa}(h:o.all vab=true):Qab b (normal o)=Qab b o:=by
 have j:BNF ⟨[],[],0⟩:=⟨.nil,.inl rfl,Int.le_refl _⟩;unfold normal;rw[QaT b (BNF.fold o _ j h).d,ZaZ b hb o _ j h];simp[Jbf,Qab]
def Kbl (l:List zaa):Prop:=∀p∈l,p.signs.all Zak=true
theorem ya9 {s:Bst}(n:Kbl s.list)(q:s.put.all Zak=true):Kbl s.flush.list:=by
 intro p j;unfold Bst.flush at j;simp only[lm]at j;rcases j with(j|j)|j
 ·exact n p j
 ·split at j
  ·cases j
  ·simp at j;subst j;exact q
 ·split at j
  ·simp at j;subst j;rfl
  ·cases j
theorem Jbl {s:Bst}(u:Kbl s.list)(z:s.put.all Zak=true){p:zaa}(Q:vab p=true):Kbl (s.step p).list/\(s.step p).put.all Zak=true:=by
 unfold Bst.step;rcases Jab Q with⟨D,J,M,I⟩|⟨D,J,M,I⟩|⟨D,J,M,I⟩
 ·rw[if_pos D];unfold Bst.keep;split
  ·exact⟨u,z⟩
  ·have B:=ya9 u z;refine⟨?_,rfl⟩;simp only;rcases List.eq_nil_or_concat s.flush.list with e|⟨m,q,e⟩
   ·rw[e,zas];intro x j;simp at j;subst j;rfl
   ·rw[List.concat_eq_append]at e;rw[e]at B⊢;by_cases N:q.kind=1
    ·rw[Jap m q p.n N];intro x j;rcases lm.1 j with j|j
     ·exact B x (by simp[j])
     ·simp at j;subst j;exact B q sm
    ·rw[Qal m q p.n N];intro x j;rcases lm.1 j with j|j
     ·exact B x j
     ·simp at j;subst j;rfl
 ·rw[if_neg om,if_pos D];exact⟨u,by simp only[Bst.puts,List.all_append,z,Bool.true_and];exact I⟩
 ·rw[if_neg om,if_neg om];exact⟨u,z⟩
theorem Qbf:∀(o:List zaa) (s:Bst),Kbl s.list->s.put.all Zak=true->o.all vab=true->Kbl (o.foldl Bst.step s).list/\(o.foldl Bst.step s).put.all Zak=true
 |[],_,j,n,_=>⟨j,n⟩
 |p::o,s,j,n,q=>by
  simp only[List.all_cons,Bool.and_eq_true]at q;obtain⟨u,z⟩:=Jbl j n q.1;exact Qbf o _ u z q.2
theorem Jbd {o:List zaa}(h:o.all vab=true):Kbl (normal o):=by
 obtain⟨j,n⟩:=Qbf o ⟨[],[],0⟩ (fun _ h=>by cases h) rfl h
 exact ya9 j n
theorem NF.parts {l:List zaa}(h:NF l):∀p∈l,(p.kind=1/\0<p.n/\p.signs=[])\/(p.kind=2/\p.n=0/\p.signs≠[])\/(p.kind=3/\0<p.n/\p.signs=[]):=by
 induction h with
 |nil=>intro p j;cases j
 |keep l n _ _ u q=>intro p j;rcases lm.1 j with j|j;exact q p j;simp at j;subst j;exact .inl ⟨rfl,u,rfl⟩
 |put l g _ _ z q=>intro p j;rcases lm.1 j with j|j;exact q p j;simp at j;subst j;exact .inr (.inl ⟨rfl,rfl,z⟩)
 |drop l n _ _ u q=>intro p j;rcases lm.1 j with j|j;exact q p j;simp at j;subst j;exact .inr (.inr ⟨rfl,u,rfl⟩)
theorem ya3:∀{l:List zaa},(∀p∈l,(p.kind=1/\0<p.n/\p.signs=[])\/(p.kind=2/\p.n=0/\p.signs≠[])\/(p.kind=3/\0<p.n/\p.signs=[]))->
 0<=Qab 2 l/\0<=Qab 3 l/\(l.length:Int)<=Qab 2 l+Qab 3 l/\∀p∈l,yaf p<=(if p.kind=2 then Qab 3 l else Qab 2 l)
 |[],_=>⟨Int.le_refl _,Int.le_refl _,by simp[Qab],fun _ h=>by cases h⟩
 |q::l,h=>by
  obtain⟨I,J,M,D⟩:=ya3 (l:=l) fun p u=>h p (List.mem_cons_of_mem _ u)
  simp only[Qab,List.length_cons];have z:=h q sm;have B:0<yaf q:=by
   unfold yaf;rcases z with⟨_,a,b⟩|⟨_,a,b⟩|⟨_,a,b⟩
   ·rw[b];simpa using a
   ·have:=List.length_pos_iff.2 b;omega
   ·rw[b];simpa using a
  have j:q.kind=1\/q.kind=2\/q.kind=3:=by rcases z with⟨a,_⟩|⟨a,_⟩|⟨a,_⟩<;>simp[a]
  refine⟨by split<;>omega,by split<;>omega,by rcases j with j|j|j<;>rw[j]<;>simp<;>omega,fun p u=> ?_⟩
  rcases List.mem_cons.1 u with rfl|u
  ·rcases j with j|j|j<;>rw[j]<;>simp<;>omega
  ·have:=D p u;split at this
   ·rename_i k;rw[if_pos k];split<;>omega
   ·rename_i k;rw[if_neg k];split<;>omega
theorem vbe {o:List zaa}(h:o.all vab=true):Qag (normal o)=(decide (Qab 2 o<=200)&&decide (Qab 3 o<=200)):=by
 rw[<-qas 2 (by decide) h,<-qas 3 (by decide) h]
 by_cases n:Qab 2 (normal o)<=200
 ·by_cases q:Qab 3 (normal o)<=200
  ·have B:=(qa3 h).parts;obtain⟨M,N,Q,D⟩:=ya3 B;have J:=Jbd h;have:Qag (normal o)=true:=by
    rw[zan];refine⟨List.all_eq_true.2 fun p z=> ?_,by omega,n,q⟩
    have j:=D p z;unfold yaf at j;rcases B p z with⟨a,b,c⟩|⟨a,b,c⟩|⟨a,b,c⟩
    ·rw[a,c]at j;simp at j;simp[vab,a,within,c];omega
    ·rw[a,b]at j;simp at j;have I:kal p.signs=true:=J p z;simp[vab,a,b,I];omega
    ·rw[a,c]at j;simp at j;simp[vab,a,within,c];omega
   rw[this];simp[n,q]
  ·have:Qag (normal o)=false:=by
    rw[Bool.eq_false_iff];intro u;exact q (zan.1 u).2.2.2
   rw[this];simp[q]
 ·have:Qag (normal o)=false:=by
   rw[Bool.eq_false_iff];intro u;exact n (zan.1 u).2.2.1
  rw[this];simp[n]
theorem xbg {o:List zaa}(h:Qag o=true):Qag (Kak o)=true/\Qab 2 (Kak o)=Qab 2 o/\Qab 3 (Kak o)=Qab 3 o/\Kak (Kak o)=Kak o:=by
 obtain⟨j,_,p,q⟩:=zan.1 h;have e:Kak o=normal o:=if_pos h;have n:Qag (normal o)=true:=by rw[vbe j];simp[p,q]
 rw[e];exact⟨n,qas 2 (by decide) j,qas 3 (by decide) j,(if_pos n).trans (uaM j)⟩
theorem zaO {o:List zaa}(h:o.all vab=true)(j:Qag (normal o)=true):Xao (normal o)=true:=by
 unfold Xao Kak;rw[j,if_pos rfl,uaM h];simp
