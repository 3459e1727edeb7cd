/- The shape of a normal form: what is normal stays as it is; sums are kept. -/
import Derived.Test.YtocdogemgojgaaaGreatQal
namespace Go.Proofs.YtocdogemgojgaaaGreat
open Go.RowKit
def jbf (k:Int)(l:List zaa):Prop:=∃m p,l=m++[p]/\p.kind=k
inductive NF:List zaa->Prop
 |nil:NF []
 |keep (l:List zaa) (n:Int):NF l->¬jbf 1 l->0<n->NF (l++[⟨1,n,[]⟩])
 |put (l:List zaa) (g:List Int):NF l->(l=[]\/jbf 1 l)->g≠[]->NF (l++[⟨2,0,g⟩])
 |drop (l:List zaa) (n:Int):NF l->¬jbf 3 l->0<n->NF (l++[⟨3,n,[]⟩])
theorem vam {k:Int}{l:List zaa}{p:zaa}:jbf k (l++[p])↔p.kind=k:=by
 constructor
 ·rintro⟨m,q,e,h⟩;have:=List.append_inj_right' e (by simp)
  simp at this;rw[this];exact h
 ·intro h;exact⟨l,p,rfl,h⟩
theorem Ka5 {k:Int}:¬jbf k []:=by rintro⟨m,p,e,_⟩;simp at e
theorem Jbi {k j:Int}{l:List zaa}(h:jbf k l)(n:k≠j):¬jbf j l:=by
 obtain⟨m,p,rfl,h⟩:=h;rw[vam];omega
structure BNF (s:Bst):Prop where
 nf:NF s.list
 e:s.list=[]\/jbf 1 s.list
 d:0<=s.drop
theorem BNF.flush {s:Bst}(h:BNF s):NF s.flush.list/\(s.flush.list=s.list\/¬jbf 1 s.flush.list):=by
 unfold Bst.flush;simp only;by_cases j:s.put=[]
 ·by_cases hd:0<s.drop
  ·rw[if_pos j,if_pos hd,List.append_nil];refine⟨.drop _ _ h.nf ?_ hd,.inr (by rw[vam];simp)⟩
   rcases h.e with e|e
   ·rw[e];exact Ka5
   ·exact Jbi e (by decide)
  ·rw[if_pos j,if_neg hd];simp only[List.append_nil];exact⟨h.nf,.inl trivial⟩
 ·have n:NF (s.list++[⟨2,0,s.put⟩]):= .put _ _ h.nf h.e j;by_cases hd:0<s.drop
  ·rw[if_neg j,if_pos hd];exact⟨.drop _ _ n (by rw[vam];simp) hd,.inr (by rw[vam];simp)⟩
  ·rw[if_neg j,if_neg hd,List.append_nil];exact⟨n,.inr (by rw[vam];simp)⟩
theorem NF.last {l:List zaa}{p:zaa}(h:NF (l++[p]))(k:p.kind=1):NF l/\¬jbf 1 l/\0<p.n/\p.signs=[]:=by
 generalize e:l++[p]=L at h;cases h with
 |nil=>simp at e
 |keep B n q u z=>
  obtain⟨rfl,j⟩:=List.append_inj' e (by simp)
  simp at j;subst j;exact⟨q,u,z,rfl⟩
 |put B g q u z=>
  obtain⟨rfl,j⟩:=List.append_inj' e (by simp)
  simp at j;subst j;simp at k
 |drop B n q u z=>
  obtain⟨rfl,j⟩:=List.append_inj' e (by simp)
  simp at j;subst j;simp at k
theorem BNF.keep {s:Bst}(h:BNF s){n:Int}(p:0<=n):BNF (s.keep n):=by
 unfold Bst.keep;split
 ·exact h
 ·rename_i I
  have p:0<n:=om;obtain⟨f1,f2⟩:=h.flush;rcases List.eq_nil_or_concat s.flush.list with e|⟨m,q,e⟩
  ·rw[e,xar];exact⟨.keep [] n .nil Ka5 p,.inr ⟨[],_,rfl,rfl⟩,Int.le_refl _⟩
  ·rw[List.concat_eq_append]at e;rw[e]at f1⊢;by_cases j:q.kind=1
   ·rw[Kao m q n j];obtain⟨u,z,D,B⟩:=f1.last j;refine⟨?_,.inr ⟨m,_,rfl,j⟩,Int.le_refl _⟩;simp only[j,B];exact .keep m (q.n+n) u z (by omega)
   ·rw[Kak m q n j];refine⟨.keep _ n f1 (by rw[vam];exact j) p,.inr ⟨_,_,rfl,rfl⟩,Int.le_refl _⟩
theorem BNF.step {s:Bst}(h:BNF s){p:zaa}(z:jab p=true):BNF (s.step p):=by
 unfold Bst.step;rcases Zab z with⟨j,n,q,u⟩|⟨j,n,q,_⟩|⟨j,n,q,u⟩
 ·rw[if_pos j];exact h.keep n
 ·rw[if_neg (by omega),if_pos j];exact⟨h.nf,h.e,h.d⟩
 ·rw[if_neg (by omega),if_neg (by omega)];exact⟨h.nf,h.e,by have:=h.d;simp only[Bst.drops];omega⟩
theorem BNF.fold:∀(o:List zaa) (s:Bst),BNF s->o.all jab=true->BNF (o.foldl Bst.step s)
 |[],s,h,_=>h
 |p::o,s,h,j=>by
  simp only[List.all_cons,Bool.and_eq_true]at j;exact BNF.fold o _ (h.step j.1) j.2
theorem qa0 {o:List zaa}(h:o.all jab=true):NF (normal o):=(BNF.fold o ⟨[],[],0⟩ ⟨.nil,.inl rfl,Int.le_refl _⟩ h).flush.1
theorem NF.fold {l:List zaa}(h:NF l):(l.foldl Bst.step ⟨[],[],0⟩).flush.list=l/\0<=(l.foldl Bst.step ⟨[],[],0⟩).drop:=by
 induction h with
 |nil=>exact⟨rfl,Int.le_refl _⟩
 |keep l n D p B u=>
  rw[List.foldl_append];generalize l.foldl Bst.step ⟨[],[],0⟩=s at u;have e:[(⟨1,n,[]⟩:zaa)].foldl Bst.step s=⟨l++[⟨1,n,[]⟩],[],0⟩:=by
   simp only[List.foldl_cons,List.foldl_nil,Bst.step,if_true,Bst.keep];rw[if_neg (by omega),u.1]
   rcases List.eq_nil_or_concat l with e|⟨m,q,e⟩
   ·rw[e];rfl
   ·rw[List.concat_eq_append]at e;rw[e]at p⊢;rw[Kak m q n (by rwa[vam]at p)]
  rw[e];exact⟨by simp[Bst.flush],Int.le_refl _⟩
 |put l g D p B u=>
  rw[List.foldl_append];generalize l.foldl Bst.step ⟨[],[],0⟩=s at u;obtain⟨j,M⟩:=u;have z:s.put=[]/\s.drop=0:=by
   unfold Bst.flush at j;simp only at j;by_cases hd:0<s.drop
   ·rw[if_pos hd]at j;rcases p with p|p
    ·rw[p]at j;simp at j
    ·rw[<-j,vam]at p;simp at p
   ·rw[if_neg hd,List.append_nil]at j;by_cases I:s.put=[]
    ·exact⟨I,by omega⟩
    ·rw[if_neg I]at j;rcases p with p|p
     ·rw[p]at j;simp at j
     ·rw[<-j,vam]at p;simp at p
  have J:s.list=l:=by
   rw[<-j];simp[Bst.flush,z.1,z.2]
  have e:[(⟨2,0,g⟩:zaa)].foldl Bst.step s=⟨l,g,0⟩:=by
   simp only[List.foldl_cons,List.foldl_nil,Bst.step,Bst.puts];rw[if_neg (by decide),if_pos trivial,J,z.1,z.2];rfl
  rw[e];exact⟨by simp[Bst.flush,B],Int.le_refl _⟩
 |drop l n D p B u=>
  rw[List.foldl_append];generalize l.foldl Bst.step ⟨[],[],0⟩=s at u;obtain⟨j,M⟩:=u;have z:s.drop=0:=by
   unfold Bst.flush at j;simp only at j;by_cases hd:0<s.drop
   ·rw[if_pos hd]at j;rw[<-j,vam]at p;simp at p
   ·omega
  have e:[(⟨3,n,[]⟩:zaa)].foldl Bst.step s=⟨s.list,s.put,n⟩:=by
   simp only[List.foldl_cons,List.foldl_nil,Bst.step,Bst.drops];rw[if_neg (by decide),if_neg (by decide),z];simp
  rw[e];refine⟨?_,Int.le_of_lt B⟩;unfold Bst.flush at j⊢;simp only at j⊢;simp only[z,show ¬((0:Int)<0)from by decide,if_false,List.append_nil]at j
  simp only[B,if_true,j]
theorem QaL {o:List zaa}(h:o.all jab=true):normal (normal o)=normal o:=(qa0 h).fold.1
def jbd (b:Int)(s:Bst):Int:=kab b s.list+(if b=2 then 0 else(s.put.length:Int))+(if b=3 then 0 else s.drop)
theorem kaR (b:Int){s:Bst}(h:0<=s.drop):kab b s.flush.list=jbd b s:=by
 unfold Bst.flush jbd;simp only[Zag];have n:kab b (if s.put=[]then[]else[⟨2,0,s.put⟩])=if b=2 then 0 else(s.put.length:Int):=by
  by_cases j:s.put=[]
  ·rw[if_pos j,j];simp[kab]
  ·rw[if_neg j];simp only[kab,Jae];by_cases hb:b=2
   ·rw[if_pos hb,if_pos hb.symm];simp
   ·rw[if_neg hb,if_neg (Ne.symm hb)];simp
 have p:kab b (if 0<s.drop then[⟨3,s.drop,[]⟩]else[])=if b=3 then 0 else s.drop:=by
  by_cases hd:0<s.drop
  ·rw[if_pos hd];simp only[kab,Jae];by_cases hb:b=3
   ·rw[if_pos hb,if_pos hb.symm];simp
   ·rw[if_neg hb,if_neg (Ne.symm hb)];simp
  ·rw[if_neg hd];simp only[kab];split<;>omega
 rw[n,p]
theorem jaV (b:Int)(hb:b≠1)(l:List zaa)(n:Int):kab b (qau l n)=kab b l+n:=by
 rcases List.eq_nil_or_concat l with e|⟨m,q,e⟩
 ·rw[e,xar];simp[kab,Jae,Ne.symm hb]
 ·rw[List.concat_eq_append]at e;rw[e];by_cases j:q.kind=1
  ·rw[Kao m q n j,Zag,Zag];simp only[kab,Jae,j,if_neg (Ne.symm hb)];omega
  ·rw[Kak m q n j,Zag];simp[kab,Jae,Ne.symm hb]
theorem ybf (b:Int)(hb:b≠1){s:Bst}(hd:0<=s.drop){p:zaa}(I:jab p=true):jbd b (s.step p)=jbd b s+(if p.kind=b then 0 else Jae p):=by
 unfold Bst.step;rcases Zab I with⟨q,z,D,B⟩|⟨q,z,D,_⟩|⟨q,z,D,B⟩
 ·rw[if_pos q,q,if_neg (Ne.symm hb)];unfold Bst.keep;have u:Jae p=p.n:=by simp[Jae,B]
  split
  ·omega
  ·unfold jbd;simp only[jaV b hb,kaR b hd];rw[u];unfold jbd;simp;try(split<;>split<;>omega)
 ·rw[if_neg (by omega),if_pos q,q]
  unfold jbd Bst.puts;have u:Jae p=p.signs.length:=by simp[Jae,z]
  by_cases j:b=2
  ·subst j;simp
  ·simp only[if_neg j,if_neg (Ne.symm j),List.length_append,u];omega
 ·rw[if_neg (by omega),if_neg (by omega),q]
  unfold jbd Bst.drops;have u:Jae p=p.n:=by simp[Jae,B]
  by_cases j:b=3
  ·subst j;simp
  ·simp only[if_neg j,if_neg (Ne.symm j),u];omega
theorem xa0 (b:Int)(hb:b≠1):∀(o:List zaa) (s:Bst),BNF s->o.all jab=true->jbd b (o.foldl Bst.step s)=jbd b s+kab b o
 |[],s,_,_=>by simp[kab]
 |p::o,s,h,j=>by
  simp only[List.all_cons,Bool.and_eq_true]at j;rw[List.foldl_cons,xa0 b hb o _ (h.step j.1) j.2,ybf b hb h.d j.1];simp only[kab];omega
theorem kar (b:Int)(hb:b≠1){o:List zaa}(h:o.all jab=true):kab b (normal o)=kab b o:=by
 have j:BNF ⟨[],[],0⟩:=⟨.nil,.inl rfl,Int.le_refl _⟩;unfold normal;rw[kaR b (BNF.fold o _ j h).d,xa0 b hb o _ j h];simp[jbd,kab]
def zbj (l:List zaa):Prop:=∀p∈l,p.signs.all vak=true
theorem ja7 {s:Bst}(n:zbj s.list)(q:s.put.all vak=true):zbj s.flush.list:=by
 intro p j;unfold Bst.flush at j;simp only[lm]at j;rcases j with(j|j)|j
 ·exact n p j
 ·split at j
  ·cases j
  ·simp at j;subst j;exact q
 ·split at j
  ·simp at j;subst j;rfl
  ·cases j
theorem ybj {s:Bst}(u:zbj s.list)(z:s.put.all vak=true){p:zaa}(Q:jab p=true):zbj (s.step p).list/\(s.step p).put.all vak=true:=by
 unfold Bst.step;rcases Zab Q with⟨D,J,M,I⟩|⟨D,J,M,I⟩|⟨D,J,M,I⟩
 ·rw[if_pos D];unfold Bst.keep;split
  ·exact⟨u,z⟩
  ·have B:=ja7 u z;refine⟨?_,rfl⟩;simp only;rcases List.eq_nil_or_concat s.flush.list with e|⟨m,q,e⟩
   ·rw[e,xar];intro x j;simp at j;subst j;rfl
   ·rw[List.concat_eq_append]at e;rw[e]at B⊢;by_cases N:q.kind=1
    ·rw[Kao m q p.n N];intro x j;rcases lm.1 j with j|j
     ·exact B x (by simp[j])
     ·simp at j;subst j;exact B q (by simp)
    ·rw[Kak m q p.n N];intro x j;rcases lm.1 j with j|j
     ·exact B x j
     ·simp at j;subst j;rfl
 ·rw[if_neg (by omega),if_pos D]
  exact⟨u,by simp only[Bst.puts,List.all_append,z,Bool.true_and];exact I⟩
 ·rw[if_neg (by omega),if_neg (by omega)]
  exact⟨u,z⟩
theorem ybe:∀(o:List zaa) (s:Bst),zbj s.list->s.put.all vak=true->o.all jab=true->zbj (o.foldl Bst.step s).list/\(o.foldl Bst.step s).put.all vak=true
 |[],_,j,n,_=>⟨j,n⟩
 |p::o,s,j,n,q=>by
  simp only[List.all_cons,Bool.and_eq_true]at q;obtain⟨u,z⟩:=ybj j n q.1;exact ybe o _ u z q.2
theorem Qbb {o:List zaa}(h:o.all jab=true):zbj (normal o):=by
 obtain⟨j,n⟩:=ybe o ⟨[],[],0⟩ (fun _ h=>by cases h) rfl h
 exact ja7 j n
theorem NF.parts {l:List zaa}(h:NF l):∀p∈l,(p.kind=1/\0<p.n/\p.signs=[])\/(p.kind=2/\p.n=0/\p.signs≠[])\/(p.kind=3/\0<p.n/\p.signs=[]):=by
 induction h with
 |nil=>intro p j;cases j
 |keep l n _ _ u q=>intro p j;rcases lm.1 j with j|j;exact q p j;simp at j;subst j;exact .inl ⟨rfl,u,rfl⟩
 |put l g _ _ z q=>intro p j;rcases lm.1 j with j|j;exact q p j;simp at j;subst j;exact .inr (.inl ⟨rfl,rfl,z⟩)
 |drop l n _ _ u q=>intro p j;rcases lm.1 j with j|j;exact q p j;simp at j;subst j;exact .inr (.inr ⟨rfl,u,rfl⟩)
theorem xa1:∀{l:List zaa},(∀p∈l,(p.kind=1/\0<p.n/\p.signs=[])\/(p.kind=2/\p.n=0/\p.signs≠[])\/(p.kind=3/\0<p.n/\p.signs=[]))->
 0<=kab 2 l/\0<=kab 3 l/\(l.length:Int)<=kab 2 l+kab 3 l/\∀p∈l,Jae p<=(if p.kind=2 then kab 3 l else kab 2 l)
 |[],_=>⟨Int.le_refl _,Int.le_refl _,by simp[kab],fun _ h=>by cases h⟩
 |q::l,h=>by
  obtain⟨I,J,M,D⟩:=xa1 (l:=l) fun p u=>h p (List.mem_cons_of_mem _ u)
  simp only[kab,List.length_cons];have z:=h q (by simp)
  have B:0<Jae q:=by
   unfold Jae;rcases z with⟨_,a,b⟩|⟨_,a,b⟩|⟨_,a,b⟩
   ·rw[b];simpa using a
   ·have:=List.length_pos_iff.2 b;omega
   ·rw[b];simpa using a
  have j:q.kind=1\/q.kind=2\/q.kind=3:=by rcases z with⟨a,_⟩|⟨a,_⟩|⟨a,_⟩<;>simp[a]
  refine⟨by split<;>omega,by split<;>omega,by rcases j with j|j|j<;>rw[j]<;>simp<;>omega,fun p u=> ?_⟩
  rcases List.mem_cons.1 u with rfl|u
  ·rcases j with j|j|j<;>rw[j]<;>simp<;>omega
  ·have:=D p u;split at this
   ·rename_i k;rw[if_pos k];split<;>omega
   ·rename_i k;rw[if_neg k];split<;>omega
theorem Zba {o:List zaa}(h:o.all jab=true):jag (normal o)=(decide (kab 2 o<=200)&&decide (kab 3 o<=200)):=by
 rw[<-kar 2 (by decide) h,<-kar 3 (by decide) h]
 by_cases n:kab 2 (normal o)<=200
 ·by_cases q:kab 3 (normal o)<=200
  ·have B:=(qa0 h).parts;obtain⟨M,N,Q,D⟩:=xa1 B;have J:=Qbb h;have:jag (normal o)=true:=by
    rw[Zam];refine⟨List.all_eq_true.2 fun p z=> ?_,by omega,n,q⟩
    have j:=D p z;unfold Jae at j;rcases B p z with⟨a,b,c⟩|⟨a,b,c⟩|⟨a,b,c⟩
    ·rw[a,c]at j;simp at j;simp[jab,a,within,c];omega
    ·rw[a,b]at j;simp at j;have I:yal p.signs=true:=J p z;simp[jab,a,b,I];omega
    ·rw[a,c]at j;simp at j;simp[jab,a,within,c];omega
   rw[this];simp[n,q]
  ·have:jag (normal o)=false:=by
    rw[Bool.eq_false_iff];intro u;exact q (Zam.1 u).2.2.2
   rw[this];simp[q]
 ·have:jag (normal o)=false:=by
   rw[Bool.eq_false_iff];intro u;exact n (Zam.1 u).2.2.1
  rw[this];simp[n]
theorem kbc {o:List zaa}(h:jag o=true):jag (Xak o)=true/\kab 2 (Xak o)=kab 2 o/\kab 3 (Xak o)=kab 3 o/\Xak (Xak o)=Xak o:=by
 obtain⟨j,_,p,q⟩:=Zam.1 h;have e:Xak o=normal o:=if_pos h;have n:jag (normal o)=true:=by rw[Zba j];simp[p,q]
 rw[e];exact⟨n,kar 2 (by decide) j,kar 3 (by decide) j,(if_pos n).trans (QaL j)⟩
theorem jaM {o:List zaa}(h:o.all jab=true)(j:jag (normal o)=true):kao (normal o)=true:=by
 unfold kao Xak;rw[j,if_pos rfl,QaL h];simp
