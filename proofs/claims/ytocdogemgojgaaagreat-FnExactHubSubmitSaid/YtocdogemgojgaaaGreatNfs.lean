/- The shape of a normal form: what is normal stays as it is; sums are kept. -/
import Derived.Test.YtocdogemgojgaaaGreatApl
import Derived.Test.YtocdogemgojgaaaGreatBu
namespace Go.Proofs.YtocdogemgojgaaaGreat
open Go.RowKit
def endK (k:Int)(l:List DPart):Prop:=∃m p,l=m++[p]/\p.kind=k
inductive NF:List DPart->Prop
 |nil:NF []
 |keep (l:List DPart) (n:Int):NF l->¬endK 1 l->0<n->NF (l++[⟨1,n,[]⟩])
 |put (l:List DPart) (g:List Int):NF l->(l=[]\/endK 1 l)->g≠[]->NF (l++[⟨2,0,g⟩])
 |drop (l:List DPart) (n:Int):NF l->¬endK 3 l->0<n->NF (l++[⟨3,n,[]⟩])
theorem endK_snoc {k:Int}{l:List DPart}{p:DPart}:endK k (l++[p])↔p.kind=k:=by
 constructor
 ·rintro⟨m,q,e,h⟩;have:=List.append_inj_right' e (by simp)
  simp at this;rw[this];exact h
 ·intro h;exact⟨l,p,rfl,h⟩
theorem endK_nil {k:Int}:¬endK k []:=by rintro⟨m,p,e,_⟩;simp at e
theorem endK_ne {k j:Int}{l:List DPart}(h:endK k l)(n:k≠j):¬endK j l:=by
 obtain⟨m,p,rfl,h⟩:=h;rw[endK_snoc];omega
structure BNF (s:Bst):Prop where
 nf:NF s.list
 e:s.list=[]\/endK 1 s.list
 d:0<=s.drop
theorem BNF.flush {s:Bst}(h:BNF s):NF s.flush.list/\(s.flush.list=s.list\/¬endK 1 s.flush.list):=by
 unfold Bst.flush;simp only;by_cases j:s.put=[]
 ·by_cases hd:0<s.drop
  ·rw[if_pos j,if_pos hd,List.append_nil];refine⟨.drop _ _ h.nf ?_ hd,.inr (by rw[endK_snoc];simp)⟩
   rcases h.e with e|e
   ·rw[e];exact endK_nil
   ·exact endK_ne e (by decide)
  ·rw[if_pos j,if_neg hd];simp only[List.append_nil];exact⟨h.nf,.inl trivial⟩
 ·have n:NF (s.list++[⟨2,0,s.put⟩]):= .put _ _ h.nf h.e j;by_cases hd:0<s.drop
  ·rw[if_neg j,if_pos hd];exact⟨.drop _ _ n (by rw[endK_snoc];simp) hd,.inr (by rw[endK_snoc];simp)⟩
  ·rw[if_neg j,if_neg hd,List.append_nil];exact⟨n,.inr (by rw[endK_snoc];simp)⟩
theorem NF.last {l:List DPart}{p:DPart}(h:NF (l++[p]))(k:p.kind=1):NF l/\¬endK 1 l/\0<p.n/\p.signs=[]:=by
 generalize e:l++[p]=L at h;cases h with
 |nil=>simp at e
 |keep B n q u z=>
  obtain⟨rfl,j⟩:=List.append_inj' e (by simp)
  simp at j;subst j;exact⟨q,u,z,rfl⟩
 |put B g q u z=>
  obtain⟨rfl,j⟩:=List.append_inj' e (by simp)
  simp at j;subst j;simp at k
 |drop B n q u z=>
  obtain⟨rfl,j⟩:=List.append_inj' e (by simp)
  simp at j;subst j;simp at k
theorem BNF.keep {s:Bst}(h:BNF s){n:Int}(p:0<=n):BNF (s.keep n):=by
 unfold Bst.keep;split
 ·exact h
 ·rename_i I
  have p:0<n:=by omega
  obtain⟨f1,f2⟩:=h.flush;rcases List.eq_nil_or_concat s.flush.list with e|⟨m,q,e⟩
  ·rw[e,keepOn_nil];exact⟨.keep [] n .nil endK_nil p,.inr ⟨[],_,rfl,rfl⟩,Int.le_refl _⟩
  ·rw[List.concat_eq_append]at e;rw[e]at f1⊢;by_cases j:q.kind=1
   ·rw[keepOn_keep m q n j];obtain⟨u,z,D,B⟩:=f1.last j;refine⟨?_,.inr ⟨m,_,rfl,j⟩,Int.le_refl _⟩;simp only[j,B];exact .keep m (q.n+n) u z (by omega)
   ·rw[keepOn_other m q n j];refine⟨.keep _ n f1 (by rw[endK_snoc];exact j) p,.inr ⟨_,_,rfl,rfl⟩,Int.le_refl _⟩
theorem BNF.step {s:Bst}(h:BNF s){p:DPart}(z:partOk p=true):BNF (s.step p):=by
 unfold Bst.step;rcases partOk_cases z with⟨j,n,q,u⟩|⟨j,n,q,_⟩|⟨j,n,q,u⟩
 ·rw[if_pos j];exact h.keep n
 ·rw[if_neg (by omega),if_pos j];exact⟨h.nf,h.e,h.d⟩
 ·rw[if_neg (by omega),if_neg (by omega)];exact⟨h.nf,h.e,by have:=h.d;simp only[Bst.drops];omega⟩
theorem BNF.fold:∀(o:List DPart) (s:Bst),BNF s->o.all partOk=true->BNF (o.foldl Bst.step s)
 |[],s,h,_=>h
 |p::o,s,h,j=>by
  simp only[List.all_cons,Bool.and_eq_true]at j;exact BNF.fold o _ (h.step j.1) j.2
theorem normal_nf {o:List DPart}(h:o.all partOk=true):NF (normal o):=(BNF.fold o ⟨[],[],0⟩ ⟨.nil,.inl rfl,Int.le_refl _⟩ h).flush.1
theorem NF.fold {l:List DPart}(h:NF l):(l.foldl Bst.step ⟨[],[],0⟩).flush.list=l/\0<=(l.foldl Bst.step ⟨[],[],0⟩).drop:=by
 induction h with
 |nil=>exact⟨rfl,Int.le_refl _⟩
 |keep l n D p B u=>
  rw[List.foldl_append];generalize l.foldl Bst.step ⟨[],[],0⟩=s at u;have e:[(⟨1,n,[]⟩:DPart)].foldl Bst.step s=⟨l++[⟨1,n,[]⟩],[],0⟩:=by
   simp only[List.foldl_cons,List.foldl_nil,Bst.step,if_true,Bst.keep];rw[if_neg (by omega),u.1]
   rcases List.eq_nil_or_concat l with e|⟨m,q,e⟩
   ·rw[e];rfl
   ·rw[List.concat_eq_append]at e;rw[e]at p⊢;rw[keepOn_other m q n (by rwa[endK_snoc]at p)]
  rw[e];exact⟨by simp[Bst.flush],Int.le_refl _⟩
 |put l g D p B u=>
  rw[List.foldl_append];generalize l.foldl Bst.step ⟨[],[],0⟩=s at u;obtain⟨j,M⟩:=u;have z:s.put=[]/\s.drop=0:=by
   unfold Bst.flush at j;simp only at j;by_cases hd:0<s.drop
   ·rw[if_pos hd]at j;rcases p with p|p
    ·rw[p]at j;simp at j
    ·rw[<-j,endK_snoc]at p;simp at p
   ·rw[if_neg hd,List.append_nil]at j;by_cases I:s.put=[]
    ·exact⟨I,by omega⟩
    ·rw[if_neg I]at j;rcases p with p|p
     ·rw[p]at j;simp at j
     ·rw[<-j,endK_snoc]at p;simp at p
  have J:s.list=l:=by
   rw[<-j];simp[Bst.flush,z.1,z.2]
  have e:[(⟨2,0,g⟩:DPart)].foldl Bst.step s=⟨l,g,0⟩:=by
   simp only[List.foldl_cons,List.foldl_nil,Bst.step,Bst.puts];rw[if_neg (by decide),if_pos trivial,J,z.1,z.2];rfl
  rw[e];exact⟨by simp[Bst.flush,B],Int.le_refl _⟩
 |drop l n D p B u=>
  rw[List.foldl_append];generalize l.foldl Bst.step ⟨[],[],0⟩=s at u;obtain⟨j,M⟩:=u;have z:s.drop=0:=by
   unfold Bst.flush at j;simp only at j;by_cases hd:0<s.drop
   ·rw[if_pos hd]at j;rw[<-j,endK_snoc]at p;simp at p
   ·omega
  have e:[(⟨3,n,[]⟩:DPart)].foldl Bst.step s=⟨s.list,s.put,n⟩:=by
   simp only[List.foldl_cons,List.foldl_nil,Bst.step,Bst.drops];rw[if_neg (by decide),if_neg (by decide),z];simp
  rw[e];refine⟨?_,Int.le_of_lt B⟩;unfold Bst.flush at j⊢;simp only at j⊢;simp only[z,show ¬((0:Int)<0)from by decide,if_false,List.append_nil]at j
  simp only[B,if_true,j]
theorem normal_idem {o:List DPart}(h:o.all partOk=true):normal (normal o)=normal o:=(normal_nf h).fold.1
def bsum (b:Int)(s:Bst):Int:=sumBut b s.list+(if b=2 then 0 else(s.put.length:Int))+(if b=3 then 0 else s.drop)
theorem bsum_flush (b:Int){s:Bst}(h:0<=s.drop):sumBut b s.flush.list=bsum b s:=by
 unfold Bst.flush bsum;simp only[sumBut_append];have n:sumBut b (if s.put=[]then[]else[⟨2,0,s.put⟩])=if b=2 then 0 else(s.put.length:Int):=by
  by_cases j:s.put=[]
  ·rw[if_pos j,j];simp[sumBut]
  ·rw[if_neg j];simp only[sumBut,psize];by_cases hb:b=2
   ·rw[if_pos hb,if_pos hb.symm];simp
   ·rw[if_neg hb,if_neg (Ne.symm hb)];simp
 have p:sumBut b (if 0<s.drop then[⟨3,s.drop,[]⟩]else[])=if b=3 then 0 else s.drop:=by
  by_cases hd:0<s.drop
  ·rw[if_pos hd];simp only[sumBut,psize];by_cases hb:b=3
   ·rw[if_pos hb,if_pos hb.symm];simp
   ·rw[if_neg hb,if_neg (Ne.symm hb)];simp
  ·rw[if_neg hd];simp only[sumBut];split<;>omega
 rw[n,p]
theorem sumBut_keepOn (b:Int)(hb:b≠1)(l:List DPart)(n:Int):sumBut b (keepOn l n)=sumBut b l+n:=by
 rcases List.eq_nil_or_concat l with e|⟨m,q,e⟩
 ·rw[e,keepOn_nil];simp[sumBut,psize,Ne.symm hb]
 ·rw[List.concat_eq_append]at e;rw[e];by_cases j:q.kind=1
  ·rw[keepOn_keep m q n j,sumBut_append,sumBut_append];simp only[sumBut,psize,j,if_neg (Ne.symm hb)];omega
  ·rw[keepOn_other m q n j,sumBut_append];simp[sumBut,psize,Ne.symm hb]
theorem bsum_step (b:Int)(hb:b≠1){s:Bst}(hd:0<=s.drop){p:DPart}(I:partOk p=true):bsum b (s.step p)=bsum b s+(if p.kind=b then 0 else psize p):=by
 unfold Bst.step;rcases partOk_cases I with⟨q,z,D,B⟩|⟨q,z,D,_⟩|⟨q,z,D,B⟩
 ·rw[if_pos q,q,if_neg (Ne.symm hb)];unfold Bst.keep;have u:psize p=p.n:=by simp[psize,B]
  split
  ·omega
  ·unfold bsum;simp only[sumBut_keepOn b hb,bsum_flush b hd];rw[u];unfold bsum;simp;try(split<;>split<;>omega)
 ·rw[if_neg (by omega),if_pos q,q]
  unfold bsum Bst.puts;have u:psize p=p.signs.length:=by simp[psize,z]
  by_cases j:b=2
  ·subst j;simp
  ·simp only[if_neg j,if_neg (Ne.symm j),List.length_append,u];omega
 ·rw[if_neg (by omega),if_neg (by omega),q]
  unfold bsum Bst.drops;have u:psize p=p.n:=by simp[psize,B]
  by_cases j:b=3
  ·subst j;simp
  ·simp only[if_neg j,if_neg (Ne.symm j),u];omega
theorem bsum_fold (b:Int)(hb:b≠1):∀(o:List DPart) (s:Bst),BNF s->o.all partOk=true->bsum b (o.foldl Bst.step s)=bsum b s+sumBut b o
 |[],s,_,_=>by simp[sumBut]
 |p::o,s,h,j=>by
  simp only[List.all_cons,Bool.and_eq_true]at j;rw[List.foldl_cons,bsum_fold b hb o _ (h.step j.1) j.2,bsum_step b hb h.d j.1];simp only[sumBut];omega
theorem normal_sum (b:Int)(hb:b≠1){o:List DPart}(h:o.all partOk=true):sumBut b (normal o)=sumBut b o:=by
 have j:BNF ⟨[],[],0⟩:=⟨.nil,.inl rfl,Int.le_refl _⟩;unfold normal;rw[bsum_flush b (BNF.fold o _ j h).d,bsum_fold b hb o _ j h];simp[bsum,sumBut]
def sgOk (l:List DPart):Prop:=∀p∈l,p.signs.all signOk=true
theorem sg_flush {s:Bst}(n:sgOk s.list)(q:s.put.all signOk=true):sgOk s.flush.list:=by
 intro p j;unfold Bst.flush at j;simp only[lm]at j;rcases j with(j|j)|j
 ·exact n p j
 ·split at j
  ·cases j
  ·simp at j;subst j;exact q
 ·split at j
  ·simp at j;subst j;rfl
  ·cases j
theorem sg_step {s:Bst}(u:sgOk s.list)(z:s.put.all signOk=true){p:DPart}(Q:partOk p=true):sgOk (s.step p).list/\(s.step p).put.all signOk=true:=by
 unfold Bst.step;rcases partOk_cases Q with⟨D,J,M,I⟩|⟨D,J,M,I⟩|⟨D,J,M,I⟩
 ·rw[if_pos D];unfold Bst.keep;split
  ·exact⟨u,z⟩
  ·have B:=sg_flush u z;refine⟨?_,rfl⟩;simp only;rcases List.eq_nil_or_concat s.flush.list with e|⟨m,q,e⟩
   ·rw[e,keepOn_nil];intro x j;simp at j;subst j;rfl
   ·rw[List.concat_eq_append]at e;rw[e]at B⊢;by_cases N:q.kind=1
    ·rw[keepOn_keep m q p.n N];intro x j;rcases lm.1 j with j|j
     ·exact B x (by simp[j])
     ·simp at j;subst j;exact B q (by simp)
    ·rw[keepOn_other m q p.n N];intro x j;rcases lm.1 j with j|j
     ·exact B x j
     ·simp at j;subst j;rfl
 ·rw[if_neg (by omega),if_pos D]
  exact⟨u,by simp only[Bst.puts,List.all_append,z,Bool.true_and];exact I⟩
 ·rw[if_neg (by omega),if_neg (by omega)]
  exact⟨u,z⟩
theorem sg_fold:∀(o:List DPart) (s:Bst),sgOk s.list->s.put.all signOk=true->o.all partOk=true->sgOk (o.foldl Bst.step s).list/\(o.foldl Bst.step s).put.all signOk=true
 |[],_,j,n,_=>⟨j,n⟩
 |p::o,s,j,n,q=>by
  simp only[List.all_cons,Bool.and_eq_true]at q;obtain⟨u,z⟩:=sg_step j n q.1;exact sg_fold o _ u z q.2
theorem normal_sg {o:List DPart}(h:o.all partOk=true):sgOk (normal o):=by
 obtain⟨j,n⟩:=sg_fold o ⟨[],[],0⟩ (fun _ h=>by cases h) rfl h
 exact sg_flush j n
theorem NF.parts {l:List DPart}(h:NF l):∀p∈l,(p.kind=1/\0<p.n/\p.signs=[])\/(p.kind=2/\p.n=0/\p.signs≠[])\/(p.kind=3/\0<p.n/\p.signs=[]):=by
 induction h with
 |nil=>intro p j;cases j
 |keep l n _ _ u q=>intro p j;rcases lm.1 j with j|j;exact q p j;simp at j;subst j;exact .inl ⟨rfl,u,rfl⟩
 |put l g _ _ z q=>intro p j;rcases lm.1 j with j|j;exact q p j;simp at j;subst j;exact .inr (.inl ⟨rfl,rfl,z⟩)
 |drop l n _ _ u q=>intro p j;rcases lm.1 j with j|j;exact q p j;simp at j;subst j;exact .inr (.inr ⟨rfl,u,rfl⟩)
theorem nf_bounds:∀{l:List DPart},(∀p∈l,(p.kind=1/\0<p.n/\p.signs=[])\/(p.kind=2/\p.n=0/\p.signs≠[])\/(p.kind=3/\0<p.n/\p.signs=[]))->
 0<=sumBut 2 l/\0<=sumBut 3 l/\(l.length:Int)<=sumBut 2 l+sumBut 3 l/\∀p∈l,psize p<=(if p.kind=2 then sumBut 3 l else sumBut 2 l)
 |[],_=>⟨Int.le_refl _,Int.le_refl _,by simp[sumBut],fun _ h=>by cases h⟩
 |q::l,h=>by
  obtain⟨I,J,M,D⟩:=nf_bounds (l:=l) fun p u=>h p (List.mem_cons_of_mem _ u)
  simp only[sumBut,List.length_cons];have z:=h q (by simp)
  have B:0<psize q:=by
   unfold psize;rcases z with⟨_,a,b⟩|⟨_,a,b⟩|⟨_,a,b⟩
   ·rw[b];simpa using a
   ·have:=List.length_pos_iff.2 b;omega
   ·rw[b];simpa using a
  have j:q.kind=1\/q.kind=2\/q.kind=3:=by rcases z with⟨a,_⟩|⟨a,_⟩|⟨a,_⟩<;>simp[a]
  refine⟨by split<;>omega,by split<;>omega,by rcases j with j|j|j<;>rw[j]<;>simp<;>omega,fun p u=> ?_⟩
  rcases List.mem_cons.1 u with rfl|u
  ·rcases j with j|j|j<;>rw[j]<;>simp<;>omega
  ·have:=D p u;split at this
   ·rename_i k;rw[if_pos k];split<;>omega
   ·rename_i k;rw[if_neg k];split<;>omega
theorem normal_ok {o:List DPart}(h:o.all partOk=true):opOk (normal o)=(decide (sumBut 2 o<=200)&&decide (sumBut 3 o<=200)):=by
 rw[<-normal_sum 2 (by decide) h,<-normal_sum 3 (by decide) h]
 by_cases n:sumBut 2 (normal o)<=200
 ·by_cases q:sumBut 3 (normal o)<=200
  ·have B:=(normal_nf h).parts;obtain⟨M,N,Q,D⟩:=nf_bounds B;have J:=normal_sg h;have:opOk (normal o)=true:=by
    rw[opOk_iff];refine⟨List.all_eq_true.2 fun p z=> ?_,by omega,n,q⟩
    have j:=D p z;unfold psize at j;rcases B p z with⟨a,b,c⟩|⟨a,b,c⟩|⟨a,b,c⟩
    ·rw[a,c]at j;simp at j;simp[partOk,a,within,c];omega
    ·rw[a,b]at j;simp at j;have I:signsOk p.signs=true:=J p z;simp[partOk,a,b,I];omega
    ·rw[a,c]at j;simp at j;simp[partOk,a,within,c];omega
   rw[this];simp[n,q]
  ·have:opOk (normal o)=false:=by
    rw[Bool.eq_false_iff];intro u;exact q (opOk_iff.1 u).2.2.2
   rw[this];simp[q]
 ·have:opOk (normal o)=false:=by
   rw[Bool.eq_false_iff];intro u;exact n (opOk_iff.1 u).2.2.1
  rw[this];simp[n]
theorem opNorm_ok {o:List DPart}(h:opOk o=true):opOk (opNorm o)=true/\sumBut 2 (opNorm o)=sumBut 2 o/\sumBut 3 (opNorm o)=sumBut 3 o/\opNorm (opNorm o)=opNorm o:=by
 obtain⟨j,_,p,q⟩:=opOk_iff.1 h;have e:opNorm o=normal o:=if_pos h;have n:opOk (normal o)=true:=by rw[normal_ok j];simp[p,q]
 rw[e];exact⟨n,normal_sum 2 (by decide) j,normal_sum 3 (by decide) j,(if_pos n).trans (normal_idem j)⟩
theorem normal_norm {o:List DPart}(h:o.all partOk=true)(j:opOk (normal o)=true):isNorm (normal o)=true:=by
 unfold isNorm opNorm;rw[j,if_pos rfl,normal_idem h];simp
