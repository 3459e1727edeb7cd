/- The shape of a normal form: what is normal stays as it is; sums are kept. -/
import Derived.Test.YtbonkabfmlajnaaGreatQraj
namespace Go.Proofs.YtbonkabfmlajnaaGreat
open Go.RowKit
def xbd (k:Int)(l:List zaa):Prop:=∃m p,l=m++[p]/\p.kind=k
inductive NF:List zaa->Prop
 |nil:NF []
 |keep (l:List zaa) (n:Int):NF l->¬xbd 1 l->0<n->NF (l++[⟨1,n,[]⟩])
 |put (l:List zaa) (g:List Int):NF l->(l=[]\/xbd 1 l)->g≠[]->NF (l++[⟨2,0,g⟩])
 |drop (l:List zaa) (n:Int):NF l->¬xbd 3 l->0<n->NF (l++[⟨3,n,[]⟩])
theorem vam {k:Int}{l:List zaa}{p:zaa}:xbd k (l++[p])↔p.kind=k:=by
 constructor
 ·rintro⟨m,q,e,h⟩;have:=List.append_inj_right' e sm;simp at this;rw[this];exact h
 ·intro h;exact⟨l,p,rfl,h⟩
theorem Xa4 {k:Int}:¬xbd k []:=by rintro⟨m,p,e,_⟩;simp at e
theorem zbf {k j:Int}{l:List zaa}(h:xbd k l)(n:k≠j):¬xbd j l:=by
 obtain⟨m,p,rfl,h⟩:=h;rw[vam];omega
structure BNF (s:Bst):Prop where
 nf:NF s.list
 e:s.list=[]\/xbd 1 s.list
 d:0<=s.drop
theorem BNF.flush {s:Bst}(h:BNF s):NF s.flush.list/\(s.flush.list=s.list\/¬xbd 1 s.flush.list):=by
 unfold Bst.flush;simp only;by_cases j:s.put=[]
 ·by_cases hd:0<s.drop
  ·rw[if_pos j,if_pos hd,List.append_nil];refine⟨.drop _ _ h.nf ?_ hd,.inr (by rw[vam];simp)⟩
   rcases h.e with e|e
   ·rw[e];exact Xa4
   ·exact zbf e (by decide)
  ·rw[if_pos j,if_neg hd];simp only[List.append_nil];exact⟨h.nf,.inl trivial⟩
 ·have n:NF (s.list++[⟨2,0,s.put⟩]):= .put _ _ h.nf h.e j;by_cases hd:0<s.drop
  ·rw[if_neg j,if_pos hd];exact⟨.drop _ _ n (by rw[vam];simp) hd,.inr (by rw[vam];simp)⟩
  ·rw[if_neg j,if_neg hd,List.append_nil];exact⟨n,.inr (by rw[vam];simp)⟩
theorem NF.last {l:List zaa}{p:zaa}(h:NF (l++[p]))(k:p.kind=1):NF l/\¬xbd 1 l/\0<p.n/\p.signs=[]:=by
 generalize e:l++[p]=L at h;cases h with
 |nil=>simp at e
 |keep B n q u z=>
  obtain⟨rfl,j⟩:=List.append_inj' e sm;simp at j;subst j;exact⟨q,u,z,rfl⟩
 |put B g q u z=>
  obtain⟨rfl,j⟩:=List.append_inj' e sm;simp at j;subst j;simp at k
 |drop B n q u z=>
  obtain⟨rfl,j⟩:=List.append_inj' e sm;simp at j;subst j;simp at k
theorem BNF.keep {s:Bst}(h:BNF s){n:Int}(p:0<=n):BNF (s.keep n):=by
 unfold Bst.keep;split
 ·exact h
 ·rename_i I
  have p:0<n:=om;obtain⟨f1,f2⟩:=h.flush;rcases List.eq_nil_or_concat s.flush.list with e|⟨m,q,e⟩
  ·rw[e,jar];exact⟨.keep [] n .nil Xa4 p,.inr ⟨[],_,rfl,rfl⟩,Int.le_refl _⟩
  ·rw[List.concat_eq_append]at e;rw[e]at f1⊢;by_cases j:q.kind=1
   ·rw[Xao m q n j];obtain⟨u,z,D,B⟩:=f1.last j;refine⟨?_,.inr ⟨m,_,rfl,j⟩,Int.le_refl _⟩;simp only[j,B];exact .keep m (q.n+n) u z om
   ·rw[Kak m q n j];refine⟨.keep _ n f1 (by rw[vam];exact j) p,.inr ⟨_,_,rfl,rfl⟩,Int.le_refl _⟩
theorem BNF.step {s:Bst}(h:BNF s){p:zaa}(z:kab p=true):BNF (s.step p):=by
 unfold Bst.step;rcases Zab z with⟨j,n,q,u⟩|⟨j,n,q,_⟩|⟨j,n,q,u⟩
 ·rw[if_pos j];exact h.keep n
 ·rw[if_neg om,if_pos j];exact⟨h.nf,h.e,h.d⟩
 ·rw[if_neg om,if_neg om];exact⟨h.nf,h.e,by have:=h.d;simp only[Bst.drops];omega⟩
theorem BNF.fold:∀(o:List zaa) (s:Bst),BNF s->o.all kab=true->BNF (o.foldl Bst.step s)
 |[],s,h,_=>h
 |p::o,s,h,j=>by
  simp only[List.all_cons,Bool.and_eq_true]at j;exact BNF.fold o _ (h.step j.1) j.2
theorem zaZ {o:List zaa}(h:o.all kab=true):NF (normal o):=(BNF.fold o ⟨[],[],0⟩ ⟨.nil,.inl rfl,Int.le_refl _⟩ h).flush.1
theorem NF.fold {l:List zaa}(h:NF l):(l.foldl Bst.step ⟨[],[],0⟩).flush.list=l/\0<=(l.foldl Bst.step ⟨[],[],0⟩).drop:=by
 induction h with
 |nil=>exact⟨rfl,Int.le_refl _⟩
 |keep l n D p B u=>
  rw[List.foldl_append];generalize l.foldl Bst.step ⟨[],[],0⟩=s at u;have e:[(⟨1,n,[]⟩:zaa)].foldl Bst.step s=⟨l++[⟨1,n,[]⟩],[],0⟩:=by
   simp only[List.foldl_cons,List.foldl_nil,Bst.step,if_true,Bst.keep];rw[if_neg om,u.1];rcases List.eq_nil_or_concat l with e|⟨m,q,e⟩
   ·rw[e];rfl
   ·rw[List.concat_eq_append]at e;rw[e]at p⊢;rw[Kak m q n (by rwa[vam]at p)]
  rw[e];exact⟨by simp[Bst.flush],Int.le_refl _⟩
 |put l g D p B u=>
  rw[List.foldl_append];generalize l.foldl Bst.step ⟨[],[],0⟩=s at u;obtain⟨j,M⟩:=u;have z:s.put=[]/\s.drop=0:=by
   unfold Bst.flush at j;simp only at j;by_cases hd:0<s.drop
   ·rw[if_pos hd]at j;rcases p with p|p
    ·rw[p]at j;simp at j
    ·rw[<-j,vam]at p;simp at p
   ·rw[if_neg hd,List.append_nil]at j;by_cases I:s.put=[]
    ·exact⟨I,by omega⟩
    ·rw[if_neg I]at j;rcases p with p|p
     ·rw[p]at j;simp at j
     ·rw[<-j,vam]at p;simp at p
  have J:s.list=l:=by
   rw[<-j];simp[Bst.flush,z.1,z.2]
  have e:[(⟨2,0,g⟩:zaa)].foldl Bst.step s=⟨l,g,0⟩:=by
   simp only[List.foldl_cons,List.foldl_nil,Bst.step,Bst.puts];rw[if_neg (by decide),if_pos trivial,J,z.1,z.2];rfl
  rw[e];exact⟨by simp[Bst.flush,B],Int.le_refl _⟩
 |drop l n D p B u=>
  rw[List.foldl_append];generalize l.foldl Bst.step ⟨[],[],0⟩=s at u;obtain⟨j,M⟩:=u;have z:s.drop=0:=by
   unfold Bst.flush at j;simp only at j;by_cases hd:0<s.drop
   ·rw[if_pos hd]at j;rw[<-j,vam]at p;simp at p
   ·omega
  have e:[(⟨3,n,[]⟩:zaa)].foldl Bst.step s=⟨s.list,s.put,n⟩:=by
   simp only[List.foldl_cons,List.foldl_nil,Bst.step,Bst.drops];rw[if_neg (by decide),if_neg (by decide),z];simp
  rw[e];refine⟨?_,Int.le_of_lt B⟩;unfold Bst.flush at j⊢;simp only at j⊢;simp only[z,show ¬((0:Int)<0)from by decide,if_false,List.append_nil]at j
  simp only[B,if_true,j]
theorem xaN {o:List zaa}(h:o.all kab=true):normal (normal o)=normal o:=(zaZ h).fold.1
def vbc (b:Int)(s:Bst):Int:=vab b s.list+(if b=2 then 0 else(s.put.length:Int))+(if b=3 then 0 else s.drop)
theorem zaQ (b:Int){s:Bst}(h:0<=s.drop):vab b s.flush.list=vbc b s:=by
 unfold Bst.flush vbc;simp only[Qag];have n:vab b (if s.put=[]then[]else[⟨2,0,s.put⟩])=if b=2 then 0 else(s.put.length:Int):=by
  by_cases j:s.put=[]
  ·rw[if_pos j,j];simp[vab]
  ·rw[if_neg j];simp only[vab,Xae];by_cases hb:b=2
   ·rw[if_pos hb,if_pos hb.symm];simp
   ·rw[if_neg hb,if_neg (Ne.symm hb)];simp
 have p:vab b (if 0<s.drop then[⟨3,s.drop,[]⟩]else[])=if b=3 then 0 else s.drop:=by
  by_cases hd:0<s.drop
  ·rw[if_pos hd];simp only[vab,Xae];by_cases hb:b=3
   ·rw[if_pos hb,if_pos hb.symm];simp
   ·rw[if_neg hb,if_neg (Ne.symm hb)];simp
  ·rw[if_neg hd];simp only[vab];split<;>omega
 rw[n,p]
theorem kaT (b:Int)(hb:b≠1)(l:List zaa)(n:Int):vab b (yau l n)=vab b l+n:=by
 rcases List.eq_nil_or_concat l with e|⟨m,q,e⟩
 ·rw[e,jar];simp[vab,Xae,Ne.symm hb]
 ·rw[List.concat_eq_append]at e;rw[e];by_cases j:q.kind=1
  ·rw[Xao m q n j,Qag,Qag];simp only[vab,Xae,j,if_neg (Ne.symm hb)];omega
  ·rw[Kak m q n j,Qag];simp[vab,Xae,Ne.symm hb]
theorem Xbb (b:Int)(hb:b≠1){s:Bst}(hd:0<=s.drop){p:zaa}(I:kab p=true):vbc b (s.step p)=vbc b s+(if p.kind=b then 0 else Xae p):=by
 unfold Bst.step;rcases Zab I with⟨q,z,D,B⟩|⟨q,z,D,_⟩|⟨q,z,D,B⟩
 ·rw[if_pos q,q,if_neg (Ne.symm hb)];unfold Bst.keep;have u:Xae p=p.n:=by simp[Xae,B]
  split
  ·omega
  ·unfold vbc;simp only[kaT b hb,zaQ b hd];rw[u];unfold vbc;simp;try(split<;>split<;>omega)
 ·rw[if_neg om,if_pos q,q];unfold vbc Bst.puts;have u:Xae p=p.signs.length:=by simp[Xae,z]
  by_cases j:b=2
  ·subst j;simp
  ·simp only[if_neg j,if_neg (Ne.symm j),List.length_append,u];omega
 ·rw[if_neg om,if_neg om,q];unfold vbc Bst.drops;have u:Xae p=p.n:=by simp[Xae,B]
  by_cases j:b=3
  ·subst j;simp
  ·simp only[if_neg j,if_neg (Ne.symm j),u];omega
theorem kaX (b:Int)(hb:b≠1):∀(o:List zaa) (s:Bst),BNF s->o.all kab=true->vbc b (o.foldl Bst.step s)=vbc b s+vab b o
 |[],s,_,_=>by simp[vab]
 |p::o,s,h,j=>by
  simp only[List.all_cons,Bool.and_eq_true]at j;rw[List.foldl_cons,kaX b hb o _ (h.step j.1) j.2,Xbb b hb h.d j.1];simp only[vab];omega
theorem qar (b:Int)(hb:b≠1){o:List zaa}(h:o.all kab=true):vab b (normal o)=vab b o:=by
 have j:BNF ⟨[],[],0⟩:=⟨.nil,.inl rfl,Int.le_refl _⟩;unfold normal;rw[zaQ b (BNF.fold o _ j h).d,kaX b hb o _ j h];simp[vbc,vab]
def ybg (l:List zaa):Prop:=∀p∈l,p.signs.all kai=true
theorem Ja4 {s:Bst}(n:ybg s.list)(q:s.put.all kai=true):ybg s.flush.list:=by
 intro p j;unfold Bst.flush at j;simp only[lm]at j;rcases j with(j|j)|j
 ·exact n p j
 ·split at j
  ·cases j
  ·simp at j;subst j;exact q
 ·split at j
  ·simp at j;subst j;rfl
  ·cases j
theorem vbg {s:Bst}(u:ybg s.list)(z:s.put.all kai=true){p:zaa}(Q:kab p=true):ybg (s.step p).list/\(s.step p).put.all kai=true:=by
 unfold Bst.step;rcases Zab Q with⟨D,J,M,I⟩|⟨D,J,M,I⟩|⟨D,J,M,I⟩
 ·rw[if_pos D];unfold Bst.keep;split
  ·exact⟨u,z⟩
  ·have B:=Ja4 u z;refine⟨?_,rfl⟩;simp only;rcases List.eq_nil_or_concat s.flush.list with e|⟨m,q,e⟩
   ·rw[e,jar];intro x j;simp at j;subst j;rfl
   ·rw[List.concat_eq_append]at e;rw[e]at B⊢;by_cases N:q.kind=1
    ·rw[Xao m q p.n N];intro x j;rcases lm.1 j with j|j
     ·exact B x (by simp[j])
     ·simp at j;subst j;exact B q sm
    ·rw[Kak m q p.n N];intro x j;rcases lm.1 j with j|j
     ·exact B x j
     ·simp at j;subst j;rfl
 ·rw[if_neg om,if_pos D];exact⟨u,by simp only[Bst.puts,List.all_append,z,Bool.true_and];exact I⟩
 ·rw[if_neg om,if_neg om];exact⟨u,z⟩
theorem uba:∀(o:List zaa) (s:Bst),ybg s.list->s.put.all kai=true->o.all kab=true->ybg (o.foldl Bst.step s).list/\(o.foldl Bst.step s).put.all kai=true
 |[],_,j,n,_=>⟨j,n⟩
 |p::o,s,j,n,q=>by
  simp only[List.all_cons,Bool.and_eq_true]at q;obtain⟨u,z⟩:=vbg j n q.1;exact uba o _ u z q.2
theorem qba {o:List zaa}(h:o.all kab=true):ybg (normal o):=by
 obtain⟨j,n⟩:=uba o ⟨[],[],0⟩ (fun _ h=>by cases h) rfl h
 exact Ja4 j n
theorem NF.parts {l:List zaa}(h:NF l):∀p∈l,(p.kind=1/\0<p.n/\p.signs=[])\/(p.kind=2/\p.n=0/\p.signs≠[])\/(p.kind=3/\0<p.n/\p.signs=[]):=by
 induction h with
 |nil=>intro p j;cases j
 |keep l n _ _ u q=>intro p j;rcases lm.1 j with j|j;exact q p j;simp at j;subst j;exact .inl ⟨rfl,u,rfl⟩
 |put l g _ _ z q=>intro p j;rcases lm.1 j with j|j;exact q p j;simp at j;subst j;exact .inr (.inl ⟨rfl,rfl,z⟩)
 |drop l n _ _ u q=>intro p j;rcases lm.1 j with j|j;exact q p j;simp at j;subst j;exact .inr (.inr ⟨rfl,u,rfl⟩)
theorem xaX:∀{l:List zaa},(∀p∈l,(p.kind=1/\0<p.n/\p.signs=[])\/(p.kind=2/\p.n=0/\p.signs≠[])\/(p.kind=3/\0<p.n/\p.signs=[]))->
 0<=vab 2 l/\0<=vab 3 l/\(l.length:Int)<=vab 2 l+vab 3 l/\∀p∈l,Xae p<=(if p.kind=2 then vab 3 l else vab 2 l)
 |[],_=>⟨Int.le_refl _,Int.le_refl _,by simp[vab],fun _ h=>by cases h⟩
 |q::l,h=>by
  obtain⟨I,J,M,D⟩:=xaX (l:=l) fun p u=>h p (List.mem_cons_of_mem _ u)
  simp only[vab,List.length_cons];have z:=h q sm;have B:0<Xae q:=by
   unfold Xae;rcases z with⟨_,a,b⟩|⟨_,a,b⟩|⟨_,a,b⟩
   ·rw[b];simpa using a
   ·have:=List.length_pos_iff.2 b;omega
   ·rw[b];simpa using a
  have j:q.kind=1\/q.kind=2\/q.kind=3:=by rcases z with⟨a,_⟩|⟨a,_⟩|⟨a,_⟩<;>simp[a]
  refine⟨by split<;>omega,by split<;>omega,by rcases j with j|j|j<;>rw[j]<;>simp<;>omega,fun p u=> ?_⟩
  rcases List.mem_cons.1 u with rfl|u
  ·rcases j with j|j|j<;>rw[j]<;>simp<;>omega
  ·have:=D p u;split at this
   ·rename_i k;rw[if_pos k];split<;>omega
   ·rename_i k;rw[if_neg k];split<;>omega
theorem Za9 {o:List zaa}(h:o.all kab=true):yag (normal o)=(decide (vab 2 o<=200)&&decide (vab 3 o<=200)):=by
 rw[<-qar 2 (by decide) h,<-qar 3 (by decide) h]
 by_cases n:vab 2 (normal o)<=200
 ·by_cases q:vab 3 (normal o)<=200
  ·have B:=(zaZ h).parts;obtain⟨M,N,Q,D⟩:=xaX B;have J:=qba h;have:yag (normal o)=true:=by
    rw[Jam];refine⟨List.all_eq_true.2 fun p z=> ?_,by omega,n,q⟩
    have j:=D p z;unfold Xae at j;rcases B p z with⟨a,b,c⟩|⟨a,b,c⟩|⟨a,b,c⟩
    ·rw[a,c]at j;simp at j;simp[kab,a,within,c];omega
    ·rw[a,b]at j;simp at j;have I:xai p.signs=true:=J p z;simp[kab,a,b,I];omega
    ·rw[a,c]at j;simp at j;simp[kab,a,within,c];omega
   rw[this];simp[n,q]
  ·have:yag (normal o)=false:=by
    rw[Bool.eq_false_iff];intro u;exact q (Jam.1 u).2.2.2
   rw[this];simp[q]
 ·have:yag (normal o)=false:=by
   rw[Bool.eq_false_iff];intro u;exact n (Jam.1 u).2.2.1
  rw[this];simp[n]
theorem zbb {o:List zaa}(h:yag o=true):yag (Qak o)=true/\vab 2 (Qak o)=vab 2 o/\vab 3 (Qak o)=vab 3 o/\Qak (Qak o)=Qak o:=by
 obtain⟨j,_,p,q⟩:=Jam.1 h;have e:Qak o=normal o:=if_pos h;have n:yag (normal o)=true:=by rw[Za9 j];simp[p,q]
 rw[e];exact⟨n,qar 2 (by decide) j,qar 3 (by decide) j,(if_pos n).trans (xaN j)⟩
theorem JaN {o:List zaa}(h:o.all kab=true)(j:yag (normal o)=true):Jan (normal o)=true:=by
 unfold Jan Qak;rw[j,if_pos rfl,xaN h];simp
end Go.Proofs.YtbonkabfmlajnaaGreat
namespace Go.Proofs.YtbonkabfmlajnaaGreat
open Go.RowKit
def yaa (d:Xac):Int:=d.from_+d.list.length
def Zan (hd:Int)(l:List qac)(i:Nat)(s:qac):Bool:=
 within s.client 1 8&&within s.seq 1 1000000000&&within s.rev 1 hd&&(match i with
  |0=>true
  |j+1=>(match l[j]? with
   |some p=>decide (p.client<s.client)
   |none=>true))
def qas (hd:Int)(l:List qac):Bool:=(List.range l.length).all fun i=>match l[i]? with
 |some s=>Zan hd l i s
 |none=>true
theorem kak {hd:Int}{l:List qac}:qas hd l=true↔∀j y,l[j]? =some y->Zan hd l j y=true:=by
 unfold qas;rw[List.all_eq_true];constructor
 ·intro h j y hy;have:=h j (List.mem_range.2 (lg.1 hy).1);rw[hy]at this;exact this
 ·intro h i hi;obtain⟨x,n⟩:=Jaa (List.mem_range.1 hi);rw[n];exact h i x n
theorem jam {hd:Int}{l:List qac}{k:Nat}{s:qac}(h:l[k]? =some s)(j:Zan hd l k s=false):qas hd l=false:=by
 rw[Bool.eq_false_iff];intro n;rw[kak.1 n k s h]at j;cases j
theorem Xa6 {hd:Int}{l:List qac}(h:∀j<l.length,∀y,l[j]? =some y->Zan hd l j y=true):qas hd l=true:=
 kak.2 fun j y hy=>h j (lg.1 hy).1 y hy
theorem XaF {hd:Int}{l:List qac}{s:qac}(j:within s.client 1 8=true)(n:within s.seq 1 1000000000=true)(p:within s.rev 1 hd=true):Zan hd l 0 s=true:=by simp[Zan,j,n,p]
theorem JaF {hd:Int}{l:List qac}{j:Nat}{s p:qac}(B:l[j]? =some p)(n:within s.client 1 8=true)(q:within s.seq 1 1000000000=true)(u:within s.rev 1 hd=true)(z:p.client<s.client):Zan hd l (j+1) s=true:=by
 simp[Zan,n,q,u,B,z]
theorem JaZ {hd:Int}{l:List qac}{i:Nat}{s:qac}(h:within s.client 1 8=false):Zan hd l i s=false:=by simp[Zan,h]
theorem yaO {hd:Int}{l:List qac}{i:Nat}{s:qac}(h:within s.seq 1 1000000000=false):Zan hd l i s=false:=by simp[Zan,h]
theorem yaL {hd:Int}{l:List qac}{i:Nat}{s:qac}(h:within s.rev 1 hd=false):Zan hd l i s=false:=by simp[Zan,h]
theorem yaZ {hd:Int}{l:List qac}{j:Nat}{s p:qac}(n:l[j]? =some p)(h:¬p.client<s.client):Zan hd l (j+1) s=false:=by simp[Zan,n,h]
theorem ua0 {hd:Int}{l:List qac}(h:qas hd l=true):∀(n i:Nat) (x y:qac),l[i]? =some x->l[i+n+1]? =some y->x.client+n<y.client
 |0,i,x,y,j,hy=>by
  have:=kak.1 h (i+1) y (by simpa using hy)
  simp[Zan,j]at this;have:=this.2;omega
 |n+1,i,x,y,j,hy=>by
  have q:=(lg.1 hy).1;obtain⟨z,p⟩:=Jaa (l:=l) (k:=i+n+1) om;have u:=ua0 h n i x z j p;have:=kak.1 h (i+n+1+1) y (by rw[<-hy];congr 1)
  simp[Zan,p]at this;have:=this.2;omega
theorem jbe {hd:Int}{l:List qac}(h:qas hd l=true):l.length<=8:=by
 by_cases u:8<l.length
 ·obtain⟨x,j⟩:=Jaa (l:=l) (k:=0) om;obtain⟨y,hy⟩:=Jaa (l:=l) (k:=8) om;have q:=ua0 h 7 0 x y j hy;have n:=kak.1 h 0 x j;have p:=kak.1 h 8 y hy;simp[Zan,within]at n p;omega
 ·omega
def xaq (l:List yab):List (List zaa):=l.map yab.o
def Qad (d:Xac):Bool:=Kaj d.name&&within d.from_ 0 999999000&&jae d.text&&decide (d.list.length<=8)&&d.list.all Jac&&(vai (xaq d.list) d.text).isSome&&qas (yaa d) d.seen
structure Jbf (d:Xac):Prop where
 name:Kaj d.name=true
 f0:0<=d.from_
 f1:d.from_<=999999000
 text:jae d.text=true
 len:d.list.length<=8
 ents:d.list.all Jac=true
 app:∃t,vai (xaq d.list) d.text=some t
 seen:qas (yaa d) d.seen=true
theorem jaf {d:Xac}:Qad d=true↔Jbf d:=by
 constructor
 ·intro h;simp only[Qad,Bool.and_eq_true,within_iff,decide_eq_true_eq,Option.isSome_iff_exists]at h;obtain⟨⟨⟨⟨⟨⟨n,j⟩,p⟩,q⟩,u⟩,z⟩,B⟩:=h;exact⟨n,j.1,j.2,p,q,u,z,B⟩
 ·intro h;simp only[Qad,Bool.and_eq_true,within_iff,decide_eq_true_eq,Option.isSome_iff_exists];exact⟨⟨⟨⟨⟨⟨h.name,h.f0,h.f1⟩,h.text⟩,h.len⟩,h.ents⟩,h.app⟩,h.seen⟩
theorem Zbh {o:List zaa}(h:yag o=true):szL o<=1000:=by
 obtain⟨j,q,_,u⟩:=Jam.1 h;have:∀{o:List zaa},o.all kab=true->(szs o:Int)<=vab 3 o:=by
  intro o;induction o with
  |nil=>intro _;simp[szs,vab]
  |cons p o n=>
   intro h;simp only[List.all_cons,Bool.and_eq_true]at h;have i:=n h.2;have e:szs (p::o)=szL p.signs+szs o:=rfl;rw[e,vaT];simp only[vab];rcases Zab h.1 with⟨k,a,b,c⟩|⟨k,a,b,_⟩|⟨k,a,b,c⟩
   ·rw[k,c];simp[Xae,c];omega
   ·rw[k];simp[Xae,a];omega
   ·rw[k,c];simp;omega
 have:=this j;unfold szL;omega
theorem xbe {e:yab}(h:Jac e=true):yag e.o=true/\Qak e.o=e.o:=by
 simp only[Jac,Bool.and_eq_true]at h;exact qaS.1 h.2
theorem JaT:∀{l:List yab},l.all Jac=true->szL l<=1001*l.length
 |[],_=>by simp[szL,szs]
 |e::l,h=>by
  simp only[List.all_cons,Bool.and_eq_true]at h;have n:=JaT h.2;have:=Zbh (xbe h.1).1;have j:szL (e::l)=1+szL e.o+szL l:=by simp only[szL,szs,List.length_cons];have:GoS.sz e=szL e.o:=rfl;unfold szL at this;omega
  rw[j,List.length_cons];omega
theorem Jbf.sz {d:Xac}(h:Jbf d):szL d.list<=9000:=by have:=JaT h.ents;have:=h.len;omega
theorem Jbf.tlen {d:Xac}(h:Jbf d):d.text.length<=200:=(zan.1 h.text).1
theorem Jbf.slen {d:Xac}(h:Jbf d):d.seen.length<=8:=jbe h.seen
theorem Qa7 {l:List (List zaa)}{t u:List Int}(j:jae t=true)(h:vai l t=some u):jae u=true:=by
 induction l generalizing t with
 |nil=>cases h;exact j
 |cons o l n=>
  unfold vai at h;rw[List.foldl_cons]at h;by_cases hy:(zab o t).2=true
  ·have e:QaV (some t) o=some (zab o t).1:=if_pos hy;rw[e]at h;exact n (xas hy).1 h
  ·have e:QaV (some t) o=none:=if_neg hy;rw[e,zar]at h;cases h
theorem Jaw (l m:List (List zaa))(t:List Int):vai (l++m) t=(vai l t).bind (vai m):=by
 unfold vai;rw[List.foldl_append];cases l.foldl QaV (some t)with
 |none=>exact zar m
 |some u=>rfl
theorem qaR {l:List (List zaa)}{t u:List Int}(h:vai l t=some u)(k:Nat):∃v,vai (l.take k) t=some v/\vai (l.drop k) v=some u:=by
 rw[<-List.take_append_drop k l,Jaw]at h;cases j:vai (l.take k) t with
 |none=>rw[j]at h;cases h
 |some v=>rw[j]at h;exact⟨v,rfl,h⟩
theorem Kbb (l:List yab)(k:Nat):xaq (l.take k)=(xaq l).take k:=by simp[xaq]
theorem ybb (l:List yab)(k:Nat):xaq (l.drop k)=(xaq l).drop k:=by simp[xaq]
theorem jaU {l:List yab}{k:Nat}{e:yab}(h:l[k]? =some e):(xaq l)[k]? =some e.o:=by simp[xaq,h]
def Xa0 (d:Xac)(rev:Int):Nat:=(rev-d.from_).toNat
def uau (d:Xac)(rev:Int):Prop:=Qad d=true/\d.from_<=rev/\rev<=yaa d
instance (d:Xac)(rev:Int):Decidable (uau d rev):=inferInstanceAs (Decidable (_/\_/\_))
def uan (d:Xac)(rev:Int):List Int×Bool:=if uau d rev then((vai ((xaq d.list).take (Xa0 d rev)) d.text).getD [],true)else([],false)
def vae (d:Xac):List Int:=(uan d (yaa d)).1
def jaj (d:Xac)(rev:Int):List (List zaa)×Bool:=if uau d rev then(xaq (d.list.drop (Xa0 d rev)),true)else([],false)
def Jap (d:Xac)(rev:Int):Int:=if yaa d<rev then 2 else if rev<d.from_ then 3 else 0
def Qar (d:Xac)(rev:Int):List yab×Int:=if Qad d=true then(if yaa d<rev then([],2)else if rev<d.from_ then([],3)else(d.list.drop (Xa0 d rev),0))else([],1)
def Xa3:Xac:=⟨⟨#[]⟩,0,[],[],[]⟩
def kaq (name:ByteArray)(t:List Int):Xac×Bool:=if Qad ⟨name,0,t,[],[]⟩=true then(⟨name,0,t,[],[]⟩,true)else(Xa3,false)
theorem ya9 {d:Xac}{rev:Int}(h:uau d rev):Xa0 d rev<=d.list.length/\rev=d.from_+Xa0 d rev:=by
 unfold uau yaa at h;unfold Xa0;omega
theorem ZaB {d:Xac}{rev:Int}(h:¬uau d rev):uan d rev=([],false):=if_neg h
theorem vay {d:Xac}{rev:Int}(h:uau d rev):∃u,vai ((xaq d.list).take (Xa0 d rev)) d.text=some u/\uan d rev=(u,true)/\jae u=true:=by
 have n:=jaf.1 h.1;obtain⟨t,p⟩:=n.app;obtain⟨u,j,_⟩:=qaR p (Xa0 d rev);exact⟨u,j,by unfold uan;rw[if_pos h,j];rfl,Qa7 n.text j⟩
theorem Ka6 (d:Xac)(rev:Int):(uan d rev).1.length<=200:=by
 by_cases h:uau d rev
 ·obtain⟨u,_,e,j⟩:=vay h;rw[e];exact(zan.1 j).1
 ·rw[ZaB h];simp
theorem xaM {d:Xac}{rev:Int}(h:¬uau d rev):jaj d rev=([],false):=if_neg h
theorem Kaw {d:Xac}{rev:Int}(h:uau d rev):jaj d rev=(xaq (d.list.drop (Xa0 d rev)),true):=if_pos h
theorem yaf {d:Xac}(h:Qad d=true):0<=yaa d/\yaa d<=999999008/\0<=d.from_/\d.from_<=999999000:=by
 have j:=jaf.1 h;have:=j.f0;have:=j.f1;have:=j.len;unfold yaa;omega
theorem qa7 {d:Xac}(h:Qad d=true):uau d (yaa d):=⟨h,by unfold yaa;omega,Int.le_refl _⟩
