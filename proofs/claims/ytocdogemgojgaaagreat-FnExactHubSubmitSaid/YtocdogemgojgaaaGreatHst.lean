/- An element of a row of one's own is laid anew. -/
import Derived.Test.YtocdogemgojgaaaGreatRo
namespace Go.Proofs.YtocdogemgojgaaaGreat
open Go.RowKit
theorem set_split {α:Type}{l:List α}{k:Nat}{x:α}(n:l[k]? =some x)(y:α):l.set k y=l.take k++(y::l.drop (k+1)):=by
 have j:=(lg.1 n).1;rw[List.set_eq_take_append_cons_drop,if_pos j]
theorem Sl.el {α:Type}[GoT α]{B:Nat}{w:World}{v:Value}{l:List α}{fp:List Pos}(h:Sl BIG w v l fp)(hf:Fresh B w fp){k:Nat}{x:α}(hk:l[k]? =some x):
 ∃b o cap c2 f2,v= .slice (some ⟨b,o,none⟩) l.length cap/\At w b (o+k*GoT.n α) c2/\GoT.rd BIG w c2 x f2/\(∀j<GoT.n α,(b,o+k*GoT.n α+j)∈fp)/\(∀p∈f2,p∈fp)/\
  ∀(D:World) (N:List Value) (y:α) (M:List Pos),Wr (own b (o+k*GoT.n α) (GoT.n α)) w D->At D b (o+k*GoT.n α) N->GoT.rd BIG D N y M->Fresh B D M->(∀p∈M,p∉fp\/p∈f2)->
   ∃U,Sl BIG D v (l.set k y) U/\Fresh B D U/\∀p∈U,p∈fp\/p∈M:=by
 have hlt:=(lg.1 hk).1;rcases h with⟨ao,rfl,rfl,rfl⟩|⟨b,o,cap,cs,fs,rfl,h1,h2,h3,h4,h5,h6,rfl⟩
 ·simp at hlt
 obtain⟨c1,c2,c3,f1,f2,f3,rfl,rfl,Y,e1,e2,e3⟩:=h5.at_ k hk;have hn:=GoT.len e2;have hcap:(k+1)*GoT.n α<=cap*GoT.n α:=Nat.mul_le_mul_right _ (by omega)
 have hk1:(k+1)*GoT.n α=k*GoT.n α+GoT.n α:=Nat.succ_mul _ _;rw[List.append_assoc]at h4;obtain⟨a1,a23⟩:=At.append.1 h4;obtain⟨a2,a3⟩:=At.append.1 a23;rw[Y]at a2 a3;have hin:∀j<GoT.n α,(b,o+k*GoT.n α+j)∈own b o (cap*GoT.n α):=fun j hj=>mem_own.2 ⟨rfl,by simp only;omega,by simp only;omega⟩
 refine⟨b,o,cap,c2,f2,rfl,a2,e2,fun j hj=>lu _ (hin j hj),fun p u=>by simp[u],?_⟩
 intro D N y M hw hA hr Z hd;have hsub:∀p∈own b (o+k*GoT.n α) (GoT.n α),p∈own b o (cap*GoT.n α):=by
  intro p u;obtain⟨q1,q2,q3⟩:=mem_own.1 u;exact mem_own.2 ⟨q1,by omega,by omega⟩
 have J:=ln.1 hf.nodup;have Q:∀p∈f1++f2++f3,p∉own b (o+k*GoT.n α) (GoT.n α):=fun p u z=>J.2.2 _ (hsub p z) _ u rfl
 have hlf:Live w (f1++f2++f3):=h5.live;have R:=Live.append.1 hlf;have hl1:=(Live.append.1 R.1).1;have hl3:=R.2;have E1:Els BIG D c1 (l.take k) f1:=e1.keep (hw.same hl1 fun p u=>Q p (by simp[u]))
 have E3:Els BIG D c3 (l.drop (k+1)) f3:=e3.keep (hw.same hl3 fun p u=>Q p (by simp[u]))
 have hlen1:c1.length=k*GoT.n α:=Y;have hcs:(c1++(c2++c3)).length=l.length*GoT.n α:=by
  have:=h5.length;simpa using this
 have hlc:l.length*GoT.n α<=cap*GoT.n α:=Nat.mul_le_mul_right _ h1;have hbs:∀j,j<cap*GoT.n α->b<w.heap.size:=fun j hj=>h6.lt (b,o+j) (mem_own.2 ⟨rfl,by simp only;omega,by simp only;omega⟩)
 have A1:At D b o c1:=a1.keep fun j hj=>hw.cell (b,o+j) (hbs j (by omega)) fun hm=>by
  have:=(mem_own.1 hm).2.1;simp only at this;omega
 have hc':=GoT.len hr;simp only[List.length_append]at hcs;have A3:At D b (o+k*GoT.n α+N.length) c3:=by
  have a3':At w b (o+k*GoT.n α+N.length) c3:=by rw[hc',<-show c2.length=GoT.n α from hn];exact hn▸a3
  refine a3'.keep fun j hj=>hw.cell (b,_) (hbs 0 (by omega)) fun hm=> ?_
  have:=(mem_own.1 hm).2.2;simp only at this;omega
 have hE:Els BIG D (c1++(N++c3)) (l.set k y) (f1++(M++f3)):=by
  rw[set_split hk];exact Els.append.2 ⟨c1,N++c3,f1,M++f3,rfl,E1,⟨N,c3,M,f3,rfl,hr,E3,rfl⟩,rfl⟩
 have hA':At D b o (c1++(N++c3)):=At.append.2 ⟨A1,by rw[Y];exact At.append.2 ⟨hA,A3⟩⟩
 have hl6:Live D (own b o (cap*GoT.n α)):=by
  intro p u;by_cases z:p∈own b (o+k*GoT.n α) (GoT.n α)
  ·obtain⟨q1,q2,q3⟩:=mem_own.1 z;have hj:p.2-(o+k*GoT.n α)<N.length:=by omega
   have:=hA (p.2-(o+k*GoT.n α)) _ (List.getElem?_eq_getElem hj);rw[show p=(b,o+k*GoT.n α+(p.2-(o+k*GoT.n α))) by rw[<-q1];ext<;>simp;omega]
   simp only;rw[this];rfl
  ·rw[hw.cell p (h6.lt p u) z];exact h6 p u
 have I:Fresh B D (own b o (cap*GoT.n α)++(f1++f2++f3)):=hw.fresh (Live.append.2 ⟨h6,hlf⟩) hf;refine⟨own b o (cap*GoT.n α)++(f1++(M++f3)),.inr ⟨b,o,cap,_,_,by rw[List.length_set],by rw[List.length_set];exact h1,h2,by rw[List.length_set];exact h3,hA',hE,hl6,rfl⟩,?_,?_⟩
 ·have n12:=ln.1 J.2.1;have n1:=ln.1 n12.1;have hd1:∀p∈M,p∉own b o (cap*GoT.n α):=fun p u z=>(hd p u).elim (fun h=>h (lu _ z)) fun h=>J.2.2 _ z _ (by simp[h]) rfl
  have hd2:∀p∈M,p∉f1:=fun p u z=>(hd p u).elim (fun h=>h (by simp[z])) fun h=>n1.2.2 _ z _ h rfl
  have hd3:∀p∈M,p∉f3:=fun p u z=>(hd p u).elim (fun h=>h (by simp[z])) fun h=>n12.2.2 _ (by simp[h]) _ z rfl
  refine⟨?_,?_,?_⟩
  ·refine ln.2 ⟨J.1,ln.2 ⟨n1.1,ln.2 ⟨Z.nodup,n12.2.1,fun p u q z e=>hd3 p u (e▸z)⟩,?_⟩,?_⟩
   ·intro p u q z e;subst e;rcases lm.1 z with z|z
    ·exact hd2 p z u
    ·exact n12.2.2 p (by simp[u]) p z rfl
   ·intro p u q z e;subst e;rcases lm.1 z with z|z
    ·exact J.2.2 p u p (by simp[z]) rfl
    ·rcases lm.1 z with z|z
     ·exact hd1 p z u
     ·exact J.2.2 p u p (by simp[z]) rfl
  ·intro p u;rcases lm.1 u with u|u
   ·exact I.ge p (lu _ u)
   ·rcases lm.1 u with u|u
    ·exact I.ge p (by simp[u])
    ·rcases lm.1 u with u|u
     ·exact Z.ge p u
     ·exact I.ge p (by simp[u])
  ·intro p u;rcases lm.1 u with u|u
   ·exact I.free p (lu _ u)
   ·rcases lm.1 u with u|u
    ·exact I.free p (by simp[u])
    ·rcases lm.1 u with u|u
     ·exact Z.free p u
     ·exact I.free p (by simp[u])
 ·intro p u;rcases lm.1 u with u|u
  ·exact .inl (lu _ u)
  ·rcases lm.1 u with u|u
   ·exact .inl (by simp[u])
   ·rcases lm.1 u with u|u
    ·exact .inr u
    ·exact .inl (by simp[u])
