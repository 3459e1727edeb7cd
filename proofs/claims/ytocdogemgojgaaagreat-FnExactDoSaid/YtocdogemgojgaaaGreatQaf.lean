/- Predicates on signs, parts, operations. -/
import Derived.Test.YtocdogemgojgaaaGreatQae
set_option maxHeartbeats 2000000
set_option linter.defProp false
set_option linter.unusedSimpArgs false
namespace Go.Proofs.YtocdogemgojgaaaGreat
open Go.RowKit
def within (n lo hi:Int):Bool:=decide (lo<=n)&&decide (n<=hi)
theorem within_iff {n lo hi:Int}:within n lo hi=true↔lo<=n/\n<=hi:=by simp[within]
def vak (n:Int):Bool:=within n 0 1114111&& !within n 55296 57343
def yal (l:List Int):Bool:=l.all vak
def jab (p:zaa):Bool:=
 if p.kind=1 then within p.n 0 200&&decide (p.signs.length=0)
 else if p.kind=3 then within p.n 0 200&&decide (p.signs.length=0)
 else if p.kind=2 then decide (p.n=0)&&decide (p.signs.length<=200)&&yal p.signs
 else false
def qah (o:List zaa):Bool:=o.all jab&&decide (o.length<=600)
def Jae (p:zaa):Int:=p.n+p.signs.length
def kab (but:Int):List zaa->Int
 |[]=>0
 |p::o=>(if p.kind=but then 0 else Jae p)+kab but o
def sumOf (kind:Int):List zaa->Int
 |[]=>0
 |p::o=>(if p.kind=kind then Jae p else 0)+sumOf kind o
def Jar (but:Int)(o:List zaa):Int:=if qah o=true then kab but o else 0
def XaP (kind:Int)(o:List zaa):Int:=if qah o=true then sumOf kind o else 0
def xad (o:List zaa):Int:=Jar 2 o
def Xba (o:List zaa):Int:=Jar 3 o
def jag (o:List zaa):Bool:=qah o&&decide (xad o<=200)&&decide (Xba o<=200)
def xae (t:List Int):Bool:=decide (t.length<=200)&&yal t
theorem qaP {α:Type}{p:α->Bool}{l:List α}{k:Nat}{x:α}(n:l[k]? =some x)(j:p x=false):l.all p=false:=by
 rw[List.all_eq_false];exact⟨x,List.mem_of_getElem? n,by simp[j]⟩
theorem kax {α:Type}{p:α->Bool}{l:List α}(q:∀j<l.length,∀y,l[j]? =some y->p y=true):l.all p=true:=by
 rw[List.all_eq_true];intro x u;obtain⟨j,n,e⟩:=List.mem_iff_getElem.1 u;exact q j n x (by rw[List.getElem?_eq_getElem n,e])
theorem uav {α:Type}{p:α->Bool}{l:List α}{k:Nat}{x:α}(z:l[k]? =some x)(u:p x=true)(n:∀j<k,∀y,l[j]? =some y->p y=true):∀j<k+1,∀y,l[j]? =some y->p y=true:=by
 intro j q y hy;by_cases e:j=k
 ·subst e;rw[z]at hy;cases hy;exact u
 ·exact n j (by omega) y hy
theorem yat {α:Type}{p:α->Bool}{l:List α}(h:l.all p=true){k:Nat}{x:α}(j:l[k]? =some x):p x=true:=List.all_eq_true.1 h x (List.mem_of_getElem? j)
theorem Zab {p:zaa}(h:jab p=true):(p.kind=1/\0<=p.n/\p.n<=200/\p.signs=[])\/(p.kind=2/\p.n=0/\p.signs.length<=200/\yal p.signs=true)\/(p.kind=3/\0<=p.n/\p.n<=200/\p.signs=[]):=by
 unfold jab at h;split at h
 ·simp[within_iff]at h;exact .inl ⟨‹_›,h.1.1,h.1.2,h.2⟩
 ·split at h
  ·simp[within_iff]at h;exact .inr (.inr ⟨‹_›,h.1.1,h.1.2,h.2⟩)
  ·split at h
   ·simp at h;exact .inr (.inl ⟨‹_›,h.1.1,h.1.2,h.2⟩)
   ·cases h
theorem uaJ {p:zaa}(h:jab p=true):0<=Jae p/\Jae p<=200:=by
 unfold Jae;rcases Zab h with⟨_,n,q,j⟩|⟨_,n,q,_⟩|⟨_,n,q,j⟩
 ·rw[j];simp;omega
 ·omega
 ·rw[j];simp;omega
theorem Zag (b:Int):∀(x y:List zaa),kab b (x++y)=kab b x+kab b y
 |[],y=>by simp[kab]
 |p::x,y=>by simp only[List.cons_append,kab,Zag b x y];omega
theorem KaG (b:Int):∀(x y:List zaa),sumOf b (x++y)=sumOf b x+sumOf b y
 |[],y=>by simp[sumOf]
 |p::x,y=>by simp only[List.cons_append,sumOf,KaG b x y];omega
theorem zay (b:Int):∀(x:List zaa),x.all jab=true->0<=kab b x/\kab b x<=200*x.length
 |[],_=>by simp[kab]
 |p::x,h=>by
  simp only[List.all_cons,Bool.and_eq_true]at h;have j:=uaJ h.1;have n:=zay b x h.2;simp only[kab,List.length_cons];split<;>omega
theorem jaD (b:Int):∀(x:List zaa),x.all jab=true->0<=sumOf b x/\sumOf b x<=200*x.length
 |[],_=>by simp[sumOf]
 |p::x,h=>by
  simp only[List.all_cons,Bool.and_eq_true]at h;have j:=uaJ h.1;have n:=jaD b x h.2;simp only[sumOf,List.length_cons];split<;>omega
theorem Jay {α:Type}{p:α->Bool}{l:List α}(h:l.all p=true)(k:Nat):(l.take k).all p=true:=by
 rw[List.all_eq_true]at *;exact fun x j=>h x (List.mem_of_mem_take j)
theorem xaK {α:Type}{p:α->Bool}{l:List α}(h:l.all p=true)(k:Nat):(l.drop k).all p=true:=by
 rw[List.all_eq_true]at *;exact fun x j=>h x (List.mem_of_mem_drop j)
theorem zav {o:List zaa}{k:Nat}{p:zaa}(b:Int)(h:o[k]? =some p):kab b (o.take (k+1))=kab b (o.take k)+(if p.kind=b then 0 else Jae p):=by
 rw[zag h,Zag];simp[kab]
theorem KaF {o:List zaa}{k:Nat}{p:zaa}(b:Int)(h:o[k]? =some p):sumOf b (o.take (k+1))=sumOf b (o.take k)+(if p.kind=b then Jae p else 0):=by
 rw[zag h,KaG];simp[sumOf]
theorem Jah {o:List zaa}:qah o=true↔o.all jab=true/\o.length<=600:=by simp[qah]
theorem XaO:∀(o:List zaa),o.all jab=true->kab 2 o=sumOf 1 o+sumOf 3 o/\kab 3 o=sumOf 1 o+sumOf 2 o
 |[],_=>by simp[kab,sumOf]
 |p::o,h=>by
  simp only[List.all_cons,Bool.and_eq_true]at h;have j:=XaO o h.2;simp only[kab,sumOf];rcases Zab h.1 with⟨k,_⟩|⟨k,_⟩|⟨k,_⟩<;>rw[k]<;>simp<;>omega
theorem zaT {p:Nat}(z:p=144\/p=56)(n lo hi:Int)(w:World):Calls Tryz.prog p #[n,lo,hi] w (Qac w (.bool (within n lo hi))):=by
 rcases z with rfl|rfl
 go_enter Tryz.func144,Tryz.ntmps144
 rotate_left;go_enter Tryz.func56,Tryz.ntmps56
 all_goals
  by_cases q:lo<=n
  ·by_cases u:n<=hi
   ·have j:Hid (within n lo hi=true):=hH (by simp[within,q,u])
    go_wp2;go_ret;exact⟨qaa (by rw[j.out];first|done|(simp;done)|(simp;omega)),blw⟩
   ·have j:Hid (within n lo hi=false):=hH (by simp[within,u])
    go_wp2;go_ret;exact⟨qaa (by rw[j.out];first|done|(simp;done)|(simp;omega)),blw⟩
  ·have j:Hid (within n lo hi=false):=hH (by simp[within,q])
   go_wp2;go_ret;exact⟨qaa (by rw[j.out];first|done|(simp;done)|(simp;omega)),blw⟩
def Jaa:=@zaT 144 (.inl rfl)
def uaa:=@zaT 56 (.inr rfl)
theorem XaR {M:Nat}(Y:M=223\/M=190)(n:Int)(w:World):Calls Tryz.prog M #[n] w (Qac w (.bool (vak n))):=by
 rcases Y with rfl|rfl
 have p:=hH @Jaa;go_enter Tryz.func223,Tryz.ntmps223;rotate_left;have p:=hH @uaa;go_enter Tryz.func190,Tryz.ntmps190;all_goals
  by_cases I:within n 0 1114111=true
  ·by_cases J:within n 55296 57343=true
   ·have B:Hid (vak n=false):=hH (by simp[vak,J])
    go_wp2_with fail
    refine(p.out _ _ _ _).mono ?_;rintro e U ⟨rfl,j⟩;have D:=j.size;(try simp at D)
    obtain⟨u,z⟩:=zab j;go_wp2_with fail
    refine(p.out _ _ _ _).mono ?_;rintro e Z ⟨rfl,q⟩;have R:=q.size;(try simp at R)
    obtain⟨N,Q⟩:=zab q;go_wp2;go_ret;exact⟨qaa (by rw[B.out];first|done|(simp;done)|(simp;omega)),blw⟩
   ·have J:within n 55296 57343=false:=by simpa using J
    have B:Hid (vak n=true):=hH (by simp[vak,I,J])
    go_wp2_with fail
    refine(p.out _ _ _ _).mono ?_;rintro e U ⟨rfl,j⟩;have D:=j.size;(try simp at D)
    obtain⟨u,z⟩:=zab j;go_wp2_with fail
    refine(p.out _ _ _ _).mono ?_;rintro e Z ⟨rfl,q⟩;have R:=q.size;(try simp at R)
    obtain⟨N,Q⟩:=zab q;go_wp2;go_ret;exact⟨qaa (by rw[B.out];first|done|(simp;done)|(simp;omega)),blw⟩
  ·have I:within n 0 1114111=false:=by simpa using I
   have B:Hid (vak n=false):=hH (by simp[vak,I])
   go_wp2_with fail
   refine(p.out _ _ _ _).mono ?_;rintro e U ⟨rfl,j⟩;have D:=j.size;(try simp at D)
   obtain⟨u,z⟩:=zab j;go_wp2;go_ret;exact⟨qaa (by rw[B.out];first|done|(simp;done)|(simp;omega)),blw⟩
def JaW:=@XaR 223 (.inl rfl)
def yaW:=@XaR 190 (.inr rfl)
theorem vaM {z:Nat}(h_:z=186\/z=134)(v:Value)(l:List Int)(w:World)(h:RdS w v l):Calls Tryz.prog z #[v] w (Qac w (.bool (yal l))):=by
 rcases h_ with rfl|rfl
 have q:=hH @JaW;go_enter Tryz.func186,Tryz.ntmps186;rotate_left;have q:=hH @yaW;go_enter Tryz.func134,Tryz.ntmps134;all_goals
  have hl:=fun Q ty=>h.len Tryz.underlying31 Q ty
  have ba:=h.le;go_wp2;go_loopw [7] (fun i wr=>∃k:Nat,k<=l.length/\i= .int .i64 k/\(∀j<k,∀y,l[j]? =some y->vak y=true)/\Below w w wr) (fun i _=>l.length-(intOf i).toNat)
  case atStart=>exact⟨0,lz _,rfl,fun _ h=>absurd h (Nat.not_lt_zero _),lf _ _⟩
  case round=>
   obtain⟨k,hk,rfl,I,p⟩:=hrel;have hsz:=p.size;have R:=hH I;clear I;by_cases J:k<l.length
   ·obtain⟨x,M⟩:=kaa J;obtain⟨b1,o1,_,h1,Z,_,rfl,rfl⟩:=(h.below p).idx Tryz.underlying31 kaw k M;have q0:=Z.one;have U:=hH M;clear M;by_cases e:vak x=true
    ·have Y:=hH e;go_wp2_with fail
     refine(q.out _ _).mono ?_;rintro e Q ⟨rfl,n⟩;have N:=n.size;(try simp at N)
     obtain⟨B,D⟩:=zab n;go_wp2;go_roundw
     case rel=>exact⟨k+1,by omega,by go_num,uav U.out Y.out R.out,blw⟩
     case measure=>simp[intOf];omega
    ·have e:vak x=false:=by simpa using e
     have u:Hid (yal l=false):=hH (qaP U.out e);go_wp2_with fail
     refine(q.out _ _).mono ?_;rintro e Q ⟨rfl,n⟩;have N:=n.size;(try simp at N)
     obtain⟨B,D⟩:=zab n;go_wp2;go_ret;exact⟨qaa u.out.symm,blw⟩
   ·have u:Hid (yal l=true):=hH (kax fun j I=>R.out j (by omega))
    go_wp2;go_ret;exact⟨qaa u.out.symm,p⟩
def Zaz:=@vaM 186 (.inl rfl)
def yaA:=@vaM 134 (.inr rfl)
theorem jaR {N_:Nat}(h_:N_=185\/N_=133)(p:zaa)(z:Value)(w:World)(j:RdS w z p.signs):Calls Tryz.prog N_ #[.agg #[p.kind,p.n,z]] w (Qac w (.bool (jab p))):=by
 rcases h_ with rfl|rfl
 have B:Unit:=();have N:=hH @Zaz;have R:=hH @Jaa;rotate_left;have B:Bool:=true;have N:=hH @yaA;have R:=hH @uaa;all_goals
  have hl:=fun U ty=>j.len Tryz.underlying31 U ty
  have ba:=j.le;obtain⟨kind,n,signs⟩:=p;simp only at j hl ba;show Calls _ _ #[.agg #[kind,n,z]] w _;by_cases k2:kind=2
  ·subst k2;by_cases Q:n=0
   ·subst Q;by_cases Y:signs.length<=200
    ·by_cases Z:yal signs=true
     ·have D:Hid (jab ⟨2,0,signs⟩=true):=hH (by simp[jab,Y,Z])
      (first|(have:Unit:=B;clear this;go_enter Tryz.func185,Tryz.ntmps185)|go_enter Tryz.func133,Tryz.ntmps133)
      go_wp2_with fail
      refine(N.out _ signs _ (j.below blw)).mono ?_;rintro e U ⟨rfl,q⟩;have M:=q.size;(try simp at M)
      obtain⟨I,J⟩:=zab q;go_wp2;go_ret;exact⟨qaa (by rw[D.out];first|done|(simp;done)|(simp;omega)),blw⟩
     ·have Z:yal signs=false:=by simpa using Z
      have D:Hid (jab ⟨2,0,signs⟩=false):=hH (by simp[jab,Z])
      (first|(have:Unit:=B;clear this;go_enter Tryz.func185,Tryz.ntmps185)|go_enter Tryz.func133,Tryz.ntmps133)
      go_wp2_with fail
      refine(N.out _ signs _ (j.below blw)).mono ?_;rintro e U ⟨rfl,q⟩;have M:=q.size;(try simp at M)
      obtain⟨I,J⟩:=zab q;go_wp2;go_ret;exact⟨qaa (by rw[D.out];first|done|(simp;done)|(simp;omega)),blw⟩
    ·have D:Hid (jab ⟨2,0,signs⟩=false):=hH (by simp[jab];omega)
     by_cases Z:yal signs=true
     ·(first|(have:Unit:=B;clear this;go_enter Tryz.func185,Tryz.ntmps185)|go_enter Tryz.func133,Tryz.ntmps133)
      go_wp2_with (refine(N.out _ signs _ (j.below blw)).mono ?_;rintro e U ⟨rfl,q⟩;have M:=q.size;(try simp at M);obtain⟨I,J⟩:=zab q)
      go_ret;exact⟨qaa (by rw[D.out];first|done|(simp;done)|(simp;omega)),blw⟩
     ·have Z:yal signs=false:=by simpa using Z
      (first|(have:Unit:=B;clear this;go_enter Tryz.func185,Tryz.ntmps185)|go_enter Tryz.func133,Tryz.ntmps133)
      go_wp2_with (refine(N.out _ signs _ (j.below blw)).mono ?_;rintro e U ⟨rfl,q⟩;have M:=q.size;(try simp at M);obtain⟨I,J⟩:=zab q)
      go_ret;exact⟨qaa (by rw[D.out];first|done|(simp;done)|(simp;omega)),blw⟩
   ·have D:Hid (jab ⟨2,n,signs⟩=false):=hH (by simp[jab,Q])
    have h1b:(n==0)=false:=by simpa using Q
    clear Q;(first|(have:Unit:=B;clear this;go_enter Tryz.func185,Tryz.ntmps185)|go_enter Tryz.func133,Tryz.ntmps133)
    go_wp2;go_ret;exact⟨qaa (by rw[D.out];first|done|(simp;done)|(simp;omega)),blw⟩
  ·by_cases u:kind=1\/kind=3
   ·have hp:Hid (∀b,(within n 0 200&&decide (signs.length=0))=b->jab ⟨kind,n,signs⟩=b):=hH (by rintro b rfl;rcases u with rfl|rfl<;>simp[jab])
    by_cases Q:within n 0 200=true
    ·by_cases Y:signs.length=0
     ·have D:=hH (hp.out true (by simp[Q,Y]))
      rw[Y]at hl;rcases u with rfl|rfl<;>clear Y hp
      all_goals
       (first|(have:Unit:=B;clear this;go_enter Tryz.func185,Tryz.ntmps185)|go_enter Tryz.func133,Tryz.ntmps133)
       go_wp2_with fail
       refine(R.out _ _ _ _).mono ?_;rintro e U ⟨rfl,q⟩;have M:=q.size;(try simp at M)
       obtain⟨I,J⟩:=zab q;go_wp2;go_ret;exact⟨qaa (by rw[D.out];first|done|(simp;done)|(simp;omega)),blw⟩
     ·have D:=hH (hp.out false (by simp[Q,Y]))
      have h2b:((signs.length:Int)==0)=false:=by rw[beq_eq_false_iff_ne];omega
      rcases u with rfl|rfl<;>clear Y hp
      all_goals
       (first|(have:Unit:=B;clear this;go_enter Tryz.func185,Tryz.ntmps185)|go_enter Tryz.func133,Tryz.ntmps133)
       go_wp2_with fail
       refine(R.out _ _ _ _).mono ?_;rintro e U ⟨rfl,q⟩;have M:=q.size;(try simp at M)
       obtain⟨I,J⟩:=zab q;go_wp2;go_ret;exact⟨qaa (by rw[D.out];first|done|(simp;done)|(simp;omega)),blw⟩
    ·have Q:within n 0 200=false:=by simpa using Q
     have D:=hH (hp.out false (by simp[Q]))
     rcases u with rfl|rfl<;>clear hp
     all_goals
      (first|(have:Unit:=B;clear this;go_enter Tryz.func185,Tryz.ntmps185)|go_enter Tryz.func133,Tryz.ntmps133)
      go_wp2_with fail
      refine(R.out _ _ _ _).mono ?_;rintro e U ⟨rfl,q⟩;have M:=q.size;(try simp at M)
      obtain⟨I,J⟩:=zab q;go_wp2;go_ret;exact⟨qaa (by rw[D.out];first|done|(simp;done)|(simp;omega)),blw⟩
   ·have D:Hid (jab ⟨kind,n,signs⟩=false):=hH (by simp only[not_or]at u;simp[jab,u.1,u.2,k2])
    have g1:(kind==1)=false:=by simp only[not_or]at u;simpa using u.1
    have g2:(kind==2)=false:=by simpa using k2
    have g3:(kind==3)=false:=by simp only[not_or]at u;simpa using u.2
    clear u k2;(first|(have:Unit:=B;clear this;go_enter Tryz.func185,Tryz.ntmps185)|go_enter Tryz.func133,Tryz.ntmps133)
    go_wp2;go_ret;exact⟨qaa (by rw[D.out];first|done|(simp;done)|(simp;omega)),blw⟩
def ZaU:=@jaR 185 (.inl rfl)
def JaT:=@jaR 133 (.inr rfl)
theorem zaO {D:Nat}(h_:D=122\/D=61)(v:Value)(o:List zaa)(w:World)(h:RdS w v o):Calls Tryz.prog D #[v] w (Qac w (.bool (qah o))):=by
 rcases h_ with rfl|rfl
 have u:=hH @ZaU;go_enter Tryz.func122,Tryz.ntmps122;rotate_left;have u:=hH @JaT;go_enter Tryz.func61,Tryz.ntmps61;all_goals
  have hl:=fun Y ty=>h.len Tryz.underlying30 Y ty
  have ba:=h.le;go_wp2;go_loopw [7] (fun i wr=>∃k:Nat,k<=o.length/\i= .int .i64 k/\(∀j<k,∀y,o[j]? =some y->jab y=true)/\Below w w wr) (fun i _=>o.length-(intOf i).toNat)
  case atStart=>exact⟨0,lz _,rfl,fun _ h=>absurd h (Nat.not_lt_zero _),lf _ _⟩
  case round=>
   obtain⟨k,hk,rfl,N,q⟩:=hrel;have hsz:=q.size;have Z:=hH N;clear N;by_cases Q:k<o.length
   ·obtain⟨x,R⟩:=kaa Q;obtain⟨b1,o1,cs,h1,I,h3⟩:=(h.below q).idx Tryz.underlying30 Xae k R;obtain⟨z,rfl,n⟩:=qag h3;have q0:=I.zero;have q1:=I 1 _ rfl;have q2:=I 2 _ rfl;obtain⟨aa,ca,rfl⟩:=n.isSlice;have HX:=hH R;clear R;by_cases e:jab x=true
    ·have HE:=hH e;go_wp2_with fail
     refine(u.out x _ _ (n.below blw)).mono ?_;rintro e Y ⟨rfl,p⟩;have U:=p.size;(try simp at U)
     obtain⟨J,M⟩:=zab p;go_wp2;go_roundw
     case rel=>exact⟨k+1,by omega,by go_num,uav HX.out HE.out Z.out,blw⟩
     case measure=>simp[intOf];omega
    ·have e:jab x=false:=by simpa using e
     have B:Hid (qah o=false):=hH (by unfold qah;rw[qaP HX.out e];rfl)
     go_wp2_with fail
     refine(u.out x _ _ (n.below blw)).mono ?_;rintro e Y ⟨rfl,p⟩;have U:=p.size;(try simp at U)
     obtain⟨J,M⟩:=zab p;go_wp2;go_ret;exact⟨qaa B.out.symm,blw⟩
   ·have B:Hid (qah o=decide (o.length<=600)):=hH (by unfold qah;rw[kax fun j N=>Z.out j (by omega)];rfl)
    by_cases hle:o.length<=600
    ·go_wp2;go_ret;exact⟨qaa (by rw[B.out];simp;omega),q⟩
    ·go_wp2;go_ret;exact⟨qaa (by rw[B.out];simp;omega),q⟩
def yap:=@zaO 122 (.inl rfl)
def yak:=@zaO 61 (.inr rfl)
theorem ZaS {I:Nat}(M:I=123\/I=62)(v:Value)(t:List Int)(w:World)(h:RdS w v t):Calls Tryz.prog I #[v] w (Qac w (.bool (xae t))):=by
 rcases M with rfl|rfl
 have n:=hH @Zaz;go_enter Tryz.func123,Tryz.ntmps123;rotate_left;have n:=hH @yaA;go_enter Tryz.func62,Tryz.ntmps62;all_goals
  have Q:=fun D ty=>h.len Tryz.underlying31 D ty
  have N:=h.le;by_cases J:t.length<=200
  ·by_cases p:yal t=true
   ·have B:Hid (xae t=true):=hH (by simp[xae,J,p])
    go_wp2_with fail
    refine(n.out _ t _ (h.below blw)).mono ?_;rintro e D ⟨rfl,j⟩;have z:=j.size;(try simp at z)
    obtain⟨q,u⟩:=zab j;go_wp2;go_ret;exact⟨qaa (by rw[B.out];first|done|(simp;done)|(simp;omega)),blw⟩
   ·have p:yal t=false:=by simpa using p
    have B:Hid (xae t=false):=hH (by simp[xae,p])
    go_wp2_with fail
    refine(n.out _ t _ (h.below blw)).mono ?_;rintro e D ⟨rfl,j⟩;have z:=j.size;(try simp at z)
    obtain⟨q,u⟩:=zab j;go_wp2;go_ret;exact⟨qaa (by rw[B.out];first|done|(simp;done)|(simp;omega)),blw⟩
  ·have B:Hid (xae t=false):=hH (by simp[xae,J])
   by_cases p:yal t=true
   ·go_wp2_with (refine(n.out _ t _ (h.below blw)).mono ?_;rintro e D ⟨rfl,j⟩;have z:=j.size;(try simp at z);obtain⟨q,u⟩:=zab j)
    go_ret;exact⟨qaa (by rw[B.out];first|done|(simp;done)|(simp;omega)),blw⟩
   ·have p:yal t=false:=by simpa using p
    go_wp2_with (refine(n.out _ t _ (h.below blw)).mono ?_;rintro e D ⟨rfl,j⟩;have z:=j.size;(try simp at z);obtain⟨q,u⟩:=zab j)
    go_ret;exact⟨qaa (by rw[B.out];first|done|(simp;done)|(simp;omega)),blw⟩
def Qaj:=@ZaS 123 (.inl rfl)
def Zaf:=@ZaS 62 (.inr rfl)
theorem Jao (p:zaa)(j:Value)(w:World)(z:0<=p.n)(B:p.n<=1000000)(D:p.signs.length<=1000000)(q:RdS w j p.signs):
 Calls Tryz.prog 244 #[.agg #[p.kind,p.n,j]] w (Qac w (.int .i64 (Jae p))):=by
 have I:=fun u ty=>q.len Tryz.underlying31 u ty
 go_enter Tryz.func244,Tryz.ntmps244
 go_wp2;go_ret;exact⟨Xab (by unfold Jae;rfl),blw⟩
theorem zaC (v:Value)(o:List zaa)(but:Int)(w:World)(h:RdS w v o):
 Calls Tryz.prog 234 #[v,but] w (Qac w (.int .i64 (Jar but o))):=by
 have hl:=fun w1 ty=>h.len Tryz.underlying30 w1 ty
 have ba:=h.le;by_cases J:qah o=true
 ·have hv:Hid (Jar but o=kab but o):=hH (if_pos J);obtain⟨z,h600⟩:=Jah.1 J;have u:=hH z;clear z;go_enter Tryz.func234,Tryz.ntmps234
  go_wp2_with fail
  refine(yak _ o _ (h.below blw)).mono ?_;rintro e w1 ⟨rfl,q⟩;have s1:=q.size;(try simp at s1)
  obtain⟨hc1,hf1⟩:=zab q;go_wp2;go_loopw [5,13] (fun n i wr=>∃k:Nat,k<=o.length/\i= .int .i64 k/\n= .int .i64 (kab but (o.take k))/\Below w w wr) (fun _ i _=>o.length-(intOf i).toNat)
  case atStart=>exact⟨0,lz _,rfl,rfl,blw⟩
  case round=>
   obtain⟨k,hk,rfl,rfl,B⟩:=hrel;have hsz:=B.size;have sb:=zay but (o.take k) (Jay u.out k);have tl:(o.take k).length<=k:=List.length_take_le _ _;by_cases hlt:k<o.length
   ·obtain⟨x,Q⟩:=kaa hlt;obtain⟨b1,o1,cs,h1,Z,h3⟩:=(h.below B).idx Tryz.underlying30 Xae k Q;obtain⟨M,rfl,j⟩:=qag h3;have q0:=Z.zero;have q1:=Z 1 _ rfl;have q2:=Z 2 _ rfl;obtain⟨aa,ca,rfl⟩:=j.isSlice;have D:=yat u.out Q;have pb:=uaJ D;have p:=zav but Q;have hcx:0<=x.n/\x.n<=200/\x.signs.length<=200:=by
     rcases Zab D with⟨_,U,Y,N⟩|⟨_,U,Y,_⟩|⟨_,U,Y,N⟩
     ·rw[N];simp;omega
     ·omega
     ·rw[N];simp;omega
    obtain⟨U,Y,N⟩:=hcx;clear D Q;obtain⟨S,hS⟩:∃S,kab but (o.take k)=S:=⟨_,rfl⟩;rw[hS]at sb p;rw[hS];clear hS;by_cases e:x.kind=but
    ·rw[if_pos e]at p;have R:=hH p;have e1:(x.kind !=but)=false:=by rw[e];simp
     clear e p;go_wp2;go_roundw
     case rel=>exact⟨k+1,by omega,by go_num,by rw[R.out];go_num,blw⟩
     case measure=>simp[intOf];omega
    ·rw[if_neg e]at p;have R:=hH p;have e1:(x.kind !=but)=true:=by simpa using e
     clear e p;go_wp2_with fail
     refine(Jao x _ _ (by omega) (by omega) (by omega) (j.below blw)).mono ?_
     rintro e w2 ⟨rfl,I⟩;have s2:=I.size;(try simp at s2)
     obtain⟨hc2,hf2⟩:=zab I;go_wp2;go_roundw
     case rel=>exact⟨k+1,by omega,by go_num,by rw[R.out],blw⟩
     case measure=>simp[intOf];omega
   ·obtain rfl:k=o.length:=om;rw[List.take_length];go_wp2;go_ret;exact⟨Xab hv.out.symm,B⟩
 ·have hv:Hid (Jar but o=0):=hH (if_neg J);have J:qah o=false:=by simpa using J
  go_enter Tryz.func234,Tryz.ntmps234
  go_wp2_with fail
  refine(yak _ o _ (h.below blw)).mono ?_;rintro e w1 ⟨rfl,q⟩;have s1:=q.size;(try simp at s1)
  obtain⟨hc1,hf1⟩:=zab q;go_wp2;go_ret;exact⟨Xab hv.out.symm,blw⟩
theorem xaE (v:Value)(o:List zaa)(w:World)(h:RdS w v o):
 Calls Tryz.prog 230 #[v] w (Qac w (.tuple #[(XaP 1 o),(XaP 2 o),(XaP 3 o)])):=by
 have hl:=fun w1 ty=>h.len Tryz.underlying30 w1 ty
 have ba:=h.le;by_cases D:qah o=true
 ·have v1:XaP 1 o=sumOf 1 o:=if_pos D;have v2:XaP 2 o=sumOf 2 o:=if_pos D;have v3:XaP 3 o=sumOf 3 o:=if_pos D;rw[v1,v2,v3];clear v1 v2 v3;obtain⟨J,h600⟩:=Jah.1 D;have u:=hH J;clear J;go_enter Tryz.func230,Tryz.ntmps230
  go_wp2_with fail
  refine(yap _ o _ (h.below blw)).mono ?_;rintro e w1 ⟨rfl,z⟩;have s1:=z.size;(try simp at s1)
  obtain⟨hc1,hf1⟩:=zab z;go_wp2;go_loopw [5,6,7,15] (fun n1 n2 n3 i wr=>∃k:Nat,k<=o.length/\i= .int .i64 k/\n1= .int .i64 (sumOf 1 (o.take k))/\n2= .int .i64 (sumOf 2 (o.take k))/\n3= .int .i64 (sumOf 3 (o.take k))/\Below w w wr) (fun _ _ _ i _=>o.length-(intOf i).toNat)
  case atStart=>exact⟨0,lz _,rfl,rfl,rfl,rfl,blw⟩
  case round=>
   obtain⟨k,hk,rfl,rfl,rfl,rfl,N⟩:=hrel;have hsz:=N.size;have sb1:=jaD 1 (o.take k) (Jay u.out k);have sb2:=jaD 2 (o.take k) (Jay u.out k);have sb3:=jaD 3 (o.take k) (Jay u.out k);have tl:(o.take k).length<=k:=List.length_take_le _ _;by_cases hlt:k<o.length
   ·obtain⟨x,Q⟩:=kaa hlt;obtain⟨b1,o1,cs,h1,h2,h3⟩:=(h.below N).idx Tryz.underlying30 Xae k Q;obtain⟨v_signs,rfl,q⟩:=qag h3;have q0:=h2.zero;have q1:=h2 1 _ rfl;have q2:=h2 2 _ rfl;obtain⟨aa,ca,rfl⟩:=q.isSlice;have I:=yat u.out Q;have j:=KaF 1 Q;have n:=KaF 2 Q;have p:=KaF 3 Q;clear Q;obtain⟨S1,a0⟩:∃S,sumOf 1 (o.take k)=S:=⟨_,rfl⟩;obtain⟨S2,a1⟩:∃S,sumOf 2 (o.take k)=S:=⟨_,rfl⟩;obtain⟨S3,a2⟩:∃S,sumOf 3 (o.take k)=S:=⟨_,rfl⟩;rw[a0]at sb1 j⊢;rw[a1]at sb2 n⊢;rw[a2]at sb3 p⊢;clear a0 a1 a2;have M:=fun w1 ty=>q.len Tryz.underlying31 w1 ty
    rcases Zab I with⟨B,g1,g2,Z⟩|⟨B,g1,g2,_⟩|⟨B,g1,g2,Z⟩
    ·rw[B]at j n p;simp only[Jae,Z]at j n p;have R:=hH j;have U:=hH n;have Y:=hH p;rw[B]at q0;clear I B Z j n p M;go_wp2;go_roundw
     case rel=>exact⟨k+1,by omega,by go_num,by rw[R.out];simp,by rw[U.out];simp,by rw[Y.out];simp,blw⟩
     case measure=>simp[intOf];omega
    ·rw[B]at j n p;simp only[Jae,g1]at j n p;have R:=hH j;have U:=hH n;have Y:=hH p;rw[B]at q0;clear I B g1 j n p;go_wp2;go_roundw
     case rel=>exact⟨k+1,by omega,by go_num,by rw[R.out];simp,by rw[U.out];simp,by rw[Y.out];simp,blw⟩
     case measure=>simp[intOf];omega
    ·rw[B]at j n p;simp only[Jae,Z]at j n p;have R:=hH j;have U:=hH n;have Y:=hH p;rw[B]at q0;clear I B Z j n p M;go_wp2;go_roundw
     case rel=>exact⟨k+1,by omega,by go_num,by rw[R.out];simp,by rw[U.out];simp,by rw[Y.out];simp,blw⟩
     case measure=>simp[intOf];omega
   ·obtain rfl:k=o.length:=om;simp only[List.take_length];go_wp2;go_ret3
    exact⟨rfl,N⟩
 ·have v1:XaP 1 o=0:=if_neg D;have v2:XaP 2 o=0:=if_neg D;have v3:XaP 3 o=0:=if_neg D;rw[v1,v2,v3];clear v1 v2 v3;have D:qah o=false:=by simpa using D
  go_enter Tryz.func230,Tryz.ntmps230
  go_wp2_with fail
  refine(yap _ o _ (h.below blw)).mono ?_;rintro e w1 ⟨rfl,z⟩;have s1:=z.size;(try simp at s1)
  obtain⟨hc1,hf1⟩:=zab z;go_wp2;go_ret3
  exact⟨rfl,blw⟩
theorem zai (v:Value)(o:List zaa)(w:World)(h:RdS w v o):Calls Tryz.prog 212 #[v] w (Qac w (.int .i64 (xad o))):=by
 go_enter Tryz.func212,Tryz.ntmps212
 go_wp2_with fail
 refine(zaC _ o 2 _ (h.below blw)).mono ?_;rintro e u ⟨rfl,j⟩;have q:=j.size;(try simp at q)
 obtain⟨n,p⟩:=zab j;go_wp2;go_ret;exact⟨rfl,blw⟩
theorem Za3 (v:Value)(o:List zaa)(w:World)(h:RdS w v o):Calls Tryz.prog 213 #[v] w (Qac w (.int .i64 (Xba o))):=by
 go_enter Tryz.func213,Tryz.ntmps213
 go_wp2_with fail
 refine(zaC _ o 3 _ (h.below blw)).mono ?_;rintro e u ⟨rfl,j⟩;have q:=j.size;(try simp at q)
 obtain⟨n,p⟩:=zab j;go_wp2;go_ret;exact⟨rfl,blw⟩
theorem uaT (o:List zaa)(b:Int):0<=XaP b o/\XaP b o<=120000:=by
 unfold XaP;by_cases n:qah o=true
 ·obtain⟨j,p⟩:=Jah.1 n;have:=jaD b o j;rw[if_pos n];omega
 ·rw[if_neg n];omega
theorem Xa9 (o:List zaa):xad o=(XaP 1 o)+(XaP 3 o):=by
 unfold xad Jar XaP;by_cases j:qah o=true
 ·simp only[if_pos j];exact(XaO o (Jah.1 j).1).1
 ·simp only[if_neg j];rfl
theorem Zbg (o:List zaa):Xba o=(XaP 1 o)+(XaP 2 o):=by
 unfold Xba Jar XaP;by_cases j:qah o=true
 ·simp only[if_pos j];exact(XaO o (Jah.1 j).1).2
 ·simp only[if_neg j];rfl
theorem jaj (v:Value)(o:List zaa)(w:World)(h:RdS w v o):Calls Tryz.prog 205 #[v] w (Qac w (.int .i64 (xad o))):=by
 have u:=uaT o 1;have z:=uaT o 3;go_enter Tryz.func205,Tryz.ntmps205
 go_wp2_with fail
 refine(xaE _ o _ (h.below blw)).mono ?_;rintro e N ⟨rfl,p⟩;have I:=p.size;(try simp at I)
 obtain⟨B,D⟩:=zab p;have q:=hH (Xa9 o);obtain⟨J,j⟩:∃S,XaP 1 o=S:=⟨_,rfl⟩;obtain⟨M,n⟩:∃S,XaP 3 o=S:=⟨_,rfl⟩;rw[j]at u q⊢;rw[n]at z q⊢;clear j n;go_wp2;go_ret;exact⟨Xab q.out.symm,blw⟩
theorem za4 (v:Value)(o:List zaa)(w:World)(h:RdS w v o):Calls Tryz.prog 206 #[v] w (Qac w (.int .i64 (Xba o))):=by
 have u:=uaT o 1;have z:=uaT o 2;go_enter Tryz.func206,Tryz.ntmps206
 go_wp2_with fail
 refine(xaE _ o _ (h.below blw)).mono ?_;rintro e N ⟨rfl,p⟩;have I:=p.size;(try simp at I)
 obtain⟨B,D⟩:=zab p;have q:=hH (Zbg o);obtain⟨J,j⟩:∃S,XaP 1 o=S:=⟨_,rfl⟩;obtain⟨M,n⟩:∃S,XaP 2 o=S:=⟨_,rfl⟩;rw[j]at u q⊢;rw[n]at z q⊢;clear j n;go_wp2;go_ret;exact⟨Xab q.out.symm,blw⟩
theorem xa7 {U:Nat}(h_:U=164\/U=171)(v:Value)(o:List zaa)(w:World)(h:RdS w v o):Calls Tryz.prog U #[v] w (Qac w (.bool (jag o))):=by
 rcases h_ with rfl|rfl
 have q:=hH @yap;have u:=hH @jaj;have I:=hH @za4;go_enter Tryz.func164,Tryz.ntmps164;rotate_left;have q:=hH @yak;have u:=hH @zai;have I:=hH @Za3;go_enter Tryz.func171,Tryz.ntmps171;all_goals
  by_cases R:qah o=true
  ·by_cases h2:xad o<=200
   ·by_cases h3:Xba o<=200
    ·have D:Hid (jag o=true):=hH (by simp[jag,R,h2,h3])
     go_wp2_with fail
     refine(q.out _ o _ (h.below blw)).mono ?_;rintro e w1 ⟨rfl,j⟩;have J:=j.size;(try simp at J)
     obtain⟨z,B⟩:=zab j;go_wp2_with fail
     refine(u.out _ o _ (h.below blw)).mono ?_;rintro e w2 ⟨rfl,n⟩;have Q:=n.size;(try simp at Q)
     obtain⟨M,N⟩:=zab n;go_wp2_with fail
     refine(I.out _ o _ (h.below blw)).mono ?_;rintro e w3 ⟨rfl,p⟩;have s3:=p.size;(try simp at s3)
     obtain⟨Y,Z⟩:=zab p;go_wp2;go_ret;exact⟨qaa (by rw[D.out];first|done|(simp;done)|(simp;omega)),blw⟩
    ·have D:Hid (jag o=false):=hH (by simp[jag,h3])
     go_wp2_with fail
     refine(q.out _ o _ (h.below blw)).mono ?_;rintro e w1 ⟨rfl,j⟩;have J:=j.size;(try simp at J)
     obtain⟨z,B⟩:=zab j;go_wp2_with fail
     refine(u.out _ o _ (h.below blw)).mono ?_;rintro e w2 ⟨rfl,n⟩;have Q:=n.size;(try simp at Q)
     obtain⟨M,N⟩:=zab n;go_wp2_with fail
     refine(I.out _ o _ (h.below blw)).mono ?_;rintro e w3 ⟨rfl,p⟩;have s3:=p.size;(try simp at s3)
     obtain⟨Y,Z⟩:=zab p;go_wp2;go_ret;exact⟨qaa (by rw[D.out];first|done|(simp;done)|(simp;omega)),blw⟩
   ·have D:Hid (jag o=false):=hH (by simp[jag,h2])
    go_wp2_with fail
    refine(q.out _ o _ (h.below blw)).mono ?_;rintro e w1 ⟨rfl,j⟩;have J:=j.size;(try simp at J)
    obtain⟨z,B⟩:=zab j;go_wp2_with fail
    refine(u.out _ o _ (h.below blw)).mono ?_;rintro e w2 ⟨rfl,n⟩;have Q:=n.size;(try simp at Q)
    obtain⟨M,N⟩:=zab n;go_wp2;go_ret;exact⟨qaa (by rw[D.out];first|done|(simp;done)|(simp;omega)),blw⟩
  ·have R:qah o=false:=by simpa using R
   have D:Hid (jag o=false):=hH (by simp[jag,R])
   go_wp2_with fail
   refine(q.out _ o _ (h.below blw)).mono ?_;rintro e w1 ⟨rfl,j⟩;have J:=j.size;(try simp at J)
   obtain⟨z,B⟩:=zab j;go_wp2;go_ret;exact⟨qaa (by rw[D.out];first|done|(simp;done)|(simp;omega)),blw⟩
def kad:=@xa7 164 (.inl rfl)
def yad:=@xa7 171 (.inr rfl)
