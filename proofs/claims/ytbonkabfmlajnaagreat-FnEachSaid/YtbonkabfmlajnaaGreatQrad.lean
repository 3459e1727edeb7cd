/- Predicates on signs, parts, operations. -/
import Derived.Test.YtbonkabfmlajnaaGreatQrac
set_option maxHeartbeats 2000000
set_option linter.defProp false
set_option linter.unusedSimpArgs false
namespace Go.Proofs.YtbonkabfmlajnaaGreat
open Go.RowKit
def within (n lo hi:Int):Bool:=decide (lo<=n)&&decide (n<=hi)
theorem within_iff {n lo hi:Int}:within n lo hi=true↔lo<=n/\n<=hi:=by simp[within]
def kai (n:Int):Bool:=within n 0 1114111&& !within n 55296 57343
def xai (l:List Int):Bool:=l.all kai
def kab (p:zaa):Bool:=
 if p.kind=1 then within p.n 0 200&&decide (p.signs.length=0)
 else if p.kind=3 then within p.n 0 200&&decide (p.signs.length=0)
 else if p.kind=2 then decide (p.n=0)&&decide (p.signs.length<=200)&&xai p.signs
 else false
def Xag (o:List zaa):Bool:=o.all kab&&decide (o.length<=600)
def Xae (p:zaa):Int:=p.n+p.signs.length
def vab (but:Int):List zaa->Int
 |[]=>0
 |p::o=>(if p.kind=but then 0 else Xae p)+vab but o
def sumOf (kind:Int):List zaa->Int
 |[]=>0
 |p::o=>(if p.kind=kind then Xae p else 0)+sumOf kind o
def vas (but:Int)(o:List zaa):Int:=if Xag o=true then vab but o else 0
def ZaO (kind:Int)(o:List zaa):Int:=if Xag o=true then sumOf kind o else 0
def kad (o:List zaa):Int:=vas 2 o
def va8 (o:List zaa):Int:=vas 3 o
def yag (o:List zaa):Bool:=Xag o&&decide (kad o<=200)&&decide (va8 o<=200)
def jae (t:List Int):Bool:=decide (t.length<=200)&&xai t
theorem JaL {α:Type}{p:α->Bool}{l:List α}{k:Nat}{x:α}(n:l[k]? =some x)(j:p x=false):l.all p=false:=by
 rw[List.all_eq_false];exact⟨x,List.mem_of_getElem? n,by simp[j]⟩
theorem jax {α:Type}{p:α->Bool}{l:List α}(q:∀j<l.length,∀y,l[j]? =some y->p y=true):l.all p=true:=by
 rw[List.all_eq_true];intro x u;obtain⟨j,n,e⟩:=List.mem_iff_getElem.1 u;exact q j n x (by rw[List.getElem?_eq_getElem n,e])
theorem qav {α:Type}{p:α->Bool}{l:List α}{k:Nat}{x:α}(z:l[k]? =some x)(u:p x=true)(n:∀j<k,∀y,l[j]? =some y->p y=true):∀j<k+1,∀y,l[j]? =some y->p y=true:=by
 intro j q y hy;by_cases e:j=k
 ·subst e;rw[z]at hy;cases hy;exact u
 ·exact n j om y hy
theorem jat {α:Type}{p:α->Bool}{l:List α}(h:l.all p=true){k:Nat}{x:α}(j:l[k]? =some x):p x=true:=List.all_eq_true.1 h x (List.mem_of_getElem? j)
theorem Zab {p:zaa}(h:kab p=true):(p.kind=1/\0<=p.n/\p.n<=200/\p.signs=[])\/(p.kind=2/\p.n=0/\p.signs.length<=200/\xai p.signs=true)\/(p.kind=3/\0<=p.n/\p.n<=200/\p.signs=[]):=by
 unfold kab at h;split at h
 ·simp[within_iff]at h;exact .inl ⟨‹_›,h.1.1,h.1.2,h.2⟩
 ·split at h
  ·simp[within_iff]at h;exact .inr (.inr ⟨‹_›,h.1.1,h.1.2,h.2⟩)
  ·split at h
   ·simp at h;exact .inr (.inl ⟨‹_›,h.1.1,h.1.2,h.2⟩)
   ·cases h
theorem yaJ {p:zaa}(h:kab p=true):0<=Xae p/\Xae p<=200:=by
 unfold Xae;rcases Zab h with⟨_,n,q,j⟩|⟨_,n,q,_⟩|⟨_,n,q,j⟩
 ·rw[j];simp;omega
 ·omega
 ·rw[j];simp;omega
theorem Qag (b:Int):∀(x y:List zaa),vab b (x++y)=vab b x+vab b y
 |[],y=>by simp[vab]
 |p::x,y=>by simp only[List.cons_append,vab,Qag b x y];omega
theorem vaH (b:Int):∀(x y:List zaa),sumOf b (x++y)=sumOf b x+sumOf b y
 |[],y=>by simp[sumOf]
 |p::x,y=>by simp only[List.cons_append,sumOf,vaH b x y];omega
theorem Xax (b:Int):∀(x:List zaa),x.all kab=true->0<=vab b x/\vab b x<=200*x.length
 |[],_=>by simp[vab]
 |p::x,h=>by
  simp only[List.all_cons,Bool.and_eq_true]at h;have j:=yaJ h.1;have n:=Xax b x h.2;simp only[vab,List.length_cons];split<;>omega
theorem XaD (b:Int):∀(x:List zaa),x.all kab=true->0<=sumOf b x/\sumOf b x<=200*x.length
 |[],_=>by simp[sumOf]
 |p::x,h=>by
  simp only[List.all_cons,Bool.and_eq_true]at h;have j:=yaJ h.1;have n:=XaD b x h.2;simp only[sumOf,List.length_cons];split<;>omega
theorem zay {α:Type}{p:α->Bool}{l:List α}(h:l.all p=true)(k:Nat):(l.take k).all p=true:=by
 rw[List.all_eq_true]at *;exact fun x j=>h x (List.mem_of_mem_take j)
theorem XaI {α:Type}{p:α->Bool}{l:List α}(h:l.all p=true)(k:Nat):(l.drop k).all p=true:=by
 rw[List.all_eq_true]at *;exact fun x j=>h x (List.mem_of_mem_drop j)
theorem xav {o:List zaa}{k:Nat}{p:zaa}(b:Int)(h:o[k]? =some p):vab b (o.take (k+1))=vab b (o.take k)+(if p.kind=b then 0 else Xae p):=by
 rw[Zag h,Qag];simp[vab]
theorem qaE {o:List zaa}{k:Nat}{p:zaa}(b:Int)(h:o[k]? =some p):sumOf b (o.take (k+1))=sumOf b (o.take k)+(if p.kind=b then Xae p else 0):=by
 rw[Zag h,vaH];simp[sumOf]
theorem Zah {o:List zaa}:Xag o=true↔o.all kab=true/\o.length<=600:=by simp[Xag]
theorem qaK:∀(o:List zaa),o.all kab=true->vab 2 o=sumOf 1 o+sumOf 3 o/\vab 3 o=sumOf 1 o+sumOf 2 o
 |[],_=>by simp[vab,sumOf]
 |p::o,h=>by
  simp only[List.all_cons,Bool.and_eq_true]at h;have j:=qaK o h.2;simp only[vab,sumOf];rcases Zab h.1 with⟨k,_⟩|⟨k,_⟩|⟨k,_⟩<;>rw[k]<;>simp<;>omega
theorem zaS {p:Nat}(z:p=106\/p=26)(n lo hi:Int)(w:World):Calls Tryz.prog p #[n,lo,hi] w (yae w (.bool (within n lo hi))):=by
 rcases z with rfl|rfl
 go_enter Tryz.func106,Tryz.ntmps106
 rotate_left;go_enter Tryz.func26,Tryz.ntmps26
 all_goals
  by_cases q:lo<=n
  ·by_cases u:n<=hi
   ·have j:Hid (within n lo hi=true):=hH (by simp[within,q,u])
    go_wp2;go_ret;exact⟨jaa (by rw[j.out];first|done|(simp;done)|(simp;omega)),blw⟩
   ·have j:Hid (within n lo hi=false):=hH (by simp[within,u])
    go_wp2;go_ret;exact⟨jaa (by rw[j.out];first|done|(simp;done)|(simp;omega)),blw⟩
  ·have j:Hid (within n lo hi=false):=hH (by simp[within,q])
   go_wp2;go_ret;exact⟨jaa (by rw[j.out];first|done|(simp;done)|(simp;omega)),blw⟩
def Zaa:=@zaS 106 (.inl rfl)
def vaa:=@zaS 26 (.inr rfl)
theorem kaQ {M:Nat}(Y:M=140\/M=112)(n:Int)(w:World):Calls Tryz.prog M #[n] w (yae w (.bool (kai n))):=by
 rcases Y with rfl|rfl
 have p:=hH @Zaa;go_enter Tryz.func140,Tryz.ntmps140;rotate_left;have p:=hH @vaa;go_enter Tryz.func112,Tryz.ntmps112;all_goals
  by_cases I:within n 0 1114111=true
  ·by_cases J:within n 55296 57343=true
   ·have B:Hid (kai n=false):=hH (by simp[kai,J])
    go_wp2_with fail
    refine(p.out _ _ _ _).mono ?_;rintro e U ⟨rfl,j⟩;have D:=j.size;(try simp at D)
    obtain⟨u,z⟩:=jac j;go_wp2_with fail
    refine(p.out _ _ _ _).mono ?_;rintro e Z ⟨rfl,q⟩;have R:=q.size;(try simp at R)
    obtain⟨N,Q⟩:=jac q;go_wp2;go_ret;exact⟨jaa (by rw[B.out];first|done|(simp;done)|(simp;omega)),blw⟩
   ·have J:within n 55296 57343=false:=by simpa using J
    have B:Hid (kai n=true):=hH (by simp[kai,I,J])
    go_wp2_with fail
    refine(p.out _ _ _ _).mono ?_;rintro e U ⟨rfl,j⟩;have D:=j.size;(try simp at D)
    obtain⟨u,z⟩:=jac j;go_wp2_with fail
    refine(p.out _ _ _ _).mono ?_;rintro e Z ⟨rfl,q⟩;have R:=q.size;(try simp at R)
    obtain⟨N,Q⟩:=jac q;go_wp2;go_ret;exact⟨jaa (by rw[B.out];first|done|(simp;done)|(simp;omega)),blw⟩
  ·have I:within n 0 1114111=false:=by simpa using I
   have B:Hid (kai n=false):=hH (by simp[kai,I])
   go_wp2_with fail
   refine(p.out _ _ _ _).mono ?_;rintro e U ⟨rfl,j⟩;have D:=j.size;(try simp at D)
   obtain⟨u,z⟩:=jac j;go_wp2;go_ret;exact⟨jaa (by rw[B.out];first|done|(simp;done)|(simp;omega)),blw⟩
def qaU:=@kaQ 140 (.inl rfl)
def zaV:=@kaQ 112 (.inr rfl)
theorem uaJ {z:Nat}(h_:z=108\/z=72)(v:Value)(l:List Int)(w:World)(h:RdS w v l):Calls Tryz.prog z #[v] w (yae w (.bool (xai l))):=by
 rcases h_ with rfl|rfl
 have q:=hH @qaU;go_enter Tryz.func108,Tryz.ntmps108;rotate_left;have q:=hH @zaV;go_enter Tryz.func72,Tryz.ntmps72;all_goals
  have hl:=fun Q ty=>h.len Tryz.underlying31 Q ty
  have ba:=h.le;go_wp2;go_loopw [7] (fun i wr=>∃k:Nat,k<=l.length/\i= .int .i64 k/\(∀j<k,∀y,l[j]? =some y->kai y=true)/\Below w w wr) (fun i _=>l.length-(intOf i).toNat)
  case atStart=>exact⟨0,lz _,rfl,fun _ h=>absurd h (Nat.not_lt_zero _),lf _ _⟩
  case round=>
   obtain⟨k,hk,rfl,I,p⟩:=hrel;have hsz:=p.size;have R:=hH I;clear I;by_cases J:k<l.length
   ·obtain⟨x,M⟩:=Jaa J;obtain⟨b1,o1,_,h1,Z,_,rfl,rfl⟩:=(h.below p).idx Tryz.underlying31 xaH k M;have q0:=Z.one;have U:=hH M;clear M;by_cases e:kai x=true
    ·have Y:=hH e;go_wp2_with fail
     refine(q.out _ _).mono ?_;rintro e Q ⟨rfl,n⟩;have N:=n.size;(try simp at N)
     obtain⟨B,D⟩:=jac n;go_wp2;go_roundw
     case rel=>exact⟨k+1,by omega,by go_num,qav U.out Y.out R.out,blw⟩
     case measure=>simp[intOf];omega
    ·have e:kai x=false:=by simpa using e
     have u:Hid (xai l=false):=hH (JaL U.out e);go_wp2_with fail
     refine(q.out _ _).mono ?_;rintro e Q ⟨rfl,n⟩;have N:=n.size;(try simp at N)
     obtain⟨B,D⟩:=jac n;go_wp2;go_ret;exact⟨jaa u.out.symm,blw⟩
   ·have u:Hid (xai l=true):=hH (jax fun j I=>R.out j om)
    go_wp2;go_ret;exact⟨jaa u.out.symm,p⟩
def Zaz:=@uaJ 108 (.inl rfl)
def qaA:=@uaJ 72 (.inr rfl)
theorem yaR {N_:Nat}(h_:N_=107\/N_=71)(p:zaa)(z:Value)(w:World)(j:RdS w z p.signs):Calls Tryz.prog N_ #[.agg #[p.kind,p.n,z]] w (yae w (.bool (kab p))):=by
 rcases h_ with rfl|rfl
 have B:Unit:=();have N:=hH @Zaz;have R:=hH @Zaa;rotate_left;have B:Bool:=true;have N:=hH @qaA;have R:=hH @vaa;all_goals
  have hl:=fun U ty=>j.len Tryz.underlying31 U ty
  have ba:=j.le;obtain⟨kind,n,signs⟩:=p;simp only at j hl ba;show Calls _ _ #[.agg #[kind,n,z]] w _;by_cases k2:kind=2
  ·subst k2;by_cases Q:n=0
   ·subst Q;by_cases Y:signs.length<=200
    ·by_cases Z:xai signs=true
     ·have D:Hid (kab ⟨2,0,signs⟩=true):=hH (by simp[kab,Y,Z])
      (first|(have:Unit:=B;clear this;go_enter Tryz.func107,Tryz.ntmps107)|go_enter Tryz.func71,Tryz.ntmps71)
      go_wp2_with fail
      refine(N.out _ signs _ (j.below blw)).mono ?_;rintro e U ⟨rfl,q⟩;have M:=q.size;(try simp at M)
      obtain⟨I,J⟩:=jac q;go_wp2;go_ret;exact⟨jaa (by rw[D.out];first|done|(simp;done)|(simp;omega)),blw⟩
     ·have Z:xai signs=false:=by simpa using Z
      have D:Hid (kab ⟨2,0,signs⟩=false):=hH (by simp[kab,Z])
      (first|(have:Unit:=B;clear this;go_enter Tryz.func107,Tryz.ntmps107)|go_enter Tryz.func71,Tryz.ntmps71)
      go_wp2_with fail
      refine(N.out _ signs _ (j.below blw)).mono ?_;rintro e U ⟨rfl,q⟩;have M:=q.size;(try simp at M)
      obtain⟨I,J⟩:=jac q;go_wp2;go_ret;exact⟨jaa (by rw[D.out];first|done|(simp;done)|(simp;omega)),blw⟩
    ·have D:Hid (kab ⟨2,0,signs⟩=false):=hH (by simp[kab];omega)
     by_cases Z:xai signs=true
     ·(first|(have:Unit:=B;clear this;go_enter Tryz.func107,Tryz.ntmps107)|go_enter Tryz.func71,Tryz.ntmps71)
      go_wp2_with (refine(N.out _ signs _ (j.below blw)).mono ?_;rintro e U ⟨rfl,q⟩;have M:=q.size;(try simp at M);obtain⟨I,J⟩:=jac q)
      go_ret;exact⟨jaa (by rw[D.out];first|done|(simp;done)|(simp;omega)),blw⟩
     ·have Z:xai signs=false:=by simpa using Z
      (first|(have:Unit:=B;clear this;go_enter Tryz.func107,Tryz.ntmps107)|go_enter Tryz.func71,Tryz.ntmps71)
      go_wp2_with (refine(N.out _ signs _ (j.below blw)).mono ?_;rintro e U ⟨rfl,q⟩;have M:=q.size;(try simp at M);obtain⟨I,J⟩:=jac q)
      go_ret;exact⟨jaa (by rw[D.out];first|done|(simp;done)|(simp;omega)),blw⟩
   ·have D:Hid (kab ⟨2,n,signs⟩=false):=hH (by simp[kab,Q])
    have h1b:(n==0)=false:=by simpa using Q
    clear Q;(first|(have:Unit:=B;clear this;go_enter Tryz.func107,Tryz.ntmps107)|go_enter Tryz.func71,Tryz.ntmps71)
    go_wp2;go_ret;exact⟨jaa (by rw[D.out];first|done|(simp;done)|(simp;omega)),blw⟩
  ·by_cases u:kind=1\/kind=3
   ·have hp:Hid (∀b,(within n 0 200&&decide (signs.length=0))=b->kab ⟨kind,n,signs⟩=b):=hH (by rintro b rfl;rcases u with rfl|rfl<;>simp[kab])
    by_cases Q:within n 0 200=true
    ·by_cases Y:signs.length=0
     ·have D:=hH (hp.out true (by simp[Q,Y]))
      rw[Y]at hl;rcases u with rfl|rfl<;>clear Y hp
      all_goals
       (first|(have:Unit:=B;clear this;go_enter Tryz.func107,Tryz.ntmps107)|go_enter Tryz.func71,Tryz.ntmps71)
       go_wp2_with fail
       refine(R.out _ _ _ _).mono ?_;rintro e U ⟨rfl,q⟩;have M:=q.size;(try simp at M)
       obtain⟨I,J⟩:=jac q;go_wp2;go_ret;exact⟨jaa (by rw[D.out];first|done|(simp;done)|(simp;omega)),blw⟩
     ·have D:=hH (hp.out false (by simp[Q,Y]))
      have h2b:((signs.length:Int)==0)=false:=by rw[beq_eq_false_iff_ne];omega
      rcases u with rfl|rfl<;>clear Y hp
      all_goals
       (first|(have:Unit:=B;clear this;go_enter Tryz.func107,Tryz.ntmps107)|go_enter Tryz.func71,Tryz.ntmps71)
       go_wp2_with fail
       refine(R.out _ _ _ _).mono ?_;rintro e U ⟨rfl,q⟩;have M:=q.size;(try simp at M)
       obtain⟨I,J⟩:=jac q;go_wp2;go_ret;exact⟨jaa (by rw[D.out];first|done|(simp;done)|(simp;omega)),blw⟩
    ·have Q:within n 0 200=false:=by simpa using Q
     have D:=hH (hp.out false (by simp[Q]))
     rcases u with rfl|rfl<;>clear hp
     all_goals
      (first|(have:Unit:=B;clear this;go_enter Tryz.func107,Tryz.ntmps107)|go_enter Tryz.func71,Tryz.ntmps71)
      go_wp2_with fail
      refine(R.out _ _ _ _).mono ?_;rintro e U ⟨rfl,q⟩;have M:=q.size;(try simp at M)
      obtain⟨I,J⟩:=jac q;go_wp2;go_ret;exact⟨jaa (by rw[D.out];first|done|(simp;done)|(simp;omega)),blw⟩
   ·have D:Hid (kab ⟨kind,n,signs⟩=false):=hH (by simp only[not_or]at u;simp[kab,u.1,u.2,k2])
    have g1:(kind==1)=false:=by simp only[not_or]at u;simpa using u.1
    have g2:(kind==2)=false:=by simpa using k2
    have g3:(kind==3)=false:=by simp only[not_or]at u;simpa using u.2
    clear u k2;(first|(have:Unit:=B;clear this;go_enter Tryz.func107,Tryz.ntmps107)|go_enter Tryz.func71,Tryz.ntmps71)
    go_wp2;go_ret;exact⟨jaa (by rw[D.out];first|done|(simp;done)|(simp;omega)),blw⟩
def KaS:=@yaR 107 (.inl rfl)
def uaU:=@yaR 71 (.inr rfl)
theorem KaN {D:Nat}(h_:D=60\/D=31)(v:Value)(o:List zaa)(w:World)(h:RdS w v o):Calls Tryz.prog D #[v] w (yae w (.bool (Xag o))):=by
 rcases h_ with rfl|rfl
 have u:=hH @KaS;go_enter Tryz.func60,Tryz.ntmps60;rotate_left;have u:=hH @uaU;go_enter Tryz.func31,Tryz.ntmps31;all_goals
  have hl:=fun Y ty=>h.len Tryz.underlying30 Y ty
  have ba:=h.le;go_wp2;go_loopw [7] (fun i wr=>∃k:Nat,k<=o.length/\i= .int .i64 k/\(∀j<k,∀y,o[j]? =some y->kab y=true)/\Below w w wr) (fun i _=>o.length-(intOf i).toNat)
  case atStart=>exact⟨0,lz _,rfl,fun _ h=>absurd h (Nat.not_lt_zero _),lf _ _⟩
  case round=>
   obtain⟨k,hk,rfl,N,q⟩:=hrel;have hsz:=q.size;have Z:=hH N;clear N;by_cases Q:k<o.length
   ·obtain⟨x,R⟩:=Jaa Q;obtain⟨b1,o1,cs,h1,I,h3⟩:=(h.below q).idx Tryz.underlying30 uae k R;obtain⟨z,rfl,n⟩:=xah h3;have q0:=I.zero;have q1:=I 1 _ rfl;have q2:=I 2 _ rfl;obtain⟨aa,ca,rfl⟩:=n.isSlice;have HX:=hH R;clear R;by_cases e:kab x=true
    ·have HE:=hH e;go_wp2_with fail
     refine(u.out x _ _ (n.below blw)).mono ?_;rintro e Y ⟨rfl,p⟩;have U:=p.size;(try simp at U)
     obtain⟨J,M⟩:=jac p;go_wp2;go_roundw
     case rel=>exact⟨k+1,by omega,by go_num,qav HX.out HE.out Z.out,blw⟩
     case measure=>simp[intOf];omega
    ·have e:kab x=false:=by simpa using e
     have B:Hid (Xag o=false):=hH (by unfold Xag;rw[JaL HX.out e];rfl)
     go_wp2_with fail
     refine(u.out x _ _ (n.below blw)).mono ?_;rintro e Y ⟨rfl,p⟩;have U:=p.size;(try simp at U)
     obtain⟨J,M⟩:=jac p;go_wp2;go_ret;exact⟨jaa B.out.symm,blw⟩
   ·have B:Hid (Xag o=decide (o.length<=600)):=hH (by unfold Xag;rw[jax fun j N=>Z.out j om];rfl)
    by_cases hle:o.length<=600
    ·go_wp2;go_ret;exact⟨jaa (by rw[B.out];simp;omega),q⟩
    ·go_wp2;go_ret;exact⟨jaa (by rw[B.out];simp;omega),q⟩
def vap:=@KaN 60 (.inl rfl)
def zak:=@KaN 31 (.inr rfl)
theorem zaR {I:Nat}(M:I=61\/I=32)(v:Value)(t:List Int)(w:World)(h:RdS w v t):Calls Tryz.prog I #[v] w (yae w (.bool (jae t))):=by
 rcases M with rfl|rfl
 have n:=hH @Zaz;go_enter Tryz.func61,Tryz.ntmps61;rotate_left;have n:=hH @qaA;go_enter Tryz.func32,Tryz.ntmps32;all_goals
  have Q:=fun D ty=>h.len Tryz.underlying31 D ty
  have N:=h.le;by_cases J:t.length<=200
  ·by_cases p:xai t=true
   ·have B:Hid (jae t=true):=hH (by simp[jae,J,p])
    go_wp2_with fail
    refine(n.out _ t _ (h.below blw)).mono ?_;rintro e D ⟨rfl,j⟩;have z:=j.size;(try simp at z)
    obtain⟨q,u⟩:=jac j;go_wp2;go_ret;exact⟨jaa (by rw[B.out];first|done|(simp;done)|(simp;omega)),blw⟩
   ·have p:xai t=false:=by simpa using p
    have B:Hid (jae t=false):=hH (by simp[jae,p])
    go_wp2_with fail
    refine(n.out _ t _ (h.below blw)).mono ?_;rintro e D ⟨rfl,j⟩;have z:=j.size;(try simp at z)
    obtain⟨q,u⟩:=jac j;go_wp2;go_ret;exact⟨jaa (by rw[B.out];first|done|(simp;done)|(simp;omega)),blw⟩
  ·have B:Hid (jae t=false):=hH (by simp[jae,J])
   by_cases p:xai t=true
   ·go_wp2_with (refine(n.out _ t _ (h.below blw)).mono ?_;rintro e D ⟨rfl,j⟩;have z:=j.size;(try simp at z);obtain⟨q,u⟩:=jac j)
    go_ret;exact⟨jaa (by rw[B.out];first|done|(simp;done)|(simp;omega)),blw⟩
   ·have p:xai t=false:=by simpa using p
    go_wp2_with (refine(n.out _ t _ (h.below blw)).mono ?_;rintro e D ⟨rfl,j⟩;have z:=j.size;(try simp at z);obtain⟨q,u⟩:=jac j)
    go_ret;exact⟨jaa (by rw[B.out];first|done|(simp;done)|(simp;omega)),blw⟩
def Xaj:=@zaR 61 (.inl rfl)
def Qaf:=@zaR 32 (.inr rfl)
theorem Zao (p:zaa)(j:Value)(w:World)(z:0<=p.n)(B:p.n<=1000000)(D:p.signs.length<=1000000)(q:RdS w j p.signs):
 Calls Tryz.prog 155 #[.agg #[p.kind,p.n,j]] w (yae w (.int .i64 (Xae p))):=by
 have I:=fun u ty=>q.len Tryz.underlying31 u ty
 go_enter Tryz.func155,Tryz.ntmps155
 go_wp2;go_ret;exact⟨Jah (by unfold Xae;rfl),blw⟩
theorem jaB (v:Value)(o:List zaa)(but:Int)(w:World)(h:RdS w v o):
 Calls Tryz.prog 143 #[v,but] w (yae w (.int .i64 (vas but o))):=by
 have hl:=fun w1 ty=>h.len Tryz.underlying30 w1 ty
 have ba:=h.le;by_cases J:Xag o=true
 ·have hv:Hid (vas but o=vab but o):=hH (if_pos J);obtain⟨z,h600⟩:=Zah.1 J;have u:=hH z;clear z;go_enter Tryz.func143,Tryz.ntmps143
  go_wp2_with fail
  refine(zak _ o _ (h.below blw)).mono ?_;rintro e w1 ⟨rfl,q⟩;have s1:=q.size;(try simp at s1)
  obtain⟨hc1,hf1⟩:=jac q;go_wp2;go_loopw [5,13] (fun n i wr=>∃k:Nat,k<=o.length/\i= .int .i64 k/\n= .int .i64 (vab but (o.take k))/\Below w w wr) (fun _ i _=>o.length-(intOf i).toNat)
  case atStart=>exact⟨0,lz _,rfl,rfl,blw⟩
  case round=>
   obtain⟨k,hk,rfl,rfl,B⟩:=hrel;have hsz:=B.size;have sb:=Xax but (o.take k) (zay u.out k);have tl:(o.take k).length<=k:=List.length_take_le _ _;by_cases hlt:k<o.length
   ·obtain⟨x,Q⟩:=Jaa hlt;obtain⟨b1,o1,cs,h1,Z,h3⟩:=(h.below B).idx Tryz.underlying30 uae k Q;obtain⟨M,rfl,j⟩:=xah h3;have q0:=Z.zero;have q1:=Z 1 _ rfl;have q2:=Z 2 _ rfl;obtain⟨aa,ca,rfl⟩:=j.isSlice;have D:=jat u.out Q;have pb:=yaJ D;have p:=xav but Q;have hcx:0<=x.n/\x.n<=200/\x.signs.length<=200:=by
     rcases Zab D with⟨_,U,Y,N⟩|⟨_,U,Y,_⟩|⟨_,U,Y,N⟩
     ·rw[N];simp;omega
     ·omega
     ·rw[N];simp;omega
    obtain⟨U,Y,N⟩:=hcx;clear D Q;obtain⟨S,hS⟩:∃S,vab but (o.take k)=S:=⟨_,rfl⟩;rw[hS]at sb p;rw[hS];clear hS;by_cases e:x.kind=but
    ·rw[if_pos e]at p;have R:=hH p;have e1:(x.kind !=but)=false:=by rw[e];simp
     clear e p;go_wp2;go_roundw
     case rel=>exact⟨k+1,by omega,by go_num,by rw[R.out];go_num,blw⟩
     case measure=>simp[intOf];omega
    ·rw[if_neg e]at p;have R:=hH p;have e1:(x.kind !=but)=true:=by simpa using e
     clear e p;go_wp2_with fail
     refine(Zao x _ _ om om om (j.below blw)).mono ?_;rintro e w2 ⟨rfl,I⟩;have s2:=I.size;(try simp at s2)
     obtain⟨hc2,hf2⟩:=jac I;go_wp2;go_roundw
     case rel=>exact⟨k+1,by omega,by go_num,by rw[R.out],blw⟩
     case measure=>simp[intOf];omega
   ·obtain rfl:k=o.length:=om;rw[List.take_length];go_wp2;go_ret;exact⟨Jah hv.out.symm,B⟩
 ·have hv:Hid (vas but o=0):=hH (if_neg J);have J:Xag o=false:=by simpa using J
  go_enter Tryz.func143,Tryz.ntmps143
  go_wp2_with fail
  refine(zak _ o _ (h.below blw)).mono ?_;rintro e w1 ⟨rfl,q⟩;have s1:=q.size;(try simp at s1)
  obtain⟨hc1,hf1⟩:=jac q;go_wp2;go_ret;exact⟨Jah hv.out.symm,blw⟩
theorem XaC (v:Value)(o:List zaa)(w:World)(h:RdS w v o):
 Calls Tryz.prog 171 #[v] w (yae w (.tuple #[(ZaO 1 o),(ZaO 2 o),(ZaO 3 o)])):=by
 have hl:=fun w1 ty=>h.len Tryz.underlying30 w1 ty
 have ba:=h.le;by_cases D:Xag o=true
 ·have v1:ZaO 1 o=sumOf 1 o:=if_pos D;have v2:ZaO 2 o=sumOf 2 o:=if_pos D;have v3:ZaO 3 o=sumOf 3 o:=if_pos D;rw[v1,v2,v3];clear v1 v2 v3;obtain⟨J,h600⟩:=Zah.1 D;have u:=hH J;clear J;go_enter Tryz.func171,Tryz.ntmps171
  go_wp2_with fail
  refine(vap _ o _ (h.below blw)).mono ?_;rintro e w1 ⟨rfl,z⟩;have s1:=z.size;(try simp at s1)
  obtain⟨hc1,hf1⟩:=jac z;go_wp2;go_loopw [5,6,7,15] (fun n1 n2 n3 i wr=>∃k:Nat,k<=o.length/\i= .int .i64 k/\n1= .int .i64 (sumOf 1 (o.take k))/\n2= .int .i64 (sumOf 2 (o.take k))/\n3= .int .i64 (sumOf 3 (o.take k))/\Below w w wr) (fun _ _ _ i _=>o.length-(intOf i).toNat)
  case atStart=>exact⟨0,lz _,rfl,rfl,rfl,rfl,blw⟩
  case round=>
   obtain⟨k,hk,rfl,rfl,rfl,rfl,N⟩:=hrel;have hsz:=N.size;have sb1:=XaD 1 (o.take k) (zay u.out k);have sb2:=XaD 2 (o.take k) (zay u.out k);have sb3:=XaD 3 (o.take k) (zay u.out k);have tl:(o.take k).length<=k:=List.length_take_le _ _;by_cases hlt:k<o.length
   ·obtain⟨x,Q⟩:=Jaa hlt;obtain⟨b1,o1,cs,h1,h2,h3⟩:=(h.below N).idx Tryz.underlying30 uae k Q;obtain⟨v_signs,rfl,q⟩:=xah h3;have q0:=h2.zero;have q1:=h2 1 _ rfl;have q2:=h2 2 _ rfl;obtain⟨aa,ca,rfl⟩:=q.isSlice;have I:=jat u.out Q;have j:=qaE 1 Q;have n:=qaE 2 Q;have p:=qaE 3 Q;clear Q;obtain⟨S1,a0⟩:∃S,sumOf 1 (o.take k)=S:=⟨_,rfl⟩;obtain⟨S2,a1⟩:∃S,sumOf 2 (o.take k)=S:=⟨_,rfl⟩;obtain⟨S3,a2⟩:∃S,sumOf 3 (o.take k)=S:=⟨_,rfl⟩;rw[a0]at sb1 j⊢;rw[a1]at sb2 n⊢;rw[a2]at sb3 p⊢;clear a0 a1 a2;have M:=fun w1 ty=>q.len Tryz.underlying31 w1 ty
    rcases Zab I with⟨B,g1,g2,Z⟩|⟨B,g1,g2,_⟩|⟨B,g1,g2,Z⟩
    ·rw[B]at j n p;simp only[Xae,Z]at j n p;have R:=hH j;have U:=hH n;have Y:=hH p;rw[B]at q0;clear I B Z j n p M;go_wp2;go_roundw
     case rel=>exact⟨k+1,by omega,by go_num,by rw[R.out];simp,by rw[U.out];simp,by rw[Y.out];simp,blw⟩
     case measure=>simp[intOf];omega
    ·rw[B]at j n p;simp only[Xae,g1]at j n p;have R:=hH j;have U:=hH n;have Y:=hH p;rw[B]at q0;clear I B g1 j n p;go_wp2;go_roundw
     case rel=>exact⟨k+1,by omega,by go_num,by rw[R.out];simp,by rw[U.out];simp,by rw[Y.out];simp,blw⟩
     case measure=>simp[intOf];omega
    ·rw[B]at j n p;simp only[Xae,Z]at j n p;have R:=hH j;have U:=hH n;have Y:=hH p;rw[B]at q0;clear I B Z j n p M;go_wp2;go_roundw
     case rel=>exact⟨k+1,by omega,by go_num,by rw[R.out];simp,by rw[U.out];simp,by rw[Y.out];simp,blw⟩
     case measure=>simp[intOf];omega
   ·obtain rfl:k=o.length:=om;simp only[List.take_length];go_wp2;go_ret3
    exact⟨rfl,N⟩
 ·have v1:ZaO 1 o=0:=if_neg D;have v2:ZaO 2 o=0:=if_neg D;have v3:ZaO 3 o=0:=if_neg D;rw[v1,v2,v3];clear v1 v2 v3;have D:Xag o=false:=by simpa using D
  go_enter Tryz.func171,Tryz.ntmps171
  go_wp2_with fail
  refine(vap _ o _ (h.below blw)).mono ?_;rintro e w1 ⟨rfl,z⟩;have s1:=z.size;(try simp at s1)
  obtain⟨hc1,hf1⟩:=jac z;go_wp2;go_ret3
  exact⟨rfl,blw⟩
theorem jai (v:Value)(o:List zaa)(w:World)(h:RdS w v o):Calls Tryz.prog 116 #[v] w (yae w (.int .i64 (kad o))):=by
 go_enter Tryz.func116,Tryz.ntmps116
 go_wp2_with fail
 refine(jaB _ o 2 _ (h.below blw)).mono ?_;rintro e u ⟨rfl,j⟩;have q:=j.size;(try simp at q)
 obtain⟨n,p⟩:=jac j;go_wp2;go_ret;exact⟨rfl,blw⟩
theorem Za0 (v:Value)(o:List zaa)(w:World)(h:RdS w v o):Calls Tryz.prog 117 #[v] w (yae w (.int .i64 (va8 o))):=by
 go_enter Tryz.func117,Tryz.ntmps117
 go_wp2_with fail
 refine(jaB _ o 3 _ (h.below blw)).mono ?_;rintro e u ⟨rfl,j⟩;have q:=j.size;(try simp at q)
 obtain⟨n,p⟩:=jac j;go_wp2;go_ret;exact⟨rfl,blw⟩
theorem zaT (o:List zaa)(b:Int):0<=ZaO b o/\ZaO b o<=120000:=by
 unfold ZaO;by_cases n:Xag o=true
 ·obtain⟨j,p⟩:=Zah.1 n;have:=XaD b o j;rw[if_pos n];omega
 ·rw[if_neg n];omega
theorem Za6 (o:List zaa):kad o=(ZaO 1 o)+(ZaO 3 o):=by
 unfold kad vas ZaO;by_cases j:Xag o=true
 ·simp only[if_pos j];exact(qaK o (Zah.1 j).1).1
 ·simp only[if_neg j];rfl
theorem qbd (o:List zaa):va8 o=(ZaO 1 o)+(ZaO 2 o):=by
 unfold va8 vas ZaO;by_cases j:Xag o=true
 ·simp only[if_pos j];exact(qaK o (Zah.1 j).1).2
 ·simp only[if_neg j];rfl
theorem Qaj (v:Value)(o:List zaa)(w:World)(h:RdS w v o):Calls Tryz.prog 160 #[v] w (yae w (.int .i64 (kad o))):=by
 have u:=zaT o 1;have z:=zaT o 3;go_enter Tryz.func160,Tryz.ntmps160
 go_wp2_with fail
 refine(XaC _ o _ (h.below blw)).mono ?_;rintro e N ⟨rfl,p⟩;have I:=p.size;(try simp at I)
 obtain⟨B,D⟩:=jac p;have q:=hH (Za6 o);obtain⟨J,j⟩:∃S,ZaO 1 o=S:=⟨_,rfl⟩;obtain⟨M,n⟩:∃S,ZaO 3 o=S:=⟨_,rfl⟩;rw[j]at u q⊢;rw[n]at z q⊢;clear j n;go_wp2;go_ret;exact⟨Jah q.out.symm,blw⟩
theorem Ja2 (v:Value)(o:List zaa)(w:World)(h:RdS w v o):Calls Tryz.prog 161 #[v] w (yae w (.int .i64 (va8 o))):=by
 have u:=zaT o 1;have z:=zaT o 2;go_enter Tryz.func161,Tryz.ntmps161
 go_wp2_with fail
 refine(XaC _ o _ (h.below blw)).mono ?_;rintro e N ⟨rfl,p⟩;have I:=p.size;(try simp at I)
 obtain⟨B,D⟩:=jac p;have q:=hH (qbd o);obtain⟨J,j⟩:∃S,ZaO 1 o=S:=⟨_,rfl⟩;obtain⟨M,n⟩:∃S,ZaO 2 o=S:=⟨_,rfl⟩;rw[j]at u q⊢;rw[n]at z q⊢;clear j n;go_wp2;go_ret;exact⟨Jah q.out.symm,blw⟩
theorem ja5 {U:Nat}(h_:U=151\/U=80)(v:Value)(o:List zaa)(w:World)(h:RdS w v o):Calls Tryz.prog U #[v] w (yae w (.bool (yag o))):=by
 rcases h_ with rfl|rfl
 have q:=hH @vap;have u:=hH @Qaj;have I:=hH @Ja2;go_enter Tryz.func151,Tryz.ntmps151;rotate_left;have q:=hH @zak;have u:=hH @jai;have I:=hH @Za0;go_enter Tryz.func80,Tryz.ntmps80;all_goals
  by_cases R:Xag o=true
  ·by_cases h2:kad o<=200
   ·by_cases h3:va8 o<=200
    ·have D:Hid (yag o=true):=hH (by simp[yag,R,h2,h3])
     go_wp2_with fail
     refine(q.out _ o _ (h.below blw)).mono ?_;rintro e w1 ⟨rfl,j⟩;have J:=j.size;(try simp at J)
     obtain⟨z,B⟩:=jac j;go_wp2_with fail
     refine(u.out _ o _ (h.below blw)).mono ?_;rintro e w2 ⟨rfl,n⟩;have Q:=n.size;(try simp at Q)
     obtain⟨M,N⟩:=jac n;go_wp2_with fail
     refine(I.out _ o _ (h.below blw)).mono ?_;rintro e w3 ⟨rfl,p⟩;have s3:=p.size;(try simp at s3)
     obtain⟨Y,Z⟩:=jac p;go_wp2;go_ret;exact⟨jaa (by rw[D.out];first|done|(simp;done)|(simp;omega)),blw⟩
    ·have D:Hid (yag o=false):=hH (by simp[yag,h3])
     go_wp2_with fail
     refine(q.out _ o _ (h.below blw)).mono ?_;rintro e w1 ⟨rfl,j⟩;have J:=j.size;(try simp at J)
     obtain⟨z,B⟩:=jac j;go_wp2_with fail
     refine(u.out _ o _ (h.below blw)).mono ?_;rintro e w2 ⟨rfl,n⟩;have Q:=n.size;(try simp at Q)
     obtain⟨M,N⟩:=jac n;go_wp2_with fail
     refine(I.out _ o _ (h.below blw)).mono ?_;rintro e w3 ⟨rfl,p⟩;have s3:=p.size;(try simp at s3)
     obtain⟨Y,Z⟩:=jac p;go_wp2;go_ret;exact⟨jaa (by rw[D.out];first|done|(simp;done)|(simp;omega)),blw⟩
   ·have D:Hid (yag o=false):=hH (by simp[yag,h2])
    go_wp2_with fail
    refine(q.out _ o _ (h.below blw)).mono ?_;rintro e w1 ⟨rfl,j⟩;have J:=j.size;(try simp at J)
    obtain⟨z,B⟩:=jac j;go_wp2_with fail
    refine(u.out _ o _ (h.below blw)).mono ?_;rintro e w2 ⟨rfl,n⟩;have Q:=n.size;(try simp at Q)
    obtain⟨M,N⟩:=jac n;go_wp2;go_ret;exact⟨jaa (by rw[D.out];first|done|(simp;done)|(simp;omega)),blw⟩
  ·have R:Xag o=false:=by simpa using R
   have D:Hid (yag o=false):=hH (by simp[yag,R])
   go_wp2_with fail
   refine(q.out _ o _ (h.below blw)).mono ?_;rintro e w1 ⟨rfl,j⟩;have J:=j.size;(try simp at J)
   obtain⟨z,B⟩:=jac j;go_wp2;go_ret;exact⟨jaa (by rw[D.out];first|done|(simp;done)|(simp;omega)),blw⟩
def Xad:=@ja5 151 (.inl rfl)
def jad:=@ja5 80 (.inr rfl)
