/- Predicates on signs, parts, operations. -/
import Derived.Test.YtocdogemgojgaaaGreatRae
set_option maxHeartbeats 2000000
set_option linter.defProp false
set_option linter.unusedSimpArgs false
namespace Go.Proofs.YtocdogemgojgaaaGreat
open Go.RowKit
def within (n lo hi:Int):Bool:=decide (lo<=n)&&decide (n<=hi)
theorem within_iff {n lo hi:Int}:within n lo hi=true↔lo<=n/\n<=hi:=by simp[within]
def Zak (n:Int):Bool:=within n 0 1114111&& !within n 55296 57343
def kal (l:List Int):Bool:=l.all Zak
def vab (p:zaa):Bool:=
 if p.kind=1 then within p.n 0 200&&decide (p.signs.length=0)
 else if p.kind=3 then within p.n 0 200&&decide (p.signs.length=0)
 else if p.kind=2 then decide (p.n=0)&&decide (p.signs.length<=200)&&kal p.signs
 else false
def vah (o:List zaa):Bool:=o.all vab&&decide (o.length<=600)
def yaf (p:zaa):Int:=p.n+p.signs.length
def Qab (but:Int):List zaa->Int
 |[]=>0
 |p::o=>(if p.kind=but then 0 else yaf p)+Qab but o
def sumOf (kind:Int):List zaa->Int
 |[]=>0
 |p::o=>(if p.kind=kind then yaf p else 0)+sumOf kind o
def Qas (but:Int)(o:List zaa):Int:=if vah o=true then Qab but o else 0
def KaQ (kind:Int)(o:List zaa):Int:=if vah o=true then sumOf kind o else 0
def zad (o:List zaa):Int:=Qas 2 o
def zbc (o:List zaa):Int:=Qas 3 o
def Qag (o:List zaa):Bool:=vah o&&decide (zad o<=200)&&decide (zbc o<=200)
def uae (t:List Int):Bool:=decide (t.length<=200)&&kal t
theorem KaM {α:Type}{p:α->Bool}{l:List α}{k:Nat}{x:α}(n:l[k]? =some x)(j:p x=false):l.all p=false:=by
 rw[List.all_eq_false];exact⟨x,List.mem_of_getElem? n,by simp[j]⟩
theorem Qay {α:Type}{p:α->Bool}{l:List α}(q:∀j<l.length,∀y,l[j]? =some y->p y=true):l.all p=true:=by
 rw[List.all_eq_true];intro x u;obtain⟨j,n,e⟩:=List.mem_iff_getElem.1 u;exact q j n x (by rw[List.getElem?_eq_getElem n,e])
theorem Kav {α:Type}{p:α->Bool}{l:List α}{k:Nat}{x:α}(z:l[k]? =some x)(u:p x=true)(n:∀j<k,∀y,l[j]? =some y->p y=true):∀j<k+1,∀y,l[j]? =some y->p y=true:=by
 intro j q y hy;by_cases e:j=k
 ·subst e;rw[z]at hy;cases hy;exact u
 ·exact n j om y hy
theorem xau {α:Type}{p:α->Bool}{l:List α}(h:l.all p=true){k:Nat}{x:α}(j:l[k]? =some x):p x=true:=List.all_eq_true.1 h x (List.mem_of_getElem? j)
theorem Jab {p:zaa}(h:vab p=true):(p.kind=1/\0<=p.n/\p.n<=200/\p.signs=[])\/(p.kind=2/\p.n=0/\p.signs.length<=200/\kal p.signs=true)\/(p.kind=3/\0<=p.n/\p.n<=200/\p.signs=[]):=by
 unfold vab at h;split at h
 ·simp[within_iff]at h;exact .inl ⟨‹_›,h.1.1,h.1.2,h.2⟩
 ·split at h
  ·simp[within_iff]at h;exact .inr (.inr ⟨‹_›,h.1.1,h.1.2,h.2⟩)
  ·split at h
   ·simp at h;exact .inr (.inl ⟨‹_›,h.1.1,h.1.2,h.2⟩)
   ·cases h
theorem QaK {p:zaa}(h:vab p=true):0<=yaf p/\yaf p<=200:=by
 unfold yaf;rcases Jab h with⟨_,n,q,j⟩|⟨_,n,q,_⟩|⟨_,n,q,j⟩
 ·rw[j];simp;omega
 ·omega
 ·rw[j];simp;omega
theorem qah (b:Int):∀(x y:List zaa),Qab b (x++y)=Qab b x+Qab b y
 |[],y=>by simp[Qab]
 |p::x,y=>by simp only[List.cons_append,Qab,qah b x y];omega
theorem zaJ (b:Int):∀(x y:List zaa),sumOf b (x++y)=sumOf b x+sumOf b y
 |[],y=>by simp[sumOf]
 |p::x,y=>by simp only[List.cons_append,sumOf,zaJ b x y];omega
theorem xaz (b:Int):∀(x:List zaa),x.all vab=true->0<=Qab b x/\Qab b x<=200*x.length
 |[],_=>by simp[Qab]
 |p::x,h=>by
  simp only[List.all_cons,Bool.and_eq_true]at h;have j:=QaK h.1;have n:=xaz b x h.2;simp only[Qab,List.length_cons];split<;>omega
theorem JaD (b:Int):∀(x:List zaa),x.all vab=true->0<=sumOf b x/\sumOf b x<=200*x.length
 |[],_=>by simp[sumOf]
 |p::x,h=>by
  simp only[List.all_cons,Bool.and_eq_true]at h;have j:=QaK h.1;have n:=JaD b x h.2;simp only[sumOf,List.length_cons];split<;>omega
theorem Kaz {α:Type}{p:α->Bool}{l:List α}(h:l.all p=true)(k:Nat):(l.take k).all p=true:=by
 rw[List.all_eq_true]at *;exact fun x j=>h x (List.mem_of_mem_take j)
theorem xaL {α:Type}{p:α->Bool}{l:List α}(h:l.all p=true)(k:Nat):(l.drop k).all p=true:=by
 rw[List.all_eq_true]at *;exact fun x j=>h x (List.mem_of_mem_drop j)
theorem yaw {o:List zaa}{k:Nat}{p:zaa}(b:Int)(h:o[k]? =some p):Qab b (o.take (k+1))=Qab b (o.take k)+(if p.kind=b then 0 else yaf p):=by
 rw[kag h,qah];simp[Qab]
theorem kaG {o:List zaa}{k:Nat}{p:zaa}(b:Int)(h:o[k]? =some p):sumOf b (o.take (k+1))=sumOf b (o.take k)+(if p.kind=b then yaf p else 0):=by
 rw[kag h,zaJ];simp[sumOf]
theorem zai {o:List zaa}:vah o=true↔o.all vab=true/\o.length<=600:=by simp[vah]
theorem xaQ:∀(o:List zaa),o.all vab=true->Qab 2 o=sumOf 1 o+sumOf 3 o/\Qab 3 o=sumOf 1 o+sumOf 2 o
 |[],_=>by simp[Qab,sumOf]
 |p::o,h=>by
  simp only[List.all_cons,Bool.and_eq_true]at h;have j:=xaQ o h.2;simp only[Qab,sumOf];rcases Jab h.1 with⟨k,_⟩|⟨k,_⟩|⟨k,_⟩<;>rw[k]<;>simp<;>omega
theorem uaS {p:Nat}(z:p=144\/p=56)(n lo hi:Int)(w:World):Calls Tryz.prog p #[n,lo,hi] w (uac w (.bool (within n lo hi))):=by
 rcases z with rfl|rfl
 go_enter Tryz.func144,Tryz.ntmps144
 rotate_left;go_enter Tryz.func56,Tryz.ntmps56
 all_goals
  by_cases q:lo<=n
  ·by_cases u:n<=hi
   ·have j:Hid (within n lo hi=true):=hH (by simp[within,q,u])
    go_wp2;go_ret;exact⟨qaa (by rw[j.out];first|done|(simp;done)|(simp;omega)),blw⟩
   ·have j:Hid (within n lo hi=false):=hH (by simp[within,u])
    go_wp2;go_ret;exact⟨qaa (by rw[j.out];first|done|(simp;done)|(simp;omega)),blw⟩
  ·have j:Hid (within n lo hi=false):=hH (by simp[within,q])
   go_wp2;go_ret;exact⟨qaa (by rw[j.out];first|done|(simp;done)|(simp;omega)),blw⟩
def Kaa:=@uaS 144 (.inl rfl)
def Qaa:=@uaS 56 (.inr rfl)
theorem kaU {M:Nat}(Y:M=223\/M=190)(n:Int)(w:World):Calls Tryz.prog M #[n] w (uac w (.bool (Zak n))):=by
 rcases Y with rfl|rfl
 have p:=hH @Kaa;go_enter Tryz.func223,Tryz.ntmps223;rotate_left;have p:=hH @Qaa;go_enter Tryz.func190,Tryz.ntmps190;all_goals
  by_cases I:within n 0 1114111=true
  ·by_cases J:within n 55296 57343=true
   ·have B:Hid (Zak n=false):=hH (by simp[Zak,J])
    go_wp2_with fail
    refine(p.out _ _ _ _).mono ?_;rintro e U ⟨rfl,j⟩;have D:=j.size;(try simp at D)
    obtain⟨u,z⟩:=kab j;go_wp2_with fail
    refine(p.out _ _ _ _).mono ?_;rintro e Z ⟨rfl,q⟩;have R:=q.size;(try simp at R)
    obtain⟨N,Q⟩:=kab q;go_wp2;go_ret;exact⟨qaa (by rw[B.out];first|done|(simp;done)|(simp;omega)),blw⟩
   ·have J:within n 55296 57343=false:=by simpa using J
    have B:Hid (Zak n=true):=hH (by simp[Zak,I,J])
    go_wp2_with fail
    refine(p.out _ _ _ _).mono ?_;rintro e U ⟨rfl,j⟩;have D:=j.size;(try simp at D)
    obtain⟨u,z⟩:=kab j;go_wp2_with fail
    refine(p.out _ _ _ _).mono ?_;rintro e Z ⟨rfl,q⟩;have R:=q.size;(try simp at R)
    obtain⟨N,Q⟩:=kab q;go_wp2;go_ret;exact⟨qaa (by rw[B.out];first|done|(simp;done)|(simp;omega)),blw⟩
  ·have I:within n 0 1114111=false:=by simpa using I
   have B:Hid (Zak n=false):=hH (by simp[Zak,I])
   go_wp2_with fail
   refine(p.out _ _ _ _).mono ?_;rintro e U ⟨rfl,j⟩;have D:=j.size;(try simp at D)
   obtain⟨u,z⟩:=kab j;go_wp2;go_ret;exact⟨qaa (by rw[B.out];first|done|(simp;done)|(simp;omega)),blw⟩
def KaU:=@kaU 223 (.inl rfl)
def XaY:=@kaU 190 (.inr rfl)
theorem zaP {z:Nat}(h_:z=186\/z=134)(v:Value)(l:List Int)(w:World)(h:RdS w v l):Calls Tryz.prog z #[v] w (uac w (.bool (kal l))):=by
 rcases h_ with rfl|rfl
 have q:=hH @KaU;go_enter Tryz.func186,Tryz.ntmps186;rotate_left;have q:=hH @XaY;go_enter Tryz.func134,Tryz.ntmps134;all_goals
  have hl:=fun Q ty=>h.len Tryz.underlying31 Q ty
  have ba:=h.le;go_wp2;go_loopw [7] (fun i wr=>∃k:Nat,k<=l.length/\i= .int .i64 k/\(∀j<k,∀y,l[j]? =some y->Zak y=true)/\Below w w wr) (fun i _=>l.length-(intOf i).toNat)
  case atStart=>exact⟨0,lz _,rfl,fun _ h=>absurd h (Nat.not_lt_zero _),lf _ _⟩
  case round=>
   obtain⟨k,hk,rfl,I,p⟩:=hrel;have hsz:=p.size;have R:=hH I;clear I;by_cases J:k<l.length
   ·obtain⟨x,M⟩:=jaa J;obtain⟨b1,o1,_,h1,Z,_,rfl,rfl⟩:=(h.below p).idx Tryz.underlying31 kax k M;have q0:=Z.one;have U:=hH M;clear M;by_cases e:Zak x=true
    ·have Y:=hH e;go_wp2_with fail
     refine(q.out _ _).mono ?_;rintro e Q ⟨rfl,n⟩;have N:=n.size;(try simp at N)
     obtain⟨B,D⟩:=kab n;go_wp2;go_roundw
     case rel=>exact⟨k+1,by omega,by go_num,Kav U.out Y.out R.out,blw⟩
     case measure=>simp[intOf];omega
    ·have e:Zak x=false:=by simpa using e
     have u:Hid (kal l=false):=hH (KaM U.out e);go_wp2_with fail
     refine(q.out _ _).mono ?_;rintro e Q ⟨rfl,n⟩;have N:=n.size;(try simp at N)
     obtain⟨B,D⟩:=kab n;go_wp2;go_ret;exact⟨qaa u.out.symm,blw⟩
   ·have u:Hid (kal l=true):=hH (Qay fun j I=>R.out j om)
    go_wp2;go_ret;exact⟨qaa u.out.symm,p⟩
def jaA:=@zaP 186 (.inl rfl)
def vaB:=@zaP 134 (.inr rfl)
theorem zaS {N_:Nat}(h_:N_=185\/N_=133)(p:zaa)(z:Value)(w:World)(j:RdS w z p.signs):Calls Tryz.prog N_ #[.agg #[p.kind,p.n,z]] w (uac w (.bool (vab p))):=by
 rcases h_ with rfl|rfl
 have B:Unit:=();have N:=hH @jaA;have R:=hH @Kaa;rotate_left;have B:Bool:=true;have N:=hH @vaB;have R:=hH @Qaa;all_goals
  have hl:=fun U ty=>j.len Tryz.underlying31 U ty
  have ba:=j.le;obtain⟨kind,n,signs⟩:=p;simp only at j hl ba;show Calls _ _ #[.agg #[kind,n,z]] w _;by_cases k2:kind=2
  ·subst k2;by_cases Q:n=0
   ·subst Q;by_cases Y:signs.length<=200
    ·by_cases Z:kal signs=true
     ·have D:Hid (vab ⟨2,0,signs⟩=true):=hH (by simp[vab,Y,Z])
      (first|(have:Unit:=B;clear this;go_enter Tryz.func185,Tryz.ntmps185)|go_enter Tryz.func133,Tryz.ntmps133)
      go_wp2_with fail
      refine(N.out _ signs _ (j.below blw)).mono ?_;rintro e U ⟨rfl,q⟩;have M:=q.size;(try simp at M)
      obtain⟨I,J⟩:=kab q;go_wp2;go_ret;exact⟨qaa (by rw[D.out];first|done|(simp;done)|(simp;omega)),blw⟩
     ·have Z:kal signs=false:=by simpa using Z
      have D:Hid (vab ⟨2,0,signs⟩=false):=hH (by simp[vab,Z])
      (first|(have:Unit:=B;clear this;go_enter Tryz.func185,Tryz.ntmps185)|go_enter Tryz.func133,Tryz.ntmps133)
      go_wp2_with fail
      refine(N.out _ signs _ (j.below blw)).mono ?_;rintro e U ⟨rfl,q⟩;have M:=q.size;(try simp at M)
      obtain⟨I,J⟩:=kab q;go_wp2;go_ret;exact⟨qaa (by rw[D.out];first|done|(simp;done)|(simp;omega)),blw⟩
    ·have D:Hid (vab ⟨2,0,signs⟩=false):=hH (by simp[vab];omega)
     by_cases Z:kal signs=true
     ·(first|(have:Unit:=B;clear this;go_enter Tryz.func185,Tryz.ntmps185)|go_enter Tryz.func133,Tryz.ntmps133)
      go_wp2_with (refine(N.out _ signs _ (j.below blw)).mono ?_;rintro e U ⟨rfl,q⟩;have M:=q.size;(try simp at M);obtain⟨I,J⟩:=kab q)
      go_ret;exact⟨qaa (by rw[D.out];first|done|(simp;done)|(simp;omega)),blw⟩
     ·have Z:kal signs=false:=by simpa using Z
      (first|(have:Unit:=B;clear this;go_enter Tryz.func185,Tryz.ntmps185)|go_enter Tryz.func133,Tryz.ntmps133)
      go_wp2_with (refine(N.out _ signs _ (j.below blw)).mono ?_;rintro e U ⟨rfl,q⟩;have M:=q.size;(try simp at M);obtain⟨I,J⟩:=kab q)
      go_ret;exact⟨qaa (by rw[D.out];first|done|(simp;done)|(simp;omega)),blw⟩
   ·have D:Hid (vab ⟨2,n,signs⟩=false):=hH (by simp[vab,Q])
    have h1b:(n==0)=false:=by simpa using Q
    clear Q;(first|(have:Unit:=B;clear this;go_enter Tryz.func185,Tryz.ntmps185)|go_enter Tryz.func133,Tryz.ntmps133)
    go_wp2;go_ret;exact⟨qaa (by rw[D.out];first|done|(simp;done)|(simp;omega)),blw⟩
  ·by_cases u:kind=1\/kind=3
   ·have hp:Hid (∀b,(within n 0 200&&decide (signs.length=0))=b->vab ⟨kind,n,signs⟩=b):=hH (by rintro b rfl;rcases u with rfl|rfl<;>simp[vab])
    by_cases Q:within n 0 200=true
    ·by_cases Y:signs.length=0
     ·have D:=hH (hp.out true (by simp[Q,Y]))
      rw[Y]at hl;rcases u with rfl|rfl<;>clear Y hp
      all_goals
       (first|(have:Unit:=B;clear this;go_enter Tryz.func185,Tryz.ntmps185)|go_enter Tryz.func133,Tryz.ntmps133)
       go_wp2_with fail
       refine(R.out _ _ _ _).mono ?_;rintro e U ⟨rfl,q⟩;have M:=q.size;(try simp at M)
       obtain⟨I,J⟩:=kab q;go_wp2;go_ret;exact⟨qaa (by rw[D.out];first|done|(simp;done)|(simp;omega)),blw⟩
     ·have D:=hH (hp.out false (by simp[Q,Y]))
      have h2b:((signs.length:Int)==0)=false:=by rw[beq_eq_false_iff_ne];omega
      rcases u with rfl|rfl<;>clear Y hp
      all_goals
       (first|(have:Unit:=B;clear this;go_enter Tryz.func185,Tryz.ntmps185)|go_enter Tryz.func133,Tryz.ntmps133)
       go_wp2_with fail
       refine(R.out _ _ _ _).mono ?_;rintro e U ⟨rfl,q⟩;have M:=q.size;(try simp at M)
       obtain⟨I,J⟩:=kab q;go_wp2;go_ret;exact⟨qaa (by rw[D.out];first|done|(simp;done)|(simp;omega)),blw⟩
    ·have Q:within n 0 200=false:=by simpa using Q
     have D:=hH (hp.out false (by simp[Q]))
     rcases u with rfl|rfl<;>clear hp
     all_goals
      (first|(have:Unit:=B;clear this;go_enter Tryz.func185,Tryz.ntmps185)|go_enter Tryz.func133,Tryz.ntmps133)
      go_wp2_with fail
      refine(R.out _ _ _ _).mono ?_;rintro e U ⟨rfl,q⟩;have M:=q.size;(try simp at M)
      obtain⟨I,J⟩:=kab q;go_wp2;go_ret;exact⟨qaa (by rw[D.out];first|done|(simp;done)|(simp;omega)),blw⟩
   ·have D:Hid (vab ⟨kind,n,signs⟩=false):=hH (by simp only[not_or]at u;simp[vab,u.1,u.2,k2])
    have g1:(kind==1)=false:=by simp only[not_or]at u;simpa using u.1
    have g2:(kind==2)=false:=by simpa using k2
    have g3:(kind==3)=false:=by simp only[not_or]at u;simpa using u.2
    clear u k2;(first|(have:Unit:=B;clear this;go_enter Tryz.func185,Tryz.ntmps185)|go_enter Tryz.func133,Tryz.ntmps133)
    go_wp2;go_ret;exact⟨qaa (by rw[D.out];first|done|(simp;done)|(simp;omega)),blw⟩
def QaV:=@zaS 185 (.inl rfl)
def JaX:=@zaS 133 (.inr rfl)
theorem uaL {D:Nat}(h_:D=122\/D=61)(v:Value)(o:List zaa)(w:World)(h:RdS w v o):Calls Tryz.prog D #[v] w (uac w (.bool (vah o))):=by
 rcases h_ with rfl|rfl
 have u:=hH @QaV;go_enter Tryz.func122,Tryz.ntmps122;rotate_left;have u:=hH @JaX;go_enter Tryz.func61,Tryz.ntmps61;all_goals
  have hl:=fun Y ty=>h.len Tryz.underlying30 Y ty
  have ba:=h.le;go_wp2;go_loopw [7] (fun i wr=>∃k:Nat,k<=o.length/\i= .int .i64 k/\(∀j<k,∀y,o[j]? =some y->vab y=true)/\Below w w wr) (fun i _=>o.length-(intOf i).toNat)
  case atStart=>exact⟨0,lz _,rfl,fun _ h=>absurd h (Nat.not_lt_zero _),lf _ _⟩
  case round=>
   obtain⟨k,hk,rfl,N,q⟩:=hrel;have hsz:=q.size;have Z:=hH N;clear N;by_cases Q:k<o.length
   ·obtain⟨x,R⟩:=jaa Q;obtain⟨b1,o1,cs,h1,I,h3⟩:=(h.below q).idx Tryz.underlying30 xaf k R;obtain⟨z,rfl,n⟩:=jag h3;have q0:=I.zero;have q1:=I 1 _ rfl;have q2:=I 2 _ rfl;obtain⟨aa,ca,rfl⟩:=n.isSlice;have HX:=hH R;clear R;by_cases e:vab x=true
    ·have HE:=hH e;go_wp2_with fail
     refine(u.out x _ _ (n.below blw)).mono ?_;rintro e Y ⟨rfl,p⟩;have U:=p.size;(try simp at U)
     obtain⟨J,M⟩:=kab p;go_wp2;go_roundw
     case rel=>exact⟨k+1,by omega,by go_num,Kav HX.out HE.out Z.out,blw⟩
     case measure=>simp[intOf];omega
    ·have e:vab x=false:=by simpa using e
     have B:Hid (vah o=false):=hH (by unfold vah;rw[KaM HX.out e];rfl)
     go_wp2_with fail
     refine(u.out x _ _ (n.below blw)).mono ?_;rintro e Y ⟨rfl,p⟩;have U:=p.size;(try simp at U)
     obtain⟨J,M⟩:=kab p;go_wp2;go_ret;exact⟨qaa B.out.symm,blw⟩
   ·have B:Hid (vah o=decide (o.length<=600)):=hH (by unfold vah;rw[Qay fun j N=>Z.out j om];rfl)
    by_cases hle:o.length<=600
    ·go_wp2;go_ret;exact⟨qaa (by rw[B.out];simp;omega),q⟩
    ·go_wp2;go_ret;exact⟨qaa (by rw[B.out];simp;omega),q⟩
def yaq:=@uaL 122 (.inl rfl)
def jak:=@uaL 61 (.inr rfl)
theorem jaT {I:Nat}(M:I=123\/I=62)(v:Value)(t:List Int)(w:World)(h:RdS w v t):Calls Tryz.prog I #[v] w (uac w (.bool (uae t))):=by
 rcases M with rfl|rfl
 have n:=hH @jaA;go_enter Tryz.func123,Tryz.ntmps123;rotate_left;have n:=hH @vaB;go_enter Tryz.func62,Tryz.ntmps62;all_goals
  have Q:=fun D ty=>h.len Tryz.underlying31 D ty
  have N:=h.le;by_cases J:t.length<=200
  ·by_cases p:kal t=true
   ·have B:Hid (uae t=true):=hH (by simp[uae,J,p])
    go_wp2_with fail
    refine(n.out _ t _ (h.below blw)).mono ?_;rintro e D ⟨rfl,j⟩;have z:=j.size;(try simp at z)
    obtain⟨q,u⟩:=kab j;go_wp2;go_ret;exact⟨qaa (by rw[B.out];first|done|(simp;done)|(simp;omega)),blw⟩
   ·have p:kal t=false:=by simpa using p
    have B:Hid (uae t=false):=hH (by simp[uae,p])
    go_wp2_with fail
    refine(n.out _ t _ (h.below blw)).mono ?_;rintro e D ⟨rfl,j⟩;have z:=j.size;(try simp at z)
    obtain⟨q,u⟩:=kab j;go_wp2;go_ret;exact⟨qaa (by rw[B.out];first|done|(simp;done)|(simp;omega)),blw⟩
  ·have B:Hid (uae t=false):=hH (by simp[uae,J])
   by_cases p:kal t=true
   ·go_wp2_with (refine(n.out _ t _ (h.below blw)).mono ?_;rintro e D ⟨rfl,j⟩;have z:=j.size;(try simp at z);obtain⟨q,u⟩:=kab j)
    go_ret;exact⟨qaa (by rw[B.out];first|done|(simp;done)|(simp;omega)),blw⟩
   ·have p:kal t=false:=by simpa using p
    go_wp2_with (refine(n.out _ t _ (h.below blw)).mono ?_;rintro e D ⟨rfl,j⟩;have z:=j.size;(try simp at z);obtain⟨q,u⟩:=kab j)
    go_ret;exact⟨qaa (by rw[B.out];first|done|(simp;done)|(simp;omega)),blw⟩
def Xaj:=@jaT 123 (.inl rfl)
def Kaf:=@jaT 62 (.inr rfl)
theorem uap (p:zaa)(j:Value)(w:World)(z:0<=p.n)(B:p.n<=1000000)(D:p.signs.length<=1000000)(q:RdS w j p.signs):
 Calls Tryz.prog 244 #[.agg #[p.kind,p.n,j]] w (uac w (.int .i64 (yaf p))):=by
 have I:=fun u ty=>q.len Tryz.underlying31 u ty
 go_enter Tryz.func244,Tryz.ntmps244
 go_wp2;go_ret;exact⟨Xab (by unfold yaf;rfl),blw⟩
theorem XaE (v:Value)(o:List zaa)(but:Int)(w:World)(h:RdS w v o):
 Calls Tryz.prog 234 #[v,but] w (uac w (.int .i64 (Qas but o))):=by
 have hl:=fun w1 ty=>h.len Tryz.underlying30 w1 ty
 have ba:=h.le;by_cases J:vah o=true
 ·have hv:Hid (Qas but o=Qab but o):=hH (if_pos J);obtain⟨z,h600⟩:=zai.1 J;have u:=hH z;clear z;go_enter Tryz.func234,Tryz.ntmps234
  go_wp2_with fail
  refine(jak _ o _ (h.below blw)).mono ?_;rintro e w1 ⟨rfl,q⟩;have s1:=q.size;(try simp at s1)
  obtain⟨hc1,hf1⟩:=kab q;go_wp2;go_loopw [5,13] (fun n i wr=>∃k:Nat,k<=o.length/\i= .int .i64 k/\n= .int .i64 (Qab but (o.take k))/\Below w w wr) (fun _ i _=>o.length-(intOf i).toNat)
  case atStart=>exact⟨0,lz _,rfl,rfl,blw⟩
  case round=>
   obtain⟨k,hk,rfl,rfl,B⟩:=hrel;have hsz:=B.size;have sb:=xaz but (o.take k) (Kaz u.out k);have tl:(o.take k).length<=k:=List.length_take_le _ _;by_cases hlt:k<o.length
   ·obtain⟨x,Q⟩:=jaa hlt;obtain⟨b1,o1,cs,h1,Z,h3⟩:=(h.below B).idx Tryz.underlying30 xaf k Q;obtain⟨M,rfl,j⟩:=jag h3;have q0:=Z.zero;have q1:=Z 1 _ rfl;have q2:=Z 2 _ rfl;obtain⟨aa,ca,rfl⟩:=j.isSlice;have D:=xau u.out Q;have pb:=QaK D;have p:=yaw but Q;have hcx:0<=x.n/\x.n<=200/\x.signs.length<=200:=by
     rcases Jab D with⟨_,U,Y,N⟩|⟨_,U,Y,_⟩|⟨_,U,Y,N⟩
     ·rw[N];simp;omega
     ·omega
     ·rw[N];simp;omega
    obtain⟨U,Y,N⟩:=hcx;clear D Q;obtain⟨S,hS⟩:∃S,Qab but (o.take k)=S:=⟨_,rfl⟩;rw[hS]at sb p;rw[hS];clear hS;by_cases e:x.kind=but
    ·rw[if_pos e]at p;have R:=hH p;have e1:(x.kind !=but)=false:=by rw[e];simp
     clear e p;go_wp2;go_roundw
     case rel=>exact⟨k+1,by omega,by go_num,by rw[R.out];go_num,blw⟩
     case measure=>simp[intOf];omega
    ·rw[if_neg e]at p;have R:=hH p;have e1:(x.kind !=but)=true:=by simpa using e
     clear e p;go_wp2_with fail
     refine(uap x _ _ om om om (j.below blw)).mono ?_;rintro e w2 ⟨rfl,I⟩;have s2:=I.size;(try simp at s2)
     obtain⟨hc2,hf2⟩:=kab I;go_wp2;go_roundw
     case rel=>exact⟨k+1,by omega,by go_num,by rw[R.out],blw⟩
     case measure=>simp[intOf];omega
   ·obtain rfl:k=o.length:=om;rw[List.take_length];go_wp2;go_ret;exact⟨Xab hv.out.symm,B⟩
 ·have hv:Hid (Qas but o=0):=hH (if_neg J);have J:vah o=false:=by simpa using J
  go_enter Tryz.func234,Tryz.ntmps234
  go_wp2_with fail
  refine(jak _ o _ (h.below blw)).mono ?_;rintro e w1 ⟨rfl,q⟩;have s1:=q.size;(try simp at s1)
  obtain⟨hc1,hf1⟩:=kab q;go_wp2;go_ret;exact⟨Xab hv.out.symm,blw⟩
theorem jaG (v:Value)(o:List zaa)(w:World)(h:RdS w v o):
 Calls Tryz.prog 230 #[v] w (uac w (.tuple #[(KaQ 1 o),(KaQ 2 o),(KaQ 3 o)])):=by
 have hl:=fun w1 ty=>h.len Tryz.underlying30 w1 ty
 have ba:=h.le;by_cases D:vah o=true
 ·have v1:KaQ 1 o=sumOf 1 o:=if_pos D;have v2:KaQ 2 o=sumOf 2 o:=if_pos D;have v3:KaQ 3 o=sumOf 3 o:=if_pos D;rw[v1,v2,v3];clear v1 v2 v3;obtain⟨J,h600⟩:=zai.1 D;have u:=hH J;clear J;go_enter Tryz.func230,Tryz.ntmps230
  go_wp2_with fail
  refine(yaq _ o _ (h.below blw)).mono ?_;rintro e w1 ⟨rfl,z⟩;have s1:=z.size;(try simp at s1)
  obtain⟨hc1,hf1⟩:=kab z;go_wp2;go_loopw [5,6,7,15] (fun n1 n2 n3 i wr=>∃k:Nat,k<=o.length/\i= .int .i64 k/\n1= .int .i64 (sumOf 1 (o.take k))/\n2= .int .i64 (sumOf 2 (o.take k))/\n3= .int .i64 (sumOf 3 (o.take k))/\Below w w wr) (fun _ _ _ i _=>o.length-(intOf i).toNat)
  case atStart=>exact⟨0,lz _,rfl,rfl,rfl,rfl,blw⟩
  case round=>
   obtain⟨k,hk,rfl,rfl,rfl,rfl,N⟩:=hrel;have hsz:=N.size;have sb1:=JaD 1 (o.take k) (Kaz u.out k);have sb2:=JaD 2 (o.take k) (Kaz u.out k);have sb3:=JaD 3 (o.take k) (Kaz u.out k);have tl:(o.take k).length<=k:=List.length_take_le _ _;by_cases hlt:k<o.length
   ·obtain⟨x,Q⟩:=jaa hlt;obtain⟨b1,o1,cs,h1,h2,h3⟩:=(h.below N).idx Tryz.underlying30 xaf k Q;obtain⟨v_signs,rfl,q⟩:=jag h3;have q0:=h2.zero;have q1:=h2 1 _ rfl;have q2:=h2 2 _ rfl;obtain⟨aa,ca,rfl⟩:=q.isSlice;have I:=xau u.out Q;have j:=kaG 1 Q;have n:=kaG 2 Q;have p:=kaG 3 Q;clear Q;obtain⟨S1,a0⟩:∃S,sumOf 1 (o.take k)=S:=⟨_,rfl⟩;obtain⟨S2,a1⟩:∃S,sumOf 2 (o.take k)=S:=⟨_,rfl⟩;obtain⟨S3,a2⟩:∃S,sumOf 3 (o.take k)=S:=⟨_,rfl⟩;rw[a0]at sb1 j⊢;rw[a1]at sb2 n⊢;rw[a2]at sb3 p⊢;clear a0 a1 a2;have M:=fun w1 ty=>q.len Tryz.underlying31 w1 ty
    rcases Jab I with⟨B,g1,g2,Z⟩|⟨B,g1,g2,_⟩|⟨B,g1,g2,Z⟩
    ·rw[B]at j n p;simp only[yaf,Z]at j n p;have R:=hH j;have U:=hH n;have Y:=hH p;rw[B]at q0;clear I B Z j n p M;go_wp2;go_roundw
     case rel=>exact⟨k+1,by omega,by go_num,by rw[R.out];simp,by rw[U.out];simp,by rw[Y.out];simp,blw⟩
     case measure=>simp[intOf];omega
    ·rw[B]at j n p;simp only[yaf,g1]at j n p;have R:=hH j;have U:=hH n;have Y:=hH p;rw[B]at q0;clear I B g1 j n p;go_wp2;go_roundw
     case rel=>exact⟨k+1,by omega,by go_num,by rw[R.out];simp,by rw[U.out];simp,by rw[Y.out];simp,blw⟩
     case measure=>simp[intOf];omega
    ·rw[B]at j n p;simp only[yaf,Z]at j n p;have R:=hH j;have U:=hH n;have Y:=hH p;rw[B]at q0;clear I B Z j n p M;go_wp2;go_roundw
     case rel=>exact⟨k+1,by omega,by go_num,by rw[R.out];simp,by rw[U.out];simp,by rw[Y.out];simp,blw⟩
     case measure=>simp[intOf];omega
   ·obtain rfl:k=o.length:=om;simp only[List.take_length];go_wp2;go_ret3
    exact⟨rfl,N⟩
 ·have v1:KaQ 1 o=0:=if_neg D;have v2:KaQ 2 o=0:=if_neg D;have v3:KaQ 3 o=0:=if_neg D;rw[v1,v2,v3];clear v1 v2 v3;have D:vah o=false:=by simpa using D
  go_enter Tryz.func230,Tryz.ntmps230
  go_wp2_with fail
  refine(yaq _ o _ (h.below blw)).mono ?_;rintro e w1 ⟨rfl,z⟩;have s1:=z.size;(try simp at s1)
  obtain⟨hc1,hf1⟩:=kab z;go_wp2;go_ret3
  exact⟨rfl,blw⟩
theorem Qai (v:Value)(o:List zaa)(w:World)(h:RdS w v o):Calls Tryz.prog 212 #[v] w (uac w (.int .i64 (zad o))):=by
 go_enter Tryz.func212,Tryz.ntmps212
 go_wp2_with fail
 refine(XaE _ o 2 _ (h.below blw)).mono ?_;rintro e u ⟨rfl,j⟩;have q:=j.size;(try simp at q)
 obtain⟨n,p⟩:=kab j;go_wp2;go_ret;exact⟨rfl,blw⟩
theorem Qa5 (v:Value)(o:List zaa)(w:World)(h:RdS w v o):Calls Tryz.prog 213 #[v] w (uac w (.int .i64 (zbc o))):=by
 go_enter Tryz.func213,Tryz.ntmps213
 go_wp2_with fail
 refine(XaE _ o 3 _ (h.below blw)).mono ?_;rintro e u ⟨rfl,j⟩;have q:=j.size;(try simp at q)
 obtain⟨n,p⟩:=kab j;go_wp2;go_ret;exact⟨rfl,blw⟩
theorem qaY (o:List zaa)(b:Int):0<=KaQ b o/\KaQ b o<=120000:=by
 unfold KaQ;by_cases n:vah o=true
 ·obtain⟨j,p⟩:=zai.1 n;have:=JaD b o j;rw[if_pos n];omega
 ·rw[if_neg n];omega
theorem Qbb (o:List zaa):zad o=(KaQ 1 o)+(KaQ 3 o):=by
 unfold zad Qas KaQ;by_cases j:vah o=true
 ·simp only[if_pos j];exact(xaQ o (zai.1 j).1).1
 ·simp only[if_neg j];rfl
theorem Xbi (o:List zaa):zbc o=(KaQ 1 o)+(KaQ 2 o):=by
 unfold zbc Qas KaQ;by_cases j:vah o=true
 ·simp only[if_pos j];exact(xaQ o (zai.1 j).1).2
 ·simp only[if_neg j];rfl
theorem Jaj (v:Value)(o:List zaa)(w:World)(h:RdS w v o):Calls Tryz.prog 205 #[v] w (uac w (.int .i64 (zad o))):=by
 have u:=qaY o 1;have z:=qaY o 3;go_enter Tryz.func205,Tryz.ntmps205
 go_wp2_with fail
 refine(jaG _ o _ (h.below blw)).mono ?_;rintro e N ⟨rfl,p⟩;have I:=p.size;(try simp at I)
 obtain⟨B,D⟩:=kab p;have q:=hH (Qbb o);obtain⟨J,j⟩:∃S,KaQ 1 o=S:=⟨_,rfl⟩;obtain⟨M,n⟩:∃S,KaQ 3 o=S:=⟨_,rfl⟩;rw[j]at u q⊢;rw[n]at z q⊢;clear j n;go_wp2;go_ret;exact⟨Xab q.out.symm,blw⟩
theorem ja4 (v:Value)(o:List zaa)(w:World)(h:RdS w v o):Calls Tryz.prog 206 #[v] w (uac w (.int .i64 (zbc o))):=by
 have u:=qaY o 1;have z:=qaY o 2;go_enter Tryz.func206,Tryz.ntmps206
 go_wp2_with fail
 refine(jaG _ o _ (h.below blw)).mono ?_;rintro e N ⟨rfl,p⟩;have I:=p.size;(try simp at I)
 obtain⟨B,D⟩:=kab p;have q:=hH (Xbi o);obtain⟨J,j⟩:∃S,KaQ 1 o=S:=⟨_,rfl⟩;obtain⟨M,n⟩:∃S,KaQ 2 o=S:=⟨_,rfl⟩;rw[j]at u q⊢;rw[n]at z q⊢;clear j n;go_wp2;go_ret;exact⟨Xab q.out.symm,blw⟩
theorem ka7 {U:Nat}(h_:U=164\/U=171)(v:Value)(o:List zaa)(w:World)(h:RdS w v o):Calls Tryz.prog U #[v] w (uac w (.bool (Qag o))):=by
 rcases h_ with rfl|rfl
 have q:=hH @yaq;have u:=hH @Jaj;have I:=hH @ja4;go_enter Tryz.func164,Tryz.ntmps164;rotate_left;have q:=hH @jak;have u:=hH @Qai;have I:=hH @Qa5;go_enter Tryz.func171,Tryz.ntmps171;all_goals
  by_cases R:vah o=true
  ·by_cases h2:zad o<=200
   ·by_cases h3:zbc o<=200
    ·have D:Hid (Qag o=true):=hH (by simp[Qag,R,h2,h3])
     go_wp2_with fail
     refine(q.out _ o _ (h.below blw)).mono ?_;rintro e w1 ⟨rfl,j⟩;have J:=j.size;(try simp at J)
     obtain⟨z,B⟩:=kab j;go_wp2_with fail
     refine(u.out _ o _ (h.below blw)).mono ?_;rintro e w2 ⟨rfl,n⟩;have Q:=n.size;(try simp at Q)
     obtain⟨M,N⟩:=kab n;go_wp2_with fail
     refine(I.out _ o _ (h.below blw)).mono ?_;rintro e w3 ⟨rfl,p⟩;have s3:=p.size;(try simp at s3)
     obtain⟨Y,Z⟩:=kab p;go_wp2;go_ret;exact⟨qaa (by rw[D.out];first|done|(simp;done)|(simp;omega)),blw⟩
    ·have D:Hid (Qag o=false):=hH (by simp[Qag,h3])
     go_wp2_with fail
     refine(q.out _ o _ (h.below blw)).mono ?_;rintro e w1 ⟨rfl,j⟩;have J:=j.size;(try simp at J)
     obtain⟨z,B⟩:=kab j;go_wp2_with fail
     refine(u.out _ o _ (h.below blw)).mono ?_;rintro e w2 ⟨rfl,n⟩;have Q:=n.size;(try simp at Q)
     obtain⟨M,N⟩:=kab n;go_wp2_with fail
     refine(I.out _ o _ (h.below blw)).mono ?_;rintro e w3 ⟨rfl,p⟩;have s3:=p.size;(try simp at s3)
     obtain⟨Y,Z⟩:=kab p;go_wp2;go_ret;exact⟨qaa (by rw[D.out];first|done|(simp;done)|(simp;omega)),blw⟩
   ·have D:Hid (Qag o=false):=hH (by simp[Qag,h2])
    go_wp2_with fail
    refine(q.out _ o _ (h.below blw)).mono ?_;rintro e w1 ⟨rfl,j⟩;have J:=j.size;(try simp at J)
    obtain⟨z,B⟩:=kab j;go_wp2_with fail
    refine(u.out _ o _ (h.below blw)).mono ?_;rintro e w2 ⟨rfl,n⟩;have Q:=n.size;(try simp at Q)
    obtain⟨M,N⟩:=kab n;go_wp2;go_ret;exact⟨qaa (by rw[D.out];first|done|(simp;done)|(simp;omega)),blw⟩
  ·have R:vah o=false:=by simpa using R
   have D:Hid (Qag o=false):=hH (by simp[Qag,R])
   go_wp2_with fail
   refine(q.out _ o _ (h.below blw)).mono ?_;rintro e w1 ⟨rfl,j⟩;have J:=j.size;(try simp at J)
   obtain⟨z,B⟩:=kab j;go_wp2;go_ret;exact⟨qaa (by rw[D.out];first|done|(simp;done)|(simp;omega)),blw⟩
def uad:=@ka7 164 (.inl rfl)
def qad:=@ka7 171 (.inr rfl)
