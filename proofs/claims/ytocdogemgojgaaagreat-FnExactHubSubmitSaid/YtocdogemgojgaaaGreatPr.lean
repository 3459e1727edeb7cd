/- Predicates on signs, parts, operations. -/
import Derived.Test.YtocdogemgojgaaaGreatBa
import Derived.Test.YtocdogemgojgaaaGreatCm
set_option maxHeartbeats 2000000
namespace Go.Proofs.YtocdogemgojgaaaGreat
open Go.RowKit
def within (n lo hi:Int):Bool:=decide (lo<=n)&&decide (n<=hi)
theorem within_iff {n lo hi:Int}:within n lo hi=true↔lo<=n/\n<=hi:=by simp[within]
def signOk (n:Int):Bool:=within n 0 1114111&& !within n 55296 57343
def signsOk (l:List Int):Bool:=l.all signOk
def partOk (p:DPart):Bool:=
 if p.kind=1 then within p.n 0 200&&decide (p.signs.length=0)
 else if p.kind=3 then within p.n 0 200&&decide (p.signs.length=0)
 else if p.kind=2 then decide (p.n=0)&&decide (p.signs.length<=200)&&signsOk p.signs
 else false
def partsOk (o:List DPart):Bool:=o.all partOk&&decide (o.length<=600)
def psize (p:DPart):Int:=p.n+p.signs.length
def sumBut (but:Int):List DPart->Int
 |[]=>0
 |p::o=>(if p.kind=but then 0 else psize p)+sumBut but o
def sumOf (kind:Int):List DPart->Int
 |[]=>0
 |p::o=>(if p.kind=kind then psize p else 0)+sumOf kind o
def sizeBut (but:Int)(o:List DPart):Int:=if partsOk o=true then sumBut but o else 0
def sum1 (kind:Int)(o:List DPart):Int:=if partsOk o=true then sumOf kind o else 0
def opFrom (o:List DPart):Int:=sizeBut 2 o
def opTo (o:List DPart):Int:=sizeBut 3 o
def opOk (o:List DPart):Bool:=partsOk o&&decide (opFrom o<=200)&&decide (opTo o<=200)
def textOk (t:List Int):Bool:=decide (t.length<=200)&&signsOk t
theorem all_no {α:Type}{p:α->Bool}{l:List α}{k:Nat}{x:α}(n:l[k]? =some x)(j:p x=false):l.all p=false:=by
 rw[List.all_eq_false];exact⟨x,List.mem_of_getElem? n,by simp[j]⟩
theorem all_yes {α:Type}{p:α->Bool}{l:List α}(q:∀j<l.length,∀y,l[j]? =some y->p y=true):l.all p=true:=by
 rw[List.all_eq_true];intro x u;obtain⟨j,n,e⟩:=List.mem_iff_getElem.1 u;exact q j n x (by rw[List.getElem?_eq_getElem n,e])
theorem yes_step {α:Type}{p:α->Bool}{l:List α}{k:Nat}{x:α}(z:l[k]? =some x)(u:p x=true)(n:∀j<k,∀y,l[j]? =some y->p y=true):∀j<k+1,∀y,l[j]? =some y->p y=true:=by
 intro j q y hy;by_cases e:j=k
 ·subst e;rw[z]at hy;cases hy;exact u
 ·exact n j (by omega) y hy
theorem all_at {α:Type}{p:α->Bool}{l:List α}(h:l.all p=true){k:Nat}{x:α}(j:l[k]? =some x):p x=true:=List.all_eq_true.1 h x (List.mem_of_getElem? j)
theorem partOk_cases {p:DPart}(h:partOk p=true):(p.kind=1/\0<=p.n/\p.n<=200/\p.signs=[])\/(p.kind=2/\p.n=0/\p.signs.length<=200/\signsOk p.signs=true)\/(p.kind=3/\0<=p.n/\p.n<=200/\p.signs=[]):=by
 unfold partOk at h;split at h
 ·simp[within_iff]at h;exact .inl ⟨‹_›,h.1.1,h.1.2,h.2⟩
 ·split at h
  ·simp[within_iff]at h;exact .inr (.inr ⟨‹_›,h.1.1,h.1.2,h.2⟩)
  ·split at h
   ·simp at h;exact .inr (.inl ⟨‹_›,h.1.1,h.1.2,h.2⟩)
   ·cases h
theorem psize_bd {p:DPart}(h:partOk p=true):0<=psize p/\psize p<=200:=by
 unfold psize;rcases partOk_cases h with⟨_,n,q,j⟩|⟨_,n,q,_⟩|⟨_,n,q,j⟩
 ·rw[j];simp;omega
 ·omega
 ·rw[j];simp;omega
theorem sumBut_append (b:Int):∀(x y:List DPart),sumBut b (x++y)=sumBut b x+sumBut b y
 |[],y=>by simp[sumBut]
 |p::x,y=>by simp only[List.cons_append,sumBut,sumBut_append b x y];omega
theorem sumOf_append (b:Int):∀(x y:List DPart),sumOf b (x++y)=sumOf b x+sumOf b y
 |[],y=>by simp[sumOf]
 |p::x,y=>by simp only[List.cons_append,sumOf,sumOf_append b x y];omega
theorem sumBut_bd (b:Int):∀(x:List DPart),x.all partOk=true->0<=sumBut b x/\sumBut b x<=200*x.length
 |[],_=>by simp[sumBut]
 |p::x,h=>by
  simp only[List.all_cons,Bool.and_eq_true]at h;have j:=psize_bd h.1;have n:=sumBut_bd b x h.2;simp only[sumBut,List.length_cons];split<;>omega
theorem sumOf_bd (b:Int):∀(x:List DPart),x.all partOk=true->0<=sumOf b x/\sumOf b x<=200*x.length
 |[],_=>by simp[sumOf]
 |p::x,h=>by
  simp only[List.all_cons,Bool.and_eq_true]at h;have j:=psize_bd h.1;have n:=sumOf_bd b x h.2;simp only[sumOf,List.length_cons];split<;>omega
theorem all_take {α:Type}{p:α->Bool}{l:List α}(h:l.all p=true)(k:Nat):(l.take k).all p=true:=by
 rw[List.all_eq_true]at *;exact fun x j=>h x (List.mem_of_mem_take j)
theorem all_drop {α:Type}{p:α->Bool}{l:List α}(h:l.all p=true)(k:Nat):(l.drop k).all p=true:=by
 rw[List.all_eq_true]at *;exact fun x j=>h x (List.mem_of_mem_drop j)
theorem sumBut_snoc {o:List DPart}{k:Nat}{p:DPart}(b:Int)(h:o[k]? =some p):sumBut b (o.take (k+1))=sumBut b (o.take k)+(if p.kind=b then 0 else psize p):=by
 rw[take_snoc h,sumBut_append];simp[sumBut]
theorem sumOf_snoc {o:List DPart}{k:Nat}{p:DPart}(b:Int)(h:o[k]? =some p):sumOf b (o.take (k+1))=sumOf b (o.take k)+(if p.kind=b then psize p else 0):=by
 rw[take_snoc h,sumOf_append];simp[sumOf]
theorem partsOk_iff {o:List DPart}:partsOk o=true↔o.all partOk=true/\o.length<=600:=by simp[partsOk]
theorem sumBut_of:∀(o:List DPart),o.all partOk=true->sumBut 2 o=sumOf 1 o+sumOf 3 o/\sumBut 3 o=sumOf 1 o+sumOf 2 o
 |[],_=>by simp[sumBut,sumOf]
 |p::o,h=>by
  simp only[List.all_cons,Bool.and_eq_true]at h;have j:=sumBut_of o h.2;simp only[sumBut,sumOf];rcases partOk_cases h.1 with⟨k,_⟩|⟨k,_⟩|⟨k,_⟩<;>rw[k]<;>simp<;>omega
theorem spec_within_c (n lo hi:Int)(w:World):Calls Tryz.prog 144 #[.int .i64 n,.int .i64 lo,.int .i64 hi] w (Tells w (.bool (within n lo hi))):=by
 by_cases p:lo<=n
 ·by_cases q:n<=hi
  ·have j:Hid (within n lo hi=true):=hH (by simp[within,p,q])
   go_enter Tryz.func144,Tryz.ntmps144
   go_wp2;go_ret;exact⟨ret_bool (by rw[j.out];first|done|(simp;done)|(simp;omega)),blw⟩
  ·have j:Hid (within n lo hi=false):=hH (by simp[within,q])
   go_enter Tryz.func144,Tryz.ntmps144
   go_wp2;go_ret;exact⟨ret_bool (by rw[j.out];first|done|(simp;done)|(simp;omega)),blw⟩
 ·have j:Hid (within n lo hi=false):=hH (by simp[within,p])
  go_enter Tryz.func144,Tryz.ntmps144
  go_wp2;go_ret;exact⟨ret_bool (by rw[j.out];first|done|(simp;done)|(simp;omega)),blw⟩
theorem spec_SignOk_c (n:Int)(w:World):Calls Tryz.prog 223 #[.int .i64 n] w (Tells w (.bool (signOk n))):=by
 by_cases D:within n 0 1114111=true
 ·by_cases I:within n 55296 57343=true
  ·have z:Hid (signOk n=false):=hH (by simp[signOk,I])
   go_enter Tryz.func223,Tryz.ntmps223
   go_wp2_with fail
   refine(spec_within_c _ _ _ _).mono ?_;rintro e Q ⟨rfl,j⟩;have B:=j.size;(try simp at B)
   obtain⟨q,u⟩:=bcell j;go_wp2_with fail
   refine(spec_within_c _ _ _ _).mono ?_;rintro e R ⟨rfl,p⟩;have N:=p.size;(try simp at N)
   obtain⟨J,M⟩:=bcell p;go_wp2;go_ret;exact⟨ret_bool (by rw[z.out];first|done|(simp;done)|(simp;omega)),blw⟩
  ·have I:within n 55296 57343=false:=by simpa using I
   have z:Hid (signOk n=true):=hH (by simp[signOk,D,I])
   go_enter Tryz.func223,Tryz.ntmps223
   go_wp2_with fail
   refine(spec_within_c _ _ _ _).mono ?_;rintro e Q ⟨rfl,j⟩;have B:=j.size;(try simp at B)
   obtain⟨q,u⟩:=bcell j;go_wp2_with fail
   refine(spec_within_c _ _ _ _).mono ?_;rintro e R ⟨rfl,p⟩;have N:=p.size;(try simp at N)
   obtain⟨J,M⟩:=bcell p;go_wp2;go_ret;exact⟨ret_bool (by rw[z.out];first|done|(simp;done)|(simp;omega)),blw⟩
 ·have D:within n 0 1114111=false:=by simpa using D
  have z:Hid (signOk n=false):=hH (by simp[signOk,D])
  go_enter Tryz.func223,Tryz.ntmps223
  go_wp2_with fail
  refine(spec_within_c _ _ _ _).mono ?_;rintro e Q ⟨rfl,j⟩;have B:=j.size;(try simp at B)
  obtain⟨q,u⟩:=bcell j;go_wp2;go_ret;exact⟨ret_bool (by rw[z.out];first|done|(simp;done)|(simp;omega)),blw⟩
theorem spec_SignsOk_c (v:Value)(l:List Int)(w:World)(h:RdS w v l):Calls Tryz.prog 186 #[v] w (Tells w (.bool (signsOk l))):=by
 have hl:=fun M ty=>h.len Tryz.underlying31 M ty
 have ba:=h.le;go_enter Tryz.func186,Tryz.ntmps186
 go_wp2;go_loopw [7] (fun i wr=>∃k:Nat,k<=l.length/\i= .int .i64 k/\(∀j<k,∀y,l[j]? =some y->signOk y=true)/\Below w.heap.size w wr) (fun i _=>l.length-(intOf i).toNat)
 case atStart=>exact⟨0,lz _,rfl,fun _ h=>absurd h (Nat.not_lt_zero _),lf _ _⟩
 case round=>
  obtain⟨k,hk,rfl,B,p⟩:=hrel;have Y:=p.size;have N:=hH B;clear B;by_cases D:k<l.length
  ·obtain⟨x,I⟩:=get_some D;obtain⟨Z,o1,_,h1,U,_,rfl,rfl⟩:=(h.below p).idx Tryz.underlying31 sz_int k I;have q0:=U.one;have Q:=hH I;clear I;by_cases e:signOk x=true
   ·have R:=hH e;go_wp2_with fail
    refine(spec_SignOk_c _ _).mono ?_;rintro e M ⟨rfl,n⟩;have J:=n.size;(try simp at J)
    obtain⟨u,z⟩:=bcell n;go_wp2;go_roundw
    case rel=>exact⟨k+1,by omega,by go_num,yes_step Q.out R.out N.out,blw⟩
    case measure=>simp[intOf];omega
   ·have e:signOk x=false:=by simpa using e
    have q:Hid (signsOk l=false):=hH (all_no Q.out e);go_wp2_with fail
    refine(spec_SignOk_c _ _).mono ?_;rintro e M ⟨rfl,n⟩;have J:=n.size;(try simp at J)
    obtain⟨u,z⟩:=bcell n;go_wp2;go_ret;exact⟨ret_bool q.out.symm,blw⟩
  ·have q:Hid (signsOk l=true):=hH (all_yes fun j B=>N.out j (by omega))
   go_wp2;go_ret;exact⟨ret_bool q.out.symm,p⟩
theorem spec_PartOk_c (p:DPart)(z:Value)(w:World)(j:RdS w z p.signs):Calls Tryz.prog 185 #[.agg #[.int .i64 p.kind,.int .i64 p.n,z]] w (Tells w (.bool (partOk p))):=by
 have Z:=fun N ty=>j.len Tryz.underlying31 N ty
 have ba:=j.le;obtain⟨kind,n,signs⟩:=p;simp only at j Z ba;show Calls _ _ #[.agg #[.int .i64 kind,.int .i64 n,z]] w _;by_cases Y:kind=2
 ·subst Y;by_cases M:n=0
  ·subst M;by_cases Q:signs.length<=200
   ·by_cases R:signsOk signs=true
    ·have B:Hid (partOk ⟨2,0,signs⟩=true):=hH (by simp[partOk,Q,R])
     go_enter Tryz.func185,Tryz.ntmps185
     go_wp2_with fail
     refine(spec_SignsOk_c _ signs _ (j.below blw)).mono ?_;rintro e N ⟨rfl,q⟩;have J:=q.size;(try simp at J)
     obtain⟨D,I⟩:=bcell q;go_wp2;go_ret;exact⟨ret_bool (by rw[B.out];first|done|(simp;done)|(simp;omega)),blw⟩
    ·have R:signsOk signs=false:=by simpa using R
     have B:Hid (partOk ⟨2,0,signs⟩=false):=hH (by simp[partOk,R])
     go_enter Tryz.func185,Tryz.ntmps185
     go_wp2_with fail
     refine(spec_SignsOk_c _ signs _ (j.below blw)).mono ?_;rintro e N ⟨rfl,q⟩;have J:=q.size;(try simp at J)
     obtain⟨D,I⟩:=bcell q;go_wp2;go_ret;exact⟨ret_bool (by rw[B.out];first|done|(simp;done)|(simp;omega)),blw⟩
   ·have B:Hid (partOk ⟨2,0,signs⟩=false):=hH (by simp[partOk];omega)
    by_cases R:signsOk signs=true
    ·go_enter Tryz.func185,Tryz.ntmps185
     go_wp2_with (refine(spec_SignsOk_c _ signs _ (j.below blw)).mono ?_;rintro e N ⟨rfl,q⟩;have J:=q.size;(try simp at J);obtain⟨D,I⟩:=bcell q)
     go_ret;exact⟨ret_bool (by rw[B.out];first|done|(simp;done)|(simp;omega)),blw⟩
    ·have R:signsOk signs=false:=by simpa using R
     go_enter Tryz.func185,Tryz.ntmps185
     go_wp2_with (refine(spec_SignsOk_c _ signs _ (j.below blw)).mono ?_;rintro e N ⟨rfl,q⟩;have J:=q.size;(try simp at J);obtain⟨D,I⟩:=bcell q)
     go_ret;exact⟨ret_bool (by rw[B.out];first|done|(simp;done)|(simp;omega)),blw⟩
  ·have B:Hid (partOk ⟨2,n,signs⟩=false):=hH (by simp[partOk,M])
   have h1b:(n==0)=false:=by simpa using M
   clear M;go_enter Tryz.func185,Tryz.ntmps185
   go_wp2;go_ret;exact⟨ret_bool (by rw[B.out];first|done|(simp;done)|(simp;omega)),blw⟩
 ·by_cases u:kind=1\/kind=3
  ·have U:Hid (∀b,(within n 0 200&&decide (signs.length=0))=b->partOk ⟨kind,n,signs⟩=b):=hH (by rintro b rfl;rcases u with rfl|rfl<;>simp[partOk])
   by_cases M:within n 0 200=true
   ·by_cases Q:signs.length=0
    ·have B:=hH (U.out true (by simp[M,Q]))
     rw[Q]at Z;rcases u with rfl|rfl<;>clear Q U
     all_goals
      go_enter Tryz.func185,Tryz.ntmps185
      go_wp2_with fail
      refine(spec_within_c _ _ _ _).mono ?_;rintro e N ⟨rfl,q⟩;have J:=q.size;(try simp at J)
      obtain⟨D,I⟩:=bcell q;go_wp2;go_ret;exact⟨ret_bool (by rw[B.out];first|done|(simp;done)|(simp;omega)),blw⟩
    ·have B:=hH (U.out false (by simp[M,Q]))
     have h2b:((signs.length:Int)==0)=false:=by rw[beq_eq_false_iff_ne];omega
     rcases u with rfl|rfl<;>clear Q U
     all_goals
      go_enter Tryz.func185,Tryz.ntmps185
      go_wp2_with fail
      refine(spec_within_c _ _ _ _).mono ?_;rintro e N ⟨rfl,q⟩;have J:=q.size;(try simp at J)
      obtain⟨D,I⟩:=bcell q;go_wp2;go_ret;exact⟨ret_bool (by rw[B.out];first|done|(simp;done)|(simp;omega)),blw⟩
   ·have M:within n 0 200=false:=by simpa using M
    have B:=hH (U.out false (by simp[M]))
    rcases u with rfl|rfl<;>clear U
    all_goals
     go_enter Tryz.func185,Tryz.ntmps185
     go_wp2_with fail
     refine(spec_within_c _ _ _ _).mono ?_;rintro e N ⟨rfl,q⟩;have J:=q.size;(try simp at J)
     obtain⟨D,I⟩:=bcell q;go_wp2;go_ret;exact⟨ret_bool (by rw[B.out];first|done|(simp;done)|(simp;omega)),blw⟩
  ·have B:Hid (partOk ⟨kind,n,signs⟩=false):=hH (by simp only[not_or]at u;simp[partOk,u.1,u.2,Y])
   have g1:(kind==1)=false:=by simp only[not_or]at u;simpa using u.1
   have g2:(kind==2)=false:=by simpa using Y
   have g3:(kind==3)=false:=by simp only[not_or]at u;simpa using u.2
   clear u Y;go_enter Tryz.func185,Tryz.ntmps185
   go_wp2;go_ret;exact⟨ret_bool (by rw[B.out];first|done|(simp;done)|(simp;omega)),blw⟩
theorem spec_partsOk_c (v:Value)(o:List DPart)(w:World)(h:RdS w v o):Calls Tryz.prog 122 #[v] w (Tells w (.bool (partsOk o))):=by
 have hl:=fun R ty=>h.len Tryz.underlying30 R ty
 have ba:=h.le;go_enter Tryz.func122,Tryz.ntmps122
 go_wp2;go_loopw [7] (fun i wr=>∃k:Nat,k<=o.length/\i= .int .i64 k/\(∀j<k,∀y,o[j]? =some y->partOk y=true)/\Below w.heap.size w wr) (fun i _=>o.length-(intOf i).toNat)
 case atStart=>exact⟨0,lz _,rfl,fun _ h=>absurd h (Nat.not_lt_zero _),lf _ _⟩
 case round=>
  obtain⟨k,hk,rfl,J,q⟩:=hrel;have hsz:=q.size;have U:=hH J;clear J;by_cases M:k<o.length
  ·obtain⟨x,N⟩:=get_some M;obtain⟨b1,o1,cs,h1,B,h3⟩:=(h.below q).idx Tryz.underlying30 szi_DPart k N;obtain⟨u,rfl,n⟩:=inv_DPart h3;have q0:=B.zero;have q1:=B 1 _ rfl;have q2:=B 2 _ rfl;obtain⟨aa,ca,rfl⟩:=n.isSlice;have Y:=hH N;clear N;by_cases e:partOk x=true
   ·have Z:=hH e;go_wp2_with fail
    refine(spec_PartOk_c x _ _ (n.below blw)).mono ?_;rintro e R ⟨rfl,p⟩;have Q:=p.size;(try simp at Q)
    obtain⟨D,I⟩:=bcell p;go_wp2;go_roundw
    case rel=>exact⟨k+1,by omega,by go_num,yes_step Y.out Z.out U.out,blw⟩
    case measure=>simp[intOf];omega
   ·have e:partOk x=false:=by simpa using e
    have z:Hid (partsOk o=false):=hH (by unfold partsOk;rw[all_no Y.out e];rfl)
    go_wp2_with fail
    refine(spec_PartOk_c x _ _ (n.below blw)).mono ?_;rintro e R ⟨rfl,p⟩;have Q:=p.size;(try simp at Q)
    obtain⟨D,I⟩:=bcell p;go_wp2;go_ret;exact⟨ret_bool z.out.symm,blw⟩
  ·have z:Hid (partsOk o=decide (o.length<=600)):=hH (by unfold partsOk;rw[all_yes fun j J=>U.out j (by omega)];rfl)
   by_cases hle:o.length<=600
   ·go_wp2;go_ret;exact⟨ret_bool (by rw[z.out];simp;omega),q⟩
   ·go_wp2;go_ret;exact⟨ret_bool (by rw[z.out];simp;omega),q⟩
theorem spec_TextOk_c (v:Value)(t:List Int)(w:World)(h:RdS w v t):Calls Tryz.prog 123 #[v] w (Tells w (.bool (textOk t))):=by
 have J:=fun B ty=>h.len Tryz.underlying31 B ty
 have I:=h.le;by_cases D:t.length<=200
 ·by_cases n:signsOk t=true
  ·have z:Hid (textOk t=true):=hH (by simp[textOk,D,n])
   go_enter Tryz.func123,Tryz.ntmps123
   go_wp2_with fail
   refine(spec_SignsOk_c _ t _ (h.below blw)).mono ?_;rintro e B ⟨rfl,j⟩;have u:=j.size;(try simp at u)
   obtain⟨p,q⟩:=bcell j;go_wp2;go_ret;exact⟨ret_bool (by rw[z.out];first|done|(simp;done)|(simp;omega)),blw⟩
  ·have n:signsOk t=false:=by simpa using n
   have z:Hid (textOk t=false):=hH (by simp[textOk,n])
   go_enter Tryz.func123,Tryz.ntmps123
   go_wp2_with fail
   refine(spec_SignsOk_c _ t _ (h.below blw)).mono ?_;rintro e B ⟨rfl,j⟩;have u:=j.size;(try simp at u)
   obtain⟨p,q⟩:=bcell j;go_wp2;go_ret;exact⟨ret_bool (by rw[z.out];first|done|(simp;done)|(simp;omega)),blw⟩
 ·have z:Hid (textOk t=false):=hH (by simp[textOk,D])
  by_cases n:signsOk t=true
  ·go_enter Tryz.func123,Tryz.ntmps123
   go_wp2_with (refine(spec_SignsOk_c _ t _ (h.below blw)).mono ?_;rintro e B ⟨rfl,j⟩;have u:=j.size;(try simp at u);obtain⟨p,q⟩:=bcell j)
   go_ret;exact⟨ret_bool (by rw[z.out];first|done|(simp;done)|(simp;omega)),blw⟩
  ·have n:signsOk t=false:=by simpa using n
   go_enter Tryz.func123,Tryz.ntmps123
   go_wp2_with (refine(spec_SignsOk_c _ t _ (h.below blw)).mono ?_;rintro e B ⟨rfl,j⟩;have u:=j.size;(try simp at u);obtain⟨p,q⟩:=bcell j)
   go_ret;exact⟨ret_bool (by rw[z.out];first|done|(simp;done)|(simp;omega)),blw⟩
theorem impl_within_c (n lo hi:Int)(w:World):Calls Tryz.prog 56 #[.int .i64 n,.int .i64 lo,.int .i64 hi] w (Tells w (.bool (within n lo hi))):=by
 by_cases p:lo<=n
 ·by_cases q:n<=hi
  ·have j:Hid (within n lo hi=true):=hH (by simp[within,p,q])
   go_enter Tryz.func56,Tryz.ntmps56
   go_wp2;go_ret;exact⟨ret_bool (by rw[j.out];first|done|(simp;done)|(simp;omega)),blw⟩
  ·have j:Hid (within n lo hi=false):=hH (by simp[within,q])
   go_enter Tryz.func56,Tryz.ntmps56
   go_wp2;go_ret;exact⟨ret_bool (by rw[j.out];first|done|(simp;done)|(simp;omega)),blw⟩
 ·have j:Hid (within n lo hi=false):=hH (by simp[within,p])
  go_enter Tryz.func56,Tryz.ntmps56
  go_wp2;go_ret;exact⟨ret_bool (by rw[j.out];first|done|(simp;done)|(simp;omega)),blw⟩
theorem impl_SignOk_c (n:Int)(w:World):Calls Tryz.prog 190 #[.int .i64 n] w (Tells w (.bool (signOk n))):=by
 by_cases D:within n 0 1114111=true
 ·by_cases I:within n 55296 57343=true
  ·have z:Hid (signOk n=false):=hH (by simp[signOk,I])
   go_enter Tryz.func190,Tryz.ntmps190
   go_wp2_with fail
   refine(impl_within_c _ _ _ _).mono ?_;rintro e Q ⟨rfl,j⟩;have B:=j.size;(try simp at B)
   obtain⟨q,u⟩:=bcell j;go_wp2_with fail
   refine(impl_within_c _ _ _ _).mono ?_;rintro e R ⟨rfl,p⟩;have N:=p.size;(try simp at N)
   obtain⟨J,M⟩:=bcell p;go_wp2;go_ret;exact⟨ret_bool (by rw[z.out];first|done|(simp;done)|(simp;omega)),blw⟩
  ·have I:within n 55296 57343=false:=by simpa using I
   have z:Hid (signOk n=true):=hH (by simp[signOk,D,I])
   go_enter Tryz.func190,Tryz.ntmps190
   go_wp2_with fail
   refine(impl_within_c _ _ _ _).mono ?_;rintro e Q ⟨rfl,j⟩;have B:=j.size;(try simp at B)
   obtain⟨q,u⟩:=bcell j;go_wp2_with fail
   refine(impl_within_c _ _ _ _).mono ?_;rintro e R ⟨rfl,p⟩;have N:=p.size;(try simp at N)
   obtain⟨J,M⟩:=bcell p;go_wp2;go_ret;exact⟨ret_bool (by rw[z.out];first|done|(simp;done)|(simp;omega)),blw⟩
 ·have D:within n 0 1114111=false:=by simpa using D
  have z:Hid (signOk n=false):=hH (by simp[signOk,D])
  go_enter Tryz.func190,Tryz.ntmps190
  go_wp2_with fail
  refine(impl_within_c _ _ _ _).mono ?_;rintro e Q ⟨rfl,j⟩;have B:=j.size;(try simp at B)
  obtain⟨q,u⟩:=bcell j;go_wp2;go_ret;exact⟨ret_bool (by rw[z.out];first|done|(simp;done)|(simp;omega)),blw⟩
theorem impl_SignsOk_c (v:Value)(l:List Int)(w:World)(h:RdS w v l):Calls Tryz.prog 134 #[v] w (Tells w (.bool (signsOk l))):=by
 have hl:=fun M ty=>h.len Tryz.underlying31 M ty
 have ba:=h.le;go_enter Tryz.func134,Tryz.ntmps134
 go_wp2;go_loopw [7] (fun i wr=>∃k:Nat,k<=l.length/\i= .int .i64 k/\(∀j<k,∀y,l[j]? =some y->signOk y=true)/\Below w.heap.size w wr) (fun i _=>l.length-(intOf i).toNat)
 case atStart=>exact⟨0,lz _,rfl,fun _ h=>absurd h (Nat.not_lt_zero _),lf _ _⟩
 case round=>
  obtain⟨k,hk,rfl,B,p⟩:=hrel;have Y:=p.size;have N:=hH B;clear B;by_cases D:k<l.length
  ·obtain⟨x,I⟩:=get_some D;obtain⟨Z,o1,_,h1,U,_,rfl,rfl⟩:=(h.below p).idx Tryz.underlying31 sz_int k I;have q0:=U.one;have Q:=hH I;clear I;by_cases e:signOk x=true
   ·have R:=hH e;go_wp2_with fail
    refine(impl_SignOk_c _ _).mono ?_;rintro e M ⟨rfl,n⟩;have J:=n.size;(try simp at J)
    obtain⟨u,z⟩:=bcell n;go_wp2;go_roundw
    case rel=>exact⟨k+1,by omega,by go_num,yes_step Q.out R.out N.out,blw⟩
    case measure=>simp[intOf];omega
   ·have e:signOk x=false:=by simpa using e
    have q:Hid (signsOk l=false):=hH (all_no Q.out e);go_wp2_with fail
    refine(impl_SignOk_c _ _).mono ?_;rintro e M ⟨rfl,n⟩;have J:=n.size;(try simp at J)
    obtain⟨u,z⟩:=bcell n;go_wp2;go_ret;exact⟨ret_bool q.out.symm,blw⟩
  ·have q:Hid (signsOk l=true):=hH (all_yes fun j B=>N.out j (by omega))
   go_wp2;go_ret;exact⟨ret_bool q.out.symm,p⟩
theorem impl_PartOk_c (p:DPart)(z:Value)(w:World)(j:RdS w z p.signs):Calls Tryz.prog 133 #[.agg #[.int .i64 p.kind,.int .i64 p.n,z]] w (Tells w (.bool (partOk p))):=by
 have Z:=fun N ty=>j.len Tryz.underlying31 N ty
 have ba:=j.le;obtain⟨kind,n,signs⟩:=p;simp only at j Z ba;show Calls _ _ #[.agg #[.int .i64 kind,.int .i64 n,z]] w _;by_cases Y:kind=2
 ·subst Y;by_cases M:n=0
  ·subst M;by_cases Q:signs.length<=200
   ·by_cases R:signsOk signs=true
    ·have B:Hid (partOk ⟨2,0,signs⟩=true):=hH (by simp[partOk,Q,R])
     go_enter Tryz.func133,Tryz.ntmps133
     go_wp2_with fail
     refine(impl_SignsOk_c _ signs _ (j.below blw)).mono ?_;rintro e N ⟨rfl,q⟩;have J:=q.size;(try simp at J)
     obtain⟨D,I⟩:=bcell q;go_wp2;go_ret;exact⟨ret_bool (by rw[B.out];first|done|(simp;done)|(simp;omega)),blw⟩
    ·have R:signsOk signs=false:=by simpa using R
     have B:Hid (partOk ⟨2,0,signs⟩=false):=hH (by simp[partOk,R])
     go_enter Tryz.func133,Tryz.ntmps133
     go_wp2_with fail
     refine(impl_SignsOk_c _ signs _ (j.below blw)).mono ?_;rintro e N ⟨rfl,q⟩;have J:=q.size;(try simp at J)
     obtain⟨D,I⟩:=bcell q;go_wp2;go_ret;exact⟨ret_bool (by rw[B.out];first|done|(simp;done)|(simp;omega)),blw⟩
   ·have B:Hid (partOk ⟨2,0,signs⟩=false):=hH (by simp[partOk];omega)
    by_cases R:signsOk signs=true
    ·go_enter Tryz.func133,Tryz.ntmps133
     go_wp2_with (refine(impl_SignsOk_c _ signs _ (j.below blw)).mono ?_;rintro e N ⟨rfl,q⟩;have J:=q.size;(try simp at J);obtain⟨D,I⟩:=bcell q)
     go_ret;exact⟨ret_bool (by rw[B.out];first|done|(simp;done)|(simp;omega)),blw⟩
    ·have R:signsOk signs=false:=by simpa using R
     go_enter Tryz.func133,Tryz.ntmps133
     go_wp2_with (refine(impl_SignsOk_c _ signs _ (j.below blw)).mono ?_;rintro e N ⟨rfl,q⟩;have J:=q.size;(try simp at J);obtain⟨D,I⟩:=bcell q)
     go_ret;exact⟨ret_bool (by rw[B.out];first|done|(simp;done)|(simp;omega)),blw⟩
  ·have B:Hid (partOk ⟨2,n,signs⟩=false):=hH (by simp[partOk,M])
   have h1b:(n==0)=false:=by simpa using M
   clear M;go_enter Tryz.func133,Tryz.ntmps133
   go_wp2;go_ret;exact⟨ret_bool (by rw[B.out];first|done|(simp;done)|(simp;omega)),blw⟩
 ·by_cases u:kind=1\/kind=3
  ·have U:Hid (∀b,(within n 0 200&&decide (signs.length=0))=b->partOk ⟨kind,n,signs⟩=b):=hH (by rintro b rfl;rcases u with rfl|rfl<;>simp[partOk])
   by_cases M:within n 0 200=true
   ·by_cases Q:signs.length=0
    ·have B:=hH (U.out true (by simp[M,Q]))
     rw[Q]at Z;rcases u with rfl|rfl<;>clear Q U
     all_goals
      go_enter Tryz.func133,Tryz.ntmps133
      go_wp2_with fail
      refine(impl_within_c _ _ _ _).mono ?_;rintro e N ⟨rfl,q⟩;have J:=q.size;(try simp at J)
      obtain⟨D,I⟩:=bcell q;go_wp2;go_ret;exact⟨ret_bool (by rw[B.out];first|done|(simp;done)|(simp;omega)),blw⟩
    ·have B:=hH (U.out false (by simp[M,Q]))
     have h2b:((signs.length:Int)==0)=false:=by rw[beq_eq_false_iff_ne];omega
     rcases u with rfl|rfl<;>clear Q U
     all_goals
      go_enter Tryz.func133,Tryz.ntmps133
      go_wp2_with fail
      refine(impl_within_c _ _ _ _).mono ?_;rintro e N ⟨rfl,q⟩;have J:=q.size;(try simp at J)
      obtain⟨D,I⟩:=bcell q;go_wp2;go_ret;exact⟨ret_bool (by rw[B.out];first|done|(simp;done)|(simp;omega)),blw⟩
   ·have M:within n 0 200=false:=by simpa using M
    have B:=hH (U.out false (by simp[M]))
    rcases u with rfl|rfl<;>clear U
    all_goals
     go_enter Tryz.func133,Tryz.ntmps133
     go_wp2_with fail
     refine(impl_within_c _ _ _ _).mono ?_;rintro e N ⟨rfl,q⟩;have J:=q.size;(try simp at J)
     obtain⟨D,I⟩:=bcell q;go_wp2;go_ret;exact⟨ret_bool (by rw[B.out];first|done|(simp;done)|(simp;omega)),blw⟩
  ·have B:Hid (partOk ⟨kind,n,signs⟩=false):=hH (by simp only[not_or]at u;simp[partOk,u.1,u.2,Y])
   have g1:(kind==1)=false:=by simp only[not_or]at u;simpa using u.1
   have g2:(kind==2)=false:=by simpa using Y
   have g3:(kind==3)=false:=by simp only[not_or]at u;simpa using u.2
   clear u Y;go_enter Tryz.func133,Tryz.ntmps133
   go_wp2;go_ret;exact⟨ret_bool (by rw[B.out];first|done|(simp;done)|(simp;omega)),blw⟩
theorem impl_partsOk_c (v:Value)(o:List DPart)(w:World)(h:RdS w v o):Calls Tryz.prog 61 #[v] w (Tells w (.bool (partsOk o))):=by
 have hl:=fun R ty=>h.len Tryz.underlying30 R ty
 have ba:=h.le;go_enter Tryz.func61,Tryz.ntmps61
 go_wp2;go_loopw [7] (fun i wr=>∃k:Nat,k<=o.length/\i= .int .i64 k/\(∀j<k,∀y,o[j]? =some y->partOk y=true)/\Below w.heap.size w wr) (fun i _=>o.length-(intOf i).toNat)
 case atStart=>exact⟨0,lz _,rfl,fun _ h=>absurd h (Nat.not_lt_zero _),lf _ _⟩
 case round=>
  obtain⟨k,hk,rfl,J,q⟩:=hrel;have hsz:=q.size;have U:=hH J;clear J;by_cases M:k<o.length
  ·obtain⟨x,N⟩:=get_some M;obtain⟨b1,o1,cs,h1,B,h3⟩:=(h.below q).idx Tryz.underlying30 szi_DPart k N;obtain⟨u,rfl,n⟩:=inv_DPart h3;have q0:=B.zero;have q1:=B 1 _ rfl;have q2:=B 2 _ rfl;obtain⟨aa,ca,rfl⟩:=n.isSlice;have Y:=hH N;clear N;by_cases e:partOk x=true
   ·have Z:=hH e;go_wp2_with fail
    refine(impl_PartOk_c x _ _ (n.below blw)).mono ?_;rintro e R ⟨rfl,p⟩;have Q:=p.size;(try simp at Q)
    obtain⟨D,I⟩:=bcell p;go_wp2;go_roundw
    case rel=>exact⟨k+1,by omega,by go_num,yes_step Y.out Z.out U.out,blw⟩
    case measure=>simp[intOf];omega
   ·have e:partOk x=false:=by simpa using e
    have z:Hid (partsOk o=false):=hH (by unfold partsOk;rw[all_no Y.out e];rfl)
    go_wp2_with fail
    refine(impl_PartOk_c x _ _ (n.below blw)).mono ?_;rintro e R ⟨rfl,p⟩;have Q:=p.size;(try simp at Q)
    obtain⟨D,I⟩:=bcell p;go_wp2;go_ret;exact⟨ret_bool z.out.symm,blw⟩
  ·have z:Hid (partsOk o=decide (o.length<=600)):=hH (by unfold partsOk;rw[all_yes fun j J=>U.out j (by omega)];rfl)
   by_cases hle:o.length<=600
   ·go_wp2;go_ret;exact⟨ret_bool (by rw[z.out];simp;omega),q⟩
   ·go_wp2;go_ret;exact⟨ret_bool (by rw[z.out];simp;omega),q⟩
theorem impl_TextOk_c (v:Value)(t:List Int)(w:World)(h:RdS w v t):Calls Tryz.prog 62 #[v] w (Tells w (.bool (textOk t))):=by
 have J:=fun B ty=>h.len Tryz.underlying31 B ty
 have I:=h.le;by_cases D:t.length<=200
 ·by_cases n:signsOk t=true
  ·have z:Hid (textOk t=true):=hH (by simp[textOk,D,n])
   go_enter Tryz.func62,Tryz.ntmps62
   go_wp2_with fail
   refine(impl_SignsOk_c _ t _ (h.below blw)).mono ?_;rintro e B ⟨rfl,j⟩;have u:=j.size;(try simp at u)
   obtain⟨p,q⟩:=bcell j;go_wp2;go_ret;exact⟨ret_bool (by rw[z.out];first|done|(simp;done)|(simp;omega)),blw⟩
  ·have n:signsOk t=false:=by simpa using n
   have z:Hid (textOk t=false):=hH (by simp[textOk,n])
   go_enter Tryz.func62,Tryz.ntmps62
   go_wp2_with fail
   refine(impl_SignsOk_c _ t _ (h.below blw)).mono ?_;rintro e B ⟨rfl,j⟩;have u:=j.size;(try simp at u)
   obtain⟨p,q⟩:=bcell j;go_wp2;go_ret;exact⟨ret_bool (by rw[z.out];first|done|(simp;done)|(simp;omega)),blw⟩
 ·have z:Hid (textOk t=false):=hH (by simp[textOk,D])
  by_cases n:signsOk t=true
  ·go_enter Tryz.func62,Tryz.ntmps62
   go_wp2_with (refine(impl_SignsOk_c _ t _ (h.below blw)).mono ?_;rintro e B ⟨rfl,j⟩;have u:=j.size;(try simp at u);obtain⟨p,q⟩:=bcell j)
   go_ret;exact⟨ret_bool (by rw[z.out];first|done|(simp;done)|(simp;omega)),blw⟩
  ·have n:signsOk t=false:=by simpa using n
   go_enter Tryz.func62,Tryz.ntmps62
   go_wp2_with (refine(impl_SignsOk_c _ t _ (h.below blw)).mono ?_;rintro e B ⟨rfl,j⟩;have u:=j.size;(try simp at u);obtain⟨p,q⟩:=bcell j)
   go_ret;exact⟨ret_bool (by rw[z.out];first|done|(simp;done)|(simp;omega)),blw⟩
theorem impl_size_c (p:DPart)(j:Value)(w:World)(z:0<=p.n)(B:p.n<=1000000)(D:p.signs.length<=1000000)(q:RdS w j p.signs):
 Calls Tryz.prog 244 #[.agg #[.int .i64 p.kind,.int .i64 p.n,j]] w (Tells w (.int .i64 (psize p))):=by
 have I:=fun u ty=>q.len Tryz.underlying31 u ty
 go_enter Tryz.func244,Tryz.ntmps244
 go_wp2;go_ret;exact⟨ret_int (by unfold psize;rfl),blw⟩
theorem impl_sizeOf_c (v:Value)(o:List DPart)(but:Int)(w:World)(h:RdS w v o):
 Calls Tryz.prog 234 #[v,.int .i64 but] w (Tells w (.int .i64 (sizeBut but o))):=by
 have hl:=fun w1 ty=>h.len Tryz.underlying30 w1 ty
 have ba:=h.le;by_cases J:partsOk o=true
 ·have hv:Hid (sizeBut but o=sumBut but o):=hH (if_pos J);obtain⟨z,h600⟩:=partsOk_iff.1 J;have u:=hH z;clear z;go_enter Tryz.func234,Tryz.ntmps234
  go_wp2_with fail
  refine(impl_partsOk_c _ o _ (h.below blw)).mono ?_;rintro e w1 ⟨rfl,q⟩;have s1:=q.size;(try simp at s1)
  obtain⟨hc1,hf1⟩:=bcell q;go_wp2;go_loopw [5,13] (fun n i wr=>∃k:Nat,k<=o.length/\i= .int .i64 k/\n= .int .i64 (sumBut but (o.take k))/\Below w.heap.size w wr) (fun _ i _=>o.length-(intOf i).toNat)
  case atStart=>exact⟨0,lz _,rfl,rfl,blw⟩
  case round=>
   obtain⟨k,hk,rfl,rfl,B⟩:=hrel;have hsz:=B.size;have sb:=sumBut_bd but (o.take k) (all_take u.out k);have tl:(o.take k).length<=k:=List.length_take_le _ _;by_cases hlt:k<o.length
   ·obtain⟨x,Q⟩:=get_some hlt;obtain⟨b1,o1,cs,h1,Z,h3⟩:=(h.below B).idx Tryz.underlying30 szi_DPart k Q;obtain⟨M,rfl,j⟩:=inv_DPart h3;have q0:=Z.zero;have q1:=Z 1 _ rfl;have q2:=Z 2 _ rfl;obtain⟨aa,ca,rfl⟩:=j.isSlice;have D:=all_at u.out Q;have pb:=psize_bd D;have p:=sumBut_snoc but Q;have hcx:0<=x.n/\x.n<=200/\x.signs.length<=200:=by
     rcases partOk_cases D with⟨_,U,Y,N⟩|⟨_,U,Y,_⟩|⟨_,U,Y,N⟩
     ·rw[N];simp;omega
     ·omega
     ·rw[N];simp;omega
    obtain⟨U,Y,N⟩:=hcx;clear D Q;obtain⟨S,hS⟩:∃S,sumBut but (o.take k)=S:=⟨_,rfl⟩;rw[hS]at sb p;rw[hS];clear hS;by_cases e:x.kind=but
    ·rw[if_pos e]at p;have R:=hH p;have e1:(x.kind !=but)=false:=by rw[e];simp
     clear e p;go_wp2;go_roundw
     case rel=>exact⟨k+1,by omega,by go_num,by rw[R.out];go_num,blw⟩
     case measure=>simp[intOf];omega
    ·rw[if_neg e]at p;have R:=hH p;have e1:(x.kind !=but)=true:=by simpa using e
     clear e p;go_wp2_with fail
     refine(impl_size_c x _ _ (by omega) (by omega) (by omega) (j.below blw)).mono ?_
     rintro e w2 ⟨rfl,I⟩;have s2:=I.size;(try simp at s2)
     obtain⟨hc2,hf2⟩:=bcell I;go_wp2;go_roundw
     case rel=>exact⟨k+1,by omega,by go_num,by rw[R.out],blw⟩
     case measure=>simp[intOf];omega
   ·obtain rfl:k=o.length:=by omega
    rw[List.take_length];go_wp2;go_ret;exact⟨ret_int hv.out.symm,B⟩
 ·have hv:Hid (sizeBut but o=0):=hH (if_neg J);have J:partsOk o=false:=by simpa using J
  go_enter Tryz.func234,Tryz.ntmps234
  go_wp2_with fail
  refine(impl_partsOk_c _ o _ (h.below blw)).mono ?_;rintro e w1 ⟨rfl,q⟩;have s1:=q.size;(try simp at s1)
  obtain⟨hc1,hf1⟩:=bcell q;go_wp2;go_ret;exact⟨ret_int hv.out.symm,blw⟩
theorem spec_l02Sum_c (v:Value)(o:List DPart)(w:World)(h:RdS w v o):
 Calls Tryz.prog 230 #[v] w (Tells w (.tuple #[.int .i64 (sum1 1 o),.int .i64 (sum1 2 o),.int .i64 (sum1 3 o)])):=by
 have hl:=fun w1 ty=>h.len Tryz.underlying30 w1 ty
 have ba:=h.le;by_cases D:partsOk o=true
 ·have v1:sum1 1 o=sumOf 1 o:=if_pos D;have v2:sum1 2 o=sumOf 2 o:=if_pos D;have v3:sum1 3 o=sumOf 3 o:=if_pos D;rw[v1,v2,v3];clear v1 v2 v3;obtain⟨J,h600⟩:=partsOk_iff.1 D;have u:=hH J;clear J;go_enter Tryz.func230,Tryz.ntmps230
  go_wp2_with fail
  refine(spec_partsOk_c _ o _ (h.below blw)).mono ?_;rintro e w1 ⟨rfl,z⟩;have s1:=z.size;(try simp at s1)
  obtain⟨hc1,hf1⟩:=bcell z;go_wp2;go_loopw [5,6,7,15] (fun n1 n2 n3 i wr=>∃k:Nat,k<=o.length/\i= .int .i64 k/\n1= .int .i64 (sumOf 1 (o.take k))/\n2= .int .i64 (sumOf 2 (o.take k))/\n3= .int .i64 (sumOf 3 (o.take k))/\Below w.heap.size w wr) (fun _ _ _ i _=>o.length-(intOf i).toNat)
  case atStart=>exact⟨0,lz _,rfl,rfl,rfl,rfl,blw⟩
  case round=>
   obtain⟨k,hk,rfl,rfl,rfl,rfl,N⟩:=hrel;have hsz:=N.size;have sb1:=sumOf_bd 1 (o.take k) (all_take u.out k);have sb2:=sumOf_bd 2 (o.take k) (all_take u.out k);have sb3:=sumOf_bd 3 (o.take k) (all_take u.out k);have tl:(o.take k).length<=k:=List.length_take_le _ _;by_cases hlt:k<o.length
   ·obtain⟨x,Q⟩:=get_some hlt;obtain⟨b1,o1,cs,h1,h2,h3⟩:=(h.below N).idx Tryz.underlying30 szi_DPart k Q;obtain⟨v_signs,rfl,q⟩:=inv_DPart h3;have q0:=h2.zero;have q1:=h2 1 _ rfl;have q2:=h2 2 _ rfl;obtain⟨aa,ca,rfl⟩:=q.isSlice;have I:=all_at u.out Q;have j:=sumOf_snoc 1 Q;have n:=sumOf_snoc 2 Q;have p:=sumOf_snoc 3 Q;clear Q;obtain⟨S1,a0⟩:∃S,sumOf 1 (o.take k)=S:=⟨_,rfl⟩;obtain⟨S2,a1⟩:∃S,sumOf 2 (o.take k)=S:=⟨_,rfl⟩;obtain⟨S3,a2⟩:∃S,sumOf 3 (o.take k)=S:=⟨_,rfl⟩;rw[a0]at sb1 j⊢;rw[a1]at sb2 n⊢;rw[a2]at sb3 p⊢;clear a0 a1 a2;have M:=fun w1 ty=>q.len Tryz.underlying31 w1 ty
    rcases partOk_cases I with⟨B,g1,g2,Z⟩|⟨B,g1,g2,_⟩|⟨B,g1,g2,Z⟩
    ·rw[B]at j n p;simp only[psize,Z]at j n p;have R:=hH j;have U:=hH n;have Y:=hH p;rw[B]at q0;clear I B Z j n p M;go_wp2;go_roundw
     case rel=>exact⟨k+1,by omega,by go_num,by rw[R.out];simp,by rw[U.out];simp,by rw[Y.out];simp,blw⟩
     case measure=>simp[intOf];omega
    ·rw[B]at j n p;simp only[psize,g1]at j n p;have R:=hH j;have U:=hH n;have Y:=hH p;rw[B]at q0;clear I B g1 j n p;go_wp2;go_roundw
     case rel=>exact⟨k+1,by omega,by go_num,by rw[R.out];simp,by rw[U.out];simp,by rw[Y.out];simp,blw⟩
     case measure=>simp[intOf];omega
    ·rw[B]at j n p;simp only[psize,Z]at j n p;have R:=hH j;have U:=hH n;have Y:=hH p;rw[B]at q0;clear I B Z j n p M;go_wp2;go_roundw
     case rel=>exact⟨k+1,by omega,by go_num,by rw[R.out];simp,by rw[U.out];simp,by rw[Y.out];simp,blw⟩
     case measure=>simp[intOf];omega
   ·obtain rfl:k=o.length:=by omega
    simp only[List.take_length];go_wp2;go_ret3
    exact⟨rfl,N⟩
 ·have v1:sum1 1 o=0:=if_neg D;have v2:sum1 2 o=0:=if_neg D;have v3:sum1 3 o=0:=if_neg D;rw[v1,v2,v3];clear v1 v2 v3;have D:partsOk o=false:=by simpa using D
  go_enter Tryz.func230,Tryz.ntmps230
  go_wp2_with fail
  refine(spec_partsOk_c _ o _ (h.below blw)).mono ?_;rintro e w1 ⟨rfl,z⟩;have s1:=z.size;(try simp at s1)
  obtain⟨hc1,hf1⟩:=bcell z;go_wp2;go_ret3
  exact⟨rfl,blw⟩
theorem impl_OpFrom_c (v:Value)(o:List DPart)(w:World)(h:RdS w v o):Calls Tryz.prog 212 #[v] w (Tells w (.int .i64 (opFrom o))):=by
 go_enter Tryz.func212,Tryz.ntmps212
 go_wp2_with fail
 refine(impl_sizeOf_c _ o 2 _ (h.below blw)).mono ?_;rintro e u ⟨rfl,j⟩;have q:=j.size;(try simp at q)
 obtain⟨n,p⟩:=bcell j;go_wp2;go_ret;exact⟨rfl,blw⟩
theorem impl_OpTo_c (v:Value)(o:List DPart)(w:World)(h:RdS w v o):Calls Tryz.prog 213 #[v] w (Tells w (.int .i64 (opTo o))):=by
 go_enter Tryz.func213,Tryz.ntmps213
 go_wp2_with fail
 refine(impl_sizeOf_c _ o 3 _ (h.below blw)).mono ?_;rintro e u ⟨rfl,j⟩;have q:=j.size;(try simp at q)
 obtain⟨n,p⟩:=bcell j;go_wp2;go_ret;exact⟨rfl,blw⟩
theorem sums_bd (o:List DPart)(b:Int):0<=sum1 b o/\sum1 b o<=120000:=by
 unfold sum1;by_cases n:partsOk o=true
 ·obtain⟨j,p⟩:=partsOk_iff.1 n;have:=sumOf_bd b o j;rw[if_pos n];omega
 ·rw[if_neg n];omega
theorem opFrom_sum (o:List DPart):opFrom o=(sum1 1 o)+(sum1 3 o):=by
 unfold opFrom sizeBut sum1;by_cases j:partsOk o=true
 ·simp only[if_pos j];exact(sumBut_of o (partsOk_iff.1 j).1).1
 ·simp only[if_neg j];rfl
theorem opTo_sum (o:List DPart):opTo o=(sum1 1 o)+(sum1 2 o):=by
 unfold opTo sizeBut sum1;by_cases j:partsOk o=true
 ·simp only[if_pos j];exact(sumBut_of o (partsOk_iff.1 j).1).2
 ·simp only[if_neg j];rfl
theorem spec_OpFrom_c (v:Value)(o:List DPart)(w:World)(h:RdS w v o):Calls Tryz.prog 205 #[v] w (Tells w (.int .i64 (opFrom o))):=by
 have u:=sums_bd o 1;have z:=sums_bd o 3;go_enter Tryz.func205,Tryz.ntmps205
 go_wp2_with fail
 refine(spec_l02Sum_c _ o _ (h.below blw)).mono ?_;rintro e N ⟨rfl,p⟩;have I:=p.size;(try simp at I)
 obtain⟨B,D⟩:=bcell p;have q:=hH (opFrom_sum o);obtain⟨J,j⟩:∃S,sum1 1 o=S:=⟨_,rfl⟩;obtain⟨M,n⟩:∃S,sum1 3 o=S:=⟨_,rfl⟩;rw[j]at u q⊢;rw[n]at z q⊢;clear j n;go_wp2;go_ret;exact⟨ret_int q.out.symm,blw⟩
theorem spec_OpTo_c (v:Value)(o:List DPart)(w:World)(h:RdS w v o):Calls Tryz.prog 206 #[v] w (Tells w (.int .i64 (opTo o))):=by
 have u:=sums_bd o 1;have z:=sums_bd o 2;go_enter Tryz.func206,Tryz.ntmps206
 go_wp2_with fail
 refine(spec_l02Sum_c _ o _ (h.below blw)).mono ?_;rintro e N ⟨rfl,p⟩;have I:=p.size;(try simp at I)
 obtain⟨B,D⟩:=bcell p;have q:=hH (opTo_sum o);obtain⟨J,j⟩:∃S,sum1 1 o=S:=⟨_,rfl⟩;obtain⟨M,n⟩:∃S,sum1 2 o=S:=⟨_,rfl⟩;rw[j]at u q⊢;rw[n]at z q⊢;clear j n;go_wp2;go_ret;exact⟨ret_int q.out.symm,blw⟩
theorem spec_OpOk_c (v:Value)(o:List DPart)(w:World)(h:RdS w v o):Calls Tryz.prog 164 #[v] w (Tells w (.bool (opOk o))):=by
 by_cases M:partsOk o=true
 ·by_cases Y:opFrom o<=200
  ·by_cases Z:opTo o<=200
   ·have z:Hid (opOk o=true):=hH (by simp[opOk,M,Y,Z])
    go_enter Tryz.func164,Tryz.ntmps164
    go_wp2_with fail
    refine(spec_partsOk_c _ o _ (h.below blw)).mono ?_;rintro e U ⟨rfl,j⟩;have B:=j.size;(try simp at B)
    obtain⟨q,u⟩:=bcell j;go_wp2_with fail
    refine(spec_OpFrom_c _ o _ (h.below blw)).mono ?_;rintro e w2 ⟨rfl,n⟩;have J:=n.size;(try simp at J)
    obtain⟨D,I⟩:=bcell n;go_wp2_with fail
    refine(spec_OpTo_c _ o _ (h.below blw)).mono ?_;rintro e w3 ⟨rfl,p⟩;have R:=p.size;(try simp at R)
    obtain⟨N,Q⟩:=bcell p;go_wp2;go_ret;exact⟨ret_bool (by rw[z.out];first|done|(simp;done)|(simp;omega)),blw⟩
   ·have z:Hid (opOk o=false):=hH (by simp[opOk,Z])
    go_enter Tryz.func164,Tryz.ntmps164
    go_wp2_with fail
    refine(spec_partsOk_c _ o _ (h.below blw)).mono ?_;rintro e U ⟨rfl,j⟩;have B:=j.size;(try simp at B)
    obtain⟨q,u⟩:=bcell j;go_wp2_with fail
    refine(spec_OpFrom_c _ o _ (h.below blw)).mono ?_;rintro e w2 ⟨rfl,n⟩;have J:=n.size;(try simp at J)
    obtain⟨D,I⟩:=bcell n;go_wp2_with fail
    refine(spec_OpTo_c _ o _ (h.below blw)).mono ?_;rintro e w3 ⟨rfl,p⟩;have R:=p.size;(try simp at R)
    obtain⟨N,Q⟩:=bcell p;go_wp2;go_ret;exact⟨ret_bool (by rw[z.out];first|done|(simp;done)|(simp;omega)),blw⟩
  ·have z:Hid (opOk o=false):=hH (by simp[opOk,Y])
   go_enter Tryz.func164,Tryz.ntmps164
   go_wp2_with fail
   refine(spec_partsOk_c _ o _ (h.below blw)).mono ?_;rintro e U ⟨rfl,j⟩;have B:=j.size;(try simp at B)
   obtain⟨q,u⟩:=bcell j;go_wp2_with fail
   refine(spec_OpFrom_c _ o _ (h.below blw)).mono ?_;rintro e w2 ⟨rfl,n⟩;have J:=n.size;(try simp at J)
   obtain⟨D,I⟩:=bcell n;go_wp2;go_ret;exact⟨ret_bool (by rw[z.out];first|done|(simp;done)|(simp;omega)),blw⟩
 ·have M:partsOk o=false:=by simpa using M
  have z:Hid (opOk o=false):=hH (by simp[opOk,M])
  go_enter Tryz.func164,Tryz.ntmps164
  go_wp2_with fail
  refine(spec_partsOk_c _ o _ (h.below blw)).mono ?_;rintro e U ⟨rfl,j⟩;have B:=j.size;(try simp at B)
  obtain⟨q,u⟩:=bcell j;go_wp2;go_ret;exact⟨ret_bool (by rw[z.out];first|done|(simp;done)|(simp;omega)),blw⟩
theorem impl_OpOk_c (v:Value)(o:List DPart)(w:World)(h:RdS w v o):Calls Tryz.prog 171 #[v] w (Tells w (.bool (opOk o))):=by
 by_cases M:partsOk o=true
 ·by_cases Y:opFrom o<=200
  ·by_cases Z:opTo o<=200
   ·have z:Hid (opOk o=true):=hH (by simp[opOk,M,Y,Z])
    go_enter Tryz.func171,Tryz.ntmps171
    go_wp2_with fail
    refine(impl_partsOk_c _ o _ (h.below blw)).mono ?_;rintro e U ⟨rfl,j⟩;have B:=j.size;(try simp at B)
    obtain⟨q,u⟩:=bcell j;go_wp2_with fail
    refine(impl_OpFrom_c _ o _ (h.below blw)).mono ?_;rintro e w2 ⟨rfl,n⟩;have J:=n.size;(try simp at J)
    obtain⟨D,I⟩:=bcell n;go_wp2_with fail
    refine(impl_OpTo_c _ o _ (h.below blw)).mono ?_;rintro e w3 ⟨rfl,p⟩;have R:=p.size;(try simp at R)
    obtain⟨N,Q⟩:=bcell p;go_wp2;go_ret;exact⟨ret_bool (by rw[z.out];first|done|(simp;done)|(simp;omega)),blw⟩
   ·have z:Hid (opOk o=false):=hH (by simp[opOk,Z])
    go_enter Tryz.func171,Tryz.ntmps171
    go_wp2_with fail
    refine(impl_partsOk_c _ o _ (h.below blw)).mono ?_;rintro e U ⟨rfl,j⟩;have B:=j.size;(try simp at B)
    obtain⟨q,u⟩:=bcell j;go_wp2_with fail
    refine(impl_OpFrom_c _ o _ (h.below blw)).mono ?_;rintro e w2 ⟨rfl,n⟩;have J:=n.size;(try simp at J)
    obtain⟨D,I⟩:=bcell n;go_wp2_with fail
    refine(impl_OpTo_c _ o _ (h.below blw)).mono ?_;rintro e w3 ⟨rfl,p⟩;have R:=p.size;(try simp at R)
    obtain⟨N,Q⟩:=bcell p;go_wp2;go_ret;exact⟨ret_bool (by rw[z.out];first|done|(simp;done)|(simp;omega)),blw⟩
  ·have z:Hid (opOk o=false):=hH (by simp[opOk,Y])
   go_enter Tryz.func171,Tryz.ntmps171
   go_wp2_with fail
   refine(impl_partsOk_c _ o _ (h.below blw)).mono ?_;rintro e U ⟨rfl,j⟩;have B:=j.size;(try simp at B)
   obtain⟨q,u⟩:=bcell j;go_wp2_with fail
   refine(impl_OpFrom_c _ o _ (h.below blw)).mono ?_;rintro e w2 ⟨rfl,n⟩;have J:=n.size;(try simp at J)
   obtain⟨D,I⟩:=bcell n;go_wp2;go_ret;exact⟨ret_bool (by rw[z.out];first|done|(simp;done)|(simp;omega)),blw⟩
 ·have M:partsOk o=false:=by simpa using M
  have z:Hid (opOk o=false):=hH (by simp[opOk,M])
  go_enter Tryz.func171,Tryz.ntmps171
  go_wp2_with fail
  refine(impl_partsOk_c _ o _ (h.below blw)).mono ?_;rintro e U ⟨rfl,j⟩;have B:=j.size;(try simp at B)
  obtain⟨q,u⟩:=bcell j;go_wp2;go_ret;exact⟨ret_bool (by rw[z.out];first|done|(simp;done)|(simp;omega)),blw⟩
