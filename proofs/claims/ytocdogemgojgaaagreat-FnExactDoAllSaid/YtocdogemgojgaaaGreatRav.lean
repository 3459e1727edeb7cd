/- New rings and rings that begin anew. -/
import Derived.Test.YtocdogemgojgaaaGreatRau
import Derived.Test.YtocdogemgojgaaaGreatRah
set_option maxRecDepth 100000
set_option linter.defProp false
set_option linter.unusedSimpArgs false
namespace Go.Proofs.YtocdogemgojgaaaGreat
open Go.RowKit
def Kbi:kac:=⟨0,0,false,[]⟩
def Jao (room rev:Int):kac×Bool:=if rev<=1000000000/\Zac ⟨room,rev+1,false,[]⟩=true then(⟨room,rev+1,false,[]⟩,true)else(Kbi,false)
theorem jaC {room rev:Int}(j:rev<=1000000000)(n:Zac ⟨room,rev+1,false,[]⟩=true):Jao room rev=(⟨room,rev+1,false,[]⟩,true):=if_pos ⟨j,n⟩
theorem XaG {room rev:Int}(h:¬(rev<=1000000000/\Zac ⟨room,rev+1,false,[]⟩=true)):Jao room rev=(Kbi,false):=if_neg h
theorem Qaj {r:kac}(h:Zac r=true):1<=r.next/\r.next<=1000000000/\1<=r.cap/\r.cap<=6:=by
 simp only[Zac,vae,Bool.and_eq_true,within_iff]at h;omega
theorem ubg {n:Int}(j: -9223372036854775808<=n)(p:n<=9223372036854775807):∃m,IntKind.i64.wrap (n+1)=m/\((n<=9223372036854775806/\m=n+1)\/(n=9223372036854775807/\m= -9223372036854775808)):=by
 refine⟨_,rfl,?_⟩;by_cases h:n<=9223372036854775806
 ·exact .inl ⟨h,IntWalk.i64_in _ om⟩
 ·have:n=9223372036854775807:=om;subst this;exact .inr ⟨rfl,rfl⟩
theorem xaB (room rev:Int)(w:World)(Y: -9223372036854775808<=rev)(_b2:rev<=9223372036854775807):
 Calls Tryz.prog 152 #[room,rev] w (Kau w (Jao room rev).1 (Jao room rev).2):=by
 by_cases B:rev<=1000000000
 rotate_left
 ·have z:=hH (XaG (room:=room) (rev:=rev) fun h=>B h.1)
  have D:1000000000<rev:=om;have I:decide (1000000000<rev)=true:=by simp;omega
  clear B;go_enter Tryz.func152,Tryz.ntmps152
  go_wp2;rw[z.out];exact bodyPost_ret (v:= .tuple #[.agg #[zI,zI,false,zN],false]) (by simp[results,Tryz.results152,go_sem]) rfl ⟨.slice none 0 0,[],rfl,Sl.nil,uaa.nil _ _,blw⟩
 have D:¬1000000000<rev:=om;have I:decide (1000000000<rev)=false:=by simp;omega
 by_cases u:Zac ⟨room,rev+1,false,[]⟩=true
 ·have z:=hH (jaC B u);go_enter Tryz.func152,Tryz.ntmps152
  go_wp2_with fail
  refine(vad ⟨room,rev+1,false,[]⟩ _ _ RdS.nil).mono ?_;rintro e p ⟨rfl,n⟩;rw[u];have M:=n.size;(try simp at M)
  obtain⟨j,J⟩:=kab n;have U:w<p.heap.size:=om;have Z:w+1<p.heap.size:=om;have y0:p.cell? ⟨w.heap.size,0,none⟩=some (.int .i64 0):=by rw[j _ _ (by simp;try omega)];simp[go_sem]
  have N:p.cell? ⟨w.heap.size,1,none⟩=some (.int .i64 0):=by rw[j _ _ (by simp;try omega)];simp[go_sem]
  have Q:p.cell? ⟨w.heap.size,2,none⟩=some (.bool false):=by rw[j _ _ (by simp;try omega)];simp[go_sem]
  have R:p.cell? ⟨w.heap.size,3,none⟩=some (.slice none 0 0):=by rw[j _ _ (by simp;try omega)];simp[go_sem]
  have q:Hid (Below w w p):=hH blw;clear n;go_wp2;rw[z.out];exact bodyPost_ret (v:= .tuple #[.agg #[room,.int .i64 (rev+1),false,zN],true]) (by simp[results,Tryz.results152,go_sem,xaa, *]) rfl ⟨.slice none 0 0,[],rfl,Sl.nil,uaa.nil _ _,(((q.out.setCell sm _).setCell sm _).setCell sm _).setCell sm _⟩
 ·have z:=hH (XaG (room:=room) (rev:=rev) fun h=>u h.2)
  have u:Zac ⟨room,rev+1,false,[]⟩=false:=by simpa using u
  go_enter Tryz.func152,Tryz.ntmps152
  go_wp2_with fail
  refine(vad ⟨room,rev+1,false,[]⟩ _ _ RdS.nil).mono ?_;rintro e p ⟨rfl,n⟩;rw[u];have M:=n.size;(try simp at M)
  obtain⟨j,J⟩:=kab n;have U:w<p.heap.size:=om;have y0:p.cell? ⟨w.heap.size,0,none⟩=some (.int .i64 0):=by rw[j _ _ (by simp;try omega)];simp[go_sem]
  have N:p.cell? ⟨w.heap.size,1,none⟩=some (.int .i64 0):=by rw[j _ _ (by simp;try omega)];simp[go_sem]
  have Q:p.cell? ⟨w.heap.size,2,none⟩=some (.bool false):=by rw[j _ _ (by simp;try omega)];simp[go_sem]
  have R:p.cell? ⟨w.heap.size,3,none⟩=some (.slice none 0 0):=by rw[j _ _ (by simp;try omega)];simp[go_sem]
  have q:Hid (Below w w p):=hH blw;clear n;go_wp2;rw[z.out];exact bodyPost_ret (v:= .tuple #[.agg #[zI,zI,false,zN],false]) (by simp[results,Tryz.results152,go_sem,xaa, *]) rfl ⟨.slice none 0 0,[],rfl,Sl.nil,uaa.nil _ _,(((q.out.setCell sm _).setCell sm _).setCell sm _).setCell sm _⟩
theorem JaA (room rev:Int)(w:World)(I: -9223372036854775808<=rev)(J:rev<=9223372036854775807):
 Calls Tryz.prog 111 #[room,rev] w (Kau w (Jao room rev).1 (Jao room rev).2):=by
 obtain⟨m,hm,q⟩:=ubg I J;have B:Zac ⟨room,m,false,[]⟩=true->m=rev+1/\rev<=1000000000:=fun h=>by
  have:=Qaj h;simp only at this;omega
 by_cases u:Zac ⟨room,m,false,[]⟩=true
 ·have U:=hH (B u);have D:Hid (Jao room rev=(⟨room,m,false,[]⟩,true)):=hH (by obtain⟨R,M⟩:=U.out;rw[R]at u⊢;exact jaC M u)
  clear B q I J;go_enter Tryz.func111,Tryz.ntmps111
  go_wp2_with fail
  refine(yad ⟨room,m,false,[]⟩ _ _ RdS.nil).mono ?_;rintro e p ⟨rfl,n⟩;rw[u];have Q:=n.size;(try simp at Q)
  obtain⟨j,N⟩:=kab n;have z1:w<p.heap.size:=om;have z2:w+1<p.heap.size:=om;have y0:p.cell? ⟨w.heap.size,0,none⟩=some (.int .i64 0):=by rw[j _ _ (by simp;try omega)];simp[go_sem]
  have Y:p.cell? ⟨w.heap.size,1,none⟩=some (.int .i64 0):=by rw[j _ _ (by simp;try omega)];simp[go_sem]
  have Z:p.cell? ⟨w.heap.size,2,none⟩=some (.bool false):=by rw[j _ _ (by simp;try omega)];simp[go_sem]
  have y3:p.cell? ⟨w.heap.size,3,none⟩=some (.slice none 0 0):=by rw[j _ _ (by simp;try omega)];simp[go_sem]
  have z:Hid (Below w w p):=hH blw;clear n;go_wp2;rw[D.out];exact bodyPost_ret (v:= .tuple #[.agg #[room,m,false,zN],true]) (by simp[results,Tryz.results111,go_sem,xaa, *]) rfl ⟨.slice none 0 0,[],rfl,Sl.nil,uaa.nil _ _,(((z.out.setCell sm _).setCell sm _).setCell sm _).setCell sm _⟩
 ·have D:=hH (XaG (room:=room) (rev:=rev) fun h=>u (by
   obtain⟨R,M⟩:=h;have:m=rev+1:=om;rw[this];exact M))
  have u:Zac ⟨room,m,false,[]⟩=false:=by simpa using u
  clear B q I J;go_enter Tryz.func111,Tryz.ntmps111
  go_wp2_with fail
  refine(yad ⟨room,m,false,[]⟩ _ _ RdS.nil).mono ?_;rintro e p ⟨rfl,n⟩;rw[u];have Q:=n.size;(try simp at Q)
  obtain⟨j,N⟩:=kab n;have z1:w<p.heap.size:=om;have y0:p.cell? ⟨w.heap.size,0,none⟩=some (.int .i64 0):=by rw[j _ _ (by simp;try omega)];simp[go_sem]
  have Y:p.cell? ⟨w.heap.size,1,none⟩=some (.int .i64 0):=by rw[j _ _ (by simp;try omega)];simp[go_sem]
  have Z:p.cell? ⟨w.heap.size,2,none⟩=some (.bool false):=by rw[j _ _ (by simp;try omega)];simp[go_sem]
  have y3:p.cell? ⟨w.heap.size,3,none⟩=some (.slice none 0 0):=by rw[j _ _ (by simp;try omega)];simp[go_sem]
  have z:Hid (Below w w p):=hH blw;clear n;go_wp2;rw[D.out];exact bodyPost_ret (v:= .tuple #[.agg #[zI,zI,false,zN],false]) (by simp[results,Tryz.results111,go_sem,xaa, *]) rfl ⟨.slice none 0 0,[],rfl,Sl.nil,uaa.nil _ _,(((z.out.setCell sm _).setCell sm _).setCell sm _).setCell sm _⟩
def zam (r:kac)(rev:Int):kac×Bool:=if Zac r=true then Jao r.cap rev else(Kbi,false)
theorem vaA {r:kac}(rev:Int)(h:Zac r=true):zam r rev=Jao r.cap rev:=if_pos h
theorem xaV {r:kac}(rev:Int)(h:¬Zac r=true):zam r rev=(Kbi,false):=if_neg h
theorem qaJ (room rev:Int):(Jao room rev).1.list=[]:=by unfold Jao;split<;>rfl
theorem JaM (r:kac)(rev:Int):(zam r rev).1.list=[]:=by unfold zam;split;exact qaJ _ _;rfl
theorem uaa.poke {B:Nat}{w:World}{f:List Pos}(h:uaa B w f)(a:Addr)(u:Value):uaa B (w.setCell a u) f:=h.put a u
theorem Sl.poke {α:Type}[GoT α]{M B:Nat}{w:World}{v:Value}{l:List α}{f:List Pos}(h:Sl M w v l f)(j:uaa B w f){b o:Nat}(hb:b<B)(u:Value):Sl M (w.setCell ⟨b,o,none⟩ u) v l f:=by
 refine h.keep fun p n=> ?_
 rw[xaa,if_neg];rintro⟨e,_⟩;have:=j.ge p n;omega
theorem kaB {N_:Nat}(h_:N_=155\/N_=114)(r:kac)(rev:Int)(v:Value)(w:World)(b1: -9223372036854775808<=rev)(b2:rev<=9223372036854775807)(h:RdS w v r.list):
 Calls Tryz.prog N_ #[.agg #[r.cap,r.next,r.out,v],rev] w (Kau w (zam r rev).1 (zam r rev).2):=by
 rcases h_ with rfl|rfl
 have J:=hH @vad;have Y:=hH @xaB;go_enter Tryz.func155,Tryz.ntmps155;rotate_left;have J:=hH @yad;have Y:=hH @JaA;go_enter Tryz.func114,Tryz.ntmps114;all_goals
  by_cases M:Zac r=true
  ·have Z:=hH (vaA rev M);obtain⟨R,ok,hR⟩:∃R ok,Jao r.cap rev=(R,ok):=⟨_,_,rfl⟩;have HR:=hH hR;go_wp2_with fail
   refine(J.out r _ _ (h.below blw)).mono ?_;rintro e B ⟨rfl,n⟩;rw[M];have s1:=n.size;(try simp at s1)
   obtain⟨q,U⟩:=kab n;have z1:w<B.heap.size:=om;have z2:w+1<B.heap.size:=om;clear hR;go_wp2_with fail
   refine(Y.out r.cap rev _ b1 b2).mono ?_;rw[HR.out];rintro e u ⟨v2,f2,rfl,z,Q,I⟩;simp only at z;obtain⟨a2,c2,rfl⟩:=RdS.isSlice ⟨_,z⟩;have s2:=I.size;have j:Below (w+2) ((w.alloc (.cells #[r.cap,r.next,r.out,v] 102)).alloc (.cells #[zI,zI,false,zN] 102)) u:=(n.mono sm).trans (I.mono om);have y0:u.cell? ⟨w.heap.size+1,0,none⟩=some (.int .i64 0):=by rw[j.cell (p:=⟨w+1,0,none⟩) sm];simp[go_sem]
   have y1:u.cell? ⟨w.heap.size+1,1,none⟩=some (.int .i64 0):=by rw[j.cell (p:=⟨w+1,1,none⟩) sm];simp[go_sem]
   have y2:u.cell? ⟨w.heap.size+1,2,none⟩=some (.bool false):=by rw[j.cell (p:=⟨w+1,2,none⟩) sm];simp[go_sem]
   have y3:u.cell? ⟨w.heap.size+1,3,none⟩=some (.slice none 0 0):=by rw[j.cell (p:=⟨w+1,3,none⟩) sm];simp[go_sem]
   have t0:u.frozen? ⟨w.heap.size+1,0,none⟩=false:=by rw[j.frozen (p:=⟨w+1,0,none⟩) sm];simp[go_sem]
   have t1:u.frozen? ⟨w.heap.size+1,1,none⟩=false:=by rw[j.frozen (p:=⟨w+1,1,none⟩) sm];simp[go_sem]
   have t2:u.frozen? ⟨w.heap.size+1,2,none⟩=false:=by rw[j.frozen (p:=⟨w+1,2,none⟩) sm];simp[go_sem]
   have t3:u.frozen? ⟨w.heap.size+1,3,none⟩=false:=by rw[j.frozen (p:=⟨w+1,3,none⟩) sm];simp[go_sem]
   have D:Hid (Below w w u):=hH ((((lf _ _).alloc (lr _) _).alloc sm _).trans (j.mono om));have HS:=hH z;have N:=hH Q;clear n I q U z Q j;go_wp2;rw[Z.out,HR.out];refine bodyPost_ret (v:= .tuple #[.agg #[R.cap,R.next,R.out,.slice a2 R.list.length c2],ok]) (by simp[results,Tryz.results155,Tryz.results114,go_sem,xaa, *]) rfl ⟨_,f2,rfl,?_,?_,(((D.out.setCell sm _).setCell sm _).setCell sm _).setCell sm _⟩
   ·exact(((HS.out.poke N.out om _).poke (N.out.poke _ _) om _).poke ((N.out.poke _ _).poke _ _) om _).poke (((N.out.poke _ _).poke _ _).poke _ _) om _
   ·exact((((N.out.poke _ _).poke _ _).poke _ _).poke _ _).mono om
  ·have Z:=hH (xaV rev M);have M:Zac r=false:=by simpa using M
   go_wp2_with fail
   refine(J.out r _ _ (h.below blw)).mono ?_;rintro e B ⟨rfl,n⟩;rw[M];have s1:=n.size;(try simp at s1)
   obtain⟨q,U⟩:=kab n;have z2:w+1<B.heap.size:=om;have y0:B.cell? ⟨w.heap.size+1,0,none⟩=some (.int .i64 0):=by rw[q _ _ sm];simp[go_sem]
   have y1:B.cell? ⟨w.heap.size+1,1,none⟩=some (.int .i64 0):=by rw[q _ _ sm];simp[go_sem]
   have y2:B.cell? ⟨w.heap.size+1,2,none⟩=some (.bool false):=by rw[q _ _ sm];simp[go_sem]
   have y3:B.cell? ⟨w.heap.size+1,3,none⟩=some (.slice none 0 0):=by rw[q _ _ sm];simp[go_sem]
   have D:Hid (Below w w B):=hH blw;clear n;go_wp2;rw[Z.out];exact bodyPost_ret (v:= .tuple #[.agg #[zI,zI,false,zN],false]) (by simp[results,Tryz.results155,Tryz.results114,go_sem,xaa, *]) rfl ⟨.slice none 0 0,[],rfl,Sl.nil,uaa.nil _ _,(((D.out.setCell sm _).setCell sm _).setCell sm _).setCell sm _⟩
def ZaH:=@kaB 155 (.inl rfl)
def zaH:=@kaB 114 (.inr rfl)
