/- What both packages ask of a ring. -/
import Derived.Test.YtbonkabfmlajnaaGreatQrag
set_option maxHeartbeats 4000000
set_option maxRecDepth 100000
set_option linter.defProp false
set_option linter.unusedSimpArgs false
namespace Go.Proofs.YtbonkabfmlajnaaGreat
open Go.RowKit
def Jad (r:vac):Bool:=within r.cap 1 6&&within r.next 1 1000000000&&decide ((r.list.length:Int)<=r.cap)&&(!r.out||decide (r.list.length=0))
def uac (r:vac):Bool:=Jad r&&r.list.all Jac
theorem Kav {r:vac}(h:Jad r=false):uac r=false:=by simp[uac,h]
theorem XaR {r:vac}(h:r.list.all Jac=false):uac r=false:=by simp[uac,h]
theorem zaB {r:vac}(h:r.list.all Jac=true):uac r=Jad r:=by simp[uac,h]
theorem uad (r:vac)(v:Value)(w:World)(h:RdS w v r.list):Calls Tryz.prog 123 #[.agg #[r.cap,r.next,r.out,v]] w (yae w (.bool (uac r))):=by
 have hl:=fun B ty=>h.len Tryz.underlying34 B ty
 have ba:=h.le;go_enter Tryz.func123,Tryz.ntmps123
 go_wp2;go_loopw [8] (fun i wr=>∃k:Nat,k<=r.list.length/\i= .int .i64 k/\(∀j<k,∀y,r.list[j]? =some y->Jac y=true)/\Below (w+1) (w.alloc (.cells #[r.cap,r.next,r.out,v] 70)) wr) (fun i _=>r.list.length-(intOf i).toNat)
 case atStart=>exact⟨0,lz _,rfl,fun _ h=>absurd h (Nat.not_lt_zero _),lf _ _⟩
 case round=>
  obtain⟨k,hk,rfl,hj,u⟩:=hrel;have HJ:=hH hj;clear hj;have hbw0:Below w w wr:=((lf _ _).alloc (lr _) _).trans (u.mono om);have hsz:w+1<=wr.heap.size:=szl u;by_cases hlt:k<r.list.length
  ·obtain⟨e,hx⟩:=Jaa hlt;obtain⟨b1,o1,cs,g1,g2,g3⟩:=(h.below hbw0).idx Tryz.underlying34 Kab k hx;obtain⟨v_o,rfl,Z⟩:=qag g3;have q0:=g2.zero;have q1:=g2 1 _ rfl;have q2:=g2 2 _ rfl;obtain⟨aa,ca,rfl⟩:=Z.isSlice;have HX:=hH hx;clear hx;by_cases z:Jac e=true
   ·go_wp2_with fail
    refine(Qah e _ _ (Z.below blw)).mono ?_;rintro e' B ⟨rfl,n⟩;rw[z];have HB:Hid (Below (w+1) (w.alloc (.cells #[r.cap,r.next,r.out,v] 70)) B):=hH ((u.trans ((((lf wr wr).alloc (lr _) _).trans (n.mono sm)).mono hsz)));have HO:=hH z;clear z n;go_wp2;go_roundw
    case rel=>exact⟨k+1,by omega,by go_num,qav HX.out HO.out HJ.out,HB.out⟩
    case measure=>simp[intOf];omega
   ·have z:Jac e=false:=by simpa using z
    have HN:Hid (uac r=false):=hH (XaR (JaL HX.out z));go_wp2_with fail
    refine(Qah e _ _ (Z.below blw)).mono ?_;rintro e' B ⟨rfl,n⟩;rw[z];clear z;go_wp2;go_ret;exact⟨jaa HN.out.symm,blw⟩
  ·obtain rfl:k=r.list.length:=om;have HA:Hid (uac r=Jad r):=hH (zaB (jax fun j hj=>HJ.out j hj))
   have zz:w<wr.heap.size:=om;have b0:wr.cell? ⟨w.heap.size,0,none⟩=some (.int .i64 r.cap):=by rw[u.cell (p:=⟨w,0,none⟩) (ls _)];simp
   have b1:wr.cell? ⟨w.heap.size,1,none⟩=some (.int .i64 r.next):=by rw[u.cell (p:=⟨w,1,none⟩) (ls _)];simp
   have b2:wr.cell? ⟨w.heap.size,2,none⟩=some (.bool r.out):=by rw[u.cell (p:=⟨w,2,none⟩) (ls _)];simp
   have b3:wr.cell? ⟨w.heap.size,3,none⟩=some (v):=by rw[u.cell (p:=⟨w,3,none⟩) (ls _)];simp
   clear u;by_cases h1:within r.cap 1 6=true
   rotate_left
   ·have h1:within r.cap 1 6=false:=by simpa using h1
    have D:Hid (Jad r=false):=hH (by simp[Jad,h1])
    go_wp2_with fail
    refine(Zaa _ _ _ _).mono ?_;rintro e B ⟨rfl,n⟩;have M:=n.size;(try simp at M)
    obtain⟨I,J⟩:=jac n;have z1:w<B.heap.size:=om;go_wp2;go_ret;exact⟨jaa (by rw[HA.out,D.out]),blw⟩
   by_cases h2:within r.next 1 1000000000=true
   rotate_left
   ·have h2:within r.next 1 1000000000=false:=by simpa using h2
    have D:Hid (Jad r=false):=hH (by simp[Jad,h2])
    go_wp2_with fail
    refine(Zaa _ _ _ _).mono ?_;rintro e B ⟨rfl,n⟩;have M:=n.size;(try simp at M)
    obtain⟨I,J⟩:=jac n;have z1:w<B.heap.size:=om;go_wp2_with fail
    refine(Zaa _ _ _ _).mono ?_;rintro e U ⟨rfl,q⟩;have R:=q.size;(try simp at R)
    obtain⟨N,Q⟩:=jac q;have z2:w<U.heap.size:=om;go_wp2;go_ret;exact⟨jaa (by rw[HA.out,D.out]),blw⟩
   by_cases Y:(r.list.length:Int)<=r.cap
   rotate_left
   ·have D:Hid (Jad r=false):=hH (by simp[Jad,Y])
    have h3a:decide ((r.list.length:Int)<=r.cap)=false:=by simpa using Y
    have h3b:decide (r.cap<(r.list.length:Int))=true:=by simpa using Y
    have h3c:r.cap<(r.list.length:Int):=om;go_wp2_with fail
    refine(Zaa _ _ _ _).mono ?_;rintro e B ⟨rfl,n⟩;have M:=n.size;(try simp at M)
    obtain⟨I,J⟩:=jac n;have z1:w<B.heap.size:=om;go_wp2_with fail
    refine(Zaa _ _ _ _).mono ?_;rintro e U ⟨rfl,q⟩;have R:=q.size;(try simp at R)
    obtain⟨N,Q⟩:=jac q;have z2:w<U.heap.size:=om;go_wp2;go_ret;exact⟨jaa (by rw[HA.out,D.out]),blw⟩
   have h3a:decide ((r.list.length:Int)<=r.cap)=true:=by simpa using Y
   have h3b:decide (r.cap<(r.list.length:Int))=false:=by simp;omega
   have h3c:¬r.cap<(r.list.length:Int):=om;by_cases h4:r.out=true
   rotate_left
   ·have h4:r.out=false:=by simpa using h4
    have D:Hid (Jad r=true):=hH (by simp[Jad,h1,h2,Y,h4])
    go_wp2_with fail
    refine(Zaa _ _ _ _).mono ?_;rintro e B ⟨rfl,n⟩;have M:=n.size;(try simp at M)
    obtain⟨I,J⟩:=jac n;have z1:w<B.heap.size:=om;go_wp2_with fail
    refine(Zaa _ _ _ _).mono ?_;rintro e U ⟨rfl,q⟩;have R:=q.size;(try simp at R)
    obtain⟨N,Q⟩:=jac q;have z2:w<U.heap.size:=om;go_wp2;go_ret;exact⟨jaa (by rw[HA.out,D.out]),blw⟩
   by_cases h5:r.list.length=0
   rotate_left
   ·have D:Hid (Jad r=false):=hH (by simp only[Jad,h1,h2,Y,h4];simp[h5])
    have h5a:((r.list.length:Int)==0)=false:=by simpa using h5
    have h5b:0<r.list.length:=om;have h5c:decide (0<(r.list.length:Int))=true:=decide_eq_true om;have h5d:decide (0<r.list.length)=true:=decide_eq_true om;clear h5;go_wp2_with fail
    refine(Zaa _ _ _ _).mono ?_;rintro e B ⟨rfl,n⟩;have M:=n.size;(try simp at M)
    obtain⟨I,J⟩:=jac n;have z1:w<B.heap.size:=om;go_wp2_with fail
    refine(Zaa _ _ _ _).mono ?_;rintro e U ⟨rfl,q⟩;have R:=q.size;(try simp at R)
    obtain⟨N,Q⟩:=jac q;have z2:w<U.heap.size:=om;go_wp2;go_ret;exact⟨jaa (by rw[HA.out,D.out]),blw⟩
   have D:Hid (Jad r=true):=hH (by simp only[Jad,h1,h2,Y,h4];simp[h5])
   have h5a:((r.list.length:Int)==0)=true:=by simp only[h5];rfl
   have h5b:¬0<r.list.length:=om;have h5c:decide (0<(r.list.length:Int))=false:=decide_eq_false om;have h5d:decide (0<r.list.length)=false:=decide_eq_false om;clear h5;go_wp2_with fail
   refine(Zaa _ _ _ _).mono ?_;rintro e B ⟨rfl,n⟩;have M:=n.size;(try simp at M)
   obtain⟨I,J⟩:=jac n;have z1:w<B.heap.size:=om;go_wp2_with fail
   refine(Zaa _ _ _ _).mono ?_;rintro e U ⟨rfl,q⟩;have R:=q.size;(try simp at R)
   obtain⟨N,Q⟩:=jac q;have z2:w<U.heap.size:=om;go_wp2;go_ret;exact⟨jaa (by rw[HA.out,D.out]),blw⟩
theorem qad (r:vac)(v:Value)(w:World)(h:RdS w v r.list):Calls Tryz.prog 29 #[.agg #[r.cap,r.next,r.out,v]] w (yae w (.bool (uac r))):=by
 have hl:=fun u ty=>h.len Tryz.underlying34 u ty
 have ba:=h.le;by_cases h1:within r.cap 1 6=true
 rotate_left
 ·have h1:within r.cap 1 6=false:=by simpa using h1
  have B:Hid (Jad r=false):=hH (by simp[Jad,h1])
  go_enter Tryz.func29,Tryz.ntmps29
  go_wp2_with fail
  refine(vaa _ _ _ _).mono ?_;rintro e u ⟨rfl,n⟩;have J:=n.size;(try simp at J)
  obtain⟨D,I⟩:=jac n;have z1:w<u.heap.size:=om;go_wp2;go_ret;exact⟨jaa (Kav B.out).symm,blw⟩
 by_cases h2:within r.next 1 1000000000=true
 rotate_left
 ·have h2:within r.next 1 1000000000=false:=by simpa using h2
  have B:Hid (Jad r=false):=hH (by simp[Jad,h2])
  go_enter Tryz.func29,Tryz.ntmps29
  go_wp2_with fail
  refine(vaa _ _ _ _).mono ?_;rintro e u ⟨rfl,n⟩;have J:=n.size;(try simp at J)
  obtain⟨D,I⟩:=jac n;have z1:w<u.heap.size:=om;go_wp2_with fail
  refine(vaa _ _ _ _).mono ?_;rintro e R ⟨rfl,p⟩;have Q:=p.size;(try simp at Q)
  obtain⟨M,N⟩:=jac p;have z2:w<R.heap.size:=om;go_wp2;go_ret;exact⟨jaa (Kav B.out).symm,blw⟩
 by_cases Y:(r.list.length:Int)<=r.cap
 rotate_left
 ·have B:Hid (Jad r=false):=hH (by simp[Jad,Y])
  have h3a:decide ((r.list.length:Int)<=r.cap)=false:=by simpa using Y
  have h3b:decide (r.cap<(r.list.length:Int))=true:=by simpa using Y
  have h3c:r.cap<(r.list.length:Int):=om;go_enter Tryz.func29,Tryz.ntmps29
  go_wp2_with fail
  refine(vaa _ _ _ _).mono ?_;rintro e u ⟨rfl,n⟩;have J:=n.size;(try simp at J)
  obtain⟨D,I⟩:=jac n;have z1:w<u.heap.size:=om;go_wp2_with fail
  refine(vaa _ _ _ _).mono ?_;rintro e R ⟨rfl,p⟩;have Q:=p.size;(try simp at Q)
  obtain⟨M,N⟩:=jac p;have z2:w<R.heap.size:=om;go_wp2;go_ret;exact⟨jaa (Kav B.out).symm,blw⟩
 have h3a:decide ((r.list.length:Int)<=r.cap)=true:=by simpa using Y
 have h3b:decide (r.cap<(r.list.length:Int))=false:=by simp;omega
 have h3c:¬r.cap<(r.list.length:Int):=om;by_cases h4:r.out=true
 rotate_left
 ·have h4:r.out=false:=by simpa using h4
  have B:Hid (Jad r=true):=hH (by simp[Jad,h1,h2,Y,h4])
  go_enter Tryz.func29,Tryz.ntmps29
  go_wp2_with fail
  refine(vaa _ _ _ _).mono ?_;rintro e u ⟨rfl,n⟩;have J:=n.size;(try simp at J)
  obtain⟨D,I⟩:=jac n;have z1:w<u.heap.size:=om;go_wp2_with fail
  refine(vaa _ _ _ _).mono ?_;rintro e R ⟨rfl,p⟩;have Q:=p.size;(try simp at Q)
  obtain⟨M,N⟩:=jac p;have z2:w<R.heap.size:=om;go_wp2;go_loopw [36] (fun i wr=>∃k:Nat,k<=r.list.length/\i= .int .i64 k/\(∀j<k,∀y,r.list[j]? =some y->Jac y=true)/\Below w w wr) (fun i _=>r.list.length-(intOf i).toNat)
  case atStart=>exact⟨0,lz _,rfl,fun _ h=>absurd h (Nat.not_lt_zero _),blw⟩
  case round=>
   obtain⟨k,hk,rfl,Z,z⟩:=hrel;have HJ:=hH Z;clear Z;have U:Below w w wr:=z;have hsz:w<=wr.heap.size:=szl z;by_cases hlt:k<r.list.length
   ·obtain⟨e,hx⟩:=Jaa hlt;obtain⟨b1,o1,cs,g1,g2,g3⟩:=(h.below U).idx Tryz.underlying34 Kab k hx;obtain⟨v_o,rfl,a0⟩:=qag g3;have q0:=g2.zero;have q1:=g2 1 _ rfl;have q2:=g2 2 _ rfl;obtain⟨aa,ca,rfl⟩:=a0.isSlice;have HX:=hH hx;clear hx;by_cases q:Jac e=true
    ·go_wp2_with fail
     refine(vah e _ _ (a0.below blw)).mono ?_;rintro e' u ⟨rfl,n⟩;rw[q];have HB:Hid (Below w w u):=hH blw;have HO:=hH q;clear q n;go_wp2;go_roundw
     case rel=>exact⟨k+1,by omega,by go_num,qav HX.out HO.out HJ.out,HB.out⟩
     case measure=>simp[intOf];omega
    ·have q:Jac e=false:=by simpa using q
     have HN:Hid (uac r=false):=hH (XaR (JaL HX.out q));go_wp2_with fail
     refine(vah e _ _ (a0.below blw)).mono ?_;rintro e' u ⟨rfl,n⟩;rw[q];clear q;go_wp2;go_ret;exact⟨jaa HN.out.symm,blw⟩
   ·have HA:Hid (uac r=true):=hH ((zaB (jax fun j Z=>HJ.out j om)).trans B.out)
    go_wp2;go_ret;exact⟨jaa HA.out.symm,z⟩
 by_cases h5:r.list.length=0
 rotate_left
 ·have B:Hid (Jad r=false):=hH (by simp only[Jad,h1,h2,Y,h4];simp[h5])
  have h5a:((r.list.length:Int)==0)=false:=by simpa using h5
  have h5b:0<r.list.length:=om;have h5c:decide (0<(r.list.length:Int))=true:=decide_eq_true om;have h5d:decide (0<r.list.length)=true:=decide_eq_true om;clear h5;go_enter Tryz.func29,Tryz.ntmps29
  go_wp2_with fail
  refine(vaa _ _ _ _).mono ?_;rintro e u ⟨rfl,n⟩;have J:=n.size;(try simp at J)
  obtain⟨D,I⟩:=jac n;have z1:w<u.heap.size:=om;go_wp2_with fail
  refine(vaa _ _ _ _).mono ?_;rintro e R ⟨rfl,p⟩;have Q:=p.size;(try simp at Q)
  obtain⟨M,N⟩:=jac p;have z2:w<R.heap.size:=om;go_wp2;go_ret;exact⟨jaa (Kav B.out).symm,blw⟩
 have B:Hid (Jad r=true):=hH (by simp only[Jad,h1,h2,Y,h4];simp[h5])
 have h5a:((r.list.length:Int)==0)=true:=by simp only[h5];rfl
 have h5b:¬0<r.list.length:=om;have h5c:decide (0<(r.list.length:Int))=false:=decide_eq_false om;have h5d:decide (0<r.list.length)=false:=decide_eq_false om;clear h5;go_enter Tryz.func29,Tryz.ntmps29
 go_wp2_with fail
 refine(vaa _ _ _ _).mono ?_;rintro e u ⟨rfl,n⟩;have J:=n.size;(try simp at J)
 obtain⟨D,I⟩:=jac n;have z1:w<u.heap.size:=om;go_wp2_with fail
 refine(vaa _ _ _ _).mono ?_;rintro e R ⟨rfl,p⟩;have Q:=p.size;(try simp at Q)
 obtain⟨M,N⟩:=jac p;have z2:w<R.heap.size:=om;go_wp2;go_loopw [36] (fun i wr=>∃k:Nat,k<=r.list.length/\i= .int .i64 k/\(∀j<k,∀y,r.list[j]? =some y->Jac y=true)/\Below w w wr) (fun i _=>r.list.length-(intOf i).toNat)
 case atStart=>exact⟨0,lz _,rfl,fun _ h=>absurd h (Nat.not_lt_zero _),blw⟩
 case round=>
  obtain⟨k,hk,rfl,Z,z⟩:=hrel;have HJ:=hH Z;clear Z;have U:Below w w wr:=z;have hsz:w<=wr.heap.size:=szl z;by_cases hlt:k<r.list.length
  ·exfalso;omega
  ·have HA:Hid (uac r=true):=hH ((zaB (jax fun j Z=>HJ.out j om)).trans B.out)
   go_wp2;go_ret;exact⟨jaa HA.out.symm,z⟩
end Go.Proofs.YtbonkabfmlajnaaGreat
namespace Go.Proofs.YtbonkabfmlajnaaGreat
open Go.RowKit
def kbe:vac:=⟨0,0,false,[]⟩
def zaq (room rev:Int):vac×Bool:=if rev<=1000000000/\uac ⟨room,rev+1,false,[]⟩=true then(⟨room,rev+1,false,[]⟩,true)else(kbe,false)
theorem KaA {room rev:Int}(j:rev<=1000000000)(n:uac ⟨room,rev+1,false,[]⟩=true):zaq room rev=(⟨room,rev+1,false,[]⟩,true):=if_pos ⟨j,n⟩
theorem KaE {room rev:Int}(h:¬(rev<=1000000000/\uac ⟨room,rev+1,false,[]⟩=true)):zaq room rev=(kbe,false):=if_neg h
theorem kaj {r:vac}(h:uac r=true):1<=r.next/\r.next<=1000000000/\1<=r.cap/\r.cap<=6:=by
 simp only[uac,Jad,Bool.and_eq_true,within_iff]at h;omega
theorem Xbc {n:Int}(j: -9223372036854775808<=n)(p:n<=9223372036854775807):∃m,IntKind.i64.wrap (n+1)=m/\((n<=9223372036854775806/\m=n+1)\/(n=9223372036854775807/\m= -9223372036854775808)):=by
 refine⟨_,rfl,?_⟩;by_cases h:n<=9223372036854775806
 ·exact .inl ⟨h,IntWalk.i64_in _ om⟩
 ·have:n=9223372036854775807:=om;subst this;exact .inr ⟨rfl,rfl⟩
theorem uaz (room rev:Int)(w:World)(Y: -9223372036854775808<=rev)(_b2:rev<=9223372036854775807):
 Calls Tryz.prog 128 #[room,rev] w (zau w (zaq room rev).1 (zaq room rev).2):=by
 by_cases B:rev<=1000000000
 rotate_left
 ·have z:=hH (KaE (room:=room) (rev:=rev) fun h=>B h.1)
  have D:1000000000<rev:=om;have I:decide (1000000000<rev)=true:=by simp;omega
  clear B;go_enter Tryz.func128,Tryz.ntmps128
  go_wp2;rw[z.out];exact bodyPost_ret (v:= .tuple #[.agg #[zI,zI,false,zN],false]) (by simp[results,Tryz.results128,go_sem]) rfl ⟨.slice none 0 0,[],rfl,Sl.nil,Qaa.nil _ _,blw⟩
 have D:¬1000000000<rev:=om;have I:decide (1000000000<rev)=false:=by simp;omega
 by_cases u:uac ⟨room,rev+1,false,[]⟩=true
 ·have z:=hH (KaA B u);go_enter Tryz.func128,Tryz.ntmps128
  go_wp2_with fail
  refine(uad ⟨room,rev+1,false,[]⟩ _ _ RdS.nil).mono ?_;rintro e p ⟨rfl,n⟩;rw[u];have M:=n.size;(try simp at M)
  obtain⟨j,J⟩:=jac n;have U:w<p.heap.size:=om;have Z:w+1<p.heap.size:=om;have y0:p.cell? ⟨w.heap.size,0,none⟩=some (.int .i64 0):=by rw[j _ _ (by simp;try omega)];simp[go_sem]
  have N:p.cell? ⟨w.heap.size,1,none⟩=some (.int .i64 0):=by rw[j _ _ (by simp;try omega)];simp[go_sem]
  have Q:p.cell? ⟨w.heap.size,2,none⟩=some (.bool false):=by rw[j _ _ (by simp;try omega)];simp[go_sem]
  have R:p.cell? ⟨w.heap.size,3,none⟩=some (.slice none 0 0):=by rw[j _ _ (by simp;try omega)];simp[go_sem]
  have q:Hid (Below w w p):=hH blw;clear n;go_wp2;rw[z.out];exact bodyPost_ret (v:= .tuple #[.agg #[room,.int .i64 (rev+1),false,zN],true]) (by simp[results,Tryz.results128,go_sem,xaa, *]) rfl ⟨.slice none 0 0,[],rfl,Sl.nil,Qaa.nil _ _,(((q.out.setCell sm _).setCell sm _).setCell sm _).setCell sm _⟩
 ·have z:=hH (KaE (room:=room) (rev:=rev) fun h=>u h.2)
  have u:uac ⟨room,rev+1,false,[]⟩=false:=by simpa using u
  go_enter Tryz.func128,Tryz.ntmps128
  go_wp2_with fail
  refine(uad ⟨room,rev+1,false,[]⟩ _ _ RdS.nil).mono ?_;rintro e p ⟨rfl,n⟩;rw[u];have M:=n.size;(try simp at M)
  obtain⟨j,J⟩:=jac n;have U:w<p.heap.size:=om;have y0:p.cell? ⟨w.heap.size,0,none⟩=some (.int .i64 0):=by rw[j _ _ (by simp;try omega)];simp[go_sem]
  have N:p.cell? ⟨w.heap.size,1,none⟩=some (.int .i64 0):=by rw[j _ _ (by simp;try omega)];simp[go_sem]
  have Q:p.cell? ⟨w.heap.size,2,none⟩=some (.bool false):=by rw[j _ _ (by simp;try omega)];simp[go_sem]
  have R:p.cell? ⟨w.heap.size,3,none⟩=some (.slice none 0 0):=by rw[j _ _ (by simp;try omega)];simp[go_sem]
  have q:Hid (Below w w p):=hH blw;clear n;go_wp2;rw[z.out];exact bodyPost_ret (v:= .tuple #[.agg #[zI,zI,false,zN],false]) (by simp[results,Tryz.results128,go_sem,xaa, *]) rfl ⟨.slice none 0 0,[],rfl,Sl.nil,Qaa.nil _ _,(((q.out.setCell sm _).setCell sm _).setCell sm _).setCell sm _⟩
theorem zaA (room rev:Int)(w:World)(I: -9223372036854775808<=rev)(J:rev<=9223372036854775807):
 Calls Tryz.prog 47 #[room,rev] w (zau w (zaq room rev).1 (zaq room rev).2):=by
 obtain⟨m,hm,q⟩:=Xbc I J;have B:uac ⟨room,m,false,[]⟩=true->m=rev+1/\rev<=1000000000:=fun h=>by
  have:=kaj h;simp only at this;omega
 by_cases u:uac ⟨room,m,false,[]⟩=true
 ·have U:=hH (B u);have D:Hid (zaq room rev=(⟨room,m,false,[]⟩,true)):=hH (by obtain⟨R,M⟩:=U.out;rw[R]at u⊢;exact KaA M u)
  clear B q I J;go_enter Tryz.func47,Tryz.ntmps47
  go_wp2_with fail
  refine(qad ⟨room,m,false,[]⟩ _ _ RdS.nil).mono ?_;rintro e p ⟨rfl,n⟩;rw[u];have Q:=n.size;(try simp at Q)
  obtain⟨j,N⟩:=jac n;have z1:w<p.heap.size:=om;have z2:w+1<p.heap.size:=om;have y0:p.cell? ⟨w.heap.size,0,none⟩=some (.int .i64 0):=by rw[j _ _ (by simp;try omega)];simp[go_sem]
  have Y:p.cell? ⟨w.heap.size,1,none⟩=some (.int .i64 0):=by rw[j _ _ (by simp;try omega)];simp[go_sem]
  have Z:p.cell? ⟨w.heap.size,2,none⟩=some (.bool false):=by rw[j _ _ (by simp;try omega)];simp[go_sem]
  have y3:p.cell? ⟨w.heap.size,3,none⟩=some (.slice none 0 0):=by rw[j _ _ (by simp;try omega)];simp[go_sem]
  have z:Hid (Below w w p):=hH blw;clear n;go_wp2;rw[D.out];exact bodyPost_ret (v:= .tuple #[.agg #[room,m,false,zN],true]) (by simp[results,Tryz.results47,go_sem,xaa, *]) rfl ⟨.slice none 0 0,[],rfl,Sl.nil,Qaa.nil _ _,(((z.out.setCell sm _).setCell sm _).setCell sm _).setCell sm _⟩
 ·have D:=hH (KaE (room:=room) (rev:=rev) fun h=>u (by
   obtain⟨R,M⟩:=h;have:m=rev+1:=om;rw[this];exact M))
  have u:uac ⟨room,m,false,[]⟩=false:=by simpa using u
  clear B q I J;go_enter Tryz.func47,Tryz.ntmps47
  go_wp2_with fail
  refine(qad ⟨room,m,false,[]⟩ _ _ RdS.nil).mono ?_;rintro e p ⟨rfl,n⟩;rw[u];have Q:=n.size;(try simp at Q)
  obtain⟨j,N⟩:=jac n;have z1:w<p.heap.size:=om;have y0:p.cell? ⟨w.heap.size,0,none⟩=some (.int .i64 0):=by rw[j _ _ (by simp;try omega)];simp[go_sem]
  have Y:p.cell? ⟨w.heap.size,1,none⟩=some (.int .i64 0):=by rw[j _ _ (by simp;try omega)];simp[go_sem]
  have Z:p.cell? ⟨w.heap.size,2,none⟩=some (.bool false):=by rw[j _ _ (by simp;try omega)];simp[go_sem]
  have y3:p.cell? ⟨w.heap.size,3,none⟩=some (.slice none 0 0):=by rw[j _ _ (by simp;try omega)];simp[go_sem]
  have z:Hid (Below w w p):=hH blw;clear n;go_wp2;rw[D.out];exact bodyPost_ret (v:= .tuple #[.agg #[zI,zI,false,zN],false]) (by simp[results,Tryz.results47,go_sem,xaa, *]) rfl ⟨.slice none 0 0,[],rfl,Sl.nil,Qaa.nil _ _,(((z.out.setCell sm _).setCell sm _).setCell sm _).setCell sm _⟩
def yar (r:vac)(rev:Int):vac×Bool:=if uac r=true then zaq r.cap rev else(kbe,false)
theorem Qaz {r:vac}(rev:Int)(h:uac r=true):yar r rev=zaq r.cap rev:=if_pos h
theorem xaU {r:vac}(rev:Int)(h:¬uac r=true):yar r rev=(kbe,false):=if_neg h
theorem Qaa.poke {B:Nat}{w:World}{f:List Pos}(h:Qaa B w f)(a:Addr)(u:Value):Qaa B (w.setCell a u) f:=h.put a u
theorem Sl.poke {α:Type}[GoT α]{M B:Nat}{w:World}{v:Value}{l:List α}{f:List Pos}(h:Sl M w v l f)(j:Qaa B w f){b o:Nat}(hb:b<B)(u:Value):Sl M (w.setCell ⟨b,o,none⟩ u) v l f:=by
 refine h.keep fun p n=> ?_
 rw[xaa,if_neg];rintro⟨e,_⟩;have:=j.ge p n;omega
theorem kaz {N_:Nat}(h_:N_=131\/N_=50)(r:vac)(rev:Int)(v:Value)(w:World)(b1: -9223372036854775808<=rev)(b2:rev<=9223372036854775807)(h:RdS w v r.list):
 Calls Tryz.prog N_ #[.agg #[r.cap,r.next,r.out,v],rev] w (zau w (yar r rev).1 (yar r rev).2):=by
 rcases h_ with rfl|rfl
 have J:=hH @uad;have Y:=hH @uaz;go_enter Tryz.func131,Tryz.ntmps131;rotate_left;have J:=hH @qad;have Y:=hH @zaA;go_enter Tryz.func50,Tryz.ntmps50;all_goals
  by_cases M:uac r=true
  ·have Z:=hH (Qaz rev M);obtain⟨R,ok,hR⟩:∃R ok,zaq r.cap rev=(R,ok):=⟨_,_,rfl⟩;have HR:=hH hR;go_wp2_with fail
   refine(J.out r _ _ (h.below blw)).mono ?_;rintro e B ⟨rfl,n⟩;rw[M];have s1:=n.size;(try simp at s1)
   obtain⟨q,U⟩:=jac n;have z1:w<B.heap.size:=om;have z2:w+1<B.heap.size:=om;clear hR;go_wp2_with fail
   refine(Y.out r.cap rev _ b1 b2).mono ?_;rw[HR.out];rintro e u ⟨v2,f2,rfl,z,Q,I⟩;simp only at z;obtain⟨a2,c2,rfl⟩:=RdS.isSlice ⟨_,z⟩;have s2:=I.size;have j:Below (w+2) ((w.alloc (.cells #[r.cap,r.next,r.out,v] 70)).alloc (.cells #[zI,zI,false,zN] 70)) u:=(n.mono sm).trans (I.mono om);have y0:u.cell? ⟨w.heap.size+1,0,none⟩=some (.int .i64 0):=by rw[j.cell (p:=⟨w+1,0,none⟩) sm];simp[go_sem]
   have y1:u.cell? ⟨w.heap.size+1,1,none⟩=some (.int .i64 0):=by rw[j.cell (p:=⟨w+1,1,none⟩) sm];simp[go_sem]
   have y2:u.cell? ⟨w.heap.size+1,2,none⟩=some (.bool false):=by rw[j.cell (p:=⟨w+1,2,none⟩) sm];simp[go_sem]
   have y3:u.cell? ⟨w.heap.size+1,3,none⟩=some (.slice none 0 0):=by rw[j.cell (p:=⟨w+1,3,none⟩) sm];simp[go_sem]
   have t0:u.frozen? ⟨w.heap.size+1,0,none⟩=false:=by rw[j.frozen (p:=⟨w+1,0,none⟩) sm];simp[go_sem]
   have t1:u.frozen? ⟨w.heap.size+1,1,none⟩=false:=by rw[j.frozen (p:=⟨w+1,1,none⟩) sm];simp[go_sem]
   have t2:u.frozen? ⟨w.heap.size+1,2,none⟩=false:=by rw[j.frozen (p:=⟨w+1,2,none⟩) sm];simp[go_sem]
   have t3:u.frozen? ⟨w.heap.size+1,3,none⟩=false:=by rw[j.frozen (p:=⟨w+1,3,none⟩) sm];simp[go_sem]
   have D:Hid (Below w w u):=hH ((((lf _ _).alloc (lr _) _).alloc sm _).trans (j.mono om));have HS:=hH z;have N:=hH Q;clear n I q U z Q j;go_wp2;rw[Z.out,HR.out];refine bodyPost_ret (v:= .tuple #[.agg #[R.cap,R.next,R.out,.slice a2 R.list.length c2],ok]) (by simp[results,Tryz.results131,Tryz.results50,go_sem,xaa, *]) rfl ⟨_,f2,rfl,?_,?_,(((D.out.setCell sm _).setCell sm _).setCell sm _).setCell sm _⟩
   ·exact(((HS.out.poke N.out om _).poke (N.out.poke _ _) om _).poke ((N.out.poke _ _).poke _ _) om _).poke (((N.out.poke _ _).poke _ _).poke _ _) om _
   ·exact((((N.out.poke _ _).poke _ _).poke _ _).poke _ _).mono om
  ·have Z:=hH (xaU rev M);have M:uac r=false:=by simpa using M
   go_wp2_with fail
   refine(J.out r _ _ (h.below blw)).mono ?_;rintro e B ⟨rfl,n⟩;rw[M];have s1:=n.size;(try simp at s1)
   obtain⟨q,U⟩:=jac n;have z2:w+1<B.heap.size:=om;have y0:B.cell? ⟨w.heap.size+1,0,none⟩=some (.int .i64 0):=by rw[q _ _ sm];simp[go_sem]
   have y1:B.cell? ⟨w.heap.size+1,1,none⟩=some (.int .i64 0):=by rw[q _ _ sm];simp[go_sem]
   have y2:B.cell? ⟨w.heap.size+1,2,none⟩=some (.bool false):=by rw[q _ _ sm];simp[go_sem]
   have y3:B.cell? ⟨w.heap.size+1,3,none⟩=some (.slice none 0 0):=by rw[q _ _ sm];simp[go_sem]
   have D:Hid (Below w w B):=hH blw;clear n;go_wp2;rw[Z.out];exact bodyPost_ret (v:= .tuple #[.agg #[zI,zI,false,zN],false]) (by simp[results,Tryz.results131,Tryz.results50,go_sem,xaa, *]) rfl ⟨.slice none 0 0,[],rfl,Sl.nil,Qaa.nil _ _,(((D.out.setCell sm _).setCell sm _).setCell sm _).setCell sm _⟩
def QaF:=@kaz 131 (.inl rfl)
def jaE:=@kaz 50 (.inr rfl)
