/- What both packages ask of a ring. -/
import Derived.Test.YtocdogemgojgaaaGreatRag
set_option maxHeartbeats 4000000
set_option maxRecDepth 100000
namespace Go.Proofs.YtocdogemgojgaaaGreat
open Go.RowKit
def vae (r:kac):Bool:=within r.cap 1 6&&within r.next 1 1000000000&&decide ((r.list.length:Int)<=r.cap)&&(!r.out||decide (r.list.length=0))
def Zac (r:kac):Bool:=vae r&&r.list.all Kac
theorem kaw {r:kac}(h:vae r=false):Zac r=false:=by simp[Zac,h]
theorem KaR {r:kac}(h:r.list.all Kac=false):Zac r=false:=by simp[Zac,h]
theorem kaC {r:kac}(h:r.list.all Kac=true):Zac r=vae r:=by simp[Zac,h]
theorem vad (r:kac)(v:Value)(w:World)(h:RdS w v r.list):Calls Tryz.prog 146 #[.agg #[r.cap,r.next,r.out,v]] w (uac w (.bool (Zac r))):=by
 have hl:=fun B ty=>h.len Tryz.underlying34 B ty
 have ba:=h.le;go_enter Tryz.func146,Tryz.ntmps146
 go_wp2;go_loopw [8] (fun i wr=>∃k:Nat,k<=r.list.length/\i= .int .i64 k/\(∀j<k,∀y,r.list[j]? =some y->Kac y=true)/\Below (w+1) (w.alloc (.cells #[r.cap,r.next,r.out,v] 102)) wr) (fun i _=>r.list.length-(intOf i).toNat)
 case atStart=>exact⟨0,lz _,rfl,fun _ h=>absurd h (Nat.not_lt_zero _),lf _ _⟩
 case round=>
  obtain⟨k,hk,rfl,hj,u⟩:=hrel;have HJ:=hH hj;clear hj;have hbw0:Below w w wr:=((lf _ _).alloc (lr _) _).trans (u.mono om);have hsz:w+1<=wr.heap.size:=szl u;by_cases hlt:k<r.list.length
  ·obtain⟨e,hx⟩:=jaa hlt;obtain⟨b1,o1,cs,g1,g2,g3⟩:=(h.below hbw0).idx Tryz.underlying34 yac k hx;obtain⟨v_o,rfl,Z⟩:=Zaf g3;have q0:=g2.zero;have q1:=g2 1 _ rfl;have q2:=g2 2 _ rfl;obtain⟨aa,ca,rfl⟩:=Z.isSlice;have HX:=hH hx;clear hx;by_cases z:Kac e=true
   ·go_wp2_with fail
    refine(Kah e _ _ (Z.below blw)).mono ?_;rintro e' B ⟨rfl,n⟩;rw[z];have HB:Hid (Below (w+1) (w.alloc (.cells #[r.cap,r.next,r.out,v] 102)) B):=hH ((u.trans ((((lf wr wr).alloc (lr _) _).trans (n.mono sm)).mono hsz)));have HO:=hH z;clear z n;go_wp2;go_roundw
    case rel=>exact⟨k+1,by omega,by go_num,Kav HX.out HO.out HJ.out,HB.out⟩
    case measure=>simp[intOf];omega
   ·have z:Kac e=false:=by simpa using z
    have HN:Hid (Zac r=false):=hH (KaR (KaM HX.out z));go_wp2_with fail
    refine(Kah e _ _ (Z.below blw)).mono ?_;rintro e' B ⟨rfl,n⟩;rw[z];clear z;go_wp2;go_ret;exact⟨qaa HN.out.symm,blw⟩
  ·obtain rfl:k=r.list.length:=om;have HA:Hid (Zac r=vae r):=hH (kaC (Qay fun j hj=>HJ.out j hj))
   have zz:w<wr.heap.size:=om;have b0:wr.cell? ⟨w.heap.size,0,none⟩=some (.int .i64 r.cap):=by rw[u.cell (p:=⟨w,0,none⟩) (ls _)];simp
   have b1:wr.cell? ⟨w.heap.size,1,none⟩=some (.int .i64 r.next):=by rw[u.cell (p:=⟨w,1,none⟩) (ls _)];simp
   have b2:wr.cell? ⟨w.heap.size,2,none⟩=some (.bool r.out):=by rw[u.cell (p:=⟨w,2,none⟩) (ls _)];simp
   have b3:wr.cell? ⟨w.heap.size,3,none⟩=some (v):=by rw[u.cell (p:=⟨w,3,none⟩) (ls _)];simp
   clear u;by_cases h1:within r.cap 1 6=true
   rotate_left
   ·have h1:within r.cap 1 6=false:=by simpa using h1
    have D:Hid (vae r=false):=hH (by simp[vae,h1])
    go_wp2_with fail
    refine(Kaa _ _ _ _).mono ?_;rintro e B ⟨rfl,n⟩;have M:=n.size;(try simp at M)
    obtain⟨I,J⟩:=kab n;have z1:w<B.heap.size:=om;go_wp2;go_ret;exact⟨qaa (by rw[HA.out,D.out]),blw⟩
   by_cases h2:within r.next 1 1000000000=true
   rotate_left
   ·have h2:within r.next 1 1000000000=false:=by simpa using h2
    have D:Hid (vae r=false):=hH (by simp[vae,h2])
    go_wp2_with fail
    refine(Kaa _ _ _ _).mono ?_;rintro e B ⟨rfl,n⟩;have M:=n.size;(try simp at M)
    obtain⟨I,J⟩:=kab n;have z1:w<B.heap.size:=om;go_wp2_with fail
    refine(Kaa _ _ _ _).mono ?_;rintro e U ⟨rfl,q⟩;have R:=q.size;(try simp at R)
    obtain⟨N,Q⟩:=kab q;have z2:w<U.heap.size:=om;go_wp2;go_ret;exact⟨qaa (by rw[HA.out,D.out]),blw⟩
   by_cases Y:(r.list.length:Int)<=r.cap
   rotate_left
   ·have D:Hid (vae r=false):=hH (by simp[vae,Y])
    have h3a:decide ((r.list.length:Int)<=r.cap)=false:=by simpa using Y
    have h3b:decide (r.cap<(r.list.length:Int))=true:=by simpa using Y
    have h3c:r.cap<(r.list.length:Int):=om;go_wp2_with fail
    refine(Kaa _ _ _ _).mono ?_;rintro e B ⟨rfl,n⟩;have M:=n.size;(try simp at M)
    obtain⟨I,J⟩:=kab n;have z1:w<B.heap.size:=om;go_wp2_with fail
    refine(Kaa _ _ _ _).mono ?_;rintro e U ⟨rfl,q⟩;have R:=q.size;(try simp at R)
    obtain⟨N,Q⟩:=kab q;have z2:w<U.heap.size:=om;go_wp2;go_ret;exact⟨qaa (by rw[HA.out,D.out]),blw⟩
   have h3a:decide ((r.list.length:Int)<=r.cap)=true:=by simpa using Y
   have h3b:decide (r.cap<(r.list.length:Int))=false:=by simp;omega
   have h3c:¬r.cap<(r.list.length:Int):=om;by_cases h4:r.out=true
   rotate_left
   ·have h4:r.out=false:=by simpa using h4
    have D:Hid (vae r=true):=hH (by simp[vae,h1,h2,Y,h4])
    go_wp2_with fail
    refine(Kaa _ _ _ _).mono ?_;rintro e B ⟨rfl,n⟩;have M:=n.size;(try simp at M)
    obtain⟨I,J⟩:=kab n;have z1:w<B.heap.size:=om;go_wp2_with fail
    refine(Kaa _ _ _ _).mono ?_;rintro e U ⟨rfl,q⟩;have R:=q.size;(try simp at R)
    obtain⟨N,Q⟩:=kab q;have z2:w<U.heap.size:=om;go_wp2;go_ret;exact⟨qaa (by rw[HA.out,D.out]),blw⟩
   by_cases h5:r.list.length=0
   rotate_left
   ·have D:Hid (vae r=false):=hH (by simp only[vae,h1,h2,Y,h4];simp[h5])
    have h5a:((r.list.length:Int)==0)=false:=by simpa using h5
    have h5b:0<r.list.length:=om;have h5c:decide (0<(r.list.length:Int))=true:=decide_eq_true om;have h5d:decide (0<r.list.length)=true:=decide_eq_true om;clear h5;go_wp2_with fail
    refine(Kaa _ _ _ _).mono ?_;rintro e B ⟨rfl,n⟩;have M:=n.size;(try simp at M)
    obtain⟨I,J⟩:=kab n;have z1:w<B.heap.size:=om;go_wp2_with fail
    refine(Kaa _ _ _ _).mono ?_;rintro e U ⟨rfl,q⟩;have R:=q.size;(try simp at R)
    obtain⟨N,Q⟩:=kab q;have z2:w<U.heap.size:=om;go_wp2;go_ret;exact⟨qaa (by rw[HA.out,D.out]),blw⟩
   have D:Hid (vae r=true):=hH (by simp only[vae,h1,h2,Y,h4];simp[h5])
   have h5a:((r.list.length:Int)==0)=true:=by simp only[h5];rfl
   have h5b:¬0<r.list.length:=om;have h5c:decide (0<(r.list.length:Int))=false:=decide_eq_false om;have h5d:decide (0<r.list.length)=false:=decide_eq_false om;clear h5;go_wp2_with fail
   refine(Kaa _ _ _ _).mono ?_;rintro e B ⟨rfl,n⟩;have M:=n.size;(try simp at M)
   obtain⟨I,J⟩:=kab n;have z1:w<B.heap.size:=om;go_wp2_with fail
   refine(Kaa _ _ _ _).mono ?_;rintro e U ⟨rfl,q⟩;have R:=q.size;(try simp at R)
   obtain⟨N,Q⟩:=kab q;have z2:w<U.heap.size:=om;go_wp2;go_ret;exact⟨qaa (by rw[HA.out,D.out]),blw⟩
theorem yad (r:kac)(v:Value)(w:World)(h:RdS w v r.list):Calls Tryz.prog 59 #[.agg #[r.cap,r.next,r.out,v]] w (uac w (.bool (Zac r))):=by
 have hl:=fun u ty=>h.len Tryz.underlying34 u ty
 have ba:=h.le;by_cases h1:within r.cap 1 6=true
 rotate_left
 ·have h1:within r.cap 1 6=false:=by simpa using h1
  have B:Hid (vae r=false):=hH (by simp[vae,h1])
  go_enter Tryz.func59,Tryz.ntmps59
  go_wp2_with fail
  refine(Qaa _ _ _ _).mono ?_;rintro e u ⟨rfl,n⟩;have J:=n.size;(try simp at J)
  obtain⟨D,I⟩:=kab n;have z1:w<u.heap.size:=om;go_wp2;go_ret;exact⟨qaa (kaw B.out).symm,blw⟩
 by_cases h2:within r.next 1 1000000000=true
 rotate_left
 ·have h2:within r.next 1 1000000000=false:=by simpa using h2
  have B:Hid (vae r=false):=hH (by simp[vae,h2])
  go_enter Tryz.func59,Tryz.ntmps59
  go_wp2_with fail
  refine(Qaa _ _ _ _).mono ?_;rintro e u ⟨rfl,n⟩;have J:=n.size;(try simp at J)
  obtain⟨D,I⟩:=kab n;have z1:w<u.heap.size:=om;go_wp2_with fail
  refine(Qaa _ _ _ _).mono ?_;rintro e R ⟨rfl,p⟩;have Q:=p.size;(try simp at Q)
  obtain⟨M,N⟩:=kab p;have z2:w<R.heap.size:=om;go_wp2;go_ret;exact⟨qaa (kaw B.out).symm,blw⟩
 by_cases Y:(r.list.length:Int)<=r.cap
 rotate_left
 ·have B:Hid (vae r=false):=hH (by simp[vae,Y])
  have h3a:decide ((r.list.length:Int)<=r.cap)=false:=by simpa using Y
  have h3b:decide (r.cap<(r.list.length:Int))=true:=by simpa using Y
  have h3c:r.cap<(r.list.length:Int):=om;go_enter Tryz.func59,Tryz.ntmps59
  go_wp2_with fail
  refine(Qaa _ _ _ _).mono ?_;rintro e u ⟨rfl,n⟩;have J:=n.size;(try simp at J)
  obtain⟨D,I⟩:=kab n;have z1:w<u.heap.size:=om;go_wp2_with fail
  refine(Qaa _ _ _ _).mono ?_;rintro e R ⟨rfl,p⟩;have Q:=p.size;(try simp at Q)
  obtain⟨M,N⟩:=kab p;have z2:w<R.heap.size:=om;go_wp2;go_ret;exact⟨qaa (kaw B.out).symm,blw⟩
 have h3a:decide ((r.list.length:Int)<=r.cap)=true:=by simpa using Y
 have h3b:decide (r.cap<(r.list.length:Int))=false:=by simp;omega
 have h3c:¬r.cap<(r.list.length:Int):=om;by_cases h4:r.out=true
 rotate_left
 ·have h4:r.out=false:=by simpa using h4
  have B:Hid (vae r=true):=hH (by simp[vae,h1,h2,Y,h4])
  go_enter Tryz.func59,Tryz.ntmps59
  go_wp2_with fail
  refine(Qaa _ _ _ _).mono ?_;rintro e u ⟨rfl,n⟩;have J:=n.size;(try simp at J)
  obtain⟨D,I⟩:=kab n;have z1:w<u.heap.size:=om;go_wp2_with fail
  refine(Qaa _ _ _ _).mono ?_;rintro e R ⟨rfl,p⟩;have Q:=p.size;(try simp at Q)
  obtain⟨M,N⟩:=kab p;have z2:w<R.heap.size:=om;go_wp2;go_loopw [36] (fun i wr=>∃k:Nat,k<=r.list.length/\i= .int .i64 k/\(∀j<k,∀y,r.list[j]? =some y->Kac y=true)/\Below w w wr) (fun i _=>r.list.length-(intOf i).toNat)
  case atStart=>exact⟨0,lz _,rfl,fun _ h=>absurd h (Nat.not_lt_zero _),blw⟩
  case round=>
   obtain⟨k,hk,rfl,Z,z⟩:=hrel;have HJ:=hH Z;clear Z;have U:Below w w wr:=z;have hsz:w<=wr.heap.size:=szl z;by_cases hlt:k<r.list.length
   ·obtain⟨e,hx⟩:=jaa hlt;obtain⟨b1,o1,cs,g1,g2,g3⟩:=(h.below U).idx Tryz.underlying34 yac k hx;obtain⟨v_o,rfl,a0⟩:=Zaf g3;have q0:=g2.zero;have q1:=g2 1 _ rfl;have q2:=g2 2 _ rfl;obtain⟨aa,ca,rfl⟩:=a0.isSlice;have HX:=hH hx;clear hx;by_cases q:Kac e=true
    ·go_wp2_with fail
     refine(Jah e _ _ (a0.below blw)).mono ?_;rintro e' u ⟨rfl,n⟩;rw[q];have HB:Hid (Below w w u):=hH blw;have HO:=hH q;clear q n;go_wp2;go_roundw
     case rel=>exact⟨k+1,by omega,by go_num,Kav HX.out HO.out HJ.out,HB.out⟩
     case measure=>simp[intOf];omega
    ·have q:Kac e=false:=by simpa using q
     have HN:Hid (Zac r=false):=hH (KaR (KaM HX.out q));go_wp2_with fail
     refine(Jah e _ _ (a0.below blw)).mono ?_;rintro e' u ⟨rfl,n⟩;rw[q];clear q;go_wp2;go_ret;exact⟨qaa HN.out.symm,blw⟩
   ·have HA:Hid (Zac r=true):=hH ((kaC (Qay fun j Z=>HJ.out j om)).trans B.out)
    go_wp2;go_ret;exact⟨qaa HA.out.symm,z⟩
 by_cases h5:r.list.length=0
 rotate_left
 ·have B:Hid (vae r=false):=hH (by simp only[vae,h1,h2,Y,h4];simp[h5])
  have h5a:((r.list.length:Int)==0)=false:=by simpa using h5
  have h5b:0<r.list.length:=om;have h5c:decide (0<(r.list.length:Int))=true:=decide_eq_true om;have h5d:decide (0<r.list.length)=true:=decide_eq_true om;clear h5;go_enter Tryz.func59,Tryz.ntmps59
  go_wp2_with fail
  refine(Qaa _ _ _ _).mono ?_;rintro e u ⟨rfl,n⟩;have J:=n.size;(try simp at J)
  obtain⟨D,I⟩:=kab n;have z1:w<u.heap.size:=om;go_wp2_with fail
  refine(Qaa _ _ _ _).mono ?_;rintro e R ⟨rfl,p⟩;have Q:=p.size;(try simp at Q)
  obtain⟨M,N⟩:=kab p;have z2:w<R.heap.size:=om;go_wp2;go_ret;exact⟨qaa (kaw B.out).symm,blw⟩
 have B:Hid (vae r=true):=hH (by simp only[vae,h1,h2,Y,h4];simp[h5])
 have h5a:((r.list.length:Int)==0)=true:=by simp only[h5];rfl
 have h5b:¬0<r.list.length:=om;have h5c:decide (0<(r.list.length:Int))=false:=decide_eq_false om;have h5d:decide (0<r.list.length)=false:=decide_eq_false om;clear h5;go_enter Tryz.func59,Tryz.ntmps59
 go_wp2_with fail
 refine(Qaa _ _ _ _).mono ?_;rintro e u ⟨rfl,n⟩;have J:=n.size;(try simp at J)
 obtain⟨D,I⟩:=kab n;have z1:w<u.heap.size:=om;go_wp2_with fail
 refine(Qaa _ _ _ _).mono ?_;rintro e R ⟨rfl,p⟩;have Q:=p.size;(try simp at Q)
 obtain⟨M,N⟩:=kab p;have z2:w<R.heap.size:=om;go_wp2;go_loopw [36] (fun i wr=>∃k:Nat,k<=r.list.length/\i= .int .i64 k/\(∀j<k,∀y,r.list[j]? =some y->Kac y=true)/\Below w w wr) (fun i _=>r.list.length-(intOf i).toNat)
 case atStart=>exact⟨0,lz _,rfl,fun _ h=>absurd h (Nat.not_lt_zero _),blw⟩
 case round=>
  obtain⟨k,hk,rfl,Z,z⟩:=hrel;have HJ:=hH Z;clear Z;have U:Below w w wr:=z;have hsz:w<=wr.heap.size:=szl z;by_cases hlt:k<r.list.length
  ·exfalso;omega
  ·have HA:Hid (Zac r=true):=hH ((kaC (Qay fun j Z=>HJ.out j om)).trans B.out)
   go_wp2;go_ret;exact⟨qaa HA.out.symm,z⟩
