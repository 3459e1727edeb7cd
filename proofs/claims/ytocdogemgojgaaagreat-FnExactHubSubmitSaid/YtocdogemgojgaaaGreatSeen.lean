/- The entry that a document keeps for a client: what the reference and the program look up. -/
import Derived.Test.YtocdogemgojgaaaGreatRo
import Derived.Test.YtocdogemgojgaaaGreatCm
import Derived.Test.YtocdogemgojgaaaGreatHub1
set_option maxHeartbeats 1000000
namespace Go.Proofs.YtocdogemgojgaaaGreat
open Go.RowKit
def seenOf (x:DDoc)(client:Int):DSeen×Bool:=match x.seen.find? (fun s=>decide (s.client=client))with|some s=>(s,true)|none=>(⟨0,0,0⟩,false)
theorem seenOf_at {x:DDoc}{client:Int}{k:Nat}{s:DSeen}(u:∀j<k,∀y,x.seen[j]? =some y->decide (y.client=client)=false)(B:x.seen[k]? =some s)(z:decide (s.client=client)=true):seenOf x client=(s,true):=by
 have:x.seen.find? (fun s=>decide (s.client=client))=some s:=by
  rw[List.find?_eq_some_iff_getElem];obtain⟨p,q⟩:=lg.1 B;refine⟨z,k,p,q,fun j n=> ?_⟩
  rw[u j n _ (List.getElem?_eq_getElem (by omega))]
  rfl
 unfold seenOf;rw[this]
theorem seenOf_no {x:DDoc}{client:Int}(p:∀j<x.seen.length,∀y,x.seen[j]? =some y->decide (y.client=client)=false):seenOf x client=(⟨0,0,0⟩,false):=by
 have:x.seen.find? (fun s=>decide (s.client=client))=none:=by
  rw[List.find?_eq_none];intro s q;obtain⟨j,n,e⟩:=List.mem_iff_getElem.1 q;rw[p j n s (by rw[List.getElem?_eq_getElem n,e])]
  simp
 unfold seenOf;rw[this]
theorem spec_SeenOf_c (x:DDoc)(z u p:Value)(client:Int)(w:World)(n:RdS w p x.seen):
 Calls Tryz.prog 165 #[.agg #[.string x.name,.int .i64 x.from_,z,u,p],.int .i64 client] w (Out_Seen_b w (seenOf x client).1 (seenOf x client).2):=by
 have hl:=fun w1 ty=>n.len Tryz.underlying97 w1 ty
 have ba:=n.le;go_enter Tryz.func165,Tryz.ntmps165
 go_wp2;go_loopw [11] (fun i wr=>∃k:Nat,k<=x.seen.length/\i= .int .i64 k/\(∀j<k,∀y,x.seen[j]? =some y->decide (y.client=client)=false)/\Below (w.heap.size+2) ((w.alloc (.cells #[.string x.name,.int .i64 x.from_,z,u,p] 99)).alloc (.cells #[.int .i64 0,.int .i64 0,.int .i64 0] 167)) wr) (fun i _=>x.seen.length-(intOf i).toNat)
 case atStart=>exact⟨0,lz _,rfl,fun _ h=>absurd h (Nat.not_lt_zero _),blw⟩
 case round=>
  obtain⟨k,hk,rfl,M,q⟩:=hrel;have Q:=q.size;simp only[World.size_alloc]at Q;have B:Below w.heap.size w wr:=(((lf _ _).alloc (lr _) _).alloc (by simp) _).trans (q.mono (by omega))
  have Y:wr.cell? ⟨w.heap.size+1,0,none⟩=some (.int .i64 0):=by rw[q.cell (by simp)];simp
  have Z:wr.cell? ⟨w.heap.size+1,1,none⟩=some (.int .i64 0):=by rw[q.cell (by simp)];simp
  have r2:wr.cell? ⟨w.heap.size+1,2,none⟩=some (.int .i64 0):=by rw[q.cell (by simp)];simp
  have t0:wr.frozen? ⟨w.heap.size+1,0,none⟩=false:=by rw[q.frozen (by simp)];simp
  have t1:wr.frozen? ⟨w.heap.size+1,1,none⟩=false:=by rw[q.frozen (by simp)];simp
  have t2:wr.frozen? ⟨w.heap.size+1,2,none⟩=false:=by rw[q.frozen (by simp)];simp
  have zz:w.heap.size+1<wr.heap.size:=by omega
  have D:=hH M;clear M;by_cases N:k<x.seen.length
  ·obtain⟨s,R⟩:=get_some N;obtain⟨b1,o1,cs,h1,J,h3⟩:=(n.below B).idx Tryz.underlying97 szi_DSeen k R;obtain rfl:=inv_DSeen h3;have q0:=J.zero;have q1:=J 1 _ rfl;have q2:=J 2 _ rfl;have U:=hH R;clear R;by_cases e:s.client=client
   ·have e1:(s.client==client)=true:=by simpa using e
    have I:=hH (seenOf_at D.out U.out (dec_t e));clear e;go_wp2;refine bodyPost_ret (v:= .tuple #[.agg #[.int .i64 s.client,.int .i64 s.seq,.int .i64 s.rev],.bool true]) (by simp[results,Tryz.results165,go_sem,zz,Y,Z,r2]) rfl ?_
    rw[I.out];exact⟨rfl,blw⟩
   ·have e1:(s.client==client)=false:=by simpa using e
    have E2:=hH (dec_f e);clear e;go_wp2;go_roundw
    case rel=>exact⟨k+1,by omega,by go_num,no_step U.out E2.out D.out,blw⟩
    case measure=>simp[intOf];omega
  ·have I:=hH (seenOf_no (x:=x) (client:=client) fun j M=>D.out j (by omega))
   go_wp2;refine bodyPost_ret (v:= .tuple #[.agg #[.int .i64 0,.int .i64 0,.int .i64 0],.bool false]) (by simp[results,Tryz.results165,go_sem,Y,Z,r2]) rfl ?_
   rw[I.out];exact⟨rfl,blw⟩
theorem impl_SeenOf_c (x:DDoc)(z u p:Value)(client:Int)(w:World)(n:RdS w p x.seen):
 Calls Tryz.prog 172 #[.agg #[.string x.name,.int .i64 x.from_,z,u,p],.int .i64 client] w (Out_Seen_b w (seenOf x client).1 (seenOf x client).2):=by
 have hl:=fun w1 ty=>n.len Tryz.underlying97 w1 ty
 have ba:=n.le;go_enter Tryz.func172,Tryz.ntmps172
 go_wp2;go_loopw [11] (fun i wr=>∃k:Nat,k<=x.seen.length/\i= .int .i64 k/\(∀j<k,∀y,x.seen[j]? =some y->decide (y.client=client)=false)/\Below (w.heap.size+2) ((w.alloc (.cells #[.string x.name,.int .i64 x.from_,z,u,p] 99)).alloc (.cells #[.int .i64 0,.int .i64 0,.int .i64 0] 167)) wr) (fun i _=>x.seen.length-(intOf i).toNat)
 case atStart=>exact⟨0,lz _,rfl,fun _ h=>absurd h (Nat.not_lt_zero _),blw⟩
 case round=>
  obtain⟨k,hk,rfl,M,q⟩:=hrel;have Q:=q.size;simp only[World.size_alloc]at Q;have B:Below w.heap.size w wr:=(((lf _ _).alloc (lr _) _).alloc (by simp) _).trans (q.mono (by omega))
  have Y:wr.cell? ⟨w.heap.size+1,0,none⟩=some (.int .i64 0):=by rw[q.cell (by simp)];simp
  have Z:wr.cell? ⟨w.heap.size+1,1,none⟩=some (.int .i64 0):=by rw[q.cell (by simp)];simp
  have r2:wr.cell? ⟨w.heap.size+1,2,none⟩=some (.int .i64 0):=by rw[q.cell (by simp)];simp
  have t0:wr.frozen? ⟨w.heap.size+1,0,none⟩=false:=by rw[q.frozen (by simp)];simp
  have t1:wr.frozen? ⟨w.heap.size+1,1,none⟩=false:=by rw[q.frozen (by simp)];simp
  have t2:wr.frozen? ⟨w.heap.size+1,2,none⟩=false:=by rw[q.frozen (by simp)];simp
  have zz:w.heap.size+1<wr.heap.size:=by omega
  have D:=hH M;clear M;by_cases N:k<x.seen.length
  ·obtain⟨s,R⟩:=get_some N;obtain⟨b1,o1,cs,h1,J,h3⟩:=(n.below B).idx Tryz.underlying97 szi_DSeen k R;obtain rfl:=inv_DSeen h3;have q0:=J.zero;have q1:=J 1 _ rfl;have q2:=J 2 _ rfl;have U:=hH R;clear R;by_cases e:s.client=client
   ·have e1:(s.client==client)=true:=by simpa using e
    have I:=hH (seenOf_at D.out U.out (dec_t e));clear e;go_wp2;refine bodyPost_ret (v:= .tuple #[.agg #[.int .i64 s.client,.int .i64 s.seq,.int .i64 s.rev],.bool true]) (by simp[results,Tryz.results172,go_sem,zz,Y,Z,r2]) rfl ?_
    rw[I.out];exact⟨rfl,blw⟩
   ·have e1:(s.client==client)=false:=by simpa using e
    have E2:=hH (dec_f e);clear e;go_wp2;go_roundw
    case rel=>exact⟨k+1,by omega,by go_num,no_step U.out E2.out D.out,blw⟩
    case measure=>simp[intOf];omega
  ·have I:=hH (seenOf_no (x:=x) (client:=client) fun j M=>D.out j (by omega))
   go_wp2;refine bodyPost_ret (v:= .tuple #[.agg #[.int .i64 0,.int .i64 0,.int .i64 0],.bool false]) (by simp[results,Tryz.results172,go_sem,Y,Z,r2]) rfl ?_
   rw[I.out];exact⟨rfl,blw⟩
