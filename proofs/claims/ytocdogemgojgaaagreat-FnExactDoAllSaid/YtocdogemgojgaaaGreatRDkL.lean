/- 'laws.FnExactDoAll' answers true for every input, and each argument reads afterwards as before. No conditions. -/
import Derived.Test.YtocdogemgojgaaaGreatRcb
import Derived.Test.YtocdogemgojgaaaGreatRows
set_option maxHeartbeats 64000000
set_option maxRecDepth 100000
namespace Go.Proofs.YtocdogemgojgaaaGreat
open Go.ChangeShapes Go.WideShapes Go.ChangeAt Go.RowKit
namespace fnExactDoAll
theorem own:ownKnob Tryz.prog.godebug=none:=by kernel_rfl
theorem laidOut:laidOutB Tryz.prog=true:=by kernel_rfl
theorem lifted (os:Os)(started:os.Started)(H:Type)(enc:TypeId×Value->H):
 ReturnsInHanded {} Tryz.checked os 5 .any (Rows.fnExactDoAllSpec.pre6 enc Tryz.prog Tryz.f5 Rows.fnExactDoAllRow.domain false) (Rows.fnExactDoAllSpec.post enc Tryz.prog Tryz.f5 false true false false):=by
 refine returnsInHanded_of_change (C:=Tryz.checked) own started (by kernel_rfl) Tryz.func5
  (ChangeSpec.witness6 (enc:=enc) (C:=Tryz.checked) false ⟨#[],#[.agg #[false,zN,zN,zI],zN],[]⟩ 8 (by kernel_rfl) (by kernel_rfl) (by kernel_rfl) (by kernel_rfl)) ?_
 intro W base args ds gs before u hW hcnd _;have n:∀(j:Nat) t v,Tryz.f5.params[j]? =some t->args[j]? =some v->Value.okWide Tryz.prog W .any base t v:=u;have Y:=hW;obtain⟨p,q,M,hV,rfl,hfz,hnd⟩:=hW;have hA:DataW.TrodAll enc Tryz.prog W 0 (fun _=>true) true Tryz.f5.params.toList args.toList ds p:=M
 rw[Tryz.params5]at hA n;obtain⟨v0,vs0,d0,ds0,p0,q0,Z,rfl,rfl,h0,r0⟩:=trodAll_cons hA;obtain⟨v1,vs1,d1,ds1,p1,q1,rfl,rfl,rfl,h1,r1⟩:=trodAll_cons r0;obtain⟨rfl,rfl,rfl⟩:=trodAll_nil r1;obtain rfl:args= #[v0,v1]:=by cases args;simp_all
 obtain⟨rfl,rfl⟩:=trodVars_none hV;obtain⟨I,rfl,_⟩:=okWide_struct Tryz.underlying51 (n 0 51 v0 rfl rfl);have k0:=h0;have lt0:∀x∈p0,x.block<W.heap.size:=by obtain⟨m,hm⟩:=k0;exact DataW.trod_lt m _ _ _ hm
 obtain⟨x0,m0⟩:∃x:vaf,RdM maxLen W I.toList x:=by
  obtain⟨fuel,hf⟩:=h0;exact ybc _ _ _ _ _ _ _ _ hf
 obtain⟨R,U,N,z,B⟩:=Xbh m0;obtain⟨I⟩:=I;simp only at N;subst N;obtain⟨a1,Q,J,rfl⟩:=okWide_slice Tryz.underlying64 (n 1 64 v1 rfl rfl);have k1:=h1;have lt1:∀x∈p1,x.block<W.heap.size:=by obtain⟨m,hm⟩:=k1;exact DataW.trod_lt m _ _ _ hm
 obtain⟨x1,m1⟩:∃l:List xah,zau maxLen W (.slice a1 Q J) l:=by
  obtain⟨fuel,hf⟩:=h1;obtain⟨l,fp,v,hv,hs⟩:=yai Tryz.underlying64 (by kernel_rfl) va6 _ _ _ _ _ _ _ _ hf
  simp only[Value.cells,List.cons.injEq,and_true]at hv;subst hv;exact⟨l,fp,hs⟩
 clear M u;refine(walkc_FnExactDoAll x0 _ _ x1 _ W z B m1).mono fun e W' ⟨he,D⟩=> ?_
 subst he;exact⟨_,rfl,_,_,_,[],_,[],Y,trodAll_mk1 (shut_bool Tryz.underlying4 _),(trodAll_cons_mk (Below.trod laidOut (by kernel_rfl) (of_decide_eq_true (by kernel_rfl)) k0 D lt0) (trodAll_cons_mk (Below.trod laidOut (by kernel_rfl) (of_decide_eq_true (by kernel_rfl)) k1 D lt1) trodAll_mk0)),rfl,D.frame _,fun h=>by cases h⟩
theorem over:Rows.fnExactDoAllRow.holds Tryz.pinned (OpenSpec.ofChange Rows.fnExactDoAllSpec):=
 OpenClaim.holds_of_wide 5 Tryz.f5 rfl rfl rfl rfl rfl rfl rfl ⟨rfl,rfl,rfl,rfl,rfl⟩ rfl rfl rfl rfl rfl (by kernel_rfl) Tryz.func5 (by kernel_rfl)
  (of_decide_eq_true (by kernel_rfl)) (by unfold Func.isWrapper;first|(rw[if_pos (by decide+kernel)];kernel_rfl)|(rw[if_neg (by decide+kernel)];exact⟨rfl,rfl⟩))
  (fun os started H enc _=>lifted os started H enc)
theorem proved:Rows.FnExactDoAllSaid:=over
end fnExactDoAll
