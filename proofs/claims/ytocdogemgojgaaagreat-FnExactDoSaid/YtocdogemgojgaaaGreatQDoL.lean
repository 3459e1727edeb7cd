/- 'laws.FnExactDo' answers true for every input, and each argument reads afterwards as before. No conditions. -/
import Derived.Test.YtocdogemgojgaaaGreatQcb
import Derived.Test.YtocdogemgojgaaaGreatRows
set_option maxHeartbeats 64000000
set_option maxRecDepth 100000
namespace Go.Proofs.YtocdogemgojgaaaGreat
open Go.ChangeShapes Go.WideShapes Go.ChangeAt Go.RowKit
namespace fnExactDo
theorem own:ownKnob Tryz.prog.godebug=none:=by kernel_rfl
theorem laidOut:laidOutB Tryz.prog=true:=by kernel_rfl
theorem lifted (os:Os)(started:os.Started)(H:Type)(enc:TypeId×Value->H):
 ReturnsInHanded {} Tryz.checked os 4 .any (Rows.fnExactDoSpec.pre6 enc Tryz.prog Tryz.f4 Rows.fnExactDoRow.domain false) (Rows.fnExactDoSpec.post enc Tryz.prog Tryz.f4 false true false false):=by
 refine returnsInHanded_of_change (C:=Tryz.checked) own started (by kernel_rfl) Tryz.func4
  (ChangeSpec.witness6 (enc:=enc) (C:=Tryz.checked) false ⟨#[],#[.agg #[false,zN,zN,zI],.agg #[zI,ByteArray.empty,zI,zI,zI,zN,zN]],[]⟩ 8 (by kernel_rfl) (by kernel_rfl) (by kernel_rfl) (by kernel_rfl)) ?_
 intro W base args ds gs before u hW hcnd _;have n:∀(j:Nat) t v,Tryz.f4.params[j]? =some t->args[j]? =some v->Value.okWide Tryz.prog W .any base t v:=u;have a2:=hW;obtain⟨p,q,Q,hV,rfl,hfz,hnd⟩:=hW;have hA:DataW.TrodAll enc Tryz.prog W 0 (fun _=>true) true Tryz.f4.params.toList args.toList ds p:=Q
 rw[Tryz.params4]at hA n;obtain⟨v0,vs0,d0,ds0,p0,q0,a3,rfl,rfl,h0,r0⟩:=trodAll_cons hA;obtain⟨v1,vs1,d1,ds1,p1,q1,rfl,rfl,rfl,h1,r1⟩:=trodAll_cons r0;obtain⟨rfl,rfl,rfl⟩:=trodAll_nil r1;obtain rfl:args= #[v0,v1]:=by cases args;simp_all
 obtain⟨rfl,rfl⟩:=trodVars_none hV;obtain⟨M,rfl,_⟩:=okWide_struct Tryz.underlying51 (n 0 51 v0 rfl rfl);have k0:=h0;have lt0:∀x∈p0,x.block<W.heap.size:=by obtain⟨m,hm⟩:=k0;exact DataW.trod_lt m _ _ _ hm
 obtain⟨x0,m0⟩:∃x:yag,RdM maxLen W M.toList x:=by
  obtain⟨fuel,hf⟩:=h0;exact yba _ _ _ _ _ _ _ _ hf
 obtain⟨Z,a0,R,z,B⟩:=xbe m0;obtain⟨M⟩:=M;simp only at R;subst R;obtain⟨N,rfl,_⟩:=okWide_struct Tryz.underlying54 (n 1 54 v1 rfl rfl);have k1:=h1;have lt1:∀x∈p1,x.block<W.heap.size:=by obtain⟨m,hm⟩:=k1;exact DataW.trod_lt m _ _ _ hm
 obtain⟨x1,m1⟩:∃x:Xaj,RdM maxLen W N.toList x:=by
  obtain⟨fuel,hf⟩:=h1;exact Qa4 _ _ _ _ _ _ _ _ hf
 obtain⟨v_o1,a1,U,I,Y,D⟩:=za8 m1;obtain⟨N⟩:=N;simp only at U;subst U;clear Q u;refine(walkc_FnExactDo x0 _ _ x1 _ _ W z B I Y D).mono fun e W' ⟨he,J⟩=> ?_
 subst he;exact⟨_,rfl,_,_,_,[],_,[],a2,trodAll_mk1 (shut_bool Tryz.underlying4 _),(trodAll_cons_mk (Below.trod laidOut (by kernel_rfl) (of_decide_eq_true (by kernel_rfl)) k0 J lt0) (trodAll_cons_mk (Below.trod laidOut (by kernel_rfl) (of_decide_eq_true (by kernel_rfl)) k1 J lt1) trodAll_mk0)),rfl,J.frame _,fun h=>by cases h⟩
theorem over:Rows.fnExactDoRow.holds Tryz.pinned (OpenSpec.ofChange Rows.fnExactDoSpec):=
 OpenClaim.holds_of_wide 4 Tryz.f4 rfl rfl rfl rfl rfl rfl rfl ⟨rfl,rfl,rfl,rfl,rfl⟩ rfl rfl rfl rfl rfl (by kernel_rfl) Tryz.func4 (by kernel_rfl)
  (of_decide_eq_true (by kernel_rfl)) (by unfold Func.isWrapper;first|(rw[if_pos (by decide+kernel)];kernel_rfl)|(rw[if_neg (by decide+kernel)];exact⟨rfl,rfl⟩))
  (fun os started H enc _=>lifted os started H enc)
theorem proved:Rows.FnExactDoSaid:=over
end fnExactDo
