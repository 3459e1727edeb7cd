/- 'laws.FnEach' answers true for every input, and its argument reads afterwards as before. No conditions. -/
import Derived.Test.YtbonkabfmlajnaaGreatQrcb
import Derived.Test.YtbonkabfmlajnaaGreatRows
set_option maxRecDepth 100000
namespace Go.Proofs.YtbonkabfmlajnaaGreat
open Go.ChangeShapes Go.WideShapes Go.ChangeAt Go.RowKit
theorem va7 {P:Program}{t:TypeId}(j:P.underlying t=some (.int .u8)):Zbf zah P t:=by
 intro H enc w base held fuel p x h;obtain⟨n,rfl,_,_⟩:=DataW.trod_int j h;exact⟨⟨n⟩,[],rfl,rfl⟩
namespace fnEach
theorem own:ownKnob Tryz.prog.godebug=none:=by kernel_rfl
theorem laidOut:laidOutB Tryz.prog=true:=by kernel_rfl
theorem lifted (os:Os)(started:os.Started)(H:Type)(enc:TypeId×Value->H):
 ReturnsInHanded {} Tryz.checked os 4 .any (Rows.fnEachSpec.pre6 enc Tryz.prog Tryz.f4 Rows.fnEachRow.domain false) (Rows.fnEachSpec.post enc Tryz.prog Tryz.f4 false true false false):=by
 refine returnsInHanded_of_change (C:=Tryz.checked) own started (by kernel_rfl) Tryz.func4
  (ChangeSpec.witness6 (enc:=enc) (C:=Tryz.checked) false ⟨#[],#[zN],[]⟩ 8 (by kernel_rfl) (by kernel_rfl) (by kernel_rfl) (by kernel_rfl)) ?_
 intro W base args ds gs before n U Y _;have u:∀(j:Nat) t v,Tryz.f4.params[j]? =some t->args[j]? =some v->Value.okWide Tryz.prog W .any base t v:=n;have J:=U;obtain⟨p,q,D,hV,rfl,hfz,hnd⟩:=U;have R:DataW.TrodAll enc Tryz.prog W 0 (fun _=>true) true Tryz.f4.params.toList args.toList ds p:=D
 rw[Tryz.params4]at R u;obtain⟨v0,vs0,d0,ds0,p0,q0,M,rfl,rfl,Q,r0⟩:=trodAll_cons R;obtain⟨rfl,rfl,rfl⟩:=trodAll_nil r0;obtain rfl:args= #[v0]:=by cases args;simp_all
 obtain⟨rfl,rfl⟩:=trodVars_none hV;obtain⟨a0,I,B,rfl⟩:=okWide_slice Tryz.underlying22 (u 0 22 v0 rfl rfl);have k0:=Q;have N:∀x∈p0,x.block<W.heap.size:=by obtain⟨m,hm⟩:=k0;exact DataW.trod_lt m _ _ _ hm
 obtain⟨x0,m0⟩:∃l:List zah,Ka8 maxLen W (.slice a0 I B) l:=by
  obtain⟨fuel,hf⟩:=Q;obtain⟨l,fp,v,Z,hs⟩:=za1 Tryz.underlying22 (by kernel_rfl) (va7 Tryz.underlying5) _ _ _ _ _ _ _ _ hf
  simp only[Value.cells,List.cons.injEq,and_true]at Z;subst Z;exact⟨l,fp,hs⟩
 clear D n;refine(walk_FnEach _ x0 W m0).mono fun e W' ⟨he,z⟩=> ?_
 subst he;exact⟨_,rfl,_,_,_,[],_,[],J,trodAll_mk1 (shut_bool Tryz.underlying4 _),(trodAll_cons_mk (Below.trod laidOut (by kernel_rfl) (of_decide_eq_true (by kernel_rfl)) k0 z N) trodAll_mk0),rfl,z.frame _,fun h=>by cases h⟩
theorem over:Rows.fnEachRow.holds Tryz.pinned (OpenSpec.ofChange Rows.fnEachSpec):=
 OpenClaim.holds_of_wide 4 Tryz.f4 rfl rfl rfl rfl rfl rfl rfl ⟨rfl,rfl,rfl,rfl,rfl⟩ rfl rfl rfl rfl rfl (by kernel_rfl) Tryz.func4 (by kernel_rfl)
  (of_decide_eq_true (by kernel_rfl)) (by unfold Func.isWrapper;first|(rw[if_pos (by decide+kernel)];kernel_rfl)|(rw[if_neg (by decide+kernel)];exact⟨rfl,rfl⟩))
  (fun os started H enc _=>lifted os started H enc)
theorem proved:Rows.FnEachSaid:=over
end fnEach
#print axioms fnEach.proved
