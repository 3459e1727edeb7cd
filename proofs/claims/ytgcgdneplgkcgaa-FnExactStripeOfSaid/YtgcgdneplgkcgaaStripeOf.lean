/- 'Rows.FnExactStripeOfSaid': 'laws.FnExactStripeOf' returns true for every input. The frame was written by proof-skeleton.mjs; the contracts and the walk are mine. -/
import Derived.Test.YtgcgdneplgkcgaaRows
import Derived.WalkKit
import Derived.ProofKit
import Derived.OpenShut
import Derived.ShutString
namespace Go.Proofs.Ytgcgdneplgkcgaa.fnExactStripeOf
open Go.ChangeShapes Go.WideShapes Go.ChangeAt Go.RowKit
open Go.ChangeMaps (open_string shut_string)
set_option linter.unusedVariables false      -- a walk need not use every 'w<i>' (that an integer argument fits its kind)

theorem own : ownKnob Try.prog.godebug = none := by kernel_rfl

def fnvN (a : ByteArray) : Nat → Int
  | 0 => 2166136261
  | k + 1 => if h : k < a.size then (wrap64 (bits BinOp.xor IntKind.i64 (fnvN a k) (wrap64 ↑(a[k]'h).toNat) * 16777619)).tmod 4294967296 else 0
def strp (a : ByteArray) (m : Int) : Int := if m < 1 then 0 else (fnvN a a.size).tmod m
set_option maxHeartbeats 2000000 in
theorem spec_Fnv (a : ByteArray) (n : a.size ≤ 1048576) (w : World) :
    Calls Try.prog 26 #[.string a] w fun e w' => e = .returned (.int .i64 (fnvN a a.size)) ∧ Grown w w' := by
  go_enter Try.func26, Try.ntmps26
  go_wp2
  go_loopw [3, 4] (fun h i wr => ∃ k : Nat, k ≤ a.size ∧ i = .int .i64 k ∧ h = .int .i64 (fnvN a k) ∧ Grown w wr) (fun _ i _ => a.size - (match i with | .int _ x => x.toNat | _ => 0))
  case atStart => exact ⟨0, Nat.zero_le _, rfl, rfl, by repeat (first | exact Grown.refl _ | assumption | apply Grown.drew | apply Grown.alloc)⟩
  case round =>
    obtain ⟨k, hk, rfl, rfl, hbw⟩ := hrel
    by_cases hlt : k < a.size
    · go_wp2
      go_roundw
      case rel => exact ⟨k + 1, by omega, by go_num, by (conv => rhs; unfold fnvN); rw [dif_pos hlt], by assumption⟩
      case measure => simp; omega
    · go_wp2
      have hk : k = a.size := by omega
      subst hk
      go_ret
      exact ⟨rfl, by assumption⟩
set_option maxHeartbeats 2000000 in
theorem impl_Fnv (a : ByteArray) (n : a.size ≤ 1048576) (w : World) :
    Calls Try.prog 27 #[.string a] w fun e w' => e = .returned (.int .i64 (fnvN a a.size)) ∧ Grown w w' := by
  go_enter Try.func27, Try.ntmps27
  go_wp2
  go_loopw [3, 4] (fun h i wr => ∃ k : Nat, k ≤ a.size ∧ i = .int .i64 k ∧ h = .int .i64 (fnvN a k) ∧ Grown w wr) (fun _ i _ => a.size - (match i with | .int _ x => x.toNat | _ => 0))
  case atStart => exact ⟨0, Nat.zero_le _, rfl, rfl, by repeat (first | exact Grown.refl _ | assumption | apply Grown.drew | apply Grown.alloc)⟩
  case round =>
    obtain ⟨k, hk, rfl, rfl, hbw⟩ := hrel
    by_cases hlt : k < a.size
    · go_wp2
      go_roundw
      case rel => exact ⟨k + 1, by omega, by go_num, by (conv => rhs; unfold fnvN); rw [dif_pos hlt], by assumption⟩
      case measure => simp; omega
    · go_wp2
      have hk : k = a.size := by omega
      subst hk
      go_ret
      exact ⟨rfl, by assumption⟩
set_option maxHeartbeats 2000000 in
theorem spec_StripeOf (a : ByteArray) (m : Int) (n : a.size ≤ 1048576) (w1 : (Lit.int .i64 m).wf = true) (w : World) :
    Calls Try.prog 17 #[.string a, .int .i64 m] w fun e w' => e = .returned (.int .i64 (strp a m)) ∧ Grown w w' := by
  by_cases hm : m < 1
  · have hs : strp a m = 0 := if_pos hm
    rw [hs]
    go_enter Try.func17, Try.ntmps17
    go_wp2
    go_ret
    exact ⟨rfl, by repeat (first | exact Grown.refl _ | assumption | apply Grown.drew | apply Grown.alloc)⟩
  · have hs : strp a m = (fnvN a a.size).tmod m := if_neg hm
    rw [hs]
    clear hs
    go_enter Try.func17, Try.ntmps17
    go_wp2_with fail
    refine (spec_Fnv a n _).mono ?_
    rintro e w2 ⟨rfl, hg⟩
    have hm0 : m ≠ 0 := by omega
    have hm1 : m ≠ -1 := by omega
    go_wp2
    go_ret
    exact ⟨rfl, by repeat (first | exact Grown.refl _ | assumption | apply Grown.drew | apply Grown.alloc)⟩
set_option maxHeartbeats 2000000 in
theorem impl_StripeOf (a : ByteArray) (m : Int) (n : a.size ≤ 1048576) (w1 : (Lit.int .i64 m).wf = true) (w : World) :
    Calls Try.prog 18 #[.string a, .int .i64 m] w fun e w' => e = .returned (.int .i64 (strp a m)) ∧ Grown w w' := by
  by_cases hm : m < 1
  · have hs : strp a m = 0 := if_pos hm
    rw [hs]
    go_enter Try.func18, Try.ntmps18
    go_wp2
    go_ret
    exact ⟨rfl, by repeat (first | exact Grown.refl _ | assumption | apply Grown.drew | apply Grown.alloc)⟩
  · have hs : strp a m = (fnvN a a.size).tmod m := if_neg hm
    rw [hs]
    clear hs
    go_enter Try.func18, Try.ntmps18
    go_wp2_with fail
    refine (impl_Fnv a n _).mono ?_
    rintro e w2 ⟨rfl, hg⟩
    have hm0 : m ≠ 0 := by omega
    have hm1 : m ≠ -1 := by omega
    go_wp2
    go_ret
    exact ⟨rfl, by repeat (first | exact Grown.refl _ | assumption | apply Grown.drew | apply Grown.alloc)⟩
/-! ### STEP 1: THE WALK: the Go text returns true. 'Grown w w'': the world has at most new blocks (Derived/RowKit3.lean). Part the cases AHEAD of 'go_enter' where a test parts the walk; take each callee by a contract of your own. -/
set_option maxHeartbeats 2000000 in
theorem walk (a0 : ByteArray) (a1 : Int) (w0 : a0.size ≤ maxLen) (w1 : (Lit.int .i64 a1).wf = true) (w : World) :
    Calls Try.prog 7 #[.string a0, .int .i64 a1] w fun e w' => e = .returned (.bool true) ∧ Grown w w' := by
  by_cases hl : a0.size ≤ 1048576
  · go_enter Try.func7, Try.ntmps7
    go_wp2_with fail
    refine (spec_StripeOf a0 a1 hl w1 _).mono ?_
    rintro e wA ⟨rfl, hgA⟩
    go_wp2_with fail
    refine (impl_StripeOf a0 a1 hl w1 _).mono ?_
    rintro e wB ⟨rfl, hgB⟩
    go_wp2
    go_ret
    exact ⟨rfl, World.keptBut_trans hgA.1 hgB.1, fun a => (hgB.2.1 a).trans (hgA.2.1 a), Nat.le_trans hgA.2.2 hgB.2.2⟩
  · unfold maxLen at w0
    go_enter Try.func7, Try.ntmps7
    go_wp2
    go_ret
    exact ⟨rfl, by repeat (first | exact Grown.refl _ | assumption | apply Grown.drew | apply Grown.alloc)⟩

/-! ### THE ROW's STEP: WRITTEN OUT: LEAVE IT -/
set_option maxRecDepth 100000 in
theorem lifted (os : Os) (started : os.Started) (H : Type) (enc : TypeId × Value → H) :
    ReturnsInHanded {} Try.checked os 7 .any (Rows.fnExactStripeOfSpec.pre6 enc Try.prog Try.f7 Rows.fnExactStripeOfRow.domain false) (Rows.fnExactStripeOfSpec.post enc Try.prog Try.f7 false true false false) := by
  refine returnsInHanded_of_change (C := Try.checked) own started (by kernel_rfl) Try.func7
    (ChangeSpec.witness6 (enc := enc) (C := Try.checked) false ⟨#[], #[.string ByteArray.empty, .int .i64 0], []⟩ 8 (by kernel_rfl) (by kernel_rfl) (by kernel_rfl) (by kernel_rfl)) ?_
  intro W base args ds gs before hval0 hW hcnd _
  have hval : ∀ (j : Nat) t v, Try.f7.params[j]? = some t → args[j]? = some v → Value.okWide Try.prog W .any base t v := hval0
  have hW' := hW
  obtain ⟨p, q, hA0, hV, rfl, hfz, hnd⟩ := hW
  have hA : DataW.TrodAll enc Try.prog W 0 (fun _ => true) true Try.f7.params.toList args.toList ds p := hA0
  rw [Try.params7] at hA hval
  obtain ⟨v0, vs0, d0, ds0, p0, q0, hargs, rfl, rfl, h0, r0⟩ := trodAll_cons hA
  obtain ⟨v1, vs1, d1, ds1, p1, q1, rfl, rfl, rfl, h1, r1⟩ := trodAll_cons r0
  obtain ⟨rfl, rfl, rfl⟩ := trodAll_nil r1
  obtain rfl : args = #[v0, v1] := by cases args; simp_all
  obtain ⟨rfl, rfl⟩ := trodVars_none hV
  obtain ⟨a0, rfl, rfl, rfl, w0⟩ := open_string Try.underlying9 (hval 0 9 v0 rfl rfl) h0
  obtain ⟨a1, rfl, rfl, rfl, w1⟩ := open_int Try.underlying3 (hval 1 3 v1 rfl rfl) h1
  clear hA0 hval0
  simp only [List.append_nil] at hW'
  refine (walk a0 a1 w0 w1 W).mono fun e W' ⟨he, hg⟩ => ?_
  subst he
  exact ⟨_, rfl, post_of_same (pa := []) (pv := []) hW' (fun _ _ _ => (trodAll_cons_mk (shut_bool Try.underlying4 _) trodAll_mk0)) (fun sp _ => (trodAll_cons_mk (shut_string Try.underlying9 w0) (trodAll_cons_mk (shut_int Try.underlying3 w1) trodAll_mk0))) (fun _ _ => rfl) rfl
    (hg.frame _) hg.2.1 (ok_one (by kernel_rfl) rfl (okWide_bool_mk Try.underlying4 _))⟩

theorem over : Rows.fnExactStripeOfRow.holds Try.pinned (OpenSpec.ofChange Rows.fnExactStripeOfSpec) :=
  OpenClaim.holds_of_wide 7 Try.f7 rfl rfl rfl rfl rfl rfl rfl ⟨rfl, rfl, rfl, rfl, rfl⟩ rfl rfl rfl rfl rfl (by kernel_rfl) Try.func7 (by kernel_rfl)
    (of_decide_eq_true (by kernel_rfl)) (by unfold Func.isWrapper; first | (rw [if_pos (by decide +kernel)]; kernel_rfl) | (rw [if_neg (by decide +kernel)]; exact ⟨rfl, rfl⟩))
    (fun os started H enc _ => lifted os started H enc)

/-- ████ THE STATEMENT ████ -/
theorem proved : Rows.FnExactStripeOfSaid :=
  over
#print axioms proved
end Go.Proofs.Ytgcgdneplgkcgaa.fnExactStripeOf
