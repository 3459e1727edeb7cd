/- 'laws.FnExactShare' answers true for every input, and each argument reads afterwards as before. No conditions. -/
import Derived.Test.YtgcgdneplgkcgaaSh0
import Derived.Test.YtgcgdneplgkcgaaRows
import Derived.ProofKit
import Derived.OpenShut
import Derived.Deep.RegionHeld3
namespace Go.Proofs.Ytgcgdneplgkcgaa
open Go.ChangeShapes Go.WideShapes Go.ChangeAt Go.RowKit
def shareN (l : List Int) (c : Int) : Nat → Nat
  | 0 => 0
  | k + 1 => if l[k]? = some c then shareN l c k + 1 else shareN l c k
theorem shareN_le (l : List Int) (c : Int) : ∀ k, shareN l c k ≤ k
  | 0 => Nat.le_refl _
  | k + 1 => by have := shareN_le l c k; unfold shareN; split <;> omega
theorem shareN_t {l : List Int} {c x : Int} {k : Nat} (h : l[k]? = some x) (e : x = c) : shareN l c (k + 1) = shareN l c k + 1 := by
  rw [shareN, if_pos (by rw [h, e])]
theorem shareN_f {l : List Int} {c x : Int} {k : Nat} (h : l[k]? = some x) (e : ¬ x = c) : shareN l c (k + 1) = shareN l c k := by
  rw [shareN, if_neg (by rw [h]; simpa using e)]
set_option maxHeartbeats 1000000 in
theorem spec_Share_c (l : List Int) (v : Value) (c : Int) (w : World) (h : RdS w v l) :
    Calls Try.prog 19 #[v, .int .i64 c] w (Tells w (.int .i64 (shareN l c l.length))) := by
  have hl := fun w1 ty => h.len Try.underlying26 w1 ty
  have hb := h.le
  unfold BIG at hb
  go_enter Try.func19, Try.ntmps19
  go_wp2
  go_loopw [5, 10] (fun n i wr => ∃ k : Nat, k ≤ l.length ∧ i = .int .i64 k ∧ n = .int .i64 (shareN l c k) ∧ Below w.heap.size w wr) (fun _ i _ => l.length - (intOf i).toNat)
  case atStart => exact ⟨0, Nat.zero_le _, rfl, rfl, Below.refl _ _⟩
  case round =>
    obtain ⟨k, hk, rfl, rfl, hbw⟩ := hrel
    have hn := shareN_le l c k
    by_cases hlt : k < l.length
    · obtain ⟨x, hx⟩ := get_some hlt
      obtain ⟨b1, o1, _, h1, h2, _, rfl, rfl⟩ := (h.below hbw).idx Try.underlying26 sz_int k hx
      have h2 := h2.one
      by_cases hc : x = c
      · have hs := shareN_t hx hc
        clear hx
        go_wp2
        go_roundw
        case rel => exact ⟨k + 1, by omega, by go_num, by rw [hs]; go_num, hbw⟩
        case measure => simp [intOf]; omega
      · have hs := shareN_f hx hc
        clear hx
        go_wp2
        go_roundw
        case rel => exact ⟨k + 1, by omega, by go_num, by rw [hs], hbw⟩
        case measure => simp [intOf]; omega
    · have hk : k = l.length := by omega
      subst hk
      go_wp2
      go_ret
      exact ⟨rfl, hbw⟩
set_option maxHeartbeats 1000000 in
theorem impl_Share_c (l : List Int) (v : Value) (c : Int) (w : World) (h : RdS w v l) :
    Calls Try.prog 21 #[v, .int .i64 c] w (Tells w (.int .i64 (shareN l c l.length))) := by
  have hl := fun w1 ty => h.len Try.underlying26 w1 ty
  have hb := h.le
  unfold BIG at hb
  go_enter Try.func21, Try.ntmps21
  go_wp2
  go_loopw [5, 10] (fun n i wr => ∃ k : Nat, k ≤ l.length ∧ i = .int .i64 k ∧ n = .int .i64 (shareN l c k) ∧ Below w.heap.size w wr) (fun _ i _ => l.length - (intOf i).toNat)
  case atStart => exact ⟨0, Nat.zero_le _, rfl, rfl, Below.refl _ _⟩
  case round =>
    obtain ⟨k, hk, rfl, rfl, hbw⟩ := hrel
    have hn := shareN_le l c k
    by_cases hlt : k < l.length
    · obtain ⟨x, hx⟩ := get_some hlt
      obtain ⟨b1, o1, _, h1, h2, _, rfl, rfl⟩ := (h.below hbw).idx Try.underlying26 sz_int k hx
      have h2 := h2.one
      by_cases hc : x = c
      · have hs := shareN_t hx hc
        clear hx
        go_wp2
        go_roundw
        case rel => exact ⟨k + 1, by omega, by go_num, by rw [hs]; go_num, hbw⟩
        case measure => simp [intOf]; omega
      · have hs := shareN_f hx hc
        clear hx
        go_wp2
        go_roundw
        case rel => exact ⟨k + 1, by omega, by go_num, by rw [hs], hbw⟩
        case measure => simp [intOf]; omega
    · have hk : k = l.length := by omega
      subst hk
      go_wp2
      go_ret
      exact ⟨rfl, hbw⟩
set_option maxHeartbeats 4000000 in
theorem walk_FnExactShare (l : List Int) (v_l : Value) (c : Int) (w : World) (h_l : RdSM maxLen w v_l l) (_b1_c : -9223372036854775808 ≤ c) (_b2_c : c ≤ 9223372036854775807) :
    Calls Try.prog 8 #[v_l, .int .i64 c] w (Tells w (.bool true)) := by
  have hl_l := fun w1 ty => h_l.len Try.underlying26 w1 ty
  have hle_l := h_l.le
  by_cases cl_l : l.length ≤ 1048576
  rotate_left
  · go_enter Try.func8, Try.ntmps8
    go_wp2
    go_ret
    exact ⟨rfl, (by repeat' (first | (with_reducible exact Below.refl _ _) | (with_reducible assumption) | (with_reducible refine Below.setCell ?_ ?_ _) | (with_reducible refine Below.alloc ?_ ?_ _) | (with_reducible refine Below.drew ?_) | (with_reducible refine belowN ?_ _) | (with_reducible refine below_after ?_ (by assumption) ?_) | omega | (simp; done) | (simp; omega)))⟩
  have hr_l : RdS w v_l l := let ⟨fp, s⟩ := h_l; ⟨fp, s.up (by rw [szL_int]; exact le_BIG (by omega))⟩
  go_enter Try.func8, Try.ntmps8
  go_wp2_with fail
  refine (toIntS_c _ l _ (hr_l.below (by repeat' (first | (with_reducible exact Below.refl _ _) | (with_reducible assumption) | (with_reducible refine Below.setCell ?_ ?_ _) | (with_reducible refine Below.alloc ?_ ?_ _) | (with_reducible refine Below.drew ?_) | (with_reducible refine belowN ?_ _) | (with_reducible refine below_after ?_ (by assumption) ?_) | omega | (simp; done) | (simp; omega))))).mono ?_
  rintro e w1 ⟨v1_0, rfl, ho0, hb1⟩
  have ho1 := ho0
  have s1 : w.heap.size ≤ w1.heap.size := (by have := hb1.size; (try simp at this); omega)
  obtain ⟨a1_0, c1_0, rfl⟩ := ho1.rd.isSlice
  obtain ⟨C1_0, D1_0, HO1_0, jc1_0, jd1_0, je1_0⟩ := ho1.ex (m := w.heap.size) (by first | omega | (simp; done) | (simp; omega)) hb1.size
  clear ho0 ho1
  obtain ⟨hc1, hf1⟩ := bcell hb1
  go_wp2_with fail
  refine (spec_Share_c l _ c _ (((by repeat' (first | (with_reducible exact HO1_0) | (with_reducible refine OwnB.setCell ?_ ?_ _) | (with_reducible refine OwnB.drew ?_) | (with_reducible refine OwnB.drewN ?_ _) | (with_reducible refine OwnB.below ?_ (by assumption)) | (with_reducible refine OwnB.alloc ?_ _) | omega | (simp; done) | (simp; omega))) : OwnB C1_0 D1_0 _ _ _).own.rd) ).mono ?_
  rintro e w2 ⟨rfl, hb2⟩
  have s2 : w1.heap.size ≤ w2.heap.size := (by have := hb2.size; (try simp at this); omega)
  obtain ⟨hc2, hf2⟩ := bcell hb2
  go_wp2_with fail
  refine (toIntS_c _ l _ (hr_l.below (by repeat' (first | (with_reducible exact Below.refl _ _) | (with_reducible assumption) | (with_reducible refine Below.setCell ?_ ?_ _) | (with_reducible refine Below.alloc ?_ ?_ _) | (with_reducible refine Below.drew ?_) | (with_reducible refine belowN ?_ _) | (with_reducible refine below_after ?_ (by assumption) ?_) | omega | (simp; done) | (simp; omega))))).mono ?_
  rintro e w3 ⟨v3_0, rfl, ho0, hb3⟩
  have ho1 := ho0
  have s3 : w2.heap.size ≤ w3.heap.size := (by have := hb3.size; (try simp at this); omega)
  obtain ⟨a3_0, c3_0, rfl⟩ := ho1.rd.isSlice
  obtain ⟨C3_0, D3_0, HO3_0, jc3_0, jd3_0, je3_0⟩ := ho1.ex (m := w2.heap.size) (by first | omega | (simp; done) | (simp; omega)) hb3.size
  clear ho0 ho1
  obtain ⟨hc3, hf3⟩ := bcell hb3
  go_wp2_with fail
  refine (impl_Share_c l _ c _ (((by repeat' (first | (with_reducible exact HO3_0) | (with_reducible refine OwnB.setCell ?_ ?_ _) | (with_reducible refine OwnB.drew ?_) | (with_reducible refine OwnB.drewN ?_ _) | (with_reducible refine OwnB.below ?_ (by assumption)) | (with_reducible refine OwnB.alloc ?_ _) | omega | (simp; done) | (simp; omega))) : OwnB C3_0 D3_0 _ _ _).own.rd) ).mono ?_
  rintro e w4 ⟨rfl, hb4⟩
  have s4 : w3.heap.size ≤ w4.heap.size := (by have := hb4.size; (try simp at this); omega)
  obtain ⟨hc4, hf4⟩ := bcell hb4
  go_wp2_with fail
  refine (toIntS_c _ l _ (hr_l.below (by repeat' (first | (with_reducible exact Below.refl _ _) | (with_reducible assumption) | (with_reducible refine Below.setCell ?_ ?_ _) | (with_reducible refine Below.alloc ?_ ?_ _) | (with_reducible refine Below.drew ?_) | (with_reducible refine belowN ?_ _) | (with_reducible refine below_after ?_ (by assumption) ?_) | omega | (simp; done) | (simp; omega))))).mono ?_
  rintro e w5 ⟨v5_0, rfl, ho0, hb5⟩
  have ho1 := ho0
  have s5 : w4.heap.size ≤ w5.heap.size := (by have := hb5.size; (try simp at this); omega)
  obtain ⟨a5_0, c5_0, rfl⟩ := ho1.rd.isSlice
  obtain ⟨C5_0, D5_0, HO5_0, jc5_0, jd5_0, je5_0⟩ := ho1.ex (m := w4.heap.size) (by first | omega | (simp; done) | (simp; omega)) hb5.size
  clear ho0 ho1
  obtain ⟨hc5, hf5⟩ := bcell hb5
  go_wp2_with fail
  refine (eqIntS_c _ _ l _ (((by repeat' (first | (with_reducible exact HO3_0) | (with_reducible refine OwnB.setCell ?_ ?_ _) | (with_reducible refine OwnB.drew ?_) | (with_reducible refine OwnB.drewN ?_ _) | (with_reducible refine OwnB.below ?_ (by assumption)) | (with_reducible refine OwnB.alloc ?_ _) | omega | (simp; done) | (simp; omega))) : OwnB C3_0 D3_0 _ _ _).own.rd) (((by repeat' (first | (with_reducible exact HO5_0) | (with_reducible refine OwnB.setCell ?_ ?_ _) | (with_reducible refine OwnB.drew ?_) | (with_reducible refine OwnB.drewN ?_ _) | (with_reducible refine OwnB.below ?_ (by assumption)) | (with_reducible refine OwnB.alloc ?_ _) | omega | (simp; done) | (simp; omega))) : OwnB C5_0 D5_0 _ _ _).own.rd)).mono ?_
  rintro e w6 ⟨rfl, hb6⟩
  have s6 : w5.heap.size ≤ w6.heap.size := (by have := hb6.size; (try simp at this); omega)
  obtain ⟨hc6, hf6⟩ := bcell hb6
  go_wp2
  go_ret
  exact ⟨rfl, (by repeat' (first | (with_reducible exact Below.refl _ _) | (with_reducible assumption) | (with_reducible refine Below.setCell ?_ ?_ _) | (with_reducible refine Below.alloc ?_ ?_ _) | (with_reducible refine Below.drew ?_) | (with_reducible refine belowN ?_ _) | (with_reducible refine below_after ?_ (by assumption) ?_) | omega | (simp; done) | (simp; omega)))⟩
namespace fnExactShare
theorem own : ownKnob Try.prog.godebug = none := by kernel_rfl
theorem laidOut : laidOutB Try.prog = true := by kernel_rfl
set_option maxRecDepth 100000 in
theorem lifted (os : Os) (started : os.Started) (H : Type) (enc : TypeId × Value → H) :
    ReturnsInHanded {} Try.checked os 8 .any (Rows.fnExactShareSpec.pre6 enc Try.prog Try.f8 Rows.fnExactShareRow.domain false) (Rows.fnExactShareSpec.post enc Try.prog Try.f8 false true false false) := by
  refine returnsInHanded_of_change (C := Try.checked) own started (by kernel_rfl) Try.func8
    (ChangeSpec.witness6 (enc := enc) (C := Try.checked) false ⟨#[], #[.slice none 0 0, .int .i64 0], []⟩ 8 (by kernel_rfl) (by kernel_rfl) (by kernel_rfl) (by kernel_rfl)) ?_
  intro W base args ds gs before hval0 hW hcnd _
  have hval : ∀ (j : Nat) t v, Try.f8.params[j]? = some t → args[j]? = some v → Value.okWide Try.prog W .any base t v := hval0
  have hW' := hW
  obtain ⟨p, q, hA0, hV, rfl, hfz, hnd⟩ := hW
  have hA : DataW.TrodAll enc Try.prog W 0 (fun _ => true) true Try.f8.params.toList args.toList ds p := hA0
  rw [Try.params8] at hA hval
  obtain ⟨v0, vs0, d0, ds0, p0, q0, hargs, rfl, rfl, h0, r0⟩ := trodAll_cons hA
  obtain ⟨v1, vs1, d1, ds1, p1, q1, rfl, rfl, rfl, h1, r1⟩ := trodAll_cons r0
  obtain ⟨rfl, rfl, rfl⟩ := trodAll_nil r1
  obtain rfl : args = #[v0, v1] := by cases args; simp_all
  obtain ⟨rfl, rfl⟩ := trodVars_none hV
  obtain ⟨a0, len0, cap0, rfl⟩ := okWide_slice Try.underlying26 (hval 0 26 v0 rfl rfl)
  have k0 := h0
  have lt0 : ∀ x ∈ p0, x.block < W.heap.size := by obtain ⟨m, hm⟩ := k0; exact DataW.trod_lt m _ _ _ hm
  obtain ⟨x0, m0⟩ : ∃ l : List Int, RdSM maxLen W (.slice a0 len0 cap0) l := by
    obtain ⟨fuel, hf⟩ := h0
    obtain ⟨l, fp, v, hv, hs⟩ := opens_slice Try.underlying26 (by kernel_rfl) (opens_int Try.underlying3) _ _ _ _ _ _ _ _ hf
    simp only [Value.cells, List.cons.injEq, and_true] at hv
    subst hv
    exact ⟨l, fp, hs⟩
  obtain ⟨a1, rfl, rfl, rfl, w1⟩ := open_int Try.underlying3 (hval 1 3 v1 rfl rfl) h1
  have b1 := i64_bounds w1
  clear hA0 hval0
  refine (walk_FnExactShare x0 _ a1 W m0 b1.1 b1.2).mono fun e W' ⟨he, bel⟩ => ?_
  subst he
  exact ⟨_, rfl, _, _, _, [], _, [], hW', trodAll_mk1 (shut_bool Try.underlying4 _), (trodAll_cons_mk (Below.trod laidOut (by kernel_rfl) (of_decide_eq_true (by kernel_rfl)) k0 bel lt0) (trodAll_cons_mk (shut_int Try.underlying3 w1) trodAll_mk0)), rfl, bel.frame _, fun h => by cases h⟩
theorem over : Rows.fnExactShareRow.holds Try.pinned (OpenSpec.ofChange Rows.fnExactShareSpec) :=
  OpenClaim.holds_of_wide 8 Try.f8 rfl rfl rfl rfl rfl rfl rfl ⟨rfl, rfl, rfl, rfl, rfl⟩ rfl rfl rfl rfl rfl (by kernel_rfl) Try.func8 (by kernel_rfl)
    (of_decide_eq_true (by kernel_rfl)) (by unfold Func.isWrapper; first | (rw [if_pos (by decide +kernel)]; kernel_rfl) | (rw [if_neg (by decide +kernel)]; exact ⟨rfl, rfl⟩))
    (fun os started H enc _ => lifted os started H enc)
theorem proved : Rows.FnExactShareSaid := over
end fnExactShare
#print axioms fnExactShare.proved
end Go.Proofs.Ytgcgdneplgkcgaa
