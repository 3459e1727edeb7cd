/- 'laws.FnExactRingLag' answers true for every input, and its argument reads afterwards as before. No conditions. -/
import Derived.Test.YtdbfgolabnomgaaEq2
import Derived.Test.YtdbfgolabnomgaaSz2
import Derived.Test.YtdbfgolabnomgaaConv
import Derived.Test.YtdbfgolabnomgaaRows
import Derived.ProofKit
import Derived.OpenShut
import Derived.Deep.RegionHeld3
namespace Go.Proofs.Ytdbfgolabnomgaa
open Go.ChangeShapes Go.WideShapes Go.ChangeAt Go.RowKit
theorem i64_bounds {n : Int} (h : (Lit.int .i64 n).wf = true) : -9223372036854775808 ≤ n ∧ n ≤ 9223372036854775807 := by
  simp [Lit.wf, IntKind.min, IntKind.max, IntKind.bits, IntKind.signed] at h
  omega

def ringLag (x : DRing) : Int := if x.out = true then -1 else x.list.length
theorem ringLag_t {x : DRing} (h : x.out = true) : ringLag x = -1 := if_pos h
theorem ringLag_f {x : DRing} (h : x.out = false) : ringLag x = x.list.length := by unfold ringLag; rw [h]; rfl
theorem spec_RingLag_c (x : DRing) (v_list : Value) (w : World) (h_list : RdS w v_list x.list) :
    Calls Try.prog 24 #[.agg #[.int .i64 x.cap, .int .i64 x.next, .bool x.out, v_list]] w (Tells w (.int .i64 (ringLag x))) := by
  have hl := fun w1 ty => h_list.len Try.underlying36 w1 ty
  cases ho : x.out
  · rw [ringLag_f ho]
    go_enter Try.func24, Try.ntmps24
    go_wp2
    go_ret
    exact ⟨rfl, (by repeat' (first | (with_reducible exact Below.refl _ _) | (with_reducible refine Below.setCell ?_ ?_ _) | (with_reducible refine Below.alloc ?_ ?_ _) | (with_reducible refine Below.drew ?_) | (with_reducible refine belowN ?_ _) | (with_reducible refine below_after ?_ (by assumption) ?_) | omega | (simp; done) | (simp; omega)))⟩
  · rw [ringLag_t ho]
    go_enter Try.func24, Try.ntmps24
    go_wp2
    go_ret
    exact ⟨rfl, (by repeat' (first | (with_reducible exact Below.refl _ _) | (with_reducible refine Below.setCell ?_ ?_ _) | (with_reducible refine Below.alloc ?_ ?_ _) | (with_reducible refine Below.drew ?_) | (with_reducible refine belowN ?_ _) | (with_reducible refine below_after ?_ (by assumption) ?_) | omega | (simp; done) | (simp; omega)))⟩
theorem impl_RingLag_c (x : DRing) (v_list : Value) (w : World) (h_list : RdS w v_list x.list) :
    Calls Try.prog 26 #[.agg #[.int .i64 x.cap, .int .i64 x.next, .bool x.out, v_list]] w (Tells w (.int .i64 (ringLag x))) := by
  have hl := fun w1 ty => h_list.len Try.underlying36 w1 ty
  cases ho : x.out
  · rw [ringLag_f ho]
    go_enter Try.func26, Try.ntmps26
    go_wp2
    go_ret
    exact ⟨rfl, (by repeat' (first | (with_reducible exact Below.refl _ _) | (with_reducible refine Below.setCell ?_ ?_ _) | (with_reducible refine Below.alloc ?_ ?_ _) | (with_reducible refine Below.drew ?_) | (with_reducible refine belowN ?_ _) | (with_reducible refine below_after ?_ (by assumption) ?_) | omega | (simp; done) | (simp; omega)))⟩
  · rw [ringLag_t ho]
    go_enter Try.func26, Try.ntmps26
    go_wp2
    go_ret
    exact ⟨rfl, (by repeat' (first | (with_reducible exact Below.refl _ _) | (with_reducible refine Below.setCell ?_ ?_ _) | (with_reducible refine Below.alloc ?_ ?_ _) | (with_reducible refine Below.drew ?_) | (with_reducible refine belowN ?_ _) | (with_reducible refine below_after ?_ (by assumption) ?_) | omega | (simp; done) | (simp; omega)))⟩
set_option maxHeartbeats 1000000 in
theorem walk_RingLag (x : DRing) (v_list : Value) (w : World) (h : RdSM maxLen w v_list x.list) : Calls Try.prog 4 #[.agg #[.int .i64 x.cap, .int .i64 x.next, .bool x.out, v_list]] w (Tells w (.bool true)) := by
  by_cases hsz : ((GoS.sz x : Nat) : Int) ≤ 1048576
  · have hr : RdS w v_list x.list := let ⟨fp, s⟩ := h; ⟨fp, s.up (by have : GoS.sz x = szL x.list := rfl; have := le_BIG (n := 1048576) (by omega); omega)⟩
    go_enter Try.func4, Try.ntmps4
    go_wp2_with fail
    refine (szRing_c x _ _ _ (by omega) (by omega) (h.below (by repeat' (first | (with_reducible exact Below.refl _ _) | (with_reducible refine Below.setCell ?_ ?_ _) | (with_reducible refine Below.alloc ?_ ?_ _) | (with_reducible refine Below.drew ?_) | (with_reducible refine belowN ?_ _) | (with_reducible refine below_after ?_ (by assumption) ?_) | omega | (simp; done) | (simp; omega))))).mono ?_
    rintro e w1 ⟨rfl, hb1⟩
    have s1 : w.heap.size + 1 ≤ w1.heap.size := (by have := hb1.size; (try simp at this); omega)
    obtain ⟨hc1, hf1⟩ := bcell hb1
    have z1_0 : w.heap.size < w1.heap.size := (by omega)
    rw [less_pos hsz]
    go_wp2_with fail
    refine (toRing_c x _ _ (hr.below (by repeat' (first | (with_reducible exact Below.refl _ _) | (with_reducible refine Below.setCell ?_ ?_ _) | (with_reducible refine Below.alloc ?_ ?_ _) | (with_reducible refine Below.drew ?_) | (with_reducible refine belowN ?_ _) | (with_reducible refine below_after ?_ (by assumption) ?_) | omega | (simp; done) | (simp; omega))))).mono ?_
    rintro e w2 ⟨_, rfl, ho, hb2⟩
    obtain ⟨v2, rfl, ho1⟩ := inv_own_DRing ho
    have s2 : w1.heap.size ≤ w2.heap.size := (by have := hb2.size; (try simp at this); omega)
    obtain ⟨a2, c2, rfl⟩ := ho1.rd.isSlice
    obtain ⟨C2, D2, HO2, jc2, jd2, je2⟩ := ho1.ex (m := w1.heap.size) (by simp) hb2.size
    clear ho ho1
    obtain ⟨hc2, hf2⟩ := bcell hb2
    have z2_0 : w.heap.size < w2.heap.size := (by omega)
    go_wp2_with fail
    refine (spec_RingLag_c x _ _ (((by repeat' (first | (with_reducible exact HO2) | (with_reducible refine OwnB.setCell ?_ ?_ _) | (with_reducible refine OwnB.drew ?_) | (with_reducible refine OwnB.drewN ?_ _) | (with_reducible refine OwnB.below ?_ (by assumption)) | (with_reducible refine OwnB.alloc ?_ _) | omega | (simp; done) | (simp; omega))) : OwnB C2 D2 _ _ _).own.rd)).mono ?_
    rintro e w3 ⟨rfl, hb3⟩
    have s3 : w2.heap.size ≤ w3.heap.size := (by have := hb3.size; (try simp at this); omega)
    obtain ⟨hc3, hf3⟩ := bcell hb3
    have z3_0 : w.heap.size < w3.heap.size := (by omega)
    go_wp2_with fail
    refine (toRing_c x _ _ (hr.below (by repeat' (first | (with_reducible exact Below.refl _ _) | (with_reducible refine Below.setCell ?_ ?_ _) | (with_reducible refine Below.alloc ?_ ?_ _) | (with_reducible refine Below.drew ?_) | (with_reducible refine belowN ?_ _) | (with_reducible refine below_after ?_ (by assumption) ?_) | omega | (simp; done) | (simp; omega))))).mono ?_
    rintro e w4 ⟨_, rfl, ho, hb4⟩
    obtain ⟨v4, rfl, ho1⟩ := inv_own_DRing ho
    have s4 : w3.heap.size ≤ w4.heap.size := (by have := hb4.size; (try simp at this); omega)
    obtain ⟨a4, c4, rfl⟩ := ho1.rd.isSlice
    obtain ⟨C4, D4, HO4, jc4, jd4, je4⟩ := ho1.ex (m := w3.heap.size) (by simp) hb4.size
    clear ho ho1
    obtain ⟨hc4, hf4⟩ := bcell hb4
    have z4_0 : w.heap.size < w4.heap.size := (by omega)
    go_wp2_with fail
    refine (impl_RingLag_c x _ _ (((by repeat' (first | (with_reducible exact HO4) | (with_reducible refine OwnB.setCell ?_ ?_ _) | (with_reducible refine OwnB.drew ?_) | (with_reducible refine OwnB.drewN ?_ _) | (with_reducible refine OwnB.below ?_ (by assumption)) | (with_reducible refine OwnB.alloc ?_ _) | omega | (simp; done) | (simp; omega))) : OwnB C4 D4 _ _ _).own.rd)).mono ?_
    rintro e w5 ⟨rfl, hb5⟩
    have s5 : w4.heap.size + 1 ≤ w5.heap.size := (by have := hb5.size; (try simp at this); omega)
    obtain ⟨hc5, hf5⟩ := bcell hb5
    have z5_0 : w.heap.size < w5.heap.size := (by omega)
    have z5_1 : w4.heap.size < w5.heap.size := by omega
    go_wp2_with fail
    have hB : Below (w.heap.size + 1) (w.alloc (.cells #[.int .i64 x.cap, .int .i64 x.next, .bool x.out, v_list] 33)) w5 := (by repeat' (first | (with_reducible exact Below.refl _ _) | (with_reducible refine Below.setCell ?_ ?_ _) | (with_reducible refine Below.alloc ?_ ?_ _) | (with_reducible refine Below.drew ?_) | (with_reducible refine belowN ?_ _) | (with_reducible refine below_after ?_ (by assumption) ?_) | omega | (simp; done) | (simp; omega)))
    have q0 : w5.cell? ⟨w.heap.size, 0, none⟩ = some (.int .i64 x.cap) := by rw [hB.cell (Nat.lt_succ_self _)]; simp
    have q1 : w5.cell? ⟨w.heap.size, 1, none⟩ = some (.int .i64 x.next) := by rw [hB.cell (Nat.lt_succ_self _)]; simp
    have q2 : w5.cell? ⟨w.heap.size, 2, none⟩ = some (.bool x.out) := by rw [hB.cell (Nat.lt_succ_self _)]; simp
    have q3 : w5.cell? ⟨w.heap.size, 3, none⟩ = some v_list := by rw [hB.cell (Nat.lt_succ_self _)]; simp
    clear hB
    have q4 : w5.cell? ⟨w4.heap.size, 0, none⟩ = some (.int .i64 x.cap) := by simp [*]
    have q5 : w5.cell? ⟨w4.heap.size, 1, none⟩ = some (.int .i64 x.next) := by simp [*]
    have q6 : w5.cell? ⟨w4.heap.size, 2, none⟩ = some (.bool x.out) := by simp [*]
    have q7 : w5.cell? ⟨w4.heap.size, 3, none⟩ = some (.slice a4 x.list.length c4) := by simp [*]
    go_region_held3 (fun w' => w'.cell? ⟨w.heap.size, 0, none⟩ = some (.int .i64 x.cap) ∧ w'.cell? ⟨w.heap.size, 1, none⟩ = some (.int .i64 x.next) ∧ w'.cell? ⟨w.heap.size, 2, none⟩ = some (.bool x.out) ∧ w'.cell? ⟨w.heap.size, 3, none⟩ = some v_list ∧ w'.cell? ⟨w4.heap.size, 0, none⟩ = some (.int .i64 x.cap) ∧ w'.cell? ⟨w4.heap.size, 1, none⟩ = some (.int .i64 x.next) ∧ w'.cell? ⟨w4.heap.size, 2, none⟩ = some (.bool x.out) ∧ w'.cell? ⟨w4.heap.size, 3, none⟩ = some (.slice a4 x.list.length c4)) (go_keep)
      (first | (go_at_call 25; go_must (refine (toRing_c x _ _ (hr.below (by repeat' (first | (with_reducible exact Below.refl _ _) | (with_reducible refine Below.setCell ?_ ?_ _) | (with_reducible refine Below.alloc ?_ ?_ _) | (with_reducible refine Below.drew ?_) | (with_reducible refine belowN ?_ _) | (with_reducible refine below_after ?_ (by assumption) ?_) | omega | (simp; done) | (simp; omega))))).mono ?_; rintro e w6 ⟨_, rfl, ho, hb6⟩; obtain ⟨v6, rfl, ho1⟩ := inv_own_DRing ho; have s6 : w5.heap.size ≤ w6.heap.size := (by have := hb6.size; (try simp at this); omega); obtain ⟨a6, c6, rfl⟩ := ho1.rd.isSlice; obtain ⟨C6, D6, HO6, jc6, jd6, je6⟩ := ho1.ex (m := w5.heap.size) (by simp) hb6.size; clear ho ho1; obtain ⟨hc6, hf6⟩ := bcell hb6; have z6_0 : w.heap.size < w6.heap.size := (by omega); have z6_1 : w4.heap.size < w6.heap.size := (by omega); have y0 : w6.cell? ⟨w.heap.size, 0, none⟩ = some (.int .i64 x.cap) := (hb6.cell (p := ⟨w.heap.size, 0, none⟩) z5_0).trans q0; have y1 : w6.cell? ⟨w.heap.size, 1, none⟩ = some (.int .i64 x.next) := (hb6.cell (p := ⟨w.heap.size, 1, none⟩) z5_0).trans q1; have y2 : w6.cell? ⟨w.heap.size, 2, none⟩ = some (.bool x.out) := (hb6.cell (p := ⟨w.heap.size, 2, none⟩) z5_0).trans q2; have y3 : w6.cell? ⟨w.heap.size, 3, none⟩ = some (v_list) := (hb6.cell (p := ⟨w.heap.size, 3, none⟩) z5_0).trans q3; have y4 : w6.cell? ⟨w4.heap.size, 0, none⟩ = some (.int .i64 x.cap) := (hb6.cell (p := ⟨w4.heap.size, 0, none⟩) z5_1).trans q4; have y5 : w6.cell? ⟨w4.heap.size, 1, none⟩ = some (.int .i64 x.next) := (hb6.cell (p := ⟨w4.heap.size, 1, none⟩) z5_1).trans q5; have y6 : w6.cell? ⟨w4.heap.size, 2, none⟩ = some (.bool x.out) := (hb6.cell (p := ⟨w4.heap.size, 2, none⟩) z5_1).trans q6; have y7 : w6.cell? ⟨w4.heap.size, 3, none⟩ = some (.slice a4 x.list.length c4) := (hb6.cell (p := ⟨w4.heap.size, 3, none⟩) z5_1).trans q7; clear hc6 hf6)) | (go_at_call 27; refine (eqRing_c x _ _ _ (((by repeat' (first | (with_reducible exact HO4) | (with_reducible refine OwnB.setCell ?_ ?_ _) | (with_reducible refine OwnB.drew ?_) | (with_reducible refine OwnB.drewN ?_ _) | (with_reducible refine OwnB.below ?_ (by assumption)) | (with_reducible refine OwnB.alloc ?_ _) | omega | (simp; done) | (simp; omega))) : OwnB C4 D4 _ _ _).own.rd) (((by repeat' (first | (with_reducible exact HO6) | (with_reducible refine OwnB.setCell ?_ ?_ _) | (with_reducible refine OwnB.drew ?_) | (with_reducible refine OwnB.drewN ?_ _) | (with_reducible refine OwnB.below ?_ (by assumption)) | (with_reducible refine OwnB.alloc ?_ _) | omega | (simp; done) | (simp; omega))) : OwnB C6 D6 _ _ _).own.rd)).mono ?_; rintro e w7 ⟨rfl, hb7⟩; have s7 : w6.heap.size ≤ w7.heap.size := (by have := hb7.size; (try simp at this); omega); obtain ⟨hc7, hf7⟩ := bcell hb7; have z7_0 : w.heap.size < w7.heap.size := (by omega); have z7_1 : w4.heap.size < w7.heap.size := (by omega); have u0 : w7.cell? ⟨w.heap.size, 0, none⟩ = some (.int .i64 x.cap) := (hb7.cell (p := ⟨w.heap.size, 0, none⟩) z6_0).trans y0; have u1 : w7.cell? ⟨w.heap.size, 1, none⟩ = some (.int .i64 x.next) := (hb7.cell (p := ⟨w.heap.size, 1, none⟩) z6_0).trans y1; have u2 : w7.cell? ⟨w.heap.size, 2, none⟩ = some (.bool x.out) := (hb7.cell (p := ⟨w.heap.size, 2, none⟩) z6_0).trans y2; have u3 : w7.cell? ⟨w.heap.size, 3, none⟩ = some (v_list) := (hb7.cell (p := ⟨w.heap.size, 3, none⟩) z6_0).trans y3; have u4 : w7.cell? ⟨w4.heap.size, 0, none⟩ = some (.int .i64 x.cap) := (hb7.cell (p := ⟨w4.heap.size, 0, none⟩) z6_1).trans y4; have u5 : w7.cell? ⟨w4.heap.size, 1, none⟩ = some (.int .i64 x.next) := (hb7.cell (p := ⟨w4.heap.size, 1, none⟩) z6_1).trans y5; have u6 : w7.cell? ⟨w4.heap.size, 2, none⟩ = some (.bool x.out) := (hb7.cell (p := ⟨w4.heap.size, 2, none⟩) z6_1).trans y6; have u7 : w7.cell? ⟨w4.heap.size, 3, none⟩ = some (.slice a4 x.list.length c4) := (hb7.cell (p := ⟨w4.heap.size, 3, none⟩) z6_1).trans y7; clear hc7 hf7))
    go_wp2
    go_ret
    exact ⟨rfl, (by repeat' (first | (with_reducible exact Below.refl _ _) | (with_reducible refine Below.setCell ?_ ?_ _) | (with_reducible refine Below.alloc ?_ ?_ _) | (with_reducible refine Below.drew ?_) | (with_reducible refine belowN ?_ _) | (with_reducible refine below_after ?_ (by assumption) ?_) | omega | (simp; done) | (simp; omega)))⟩
  · go_enter Try.func4, Try.ntmps4
    go_wp2_with fail
    refine (szRing_c x _ _ _ (by omega) (by omega) (h.below (by repeat' (first | (with_reducible exact Below.refl _ _) | (with_reducible refine Below.setCell ?_ ?_ _) | (with_reducible refine Below.alloc ?_ ?_ _) | (with_reducible refine Below.drew ?_) | (with_reducible refine belowN ?_ _) | (with_reducible refine below_after ?_ (by assumption) ?_) | omega | (simp; done) | (simp; omega))))).mono ?_
    rintro e w1 ⟨rfl, hb1⟩
    rw [less_neg (by omega)]
    go_wp2
    go_ret
    exact ⟨rfl, (by repeat' (first | (with_reducible exact Below.refl _ _) | (with_reducible refine Below.setCell ?_ ?_ _) | (with_reducible refine Below.alloc ?_ ?_ _) | (with_reducible refine Below.drew ?_) | (with_reducible refine belowN ?_ _) | (with_reducible refine below_after ?_ (by assumption) ?_) | omega | (simp; done) | (simp; omega)))⟩
namespace fnExactRingLag
theorem own : ownKnob Try.prog.godebug = none := by kernel_rfl
theorem laidOut : laidOutB Try.prog = true := by kernel_rfl
set_option maxRecDepth 100000 in
theorem lifted (os : Os) (started : os.Started) (H : Type) (enc : TypeId × Value → H) :
    ReturnsInHanded {} Try.checked os 4 .any (Rows.fnExactRingLagSpec.pre6 enc Try.prog Try.f4 Rows.fnExactRingLagRow.domain false) (Rows.fnExactRingLagSpec.post enc Try.prog Try.f4 false true false false) := by
  refine returnsInHanded_of_change (C := Try.checked) own started (by kernel_rfl) Try.func4
    (ChangeSpec.witness6 (enc := enc) (C := Try.checked) false ⟨#[], #[.agg #[.int .i64 0, .int .i64 0, .bool false, .slice none 0 0]], []⟩ 8 (by kernel_rfl) (by kernel_rfl) (by kernel_rfl) (by kernel_rfl)) ?_
  intro W base args ds gs before hval0 hW hcnd _
  have hval : ∀ (j : Nat) t v, Try.f4.params[j]? = some t → args[j]? = some v → Value.okWide Try.prog W .any base t v := hval0
  have hW' := hW
  obtain ⟨p, q, hA0, hV, rfl, hfz, hnd⟩ := hW
  have hA : DataW.TrodAll enc Try.prog W 0 (fun _ => true) true Try.f4.params.toList args.toList ds p := hA0
  rw [Try.params4] at hA hval
  obtain ⟨v0, vs0, d0, ds0, p0, q0, hargs, rfl, rfl, h0, r0⟩ := trodAll_cons hA
  obtain ⟨rfl, rfl, rfl⟩ := trodAll_nil r0
  obtain rfl : args = #[v0] := by cases args; simp_all
  obtain ⟨rfl, rfl⟩ := trodVars_none hV
  obtain ⟨cs0, rfl, _⟩ := okWide_struct Try.underlying33 (hval 0 33 v0 rfl rfl)
  have k0 := h0
  have lt0 : ∀ x ∈ p0, x.block < W.heap.size := by obtain ⟨m, hm⟩ := k0; exact DataW.trod_lt m _ _ _ hm
  obtain ⟨x0, m0⟩ : ∃ x : DRing, RdM maxLen W cs0.toList x := by
    obtain ⟨fuel, hf⟩ := h0
    exact opens_DRing _ _ _ _ _ _ _ _ hf
  obtain ⟨v_list0, hc0, m_list0⟩ := invM_DRing m0
  obtain ⟨cs0⟩ := cs0
  simp only at hc0
  subst hc0
  clear hA0 hval0
  refine (walk_RingLag x0 _ W m_list0).mono fun e W' ⟨he, bel⟩ => ?_
  subst he
  exact ⟨_, rfl, _, _, _, [], _, [], hW', trodAll_mk1 (shut_bool Try.underlying4 _), (trodAll_cons_mk (Below.trod laidOut (by kernel_rfl) (of_decide_eq_true (by kernel_rfl)) k0 bel lt0) trodAll_mk0), rfl, bel.frame _, fun h => by cases h⟩
theorem over : Rows.fnExactRingLagRow.holds Try.pinned (OpenSpec.ofChange Rows.fnExactRingLagSpec) :=
  OpenClaim.holds_of_wide 4 Try.f4 rfl rfl rfl rfl rfl rfl rfl ⟨rfl, rfl, rfl, rfl, rfl⟩ rfl rfl rfl rfl rfl (by kernel_rfl) Try.func4 (by kernel_rfl)
    (of_decide_eq_true (by kernel_rfl)) (by unfold Func.isWrapper; first | (rw [if_pos (by decide +kernel)]; kernel_rfl) | (rw [if_neg (by decide +kernel)]; exact ⟨rfl, rfl⟩))
    (fun os started H enc _ => lifted os started H enc)
theorem proved : Rows.FnExactRingLagSaid := over
end fnExactRingLag
#print axioms fnExactRingLag.proved
end Go.Proofs.Ytdbfgolabnomgaa
