/- 'laws.FnExactHubOk' answers true for every input, and each argument reads afterwards as before. No conditions. -/
import Derived.Test.YtddohcdkmhaheaaEz
import Derived.Test.YtddohcdkmhaheaaHok
import Derived.Test.YtddohcdkmhaheaaRows
import Derived.ProofKit
import Derived.OpenShut
import Derived.ChangeMaps5
import Derived.Deep.RegionHeld3
namespace Go.Proofs.Ytddohcdkmhaheaa
open Go.ChangeShapes Go.WideShapes Go.ChangeAt Go.RowKit
set_option maxHeartbeats 4000000 in
theorem walk_FnExactHubOk (x : DHub) (v_x_docs : Value) (v_x_subs : Value) (w : World) (h_x_docs : RdSM maxLen w v_x_docs x.docs) (h_x_subs : RdSM maxLen w v_x_subs x.subs) :
    Calls Try.prog 5 #[.agg #[.bool x.shut, v_x_docs, v_x_subs, .int .i64 x.last]] w (Tells w (.bool true)) := by
  by_cases cz_x : ((GoS.sz x : Nat) : Int) ≤ 1048576
  rotate_left
  · go_enter Try.func5, Try.ntmps5
    go_wp2_with fail
    refine (szHub_c x _ _ _ _ (by omega) (by omega)  (h_x_docs.below blw) (h_x_subs.below blw)).mono ?_
    rintro e w1 ⟨rfl, hb1⟩
    have s1 : w.heap.size + 1 ≤ w1.heap.size := (by have := hb1.size; (try simp at this); omega)
    obtain ⟨hc1, hf1⟩ := bcell hb1
    have z1_0 : w.heap.size < w1.heap.size := (by omega)
    rw [less_neg (by omega)]
    go_wp2
    go_ret
    exact ⟨rfl, blw⟩
  have hr_x_docs : RdS w v_x_docs x.docs := let ⟨fp, s⟩ := h_x_docs; ⟨fp, s.up (by have : GoS.sz x = szL x.docs + szL x.subs := rfl; exact le_BIG (by omega))⟩
  have hr_x_subs : RdS w v_x_subs x.subs := let ⟨fp, s⟩ := h_x_subs; ⟨fp, s.up (by have : GoS.sz x = szL x.docs + szL x.subs := rfl; exact le_BIG (by omega))⟩
  go_enter Try.func5, Try.ntmps5
  go_wp2_with fail
  refine (szHub_c x _ _ _ _ (by omega) (by omega)  (h_x_docs.below blw) (h_x_subs.below blw)).mono ?_
  rintro e w1 ⟨rfl, hb1⟩
  have s1 : w.heap.size + 1 ≤ w1.heap.size := (by have := hb1.size; (try simp at this); omega)
  obtain ⟨hc1, hf1⟩ := bcell hb1
  have z1_0 : w.heap.size < w1.heap.size := (by omega)
  rw [less_pos (by omega)]
  go_wp2_with fail
  refine (toHub_c x _ _ _  (hr_x_docs.below blw) (hr_x_subs.below blw)).mono ?_
  rintro e w2 ⟨_, rfl, ho, hb2⟩
  obtain ⟨v2_0, v2_1, rfl, ho_0, ho_1⟩ := inv_own_DHub ho
  have s2 : w1.heap.size ≤ w2.heap.size := (by have := hb2.size; (try simp at this); omega)
  obtain ⟨a2_0, c2_0, rfl⟩ := ho_0.rd.isSlice
  obtain ⟨C2_0, D2_0, HO2_0, jc2_0, jd2_0, je2_0⟩ := ho_0.ex (m := w1.heap.size) om hb2.size
  clear ho_0
  obtain ⟨a2_1, c2_1, rfl⟩ := ho_1.rd.isSlice
  obtain ⟨C2_1, D2_1, HO2_1, jc2_1, jd2_1, je2_1⟩ := ho_1.ex (m := w1.heap.size) om hb2.size
  clear ho_1
  clear ho
  obtain ⟨hc2, hf2⟩ := bcell hb2
  have z2_0 : w.heap.size < w2.heap.size := (by omega)
  go_wp2_with fail
  refine (spec_HubOk_c x _ _ _  (((by repeat' (first | (with_reducible exact HO2_0) | (with_reducible refine OwnB.setCell ?_ ?_ _) | (with_reducible refine OwnB.drew ?_) | (with_reducible refine OwnB.drewN ?_ _) | (with_reducible refine OwnB.below ?_ (by assumption)) | (with_reducible refine OwnB.alloc ?_ _) | omega | (simp; done) | (simp; omega))) : OwnB C2_0 D2_0 _ _ _).own.rd) (((by repeat' (first | (with_reducible exact HO2_1) | (with_reducible refine OwnB.setCell ?_ ?_ _) | (with_reducible refine OwnB.drew ?_) | (with_reducible refine OwnB.drewN ?_ _) | (with_reducible refine OwnB.below ?_ (by assumption)) | (with_reducible refine OwnB.alloc ?_ _) | omega | (simp; done) | (simp; omega))) : OwnB C2_1 D2_1 _ _ _).own.rd)).mono ?_
  rintro e w3 ⟨rfl, hb3⟩
  have s3 : w2.heap.size ≤ w3.heap.size := (by have := hb3.size; (try simp at this); omega)
  obtain ⟨hc3, hf3⟩ := bcell hb3
  have z3_0 : w.heap.size < w3.heap.size := (by omega)
  go_wp2_with fail
  refine (toHub_c x _ _ _  (hr_x_docs.below blw) (hr_x_subs.below blw)).mono ?_
  rintro e w4 ⟨_, rfl, ho, hb4⟩
  obtain ⟨v4_0, v4_1, rfl, ho_0, ho_1⟩ := inv_own_DHub ho
  have s4 : w3.heap.size ≤ w4.heap.size := (by have := hb4.size; (try simp at this); omega)
  obtain ⟨a4_0, c4_0, rfl⟩ := ho_0.rd.isSlice
  obtain ⟨C4_0, D4_0, HO4_0, jc4_0, jd4_0, je4_0⟩ := ho_0.ex (m := w3.heap.size) om hb4.size
  clear ho_0
  obtain ⟨a4_1, c4_1, rfl⟩ := ho_1.rd.isSlice
  obtain ⟨C4_1, D4_1, HO4_1, jc4_1, jd4_1, je4_1⟩ := ho_1.ex (m := w3.heap.size) om hb4.size
  clear ho_1
  clear ho
  obtain ⟨hc4, hf4⟩ := bcell hb4
  have z4_0 : w.heap.size < w4.heap.size := (by omega)
  go_wp2_with fail
  refine (impl_HubOk_c x _ _ _  (((by repeat' (first | (with_reducible exact HO4_0) | (with_reducible refine OwnB.setCell ?_ ?_ _) | (with_reducible refine OwnB.drew ?_) | (with_reducible refine OwnB.drewN ?_ _) | (with_reducible refine OwnB.below ?_ (by assumption)) | (with_reducible refine OwnB.alloc ?_ _) | omega | (simp; done) | (simp; omega))) : OwnB C4_0 D4_0 _ _ _).own.rd) (((by repeat' (first | (with_reducible exact HO4_1) | (with_reducible refine OwnB.setCell ?_ ?_ _) | (with_reducible refine OwnB.drew ?_) | (with_reducible refine OwnB.drewN ?_ _) | (with_reducible refine OwnB.below ?_ (by assumption)) | (with_reducible refine OwnB.alloc ?_ _) | omega | (simp; done) | (simp; omega))) : OwnB C4_1 D4_1 _ _ _).own.rd)).mono ?_
  rintro e w5 ⟨rfl, hb5⟩
  have s5 : w4.heap.size + 1 ≤ w5.heap.size := (by have := hb5.size; (try simp at this); omega)
  obtain ⟨hc5, hf5⟩ := bcell hb5
  have z5_0 : w.heap.size < w5.heap.size := (by omega)
  have z5_1 : w4.heap.size < w5.heap.size := (by omega)
  go_wp2_with fail
  have hB : Below (w.heap.size + 1) (w.alloc (.cells #[.bool x.shut, v_x_docs, v_x_subs, .int .i64 x.last] 58)) w5 := blw
  have q5_0 : w5.cell? ⟨w.heap.size, 0, none⟩ = some (.bool x.shut) := by rw [hB.cell (by simp; try omega)]; simp
  have q5_1 : w5.cell? ⟨w.heap.size, 1, none⟩ = some (v_x_docs) := by rw [hB.cell (by simp; try omega)]; simp
  have q5_2 : w5.cell? ⟨w.heap.size, 2, none⟩ = some (v_x_subs) := by rw [hB.cell (by simp; try omega)]; simp
  have q5_3 : w5.cell? ⟨w.heap.size, 3, none⟩ = some (.int .i64 x.last) := by rw [hB.cell (by simp; try omega)]; simp
  clear hB
  have hB : Below (w4.heap.size + 1) (w4.alloc (.cells #[.bool x.shut, .slice a4_0 x.docs.length c4_0, .slice a4_1 x.subs.length c4_1, .int .i64 x.last] 64)) w5 := blw
  have x5_0 : w5.cell? ⟨w4.heap.size, 0, none⟩ = some (.bool x.shut) := by rw [hB.cell (Nat.lt_succ_self _)]; simp
  have x5_1 : w5.cell? ⟨w4.heap.size, 1, none⟩ = some (.slice a4_0 x.docs.length c4_0) := by rw [hB.cell (Nat.lt_succ_self _)]; simp
  have x5_2 : w5.cell? ⟨w4.heap.size, 2, none⟩ = some (.slice a4_1 x.subs.length c4_1) := by rw [hB.cell (Nat.lt_succ_self _)]; simp
  have x5_3 : w5.cell? ⟨w4.heap.size, 3, none⟩ = some (.int .i64 x.last) := by rw [hB.cell (Nat.lt_succ_self _)]; simp
  clear hB
  clear hc1 hf1
  clear hc2 hf2
  clear hc3 hf3
  clear hc4 hf4
  clear hc5 hf5
  go_region_held3 (fun w' => w'.cell? ⟨w.heap.size, 0, none⟩ = some (.bool x.shut) ∧ w'.cell? ⟨w.heap.size, 1, none⟩ = some (v_x_docs) ∧ w'.cell? ⟨w.heap.size, 2, none⟩ = some (v_x_subs) ∧ w'.cell? ⟨w.heap.size, 3, none⟩ = some (.int .i64 x.last) ∧ w'.cell? ⟨w4.heap.size, 0, none⟩ = some (.bool x.shut) ∧ w'.cell? ⟨w4.heap.size, 1, none⟩ = some (.slice a4_0 x.docs.length c4_0) ∧ w'.cell? ⟨w4.heap.size, 2, none⟩ = some (.slice a4_1 x.subs.length c4_1) ∧ w'.cell? ⟨w4.heap.size, 3, none⟩ = some (.int .i64 x.last)) (go_keep)
    (first | (go_at_call 28; refine (toHub_c x _ _ _  (hr_x_docs.below blw) (hr_x_subs.below blw)).mono ?_; rintro e w6 ⟨_, rfl, ho, hb6⟩; obtain ⟨v6_0, v6_1, rfl, ho_0, ho_1⟩ := inv_own_DHub ho; have s6 : w5.heap.size ≤ w6.heap.size := (by have := hb6.size; (try simp at this); omega); obtain ⟨a6_0, c6_0, rfl⟩ := ho_0.rd.isSlice; obtain ⟨C6_0, D6_0, HO6_0, jc6_0, jd6_0, je6_0⟩ := ho_0.ex (m := w5.heap.size) om hb6.size; clear ho_0; obtain ⟨a6_1, c6_1, rfl⟩ := ho_1.rd.isSlice; obtain ⟨C6_1, D6_1, HO6_1, jc6_1, jd6_1, je6_1⟩ := ho_1.ex (m := w5.heap.size) om hb6.size; clear ho_1; clear ho; obtain ⟨hc6, hf6⟩ := bcell hb6; have z6_0 : w.heap.size < w6.heap.size := (by omega); have z6_1 : w4.heap.size < w6.heap.size := (by omega); have y6_0 : w6.cell? ⟨w.heap.size, 0, none⟩ = some (.bool x.shut) := (hb6.cell (p := ⟨w.heap.size, 0, none⟩) z5_0).trans q5_0; have y6_1 : w6.cell? ⟨w.heap.size, 1, none⟩ = some (v_x_docs) := (hb6.cell (p := ⟨w.heap.size, 1, none⟩) z5_0).trans q5_1; have y6_2 : w6.cell? ⟨w.heap.size, 2, none⟩ = some (v_x_subs) := (hb6.cell (p := ⟨w.heap.size, 2, none⟩) z5_0).trans q5_2; have y6_3 : w6.cell? ⟨w.heap.size, 3, none⟩ = some (.int .i64 x.last) := (hb6.cell (p := ⟨w.heap.size, 3, none⟩) z5_0).trans q5_3; have y6_4 : w6.cell? ⟨w4.heap.size, 0, none⟩ = some (.bool x.shut) := (hb6.cell (p := ⟨w4.heap.size, 0, none⟩) z5_1).trans x5_0; have y6_5 : w6.cell? ⟨w4.heap.size, 1, none⟩ = some (.slice a4_0 x.docs.length c4_0) := (hb6.cell (p := ⟨w4.heap.size, 1, none⟩) z5_1).trans x5_1; have y6_6 : w6.cell? ⟨w4.heap.size, 2, none⟩ = some (.slice a4_1 x.subs.length c4_1) := (hb6.cell (p := ⟨w4.heap.size, 2, none⟩) z5_1).trans x5_2; have y6_7 : w6.cell? ⟨w4.heap.size, 3, none⟩ = some (.int .i64 x.last) := (hb6.cell (p := ⟨w4.heap.size, 3, none⟩) z5_1).trans x5_3; clear hc6 hf6) | (go_at_call 30; refine (eqHub_c x _ _ _ _ _ (((by repeat' (first | (with_reducible exact HO4_0) | (with_reducible refine OwnB.setCell ?_ ?_ _) | (with_reducible refine OwnB.drew ?_) | (with_reducible refine OwnB.drewN ?_ _) | (with_reducible refine OwnB.below ?_ (by assumption)) | (with_reducible refine OwnB.alloc ?_ _) | omega | (simp; done) | (simp; omega))) : OwnB C4_0 D4_0 _ _ _).own.rd) (((by repeat' (first | (with_reducible exact HO6_0) | (with_reducible refine OwnB.setCell ?_ ?_ _) | (with_reducible refine OwnB.drew ?_) | (with_reducible refine OwnB.drewN ?_ _) | (with_reducible refine OwnB.below ?_ (by assumption)) | (with_reducible refine OwnB.alloc ?_ _) | omega | (simp; done) | (simp; omega))) : OwnB C6_0 D6_0 _ _ _).own.rd) (((by repeat' (first | (with_reducible exact HO4_1) | (with_reducible refine OwnB.setCell ?_ ?_ _) | (with_reducible refine OwnB.drew ?_) | (with_reducible refine OwnB.drewN ?_ _) | (with_reducible refine OwnB.below ?_ (by assumption)) | (with_reducible refine OwnB.alloc ?_ _) | omega | (simp; done) | (simp; omega))) : OwnB C4_1 D4_1 _ _ _).own.rd) (((by repeat' (first | (with_reducible exact HO6_1) | (with_reducible refine OwnB.setCell ?_ ?_ _) | (with_reducible refine OwnB.drew ?_) | (with_reducible refine OwnB.drewN ?_ _) | (with_reducible refine OwnB.below ?_ (by assumption)) | (with_reducible refine OwnB.alloc ?_ _) | omega | (simp; done) | (simp; omega))) : OwnB C6_1 D6_1 _ _ _).own.rd)).mono ?_; rintro e w7 ⟨rfl, hb7⟩; have s7 : w6.heap.size ≤ w7.heap.size := (by have := hb7.size; (try simp at this); omega); obtain ⟨hc7, hf7⟩ := bcell hb7; have z7_0 : w.heap.size < w7.heap.size := (by omega); have z7_1 : w4.heap.size < w7.heap.size := (by omega); have y7_0 : w7.cell? ⟨w.heap.size, 0, none⟩ = some (.bool x.shut) := (hb7.cell (p := ⟨w.heap.size, 0, none⟩) z6_0).trans y6_0; have y7_1 : w7.cell? ⟨w.heap.size, 1, none⟩ = some (v_x_docs) := (hb7.cell (p := ⟨w.heap.size, 1, none⟩) z6_0).trans y6_1; have y7_2 : w7.cell? ⟨w.heap.size, 2, none⟩ = some (v_x_subs) := (hb7.cell (p := ⟨w.heap.size, 2, none⟩) z6_0).trans y6_2; have y7_3 : w7.cell? ⟨w.heap.size, 3, none⟩ = some (.int .i64 x.last) := (hb7.cell (p := ⟨w.heap.size, 3, none⟩) z6_0).trans y6_3; have y7_4 : w7.cell? ⟨w4.heap.size, 0, none⟩ = some (.bool x.shut) := (hb7.cell (p := ⟨w4.heap.size, 0, none⟩) z6_1).trans y6_4; have y7_5 : w7.cell? ⟨w4.heap.size, 1, none⟩ = some (.slice a4_0 x.docs.length c4_0) := (hb7.cell (p := ⟨w4.heap.size, 1, none⟩) z6_1).trans y6_5; have y7_6 : w7.cell? ⟨w4.heap.size, 2, none⟩ = some (.slice a4_1 x.subs.length c4_1) := (hb7.cell (p := ⟨w4.heap.size, 2, none⟩) z6_1).trans y6_6; have y7_7 : w7.cell? ⟨w4.heap.size, 3, none⟩ = some (.int .i64 x.last) := (hb7.cell (p := ⟨w4.heap.size, 3, none⟩) z6_1).trans y6_7; clear hc7 hf7))
  go_wp2
  go_ret
  exact ⟨rfl, blw⟩
namespace fnExactHubOk
theorem own : ownKnob Try.prog.godebug = none := by kernel_rfl
theorem laidOut : laidOutB Try.prog = true := by kernel_rfl
set_option maxRecDepth 100000 in
theorem lifted (os : Os) (started : os.Started) (H : Type) (enc : TypeId × Value → H) :
    ReturnsInHanded {} Try.checked os 5 .any (Rows.fnExactHubOkSpec.pre6 enc Try.prog Try.f5 Rows.fnExactHubOkRow.domain false) (Rows.fnExactHubOkSpec.post enc Try.prog Try.f5 false true false false) := by
  refine returnsInHanded_of_change (C := Try.checked) own started (by kernel_rfl) Try.func5
    (ChangeSpec.witness6 (enc := enc) (C := Try.checked) false ⟨#[], #[.agg #[.bool false, .slice none 0 0, .slice none 0 0, .int .i64 0]], []⟩ 8 (by kernel_rfl) (by kernel_rfl) (by kernel_rfl) (by kernel_rfl)) ?_
  intro W base args ds gs before hval0 hW hcnd _
  have hval : ∀ (j : Nat) t v, Try.f5.params[j]? = some t → args[j]? = some v → Value.okWide Try.prog W .any base t v := hval0
  have hW' := hW
  obtain ⟨p, q, hA0, hV, rfl, hfz, hnd⟩ := hW
  have hA : DataW.TrodAll enc Try.prog W 0 (fun _ => true) true Try.f5.params.toList args.toList ds p := hA0
  rw [Try.params5] at hA hval
  obtain ⟨v0, vs0, d0, ds0, p0, q0, hargs, rfl, rfl, h0, r0⟩ := trodAll_cons hA
  obtain ⟨rfl, rfl, rfl⟩ := trodAll_nil r0
  obtain rfl : args = #[v0] := by cases args; simp_all
  obtain ⟨rfl, rfl⟩ := trodVars_none hV
  obtain ⟨cs0, rfl, _⟩ := okWide_struct Try.underlying58 (hval 0 58 v0 rfl rfl)
  have k0 := h0
  have lt0 : ∀ x ∈ p0, x.block < W.heap.size := by obtain ⟨m, hm⟩ := k0; exact DataW.trod_lt m _ _ _ hm
  obtain ⟨x0, m0⟩ : ∃ x : DHub, RdM maxLen W cs0.toList x := by
    obtain ⟨fuel, hf⟩ := h0
    exact opens_DHub _ _ _ _ _ _ _ _ hf
  obtain ⟨v_docs0, v_subs0, hc0, m_docs0, m_subs0⟩ := invM_DHub m0
  obtain ⟨cs0⟩ := cs0
  simp only at hc0
  subst hc0
  clear hA0 hval0
  refine (walk_FnExactHubOk x0 _ _ W m_docs0 m_subs0).mono fun e W' ⟨he, bel⟩ => ?_
  subst he
  exact ⟨_, rfl, _, _, _, [], _, [], hW', trodAll_mk1 (shut_bool Try.underlying4 _), (trodAll_cons_mk (Below.trod laidOut (by kernel_rfl) (of_decide_eq_true (by kernel_rfl)) k0 bel lt0) trodAll_mk0), rfl, bel.frame _, fun h => by cases h⟩
theorem over : Rows.fnExactHubOkRow.holds Try.pinned (OpenSpec.ofChange Rows.fnExactHubOkSpec) :=
  OpenClaim.holds_of_wide 5 Try.f5 rfl rfl rfl rfl rfl rfl rfl ⟨rfl, rfl, rfl, rfl, rfl⟩ rfl rfl rfl rfl rfl (by kernel_rfl) Try.func5 (by kernel_rfl)
    (of_decide_eq_true (by kernel_rfl)) (by unfold Func.isWrapper; first | (rw [if_pos (by decide +kernel)]; kernel_rfl) | (rw [if_neg (by decide +kernel)]; exact ⟨rfl, rfl⟩))
    (fun os started H enc _ => lifted os started H enc)
theorem proved : Rows.FnExactHubOkSaid := over
end fnExactHubOk
#print axioms fnExactHubOk.proved
end Go.Proofs.Ytddohcdkmhaheaa
