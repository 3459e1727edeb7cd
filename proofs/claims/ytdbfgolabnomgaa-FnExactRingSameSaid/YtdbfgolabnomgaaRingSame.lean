/- 'laws.FnExactRingSame' answers true for every input, and each argument reads afterwards as before. No conditions. -/
import Derived.Test.YtdbfgolabnomgaaEq2
import Derived.Test.YtdbfgolabnomgaaSz2
import Derived.Test.YtdbfgolabnomgaaConv
import Derived.Test.YtdbfgolabnomgaaCmp3
import Derived.Test.YtdbfgolabnomgaaRows
import Derived.ProofKit
import Derived.OpenShut
import Derived.Deep.RegionHeld3
namespace Go.Proofs.Ytdbfgolabnomgaa
open Go.ChangeShapes Go.WideShapes Go.ChangeAt Go.RowKit
theorem spec_RingSame_l (x : DRing) (v_list : Value) (y : DRing) (u_list : Value) (w : World)  (h_list : RdS w v_list x.list)  (k_list : RdS w u_list y.list) :
    Calls Try.prog 33 #[.agg #[.int .i64 x.cap, .int .i64 x.next, .bool x.out, v_list], .agg #[.int .i64 y.cap, .int .i64 y.next, .bool y.out, u_list]] w (Tells w (.bool (decide (x = y)))) :=
  spec_RingSame_c x y v_list u_list w h_list k_list
theorem impl_RingSame_l (x : DRing) (v_list : Value) (y : DRing) (u_list : Value) (w : World)  (h_list : RdS w v_list x.list)  (k_list : RdS w u_list y.list) :
    Calls Try.prog 34 #[.agg #[.int .i64 x.cap, .int .i64 x.next, .bool x.out, v_list], .agg #[.int .i64 y.cap, .int .i64 y.next, .bool y.out, u_list]] w (Tells w (.bool (decide (x = y)))) :=
  impl_RingSame_c x y v_list u_list w h_list k_list
set_option maxHeartbeats 4000000 in
theorem walk_FnExactRingSame (x : DRing) (v_x_list : Value) (y : DRing) (v_y_list : Value) (w : World) (h_x_list : RdSM maxLen w v_x_list x.list) (h_y_list : RdSM maxLen w v_y_list y.list) :
    Calls Try.prog 6 #[.agg #[.int .i64 x.cap, .int .i64 x.next, .bool x.out, v_x_list], .agg #[.int .i64 y.cap, .int .i64 y.next, .bool y.out, v_y_list]] w (Tells w (.bool true)) := by
  by_cases cz_x : ((GoS.sz x : Nat) : Int) ≤ 1048576
  rotate_left
  · go_enter Try.func6, Try.ntmps6
    go_wp2_with fail
    refine (szRing_c x _ _ _ (by omega) (by omega)  (h_x_list.below (by repeat' (first | (with_reducible exact Below.refl _ _) | (with_reducible assumption) | (with_reducible refine Below.setCell ?_ ?_ _) | (with_reducible refine Below.alloc ?_ ?_ _) | (with_reducible refine Below.drew ?_) | (with_reducible refine belowN ?_ _) | (with_reducible refine below_after ?_ (by assumption) ?_) | omega | (simp; done) | (simp; omega))))).mono ?_
    rintro e w1 ⟨rfl, hb1⟩
    have s1 : w.heap.size + 2 ≤ w1.heap.size := (by have := hb1.size; (try simp at this); omega)
    obtain ⟨hc1, hf1⟩ := bcell hb1
    have z1_0 : w.heap.size < w1.heap.size := (by omega)
    have z1_1 : w.heap.size + 1 < w1.heap.size := (by omega)
    rw [less_neg (by omega)]
    go_wp2
    go_ret
    exact ⟨rfl, (by repeat' (first | (with_reducible exact Below.refl _ _) | (with_reducible assumption) | (with_reducible refine Below.setCell ?_ ?_ _) | (with_reducible refine Below.alloc ?_ ?_ _) | (with_reducible refine Below.drew ?_) | (with_reducible refine belowN ?_ _) | (with_reducible refine below_after ?_ (by assumption) ?_) | omega | (simp; done) | (simp; omega)))⟩
  by_cases cz_y : ((GoS.sz y : Nat) : Int) ≤ 1048576 - ((GoS.sz x : Nat) : Int)
  rotate_left
  · go_enter Try.func6, Try.ntmps6
    go_wp2_with fail
    refine (szRing_c x _ _ _ (by omega) (by omega)  (h_x_list.below (by repeat' (first | (with_reducible exact Below.refl _ _) | (with_reducible assumption) | (with_reducible refine Below.setCell ?_ ?_ _) | (with_reducible refine Below.alloc ?_ ?_ _) | (with_reducible refine Below.drew ?_) | (with_reducible refine belowN ?_ _) | (with_reducible refine below_after ?_ (by assumption) ?_) | omega | (simp; done) | (simp; omega))))).mono ?_
    rintro e w1 ⟨rfl, hb1⟩
    have s1 : w.heap.size + 2 ≤ w1.heap.size := (by have := hb1.size; (try simp at this); omega)
    obtain ⟨hc1, hf1⟩ := bcell hb1
    have z1_0 : w.heap.size < w1.heap.size := (by omega)
    have z1_1 : w.heap.size + 1 < w1.heap.size := (by omega)
    rw [less_pos (by omega)]
    go_wp2_with fail
    refine (szRing_c y _ _ _ (by omega) (by omega)  (h_y_list.below (by repeat' (first | (with_reducible exact Below.refl _ _) | (with_reducible assumption) | (with_reducible refine Below.setCell ?_ ?_ _) | (with_reducible refine Below.alloc ?_ ?_ _) | (with_reducible refine Below.drew ?_) | (with_reducible refine belowN ?_ _) | (with_reducible refine below_after ?_ (by assumption) ?_) | omega | (simp; done) | (simp; omega))))).mono ?_
    rintro e w2 ⟨rfl, hb2⟩
    have s2 : w1.heap.size ≤ w2.heap.size := (by have := hb2.size; (try simp at this); omega)
    obtain ⟨hc2, hf2⟩ := bcell hb2
    have z2_0 : w.heap.size < w2.heap.size := (by omega)
    have z2_1 : w.heap.size + 1 < w2.heap.size := (by omega)
    rw [less_neg (by omega)]
    go_wp2
    go_ret
    exact ⟨rfl, (by repeat' (first | (with_reducible exact Below.refl _ _) | (with_reducible assumption) | (with_reducible refine Below.setCell ?_ ?_ _) | (with_reducible refine Below.alloc ?_ ?_ _) | (with_reducible refine Below.drew ?_) | (with_reducible refine belowN ?_ _) | (with_reducible refine below_after ?_ (by assumption) ?_) | omega | (simp; done) | (simp; omega)))⟩
  have hr_x_list : RdS w v_x_list x.list := let ⟨fp, s⟩ := h_x_list; ⟨fp, s.up (by have : GoS.sz x = szL x.list := rfl; exact le_BIG (by omega))⟩
  have hr_y_list : RdS w v_y_list y.list := let ⟨fp, s⟩ := h_y_list; ⟨fp, s.up (by have : GoS.sz y = szL y.list := rfl; exact le_BIG (by omega))⟩
  go_enter Try.func6, Try.ntmps6
  go_wp2_with fail
  refine (szRing_c x _ _ _ (by omega) (by omega)  (h_x_list.below (by repeat' (first | (with_reducible exact Below.refl _ _) | (with_reducible assumption) | (with_reducible refine Below.setCell ?_ ?_ _) | (with_reducible refine Below.alloc ?_ ?_ _) | (with_reducible refine Below.drew ?_) | (with_reducible refine belowN ?_ _) | (with_reducible refine below_after ?_ (by assumption) ?_) | omega | (simp; done) | (simp; omega))))).mono ?_
  rintro e w1 ⟨rfl, hb1⟩
  have s1 : w.heap.size + 2 ≤ w1.heap.size := (by have := hb1.size; (try simp at this); omega)
  obtain ⟨hc1, hf1⟩ := bcell hb1
  have z1_0 : w.heap.size < w1.heap.size := (by omega)
  have z1_1 : w.heap.size + 1 < w1.heap.size := (by omega)
  rw [less_pos (by omega)]
  go_wp2_with fail
  refine (szRing_c y _ _ _ (by omega) (by omega)  (h_y_list.below (by repeat' (first | (with_reducible exact Below.refl _ _) | (with_reducible assumption) | (with_reducible refine Below.setCell ?_ ?_ _) | (with_reducible refine Below.alloc ?_ ?_ _) | (with_reducible refine Below.drew ?_) | (with_reducible refine belowN ?_ _) | (with_reducible refine below_after ?_ (by assumption) ?_) | omega | (simp; done) | (simp; omega))))).mono ?_
  rintro e w2 ⟨rfl, hb2⟩
  have s2 : w1.heap.size ≤ w2.heap.size := (by have := hb2.size; (try simp at this); omega)
  obtain ⟨hc2, hf2⟩ := bcell hb2
  have z2_0 : w.heap.size < w2.heap.size := (by omega)
  have z2_1 : w.heap.size + 1 < w2.heap.size := (by omega)
  rw [less_pos (by omega)]
  go_wp2_with fail
  have hB : Below (w.heap.size + 2) ((w.alloc (.cells #[.int .i64 x.cap, .int .i64 x.next, .bool x.out, v_x_list] 33)).alloc (.cells #[.int .i64 y.cap, .int .i64 y.next, .bool y.out, v_y_list] 33)) w2 := (by repeat' (first | (with_reducible exact Below.refl _ _) | (with_reducible assumption) | (with_reducible refine Below.setCell ?_ ?_ _) | (with_reducible refine Below.alloc ?_ ?_ _) | (with_reducible refine Below.drew ?_) | (with_reducible refine belowN ?_ _) | (with_reducible refine below_after ?_ (by assumption) ?_) | omega | (simp; done) | (simp; omega)))
  have q0 : w2.cell? ⟨w.heap.size, 0, none⟩ = some (.int .i64 x.cap) := by rw [hB.cell (by simp; try omega)]; simp
  have q1 : w2.cell? ⟨w.heap.size, 1, none⟩ = some (.int .i64 x.next) := by rw [hB.cell (by simp; try omega)]; simp
  have q2 : w2.cell? ⟨w.heap.size, 2, none⟩ = some (.bool x.out) := by rw [hB.cell (by simp; try omega)]; simp
  have q3 : w2.cell? ⟨w.heap.size, 3, none⟩ = some (v_x_list) := by rw [hB.cell (by simp; try omega)]; simp
  have q4 : w2.cell? ⟨w.heap.size + 1, 0, none⟩ = some (.int .i64 y.cap) := by rw [hB.cell (by simp; try omega)]; simp
  have q5 : w2.cell? ⟨w.heap.size + 1, 1, none⟩ = some (.int .i64 y.next) := by rw [hB.cell (by simp; try omega)]; simp
  have q6 : w2.cell? ⟨w.heap.size + 1, 2, none⟩ = some (.bool y.out) := by rw [hB.cell (by simp; try omega)]; simp
  have q7 : w2.cell? ⟨w.heap.size + 1, 3, none⟩ = some (v_y_list) := by rw [hB.cell (by simp; try omega)]; simp
  clear hB
  clear hc1 hf1
  clear hc2 hf2
  go_region_held3 (fun w' => w'.cell? ⟨w.heap.size, 0, none⟩ = some (.int .i64 x.cap) ∧ w'.cell? ⟨w.heap.size, 1, none⟩ = some (.int .i64 x.next) ∧ w'.cell? ⟨w.heap.size, 2, none⟩ = some (.bool x.out) ∧ w'.cell? ⟨w.heap.size, 3, none⟩ = some (v_x_list) ∧ w'.cell? ⟨w.heap.size + 1, 0, none⟩ = some (.int .i64 y.cap) ∧ w'.cell? ⟨w.heap.size + 1, 1, none⟩ = some (.int .i64 y.next) ∧ w'.cell? ⟨w.heap.size + 1, 2, none⟩ = some (.bool y.out) ∧ w'.cell? ⟨w.heap.size + 1, 3, none⟩ = some (v_y_list)) (go_keep)
    (first | (go_at_call_of 25 (v_x_list); refine (toRing_c x _ _  (hr_x_list.below (by repeat' (first | (with_reducible exact Below.refl _ _) | (with_reducible assumption) | (with_reducible refine Below.setCell ?_ ?_ _) | (with_reducible refine Below.alloc ?_ ?_ _) | (with_reducible refine Below.drew ?_) | (with_reducible refine belowN ?_ _) | (with_reducible refine below_after ?_ (by assumption) ?_) | omega | (simp; done) | (simp; omega))))).mono ?_; rintro e wA ⟨_, rfl, ho, hbA⟩; obtain ⟨vA_0, rfl, ho_0⟩ := inv_own_DRing ho; have sA : w2.heap.size ≤ wA.heap.size := (by have := hbA.size; (try simp at this); omega); obtain ⟨aA_0, cA_0, rfl⟩ := ho_0.rd.isSlice; obtain ⟨CA_0, DA_0, HOA_0, jcA_0, jdA_0, jeA_0⟩ := ho_0.ex (m := w2.heap.size) (by first | omega | (simp; done) | (simp; omega)) hbA.size; clear ho_0; clear ho; obtain ⟨hcA, hfA⟩ := bcell hbA; have zA_0 : w.heap.size < wA.heap.size := (by omega); have zA_1 : w.heap.size + 1 < wA.heap.size := (by omega); (try (have tA : wB.heap.size ≤ wA.heap.size := (by have := hbA.size; (try simp at this); omega))); have yA0 : wA.cell? ⟨w.heap.size, 0, none⟩ = some (.int .i64 x.cap) := (hbA.cell (p := ⟨w.heap.size, 0, none⟩) (by first | exact zB_0 | exact z2_0 | (simp; omega))).trans (by first | exact yB0 | exact q0); have yA1 : wA.cell? ⟨w.heap.size, 1, none⟩ = some (.int .i64 x.next) := (hbA.cell (p := ⟨w.heap.size, 1, none⟩) (by first | exact zB_0 | exact z2_0 | (simp; omega))).trans (by first | exact yB1 | exact q1); have yA2 : wA.cell? ⟨w.heap.size, 2, none⟩ = some (.bool x.out) := (hbA.cell (p := ⟨w.heap.size, 2, none⟩) (by first | exact zB_0 | exact z2_0 | (simp; omega))).trans (by first | exact yB2 | exact q2); have yA3 : wA.cell? ⟨w.heap.size, 3, none⟩ = some (v_x_list) := (hbA.cell (p := ⟨w.heap.size, 3, none⟩) (by first | exact zB_0 | exact z2_0 | (simp; omega))).trans (by first | exact yB3 | exact q3); have yA4 : wA.cell? ⟨w.heap.size + 1, 0, none⟩ = some (.int .i64 y.cap) := (hbA.cell (p := ⟨w.heap.size + 1, 0, none⟩) (by first | exact zB_1 | exact z2_1 | (simp; omega))).trans (by first | exact yB4 | exact q4); have yA5 : wA.cell? ⟨w.heap.size + 1, 1, none⟩ = some (.int .i64 y.next) := (hbA.cell (p := ⟨w.heap.size + 1, 1, none⟩) (by first | exact zB_1 | exact z2_1 | (simp; omega))).trans (by first | exact yB5 | exact q5); have yA6 : wA.cell? ⟨w.heap.size + 1, 2, none⟩ = some (.bool y.out) := (hbA.cell (p := ⟨w.heap.size + 1, 2, none⟩) (by first | exact zB_1 | exact z2_1 | (simp; omega))).trans (by first | exact yB6 | exact q6); have yA7 : wA.cell? ⟨w.heap.size + 1, 3, none⟩ = some (v_y_list) := (hbA.cell (p := ⟨w.heap.size + 1, 3, none⟩) (by first | exact zB_1 | exact z2_1 | (simp; omega))).trans (by first | exact yB7 | exact q7); clear hcA hfA) | (go_at_call_of 25 (v_y_list); refine (toRing_c y _ _  (hr_y_list.below (by repeat' (first | (with_reducible exact Below.refl _ _) | (with_reducible assumption) | (with_reducible refine Below.setCell ?_ ?_ _) | (with_reducible refine Below.alloc ?_ ?_ _) | (with_reducible refine Below.drew ?_) | (with_reducible refine belowN ?_ _) | (with_reducible refine below_after ?_ (by assumption) ?_) | omega | (simp; done) | (simp; omega))))).mono ?_; rintro e wB ⟨_, rfl, ho, hbB⟩; obtain ⟨vB_0, rfl, ho_0⟩ := inv_own_DRing ho; have sB : w2.heap.size ≤ wB.heap.size := (by have := hbB.size; (try simp at this); omega); obtain ⟨aB_0, cB_0, rfl⟩ := ho_0.rd.isSlice; obtain ⟨CB_0, DB_0, HOB_0, jcB_0, jdB_0, jeB_0⟩ := ho_0.ex (m := w2.heap.size) (by first | omega | (simp; done) | (simp; omega)) hbB.size; clear ho_0; clear ho; obtain ⟨hcB, hfB⟩ := bcell hbB; have zB_0 : w.heap.size < wB.heap.size := (by omega); have zB_1 : w.heap.size + 1 < wB.heap.size := (by omega); (try (have tB : wA.heap.size ≤ wB.heap.size := (by have := hbB.size; (try simp at this); omega))); have yB0 : wB.cell? ⟨w.heap.size, 0, none⟩ = some (.int .i64 x.cap) := (hbB.cell (p := ⟨w.heap.size, 0, none⟩) (by first | exact zA_0 | exact z2_0 | (simp; omega))).trans (by first | exact yA0 | exact q0); have yB1 : wB.cell? ⟨w.heap.size, 1, none⟩ = some (.int .i64 x.next) := (hbB.cell (p := ⟨w.heap.size, 1, none⟩) (by first | exact zA_0 | exact z2_0 | (simp; omega))).trans (by first | exact yA1 | exact q1); have yB2 : wB.cell? ⟨w.heap.size, 2, none⟩ = some (.bool x.out) := (hbB.cell (p := ⟨w.heap.size, 2, none⟩) (by first | exact zA_0 | exact z2_0 | (simp; omega))).trans (by first | exact yA2 | exact q2); have yB3 : wB.cell? ⟨w.heap.size, 3, none⟩ = some (v_x_list) := (hbB.cell (p := ⟨w.heap.size, 3, none⟩) (by first | exact zA_0 | exact z2_0 | (simp; omega))).trans (by first | exact yA3 | exact q3); have yB4 : wB.cell? ⟨w.heap.size + 1, 0, none⟩ = some (.int .i64 y.cap) := (hbB.cell (p := ⟨w.heap.size + 1, 0, none⟩) (by first | exact zA_1 | exact z2_1 | (simp; omega))).trans (by first | exact yA4 | exact q4); have yB5 : wB.cell? ⟨w.heap.size + 1, 1, none⟩ = some (.int .i64 y.next) := (hbB.cell (p := ⟨w.heap.size + 1, 1, none⟩) (by first | exact zA_1 | exact z2_1 | (simp; omega))).trans (by first | exact yA5 | exact q5); have yB6 : wB.cell? ⟨w.heap.size + 1, 2, none⟩ = some (.bool y.out) := (hbB.cell (p := ⟨w.heap.size + 1, 2, none⟩) (by first | exact zA_1 | exact z2_1 | (simp; omega))).trans (by first | exact yA6 | exact q6); have yB7 : wB.cell? ⟨w.heap.size + 1, 3, none⟩ = some (v_y_list) := (hbB.cell (p := ⟨w.heap.size + 1, 3, none⟩) (by first | exact zA_1 | exact z2_1 | (simp; omega))).trans (by first | exact yA7 | exact q7); clear hcB hfB) | (go_at_call 33; refine (spec_RingSame_l x _ y _ _  (((by repeat' (first | (with_reducible exact HOA_0) | (with_reducible refine OwnB.setCell ?_ ?_ _) | (with_reducible refine OwnB.drew ?_) | (with_reducible refine OwnB.drewN ?_ _) | (with_reducible refine OwnB.below ?_ (by assumption)) | (with_reducible refine OwnB.alloc ?_ _) | omega | (simp; done) | (simp; omega))) : OwnB CA_0 DA_0 _ _ _).own.rd)  (((by repeat' (first | (with_reducible exact HOB_0) | (with_reducible refine OwnB.setCell ?_ ?_ _) | (with_reducible refine OwnB.drew ?_) | (with_reducible refine OwnB.drewN ?_ _) | (with_reducible refine OwnB.below ?_ (by assumption)) | (with_reducible refine OwnB.alloc ?_ _) | omega | (simp; done) | (simp; omega))) : OwnB CB_0 DB_0 _ _ _).own.rd)).mono ?_; rintro e w3 ⟨rfl, hb3⟩; have s3 : w2.heap.size ≤ w3.heap.size := (by have := hb3.size; (try simp at this); omega); have sA3 : wA.heap.size ≤ w3.heap.size := (by have := hb3.size; (try simp at this); omega); have sB3 : wB.heap.size ≤ w3.heap.size := (by have := hb3.size; (try simp at this); omega); have z3_0 : w.heap.size < w3.heap.size := (by omega); have z3_1 : w.heap.size + 1 < w3.heap.size := (by omega); have x0 : w3.cell? ⟨w.heap.size, 0, none⟩ = some (.int .i64 x.cap) := (hb3.cell (p := ⟨w.heap.size, 0, none⟩) (by first | exact zA_0 | exact zB_0)).trans (by first | exact yA0 | exact yB0); have x1 : w3.cell? ⟨w.heap.size, 1, none⟩ = some (.int .i64 x.next) := (hb3.cell (p := ⟨w.heap.size, 1, none⟩) (by first | exact zA_0 | exact zB_0)).trans (by first | exact yA1 | exact yB1); have x2 : w3.cell? ⟨w.heap.size, 2, none⟩ = some (.bool x.out) := (hb3.cell (p := ⟨w.heap.size, 2, none⟩) (by first | exact zA_0 | exact zB_0)).trans (by first | exact yA2 | exact yB2); have x3 : w3.cell? ⟨w.heap.size, 3, none⟩ = some (v_x_list) := (hb3.cell (p := ⟨w.heap.size, 3, none⟩) (by first | exact zA_0 | exact zB_0)).trans (by first | exact yA3 | exact yB3); have x4 : w3.cell? ⟨w.heap.size + 1, 0, none⟩ = some (.int .i64 y.cap) := (hb3.cell (p := ⟨w.heap.size + 1, 0, none⟩) (by first | exact zA_1 | exact zB_1)).trans (by first | exact yA4 | exact yB4); have x5 : w3.cell? ⟨w.heap.size + 1, 1, none⟩ = some (.int .i64 y.next) := (hb3.cell (p := ⟨w.heap.size + 1, 1, none⟩) (by first | exact zA_1 | exact zB_1)).trans (by first | exact yA5 | exact yB5); have x6 : w3.cell? ⟨w.heap.size + 1, 2, none⟩ = some (.bool y.out) := (hb3.cell (p := ⟨w.heap.size + 1, 2, none⟩) (by first | exact zA_1 | exact zB_1)).trans (by first | exact yA6 | exact yB6); have x7 : w3.cell? ⟨w.heap.size + 1, 3, none⟩ = some (v_y_list) := (hb3.cell (p := ⟨w.heap.size + 1, 3, none⟩) (by first | exact zA_1 | exact zB_1)).trans (by first | exact yA7 | exact yB7)))
  all_goals
    go_wp2_with fail
    refine (toRing_c x _ _  (hr_x_list.below (by repeat' (first | (with_reducible exact Below.refl _ _) | (with_reducible assumption) | (with_reducible refine Below.setCell ?_ ?_ _) | (with_reducible refine Below.alloc ?_ ?_ _) | (with_reducible refine Below.drew ?_) | (with_reducible refine belowN ?_ _) | (with_reducible refine below_after ?_ (by assumption) ?_) | omega | (simp; done) | (simp; omega))))).mono ?_
    rintro e w4 ⟨_, rfl, ho, hb4⟩
    obtain ⟨v4_0, rfl, ho_0⟩ := inv_own_DRing ho
    have s4 : w3.heap.size ≤ w4.heap.size := (by have := hb4.size; (try simp at this); omega)
    obtain ⟨a4_0, c4_0, rfl⟩ := ho_0.rd.isSlice
    obtain ⟨C4_0, D4_0, HO4_0, jc4_0, jd4_0, je4_0⟩ := ho_0.ex (m := w3.heap.size) (by first | omega | (simp; done) | (simp; omega)) hb4.size
    clear ho_0
    clear ho
    obtain ⟨hc4, hf4⟩ := bcell hb4
    have z4_0 : w.heap.size < w4.heap.size := (by omega)
    have z4_1 : w.heap.size + 1 < w4.heap.size := (by omega)
    go_wp2_with fail
    refine (toRing_c y _ _  (hr_y_list.below (by repeat' (first | (with_reducible exact Below.refl _ _) | (with_reducible assumption) | (with_reducible refine Below.setCell ?_ ?_ _) | (with_reducible refine Below.alloc ?_ ?_ _) | (with_reducible refine Below.drew ?_) | (with_reducible refine belowN ?_ _) | (with_reducible refine below_after ?_ (by assumption) ?_) | omega | (simp; done) | (simp; omega))))).mono ?_
    rintro e w5 ⟨_, rfl, ho, hb5⟩
    obtain ⟨v5_0, rfl, ho_0⟩ := inv_own_DRing ho
    have s5 : w4.heap.size + 1 ≤ w5.heap.size := (by have := hb5.size; (try simp at this); omega)
    obtain ⟨a5_0, c5_0, rfl⟩ := ho_0.rd.isSlice
    obtain ⟨C5_0, D5_0, HO5_0, jc5_0, jd5_0, je5_0⟩ := ho_0.ex (m := w4.heap.size + 1) (by first | omega | (simp; done) | (simp; omega)) hb5.size
    clear ho_0
    clear ho
    obtain ⟨hc5, hf5⟩ := bcell hb5
    have z5_0 : w.heap.size < w5.heap.size := (by omega)
    have z5_1 : w.heap.size + 1 < w5.heap.size := (by omega)
    have z5_2 : w4.heap.size < w5.heap.size := (by omega)
    go_wp2_with fail
    refine (impl_RingSame_l x _ y _ _  (((by repeat' (first | (with_reducible exact HO4_0) | (with_reducible refine OwnB.setCell ?_ ?_ _) | (with_reducible refine OwnB.drew ?_) | (with_reducible refine OwnB.drewN ?_ _) | (with_reducible refine OwnB.below ?_ (by assumption)) | (with_reducible refine OwnB.alloc ?_ _) | omega | (simp; done) | (simp; omega))) : OwnB C4_0 D4_0 _ _ _).own.rd)  (((by repeat' (first | (with_reducible exact HO5_0) | (with_reducible refine OwnB.setCell ?_ ?_ _) | (with_reducible refine OwnB.drew ?_) | (with_reducible refine OwnB.drewN ?_ _) | (with_reducible refine OwnB.below ?_ (by assumption)) | (with_reducible refine OwnB.alloc ?_ _) | omega | (simp; done) | (simp; omega))) : OwnB C5_0 D5_0 _ _ _).own.rd)).mono ?_
    rintro e w6 ⟨rfl, hb6⟩
    have s6 : w5.heap.size + 1 ≤ w6.heap.size := (by have := hb6.size; (try simp at this); omega)
    obtain ⟨hc6, hf6⟩ := bcell hb6
    have z6_0 : w.heap.size < w6.heap.size := (by omega)
    have z6_1 : w.heap.size + 1 < w6.heap.size := (by omega)
    have z6_2 : w4.heap.size < w6.heap.size := (by omega)
    have z6_3 : w5.heap.size < w6.heap.size := (by omega)
    go_wp2_with fail
    have hB : Below (w.heap.size + 2) ((w.alloc (.cells #[.int .i64 x.cap, .int .i64 x.next, .bool x.out, v_x_list] 33)).alloc (.cells #[.int .i64 y.cap, .int .i64 y.next, .bool y.out, v_y_list] 33)) w6 := (by repeat' (first | (with_reducible exact Below.refl _ _) | (with_reducible assumption) | (with_reducible refine Below.setCell ?_ ?_ _) | (with_reducible refine Below.alloc ?_ ?_ _) | (with_reducible refine Below.drew ?_) | (with_reducible refine belowN ?_ _) | (with_reducible refine below_after ?_ (by assumption) ?_) | omega | (simp; done) | (simp; omega)))
    have q6_0 : w6.cell? ⟨w.heap.size, 0, none⟩ = some (.int .i64 x.cap) := by rw [hB.cell (by simp; try omega)]; simp
    have q6_1 : w6.cell? ⟨w.heap.size, 1, none⟩ = some (.int .i64 x.next) := by rw [hB.cell (by simp; try omega)]; simp
    have q6_2 : w6.cell? ⟨w.heap.size, 2, none⟩ = some (.bool x.out) := by rw [hB.cell (by simp; try omega)]; simp
    have q6_3 : w6.cell? ⟨w.heap.size, 3, none⟩ = some (v_x_list) := by rw [hB.cell (by simp; try omega)]; simp
    have q6_4 : w6.cell? ⟨w.heap.size + 1, 0, none⟩ = some (.int .i64 y.cap) := by rw [hB.cell (by simp; try omega)]; simp
    have q6_5 : w6.cell? ⟨w.heap.size + 1, 1, none⟩ = some (.int .i64 y.next) := by rw [hB.cell (by simp; try omega)]; simp
    have q6_6 : w6.cell? ⟨w.heap.size + 1, 2, none⟩ = some (.bool y.out) := by rw [hB.cell (by simp; try omega)]; simp
    have q6_7 : w6.cell? ⟨w.heap.size + 1, 3, none⟩ = some (v_y_list) := by rw [hB.cell (by simp; try omega)]; simp
    clear hB
    have hB : Below (w4.heap.size + 1) (w4.alloc (.cells #[.int .i64 x.cap, .int .i64 x.next, .bool x.out, .slice a4_0 x.list.length c4_0] 38)) w6 := (by repeat' (first | (with_reducible exact Below.refl _ _) | (with_reducible assumption) | (with_reducible refine Below.setCell ?_ ?_ _) | (with_reducible refine Below.alloc ?_ ?_ _) | (with_reducible refine Below.drew ?_) | (with_reducible refine belowN ?_ _) | (with_reducible refine below_after ?_ (by assumption) ?_) | omega | (simp; done) | (simp; omega)))
    have x6_0 : w6.cell? ⟨w4.heap.size, 0, none⟩ = some (.int .i64 x.cap) := by rw [hB.cell (Nat.lt_succ_self _)]; simp
    have x6_1 : w6.cell? ⟨w4.heap.size, 1, none⟩ = some (.int .i64 x.next) := by rw [hB.cell (Nat.lt_succ_self _)]; simp
    have x6_2 : w6.cell? ⟨w4.heap.size, 2, none⟩ = some (.bool x.out) := by rw [hB.cell (Nat.lt_succ_self _)]; simp
    have x6_3 : w6.cell? ⟨w4.heap.size, 3, none⟩ = some (.slice a4_0 x.list.length c4_0) := by rw [hB.cell (Nat.lt_succ_self _)]; simp
    clear hB
    clear hc4 hf4
    clear hc5 hf5
    clear hc6 hf6
    go_region_held3 (fun w' => w'.cell? ⟨w.heap.size, 0, none⟩ = some (.int .i64 x.cap) ∧ w'.cell? ⟨w.heap.size, 1, none⟩ = some (.int .i64 x.next) ∧ w'.cell? ⟨w.heap.size, 2, none⟩ = some (.bool x.out) ∧ w'.cell? ⟨w.heap.size, 3, none⟩ = some (v_x_list) ∧ w'.cell? ⟨w4.heap.size, 0, none⟩ = some (.int .i64 x.cap) ∧ w'.cell? ⟨w4.heap.size, 1, none⟩ = some (.int .i64 x.next) ∧ w'.cell? ⟨w4.heap.size, 2, none⟩ = some (.bool x.out) ∧ w'.cell? ⟨w4.heap.size, 3, none⟩ = some (.slice a4_0 x.list.length c4_0)) (go_keep)
      (first | (go_at_call 25; refine (toRing_c x _ _  (hr_x_list.below (by repeat' (first | (with_reducible exact Below.refl _ _) | (with_reducible assumption) | (with_reducible refine Below.setCell ?_ ?_ _) | (with_reducible refine Below.alloc ?_ ?_ _) | (with_reducible refine Below.drew ?_) | (with_reducible refine belowN ?_ _) | (with_reducible refine below_after ?_ (by assumption) ?_) | omega | (simp; done) | (simp; omega))))).mono ?_; rintro e w7 ⟨_, rfl, ho, hb7⟩; obtain ⟨v7_0, rfl, ho_0⟩ := inv_own_DRing ho; have s7 : w6.heap.size ≤ w7.heap.size := (by have := hb7.size; (try simp at this); omega); obtain ⟨a7_0, c7_0, rfl⟩ := ho_0.rd.isSlice; obtain ⟨C7_0, D7_0, HO7_0, jc7_0, jd7_0, je7_0⟩ := ho_0.ex (m := w6.heap.size) (by first | omega | (simp; done) | (simp; omega)) hb7.size; clear ho_0; clear ho; obtain ⟨hc7, hf7⟩ := bcell hb7; have z7_0 : w.heap.size < w7.heap.size := (by omega); have z7_1 : w.heap.size + 1 < w7.heap.size := (by omega); have z7_2 : w4.heap.size < w7.heap.size := (by omega); have z7_3 : w5.heap.size < w7.heap.size := (by omega); have y7_0 : w7.cell? ⟨w.heap.size, 0, none⟩ = some (.int .i64 x.cap) := (hb7.cell (p := ⟨w.heap.size, 0, none⟩) z6_0).trans q6_0; have y7_1 : w7.cell? ⟨w.heap.size, 1, none⟩ = some (.int .i64 x.next) := (hb7.cell (p := ⟨w.heap.size, 1, none⟩) z6_0).trans q6_1; have y7_2 : w7.cell? ⟨w.heap.size, 2, none⟩ = some (.bool x.out) := (hb7.cell (p := ⟨w.heap.size, 2, none⟩) z6_0).trans q6_2; have y7_3 : w7.cell? ⟨w.heap.size, 3, none⟩ = some (v_x_list) := (hb7.cell (p := ⟨w.heap.size, 3, none⟩) z6_0).trans q6_3; have y7_4 : w7.cell? ⟨w4.heap.size, 0, none⟩ = some (.int .i64 x.cap) := (hb7.cell (p := ⟨w4.heap.size, 0, none⟩) z6_2).trans x6_0; have y7_5 : w7.cell? ⟨w4.heap.size, 1, none⟩ = some (.int .i64 x.next) := (hb7.cell (p := ⟨w4.heap.size, 1, none⟩) z6_2).trans x6_1; have y7_6 : w7.cell? ⟨w4.heap.size, 2, none⟩ = some (.bool x.out) := (hb7.cell (p := ⟨w4.heap.size, 2, none⟩) z6_2).trans x6_2; have y7_7 : w7.cell? ⟨w4.heap.size, 3, none⟩ = some (.slice a4_0 x.list.length c4_0) := (hb7.cell (p := ⟨w4.heap.size, 3, none⟩) z6_2).trans x6_3; clear hc7 hf7) | (go_at_call 27; refine (eqRing_c x _ _ _ (((by repeat' (first | (with_reducible exact HO4_0) | (with_reducible refine OwnB.setCell ?_ ?_ _) | (with_reducible refine OwnB.drew ?_) | (with_reducible refine OwnB.drewN ?_ _) | (with_reducible refine OwnB.below ?_ (by assumption)) | (with_reducible refine OwnB.alloc ?_ _) | omega | (simp; done) | (simp; omega))) : OwnB C4_0 D4_0 _ _ _).own.rd) (((by repeat' (first | (with_reducible exact HO7_0) | (with_reducible refine OwnB.setCell ?_ ?_ _) | (with_reducible refine OwnB.drew ?_) | (with_reducible refine OwnB.drewN ?_ _) | (with_reducible refine OwnB.below ?_ (by assumption)) | (with_reducible refine OwnB.alloc ?_ _) | omega | (simp; done) | (simp; omega))) : OwnB C7_0 D7_0 _ _ _).own.rd)).mono ?_; rintro e w8 ⟨rfl, hb8⟩; have s8 : w7.heap.size ≤ w8.heap.size := (by have := hb8.size; (try simp at this); omega); obtain ⟨hc8, hf8⟩ := bcell hb8; have z8_0 : w.heap.size < w8.heap.size := (by omega); have z8_1 : w.heap.size + 1 < w8.heap.size := (by omega); have z8_2 : w4.heap.size < w8.heap.size := (by omega); have z8_3 : w5.heap.size < w8.heap.size := (by omega); have y8_0 : w8.cell? ⟨w.heap.size, 0, none⟩ = some (.int .i64 x.cap) := (hb8.cell (p := ⟨w.heap.size, 0, none⟩) z7_0).trans y7_0; have y8_1 : w8.cell? ⟨w.heap.size, 1, none⟩ = some (.int .i64 x.next) := (hb8.cell (p := ⟨w.heap.size, 1, none⟩) z7_0).trans y7_1; have y8_2 : w8.cell? ⟨w.heap.size, 2, none⟩ = some (.bool x.out) := (hb8.cell (p := ⟨w.heap.size, 2, none⟩) z7_0).trans y7_2; have y8_3 : w8.cell? ⟨w.heap.size, 3, none⟩ = some (v_x_list) := (hb8.cell (p := ⟨w.heap.size, 3, none⟩) z7_0).trans y7_3; have y8_4 : w8.cell? ⟨w4.heap.size, 0, none⟩ = some (.int .i64 x.cap) := (hb8.cell (p := ⟨w4.heap.size, 0, none⟩) z7_2).trans y7_4; have y8_5 : w8.cell? ⟨w4.heap.size, 1, none⟩ = some (.int .i64 x.next) := (hb8.cell (p := ⟨w4.heap.size, 1, none⟩) z7_2).trans y7_5; have y8_6 : w8.cell? ⟨w4.heap.size, 2, none⟩ = some (.bool x.out) := (hb8.cell (p := ⟨w4.heap.size, 2, none⟩) z7_2).trans y7_6; have y8_7 : w8.cell? ⟨w4.heap.size, 3, none⟩ = some (.slice a4_0 x.list.length c4_0) := (hb8.cell (p := ⟨w4.heap.size, 3, none⟩) z7_2).trans y7_7; clear hc8 hf8))
    go_wp2_with fail
    have hB : Below (w.heap.size + 2) ((w.alloc (.cells #[.int .i64 x.cap, .int .i64 x.next, .bool x.out, v_x_list] 33)).alloc (.cells #[.int .i64 y.cap, .int .i64 y.next, .bool y.out, v_y_list] 33)) w8 := (by repeat' (first | (with_reducible exact Below.refl _ _) | (with_reducible assumption) | (with_reducible refine Below.setCell ?_ ?_ _) | (with_reducible refine Below.alloc ?_ ?_ _) | (with_reducible refine Below.drew ?_) | (with_reducible refine belowN ?_ _) | (with_reducible refine below_after ?_ (by assumption) ?_) | omega | (simp; done) | (simp; omega)))
    have q8_0 : w8.cell? ⟨w.heap.size, 0, none⟩ = some (.int .i64 x.cap) := by rw [hB.cell (by simp; try omega)]; simp
    have q8_1 : w8.cell? ⟨w.heap.size, 1, none⟩ = some (.int .i64 x.next) := by rw [hB.cell (by simp; try omega)]; simp
    have q8_2 : w8.cell? ⟨w.heap.size, 2, none⟩ = some (.bool x.out) := by rw [hB.cell (by simp; try omega)]; simp
    have q8_3 : w8.cell? ⟨w.heap.size, 3, none⟩ = some (v_x_list) := by rw [hB.cell (by simp; try omega)]; simp
    have q8_4 : w8.cell? ⟨w.heap.size + 1, 0, none⟩ = some (.int .i64 y.cap) := by rw [hB.cell (by simp; try omega)]; simp
    have q8_5 : w8.cell? ⟨w.heap.size + 1, 1, none⟩ = some (.int .i64 y.next) := by rw [hB.cell (by simp; try omega)]; simp
    have q8_6 : w8.cell? ⟨w.heap.size + 1, 2, none⟩ = some (.bool y.out) := by rw [hB.cell (by simp; try omega)]; simp
    have q8_7 : w8.cell? ⟨w.heap.size + 1, 3, none⟩ = some (v_y_list) := by rw [hB.cell (by simp; try omega)]; simp
    clear hB
    have hB : Below (w5.heap.size + 1) (w5.alloc (.cells #[.int .i64 y.cap, .int .i64 y.next, .bool y.out, .slice a5_0 y.list.length c5_0] 38)) w8 := (by repeat' (first | (with_reducible exact Below.refl _ _) | (with_reducible assumption) | (with_reducible refine Below.setCell ?_ ?_ _) | (with_reducible refine Below.alloc ?_ ?_ _) | (with_reducible refine Below.drew ?_) | (with_reducible refine belowN ?_ _) | (with_reducible refine below_after ?_ (by assumption) ?_) | omega | (simp; done) | (simp; omega)))
    have x8_0 : w8.cell? ⟨w5.heap.size, 0, none⟩ = some (.int .i64 y.cap) := by rw [hB.cell (Nat.lt_succ_self _)]; simp
    have x8_1 : w8.cell? ⟨w5.heap.size, 1, none⟩ = some (.int .i64 y.next) := by rw [hB.cell (Nat.lt_succ_self _)]; simp
    have x8_2 : w8.cell? ⟨w5.heap.size, 2, none⟩ = some (.bool y.out) := by rw [hB.cell (Nat.lt_succ_self _)]; simp
    have x8_3 : w8.cell? ⟨w5.heap.size, 3, none⟩ = some (.slice a5_0 y.list.length c5_0) := by rw [hB.cell (Nat.lt_succ_self _)]; simp
    clear hB
    go_region_held3 (fun w' => w'.cell? ⟨w.heap.size + 1, 0, none⟩ = some (.int .i64 y.cap) ∧ w'.cell? ⟨w.heap.size + 1, 1, none⟩ = some (.int .i64 y.next) ∧ w'.cell? ⟨w.heap.size + 1, 2, none⟩ = some (.bool y.out) ∧ w'.cell? ⟨w.heap.size + 1, 3, none⟩ = some (v_y_list) ∧ w'.cell? ⟨w5.heap.size, 0, none⟩ = some (.int .i64 y.cap) ∧ w'.cell? ⟨w5.heap.size, 1, none⟩ = some (.int .i64 y.next) ∧ w'.cell? ⟨w5.heap.size, 2, none⟩ = some (.bool y.out) ∧ w'.cell? ⟨w5.heap.size, 3, none⟩ = some (.slice a5_0 y.list.length c5_0)) (go_keep)
      (first | (go_at_call 25; refine (toRing_c y _ _  (hr_y_list.below (by repeat' (first | (with_reducible exact Below.refl _ _) | (with_reducible assumption) | (with_reducible refine Below.setCell ?_ ?_ _) | (with_reducible refine Below.alloc ?_ ?_ _) | (with_reducible refine Below.drew ?_) | (with_reducible refine belowN ?_ _) | (with_reducible refine below_after ?_ (by assumption) ?_) | omega | (simp; done) | (simp; omega))))).mono ?_; rintro e w9 ⟨_, rfl, ho, hb9⟩; obtain ⟨v9_0, rfl, ho_0⟩ := inv_own_DRing ho; have s9 : w8.heap.size ≤ w9.heap.size := (by have := hb9.size; (try simp at this); omega); obtain ⟨a9_0, c9_0, rfl⟩ := ho_0.rd.isSlice; obtain ⟨C9_0, D9_0, HO9_0, jc9_0, jd9_0, je9_0⟩ := ho_0.ex (m := w8.heap.size) (by first | omega | (simp; done) | (simp; omega)) hb9.size; clear ho_0; clear ho; obtain ⟨hc9, hf9⟩ := bcell hb9; have z9_0 : w.heap.size < w9.heap.size := (by omega); have z9_1 : w.heap.size + 1 < w9.heap.size := (by omega); have z9_2 : w4.heap.size < w9.heap.size := (by omega); have z9_3 : w5.heap.size < w9.heap.size := (by omega); have y9_0 : w9.cell? ⟨w.heap.size + 1, 0, none⟩ = some (.int .i64 y.cap) := (hb9.cell (p := ⟨w.heap.size + 1, 0, none⟩) z8_1).trans q8_4; have y9_1 : w9.cell? ⟨w.heap.size + 1, 1, none⟩ = some (.int .i64 y.next) := (hb9.cell (p := ⟨w.heap.size + 1, 1, none⟩) z8_1).trans q8_5; have y9_2 : w9.cell? ⟨w.heap.size + 1, 2, none⟩ = some (.bool y.out) := (hb9.cell (p := ⟨w.heap.size + 1, 2, none⟩) z8_1).trans q8_6; have y9_3 : w9.cell? ⟨w.heap.size + 1, 3, none⟩ = some (v_y_list) := (hb9.cell (p := ⟨w.heap.size + 1, 3, none⟩) z8_1).trans q8_7; have y9_4 : w9.cell? ⟨w5.heap.size, 0, none⟩ = some (.int .i64 y.cap) := (hb9.cell (p := ⟨w5.heap.size, 0, none⟩) z8_3).trans x8_0; have y9_5 : w9.cell? ⟨w5.heap.size, 1, none⟩ = some (.int .i64 y.next) := (hb9.cell (p := ⟨w5.heap.size, 1, none⟩) z8_3).trans x8_1; have y9_6 : w9.cell? ⟨w5.heap.size, 2, none⟩ = some (.bool y.out) := (hb9.cell (p := ⟨w5.heap.size, 2, none⟩) z8_3).trans x8_2; have y9_7 : w9.cell? ⟨w5.heap.size, 3, none⟩ = some (.slice a5_0 y.list.length c5_0) := (hb9.cell (p := ⟨w5.heap.size, 3, none⟩) z8_3).trans x8_3; clear hc9 hf9) | (go_at_call 27; refine (eqRing_c y _ _ _ (((by repeat' (first | (with_reducible exact HO5_0) | (with_reducible refine OwnB.setCell ?_ ?_ _) | (with_reducible refine OwnB.drew ?_) | (with_reducible refine OwnB.drewN ?_ _) | (with_reducible refine OwnB.below ?_ (by assumption)) | (with_reducible refine OwnB.alloc ?_ _) | omega | (simp; done) | (simp; omega))) : OwnB C5_0 D5_0 _ _ _).own.rd) (((by repeat' (first | (with_reducible exact HO9_0) | (with_reducible refine OwnB.setCell ?_ ?_ _) | (with_reducible refine OwnB.drew ?_) | (with_reducible refine OwnB.drewN ?_ _) | (with_reducible refine OwnB.below ?_ (by assumption)) | (with_reducible refine OwnB.alloc ?_ _) | omega | (simp; done) | (simp; omega))) : OwnB C9_0 D9_0 _ _ _).own.rd)).mono ?_; rintro e w10 ⟨rfl, hb10⟩; have s10 : w9.heap.size ≤ w10.heap.size := (by have := hb10.size; (try simp at this); omega); obtain ⟨hc10, hf10⟩ := bcell hb10; have z10_0 : w.heap.size < w10.heap.size := (by omega); have z10_1 : w.heap.size + 1 < w10.heap.size := (by omega); have z10_2 : w4.heap.size < w10.heap.size := (by omega); have z10_3 : w5.heap.size < w10.heap.size := (by omega); have y10_0 : w10.cell? ⟨w.heap.size + 1, 0, none⟩ = some (.int .i64 y.cap) := (hb10.cell (p := ⟨w.heap.size + 1, 0, none⟩) z9_1).trans y9_0; have y10_1 : w10.cell? ⟨w.heap.size + 1, 1, none⟩ = some (.int .i64 y.next) := (hb10.cell (p := ⟨w.heap.size + 1, 1, none⟩) z9_1).trans y9_1; have y10_2 : w10.cell? ⟨w.heap.size + 1, 2, none⟩ = some (.bool y.out) := (hb10.cell (p := ⟨w.heap.size + 1, 2, none⟩) z9_1).trans y9_2; have y10_3 : w10.cell? ⟨w.heap.size + 1, 3, none⟩ = some (v_y_list) := (hb10.cell (p := ⟨w.heap.size + 1, 3, none⟩) z9_1).trans y9_3; have y10_4 : w10.cell? ⟨w5.heap.size, 0, none⟩ = some (.int .i64 y.cap) := (hb10.cell (p := ⟨w5.heap.size, 0, none⟩) z9_3).trans y9_4; have y10_5 : w10.cell? ⟨w5.heap.size, 1, none⟩ = some (.int .i64 y.next) := (hb10.cell (p := ⟨w5.heap.size, 1, none⟩) z9_3).trans y9_5; have y10_6 : w10.cell? ⟨w5.heap.size, 2, none⟩ = some (.bool y.out) := (hb10.cell (p := ⟨w5.heap.size, 2, none⟩) z9_3).trans y9_6; have y10_7 : w10.cell? ⟨w5.heap.size, 3, none⟩ = some (.slice a5_0 y.list.length c5_0) := (hb10.cell (p := ⟨w5.heap.size, 3, none⟩) z9_3).trans y9_7; clear hc10 hf10))
    go_wp2
    go_ret
    exact ⟨rfl, (by repeat' (first | (with_reducible exact Below.refl _ _) | (with_reducible assumption) | (with_reducible refine Below.setCell ?_ ?_ _) | (with_reducible refine Below.alloc ?_ ?_ _) | (with_reducible refine Below.drew ?_) | (with_reducible refine belowN ?_ _) | (with_reducible refine below_after ?_ (by assumption) ?_) | omega | (simp; done) | (simp; omega)))⟩
namespace fnExactRingSame
theorem own : ownKnob Try.prog.godebug = none := by kernel_rfl
theorem laidOut : laidOutB Try.prog = true := by kernel_rfl
set_option maxRecDepth 100000 in
theorem lifted (os : Os) (started : os.Started) (H : Type) (enc : TypeId × Value → H) :
    ReturnsInHanded {} Try.checked os 6 .any (Rows.fnExactRingSameSpec.pre6 enc Try.prog Try.f6 Rows.fnExactRingSameRow.domain false) (Rows.fnExactRingSameSpec.post enc Try.prog Try.f6 false true false false) := by
  refine returnsInHanded_of_change (C := Try.checked) own started (by kernel_rfl) Try.func6
    (ChangeSpec.witness6 (enc := enc) (C := Try.checked) false ⟨#[], #[.agg #[.int .i64 0, .int .i64 0, .bool false, .slice none 0 0], .agg #[.int .i64 0, .int .i64 0, .bool false, .slice none 0 0]], []⟩ 8 (by kernel_rfl) (by kernel_rfl) (by kernel_rfl) (by kernel_rfl)) ?_
  intro W base args ds gs before hval0 hW hcnd _
  have hval : ∀ (j : Nat) t v, Try.f6.params[j]? = some t → args[j]? = some v → Value.okWide Try.prog W .any base t v := hval0
  have hW' := hW
  obtain ⟨p, q, hA0, hV, rfl, hfz, hnd⟩ := hW
  have hA : DataW.TrodAll enc Try.prog W 0 (fun _ => true) true Try.f6.params.toList args.toList ds p := hA0
  rw [Try.params6] at hA hval
  obtain ⟨v0, vs0, d0, ds0, p0, q0, hargs, rfl, rfl, h0, r0⟩ := trodAll_cons hA
  obtain ⟨v1, vs1, d1, ds1, p1, q1, rfl, rfl, rfl, h1, r1⟩ := trodAll_cons r0
  obtain ⟨rfl, rfl, rfl⟩ := trodAll_nil r1
  obtain rfl : args = #[v0, v1] := by cases args; simp_all
  obtain ⟨rfl, rfl⟩ := trodVars_none hV
  obtain ⟨cs0, rfl, _⟩ := okWide_struct Try.underlying33 (hval 0 33 v0 rfl rfl)
  have k0 := h0
  have lt0 : ∀ x ∈ p0, x.block < W.heap.size := by obtain ⟨m, hm⟩ := k0; exact DataW.trod_lt m _ _ _ hm
  obtain ⟨x0, m0⟩ : ∃ x : DRing, RdM maxLen W cs0.toList x := by
    obtain ⟨fuel, hf⟩ := h0
    exact opens_DRing _ _ _ _ _ _ _ _ hf
  obtain ⟨v_list0, hc0, m_list0⟩ := invM_DRing m0
  obtain ⟨cs0⟩ := cs0
  simp only at hc0
  subst hc0
  obtain ⟨cs1, rfl, _⟩ := okWide_struct Try.underlying33 (hval 1 33 v1 rfl rfl)
  have k1 := h1
  have lt1 : ∀ x ∈ p1, x.block < W.heap.size := by obtain ⟨m, hm⟩ := k1; exact DataW.trod_lt m _ _ _ hm
  obtain ⟨x1, m1⟩ : ∃ x : DRing, RdM maxLen W cs1.toList x := by
    obtain ⟨fuel, hf⟩ := h1
    exact opens_DRing _ _ _ _ _ _ _ _ hf
  obtain ⟨v_list1, hc1, m_list1⟩ := invM_DRing m1
  obtain ⟨cs1⟩ := cs1
  simp only at hc1
  subst hc1
  clear hA0 hval0
  refine (walk_FnExactRingSame x0 _ x1 _ W m_list0 m_list1).mono fun e W' ⟨he, bel⟩ => ?_
  subst he
  exact ⟨_, rfl, _, _, _, [], _, [], hW', trodAll_mk1 (shut_bool Try.underlying4 _), (trodAll_cons_mk (Below.trod laidOut (by kernel_rfl) (of_decide_eq_true (by kernel_rfl)) k0 bel lt0) (trodAll_cons_mk (Below.trod laidOut (by kernel_rfl) (of_decide_eq_true (by kernel_rfl)) k1 bel lt1) trodAll_mk0)), rfl, bel.frame _, fun h => by cases h⟩
theorem over : Rows.fnExactRingSameRow.holds Try.pinned (OpenSpec.ofChange Rows.fnExactRingSameSpec) :=
  OpenClaim.holds_of_wide 6 Try.f6 rfl rfl rfl rfl rfl rfl rfl ⟨rfl, rfl, rfl, rfl, rfl⟩ rfl rfl rfl rfl rfl (by kernel_rfl) Try.func6 (by kernel_rfl)
    (of_decide_eq_true (by kernel_rfl)) (by unfold Func.isWrapper; first | (rw [if_pos (by decide +kernel)]; kernel_rfl) | (rw [if_neg (by decide +kernel)]; exact ⟨rfl, rfl⟩))
    (fun os started H enc _ => lifted os started H enc)
theorem proved : Rows.FnExactRingSameSaid := over
end fnExactRingSame
#print axioms fnExactRingSame.proved
end Go.Proofs.Ytdbfgolabnomgaa
