/- 'laws.FnExactMissed' answers true for every input, and each argument reads afterwards as before. No conditions. -/
import Derived.Test.YtkbhlgmgjpbloaaEz
import Derived.Test.YtkbhlgmgjpbloaaDfn
import Derived.Test.YtkbhlgmgjpbloaaRows
import Derived.ProofKit
import Derived.OpenShut
import Derived.ChangeMaps5
import Derived.Deep.RegionHeld3
namespace Go.Proofs.Ytkbhlgmgjpbloaa
open Go.ChangeShapes Go.WideShapes Go.ChangeAt Go.RowKit
set_option maxHeartbeats 4000000 in
theorem walk_FnExactMissed (x : DDoc) (v_x_text : Value) (v_x_list : Value) (v_x_seen : Value) (rev : Int) (w : World) (n_x_name : x.name.size ≤ maxLen) (h_x_text : RdSM maxLen w v_x_text x.text) (h_x_list : RdSM maxLen w v_x_list x.list) (h_x_seen : RdSM maxLen w v_x_seen x.seen) (_b1_rev : -9223372036854775808 ≤ rev) (_b2_rev : rev ≤ 9223372036854775807) :
    Calls Try.prog 6 #[.agg #[.string x.name, .int .i64 x.from_, v_x_text, v_x_list, v_x_seen], .int .i64 rev] w (Tells w (.bool true)) := by
  by_cases cz_x : ((GoS.sz x : Nat) : Int) ≤ 1048576
  rotate_left
  · go_enter Try.func6, Try.ntmps6
    go_wp2_with fail
    refine (szDoc_c x _ _ _ _ _ (by omega) (by omega) n_x_name (h_x_text.below (by repeat' (first | (with_reducible exact Below.refl _ _) | (with_reducible assumption) | (with_reducible refine Below.setCell ?_ ?_ _) | (with_reducible refine Below.alloc ?_ ?_ _) | (with_reducible refine Below.drew ?_) | (with_reducible refine belowN ?_ _) | (with_reducible refine below_after ?_ (by assumption) ?_) | omega | (simp; done) | (simp; omega)))) (h_x_list.below (by repeat' (first | (with_reducible exact Below.refl _ _) | (with_reducible assumption) | (with_reducible refine Below.setCell ?_ ?_ _) | (with_reducible refine Below.alloc ?_ ?_ _) | (with_reducible refine Below.drew ?_) | (with_reducible refine belowN ?_ _) | (with_reducible refine below_after ?_ (by assumption) ?_) | omega | (simp; done) | (simp; omega)))) (h_x_seen.below (by repeat' (first | (with_reducible exact Below.refl _ _) | (with_reducible assumption) | (with_reducible refine Below.setCell ?_ ?_ _) | (with_reducible refine Below.alloc ?_ ?_ _) | (with_reducible refine Below.drew ?_) | (with_reducible refine belowN ?_ _) | (with_reducible refine below_after ?_ (by assumption) ?_) | omega | (simp; done) | (simp; omega))))).mono ?_
    rintro e w1 ⟨rfl, hb1⟩
    have s1 : w.heap.size + 1 ≤ w1.heap.size := (by have := hb1.size; (try simp at this); omega)
    obtain ⟨hc1, hf1⟩ := bcell hb1
    have z1_0 : w.heap.size < w1.heap.size := (by omega)
    rw [less_neg (by omega)]
    go_wp2
    go_ret
    exact ⟨rfl, (by repeat' (first | (with_reducible exact Below.refl _ _) | (with_reducible assumption) | (with_reducible refine Below.setCell ?_ ?_ _) | (with_reducible refine Below.alloc ?_ ?_ _) | (with_reducible refine Below.drew ?_) | (with_reducible refine belowN ?_ _) | (with_reducible refine below_after ?_ (by assumption) ?_) | omega | (simp; done) | (simp; omega)))⟩
  have hr_x_text : RdS w v_x_text x.text := let ⟨fp, s⟩ := h_x_text; ⟨fp, s.up (by have : GoS.sz x = x.name.size + szL x.text + szL x.list + szL x.seen := rfl; exact le_BIG (by omega))⟩
  have hr_x_list : RdS w v_x_list x.list := let ⟨fp, s⟩ := h_x_list; ⟨fp, s.up (by have : GoS.sz x = x.name.size + szL x.text + szL x.list + szL x.seen := rfl; exact le_BIG (by omega))⟩
  have hr_x_seen : RdS w v_x_seen x.seen := let ⟨fp, s⟩ := h_x_seen; ⟨fp, s.up (by have : GoS.sz x = x.name.size + szL x.text + szL x.list + szL x.seen := rfl; exact le_BIG (by omega))⟩
  have nr_x_name : x.name.size ≤ BIG := by have : GoS.sz x = x.name.size + szL x.text + szL x.list + szL x.seen := rfl; exact le_BIG (by omega)
  go_enter Try.func6, Try.ntmps6
  go_wp2_with fail
  refine (szDoc_c x _ _ _ _ _ (by omega) (by omega) n_x_name (h_x_text.below (by repeat' (first | (with_reducible exact Below.refl _ _) | (with_reducible assumption) | (with_reducible refine Below.setCell ?_ ?_ _) | (with_reducible refine Below.alloc ?_ ?_ _) | (with_reducible refine Below.drew ?_) | (with_reducible refine belowN ?_ _) | (with_reducible refine below_after ?_ (by assumption) ?_) | omega | (simp; done) | (simp; omega)))) (h_x_list.below (by repeat' (first | (with_reducible exact Below.refl _ _) | (with_reducible assumption) | (with_reducible refine Below.setCell ?_ ?_ _) | (with_reducible refine Below.alloc ?_ ?_ _) | (with_reducible refine Below.drew ?_) | (with_reducible refine belowN ?_ _) | (with_reducible refine below_after ?_ (by assumption) ?_) | omega | (simp; done) | (simp; omega)))) (h_x_seen.below (by repeat' (first | (with_reducible exact Below.refl _ _) | (with_reducible assumption) | (with_reducible refine Below.setCell ?_ ?_ _) | (with_reducible refine Below.alloc ?_ ?_ _) | (with_reducible refine Below.drew ?_) | (with_reducible refine belowN ?_ _) | (with_reducible refine below_after ?_ (by assumption) ?_) | omega | (simp; done) | (simp; omega))))).mono ?_
  rintro e w1 ⟨rfl, hb1⟩
  have s1 : w.heap.size + 1 ≤ w1.heap.size := (by have := hb1.size; (try simp at this); omega)
  obtain ⟨hc1, hf1⟩ := bcell hb1
  have z1_0 : w.heap.size < w1.heap.size := (by omega)
  rw [less_pos (by omega)]
  go_wp2_with fail
  refine (toDoc_c x _ _ _ _ nr_x_name (hr_x_text.below (by repeat' (first | (with_reducible exact Below.refl _ _) | (with_reducible assumption) | (with_reducible refine Below.setCell ?_ ?_ _) | (with_reducible refine Below.alloc ?_ ?_ _) | (with_reducible refine Below.drew ?_) | (with_reducible refine belowN ?_ _) | (with_reducible refine below_after ?_ (by assumption) ?_) | omega | (simp; done) | (simp; omega)))) (hr_x_list.below (by repeat' (first | (with_reducible exact Below.refl _ _) | (with_reducible assumption) | (with_reducible refine Below.setCell ?_ ?_ _) | (with_reducible refine Below.alloc ?_ ?_ _) | (with_reducible refine Below.drew ?_) | (with_reducible refine belowN ?_ _) | (with_reducible refine below_after ?_ (by assumption) ?_) | omega | (simp; done) | (simp; omega)))) (hr_x_seen.below (by repeat' (first | (with_reducible exact Below.refl _ _) | (with_reducible assumption) | (with_reducible refine Below.setCell ?_ ?_ _) | (with_reducible refine Below.alloc ?_ ?_ _) | (with_reducible refine Below.drew ?_) | (with_reducible refine belowN ?_ _) | (with_reducible refine below_after ?_ (by assumption) ?_) | omega | (simp; done) | (simp; omega))))).mono ?_
  rintro e w2 ⟨_, rfl, ho, hb2⟩
  obtain ⟨v2_0, v2_1, v2_2, rfl, _, ho_0, ho_1, ho_2⟩ := inv_own_DDoc ho
  have s2 : w1.heap.size ≤ w2.heap.size := (by have := hb2.size; (try simp at this); omega)
  obtain ⟨a2_0, c2_0, rfl⟩ := ho_0.rd.isSlice
  obtain ⟨C2_0, D2_0, HO2_0, jc2_0, jd2_0, je2_0⟩ := ho_0.ex (m := w1.heap.size) (by first | omega | (simp; done) | (simp; omega)) hb2.size
  clear ho_0
  obtain ⟨a2_1, c2_1, rfl⟩ := ho_1.rd.isSlice
  obtain ⟨C2_1, D2_1, HO2_1, jc2_1, jd2_1, je2_1⟩ := ho_1.ex (m := w1.heap.size) (by first | omega | (simp; done) | (simp; omega)) hb2.size
  clear ho_1
  obtain ⟨a2_2, c2_2, rfl⟩ := ho_2.rd.isSlice
  obtain ⟨C2_2, D2_2, HO2_2, jc2_2, jd2_2, je2_2⟩ := ho_2.ex (m := w1.heap.size) (by first | omega | (simp; done) | (simp; omega)) hb2.size
  clear ho_2
  clear ho
  obtain ⟨hc2, hf2⟩ := bcell hb2
  have z2_0 : w.heap.size < w2.heap.size := (by omega)
  go_wp2_with fail
  refine (spec_Missed_c x _ _ _ rev _ nr_x_name (((by repeat' (first | (with_reducible exact HO2_0) | (with_reducible refine OwnB.setCell ?_ ?_ _) | (with_reducible refine OwnB.drew ?_) | (with_reducible refine OwnB.drewN ?_ _) | (with_reducible refine OwnB.below ?_ (by assumption)) | (with_reducible refine OwnB.alloc ?_ _) | omega | (simp; done) | (simp; omega))) : OwnB C2_0 D2_0 _ _ _).own.rd) (((by repeat' (first | (with_reducible exact HO2_1) | (with_reducible refine OwnB.setCell ?_ ?_ _) | (with_reducible refine OwnB.drew ?_) | (with_reducible refine OwnB.drewN ?_ _) | (with_reducible refine OwnB.below ?_ (by assumption)) | (with_reducible refine OwnB.alloc ?_ _) | omega | (simp; done) | (simp; omega))) : OwnB C2_1 D2_1 _ _ _).own.rd) (((by repeat' (first | (with_reducible exact HO2_2) | (with_reducible refine OwnB.setCell ?_ ?_ _) | (with_reducible refine OwnB.drew ?_) | (with_reducible refine OwnB.drewN ?_ _) | (with_reducible refine OwnB.below ?_ (by assumption)) | (with_reducible refine OwnB.alloc ?_ _) | omega | (simp; done) | (simp; omega))) : OwnB C2_2 D2_2 _ _ _).own.rd) ).mono ?_
  rintro e w3 ⟨rfl, hb3⟩
  have s3 : w2.heap.size ≤ w3.heap.size := (by have := hb3.size; (try simp at this); omega)
  obtain ⟨hc3, hf3⟩ := bcell hb3
  have z3_0 : w.heap.size < w3.heap.size := (by omega)
  go_wp2_with fail
  refine (toDoc_c x _ _ _ _ nr_x_name (hr_x_text.below (by repeat' (first | (with_reducible exact Below.refl _ _) | (with_reducible assumption) | (with_reducible refine Below.setCell ?_ ?_ _) | (with_reducible refine Below.alloc ?_ ?_ _) | (with_reducible refine Below.drew ?_) | (with_reducible refine belowN ?_ _) | (with_reducible refine below_after ?_ (by assumption) ?_) | omega | (simp; done) | (simp; omega)))) (hr_x_list.below (by repeat' (first | (with_reducible exact Below.refl _ _) | (with_reducible assumption) | (with_reducible refine Below.setCell ?_ ?_ _) | (with_reducible refine Below.alloc ?_ ?_ _) | (with_reducible refine Below.drew ?_) | (with_reducible refine belowN ?_ _) | (with_reducible refine below_after ?_ (by assumption) ?_) | omega | (simp; done) | (simp; omega)))) (hr_x_seen.below (by repeat' (first | (with_reducible exact Below.refl _ _) | (with_reducible assumption) | (with_reducible refine Below.setCell ?_ ?_ _) | (with_reducible refine Below.alloc ?_ ?_ _) | (with_reducible refine Below.drew ?_) | (with_reducible refine belowN ?_ _) | (with_reducible refine below_after ?_ (by assumption) ?_) | omega | (simp; done) | (simp; omega))))).mono ?_
  rintro e w4 ⟨_, rfl, ho, hb4⟩
  obtain ⟨v4_0, v4_1, v4_2, rfl, _, ho_0, ho_1, ho_2⟩ := inv_own_DDoc ho
  have s4 : w3.heap.size ≤ w4.heap.size := (by have := hb4.size; (try simp at this); omega)
  obtain ⟨a4_0, c4_0, rfl⟩ := ho_0.rd.isSlice
  obtain ⟨C4_0, D4_0, HO4_0, jc4_0, jd4_0, je4_0⟩ := ho_0.ex (m := w3.heap.size) (by first | omega | (simp; done) | (simp; omega)) hb4.size
  clear ho_0
  obtain ⟨a4_1, c4_1, rfl⟩ := ho_1.rd.isSlice
  obtain ⟨C4_1, D4_1, HO4_1, jc4_1, jd4_1, je4_1⟩ := ho_1.ex (m := w3.heap.size) (by first | omega | (simp; done) | (simp; omega)) hb4.size
  clear ho_1
  obtain ⟨a4_2, c4_2, rfl⟩ := ho_2.rd.isSlice
  obtain ⟨C4_2, D4_2, HO4_2, jc4_2, jd4_2, je4_2⟩ := ho_2.ex (m := w3.heap.size) (by first | omega | (simp; done) | (simp; omega)) hb4.size
  clear ho_2
  clear ho
  obtain ⟨hc4, hf4⟩ := bcell hb4
  have z4_0 : w.heap.size < w4.heap.size := (by omega)
  go_wp2_with fail
  refine (impl_Missed_c x _ _ _ rev _ nr_x_name (((by repeat' (first | (with_reducible exact HO4_0) | (with_reducible refine OwnB.setCell ?_ ?_ _) | (with_reducible refine OwnB.drew ?_) | (with_reducible refine OwnB.drewN ?_ _) | (with_reducible refine OwnB.below ?_ (by assumption)) | (with_reducible refine OwnB.alloc ?_ _) | omega | (simp; done) | (simp; omega))) : OwnB C4_0 D4_0 _ _ _).own.rd) (((by repeat' (first | (with_reducible exact HO4_1) | (with_reducible refine OwnB.setCell ?_ ?_ _) | (with_reducible refine OwnB.drew ?_) | (with_reducible refine OwnB.drewN ?_ _) | (with_reducible refine OwnB.below ?_ (by assumption)) | (with_reducible refine OwnB.alloc ?_ _) | omega | (simp; done) | (simp; omega))) : OwnB C4_1 D4_1 _ _ _).own.rd) (((by repeat' (first | (with_reducible exact HO4_2) | (with_reducible refine OwnB.setCell ?_ ?_ _) | (with_reducible refine OwnB.drew ?_) | (with_reducible refine OwnB.drewN ?_ _) | (with_reducible refine OwnB.below ?_ (by assumption)) | (with_reducible refine OwnB.alloc ?_ _) | omega | (simp; done) | (simp; omega))) : OwnB C4_2 D4_2 _ _ _).own.rd) ).mono ?_
  rintro e w5 ⟨rfl, hb5⟩
  have s5 : w4.heap.size + 1 ≤ w5.heap.size := (by have := hb5.size; (try simp at this); omega)
  obtain ⟨hc5, hf5⟩ := bcell hb5
  have z5_0 : w.heap.size < w5.heap.size := (by omega)
  have z5_1 : w4.heap.size < w5.heap.size := (by omega)
  go_wp2_with fail
  have hB : Below (w.heap.size + 1) (w.alloc (.cells #[.string x.name, .int .i64 x.from_, v_x_text, v_x_list, v_x_seen] 26)) w5 := (by repeat' (first | (with_reducible exact Below.refl _ _) | (with_reducible assumption) | (with_reducible refine Below.setCell ?_ ?_ _) | (with_reducible refine Below.alloc ?_ ?_ _) | (with_reducible refine Below.drew ?_) | (with_reducible refine belowN ?_ _) | (with_reducible refine below_after ?_ (by assumption) ?_) | omega | (simp; done) | (simp; omega)))
  have q5_0 : w5.cell? ⟨w.heap.size, 0, none⟩ = some (.string x.name) := by rw [hB.cell (by simp; try omega)]; simp
  have q5_1 : w5.cell? ⟨w.heap.size, 1, none⟩ = some (.int .i64 x.from_) := by rw [hB.cell (by simp; try omega)]; simp
  have q5_2 : w5.cell? ⟨w.heap.size, 2, none⟩ = some (v_x_text) := by rw [hB.cell (by simp; try omega)]; simp
  have q5_3 : w5.cell? ⟨w.heap.size, 3, none⟩ = some (v_x_list) := by rw [hB.cell (by simp; try omega)]; simp
  have q5_4 : w5.cell? ⟨w.heap.size, 4, none⟩ = some (v_x_seen) := by rw [hB.cell (by simp; try omega)]; simp
  clear hB
  have hB : Below (w4.heap.size + 1) (w4.alloc (.cells #[.string x.name, .int .i64 x.from_, .slice a4_0 x.text.length c4_0, .slice a4_1 x.list.length c4_1, .slice a4_2 x.seen.length c4_2] 32)) w5 := (by repeat' (first | (with_reducible exact Below.refl _ _) | (with_reducible assumption) | (with_reducible refine Below.setCell ?_ ?_ _) | (with_reducible refine Below.alloc ?_ ?_ _) | (with_reducible refine Below.drew ?_) | (with_reducible refine belowN ?_ _) | (with_reducible refine below_after ?_ (by assumption) ?_) | omega | (simp; done) | (simp; omega)))
  have x5_0 : w5.cell? ⟨w4.heap.size, 0, none⟩ = some (.string x.name) := by rw [hB.cell (Nat.lt_succ_self _)]; simp
  have x5_1 : w5.cell? ⟨w4.heap.size, 1, none⟩ = some (.int .i64 x.from_) := by rw [hB.cell (Nat.lt_succ_self _)]; simp
  have x5_2 : w5.cell? ⟨w4.heap.size, 2, none⟩ = some (.slice a4_0 x.text.length c4_0) := by rw [hB.cell (Nat.lt_succ_self _)]; simp
  have x5_3 : w5.cell? ⟨w4.heap.size, 3, none⟩ = some (.slice a4_1 x.list.length c4_1) := by rw [hB.cell (Nat.lt_succ_self _)]; simp
  have x5_4 : w5.cell? ⟨w4.heap.size, 4, none⟩ = some (.slice a4_2 x.seen.length c4_2) := by rw [hB.cell (Nat.lt_succ_self _)]; simp
  clear hB
  clear hc1 hf1
  clear hc2 hf2
  clear hc3 hf3
  clear hc4 hf4
  clear hc5 hf5
  go_region_held3 (fun w' => w'.cell? ⟨w.heap.size, 0, none⟩ = some (.string x.name) ∧ w'.cell? ⟨w.heap.size, 1, none⟩ = some (.int .i64 x.from_) ∧ w'.cell? ⟨w.heap.size, 2, none⟩ = some (v_x_text) ∧ w'.cell? ⟨w.heap.size, 3, none⟩ = some (v_x_list) ∧ w'.cell? ⟨w.heap.size, 4, none⟩ = some (v_x_seen) ∧ w'.cell? ⟨w4.heap.size, 0, none⟩ = some (.string x.name) ∧ w'.cell? ⟨w4.heap.size, 1, none⟩ = some (.int .i64 x.from_) ∧ w'.cell? ⟨w4.heap.size, 2, none⟩ = some (.slice a4_0 x.text.length c4_0) ∧ w'.cell? ⟨w4.heap.size, 3, none⟩ = some (.slice a4_1 x.list.length c4_1) ∧ w'.cell? ⟨w4.heap.size, 4, none⟩ = some (.slice a4_2 x.seen.length c4_2)) (go_keep)
    (first | (go_at_call 14; refine (toDoc_c x _ _ _ _ nr_x_name (hr_x_text.below (by repeat' (first | (with_reducible exact Below.refl _ _) | (with_reducible assumption) | (with_reducible refine Below.setCell ?_ ?_ _) | (with_reducible refine Below.alloc ?_ ?_ _) | (with_reducible refine Below.drew ?_) | (with_reducible refine belowN ?_ _) | (with_reducible refine below_after ?_ (by assumption) ?_) | omega | (simp; done) | (simp; omega)))) (hr_x_list.below (by repeat' (first | (with_reducible exact Below.refl _ _) | (with_reducible assumption) | (with_reducible refine Below.setCell ?_ ?_ _) | (with_reducible refine Below.alloc ?_ ?_ _) | (with_reducible refine Below.drew ?_) | (with_reducible refine belowN ?_ _) | (with_reducible refine below_after ?_ (by assumption) ?_) | omega | (simp; done) | (simp; omega)))) (hr_x_seen.below (by repeat' (first | (with_reducible exact Below.refl _ _) | (with_reducible assumption) | (with_reducible refine Below.setCell ?_ ?_ _) | (with_reducible refine Below.alloc ?_ ?_ _) | (with_reducible refine Below.drew ?_) | (with_reducible refine belowN ?_ _) | (with_reducible refine below_after ?_ (by assumption) ?_) | omega | (simp; done) | (simp; omega))))).mono ?_; rintro e w6 ⟨_, rfl, ho, hb6⟩; obtain ⟨v6_0, v6_1, v6_2, rfl, _, ho_0, ho_1, ho_2⟩ := inv_own_DDoc ho; have s6 : w5.heap.size ≤ w6.heap.size := (by have := hb6.size; (try simp at this); omega); obtain ⟨a6_0, c6_0, rfl⟩ := ho_0.rd.isSlice; obtain ⟨C6_0, D6_0, HO6_0, jc6_0, jd6_0, je6_0⟩ := ho_0.ex (m := w5.heap.size) (by first | omega | (simp; done) | (simp; omega)) hb6.size; clear ho_0; obtain ⟨a6_1, c6_1, rfl⟩ := ho_1.rd.isSlice; obtain ⟨C6_1, D6_1, HO6_1, jc6_1, jd6_1, je6_1⟩ := ho_1.ex (m := w5.heap.size) (by first | omega | (simp; done) | (simp; omega)) hb6.size; clear ho_1; obtain ⟨a6_2, c6_2, rfl⟩ := ho_2.rd.isSlice; obtain ⟨C6_2, D6_2, HO6_2, jc6_2, jd6_2, je6_2⟩ := ho_2.ex (m := w5.heap.size) (by first | omega | (simp; done) | (simp; omega)) hb6.size; clear ho_2; clear ho; obtain ⟨hc6, hf6⟩ := bcell hb6; have z6_0 : w.heap.size < w6.heap.size := (by omega); have z6_1 : w4.heap.size < w6.heap.size := (by omega); have y6_0 : w6.cell? ⟨w.heap.size, 0, none⟩ = some (.string x.name) := (hb6.cell (p := ⟨w.heap.size, 0, none⟩) z5_0).trans q5_0; have y6_1 : w6.cell? ⟨w.heap.size, 1, none⟩ = some (.int .i64 x.from_) := (hb6.cell (p := ⟨w.heap.size, 1, none⟩) z5_0).trans q5_1; have y6_2 : w6.cell? ⟨w.heap.size, 2, none⟩ = some (v_x_text) := (hb6.cell (p := ⟨w.heap.size, 2, none⟩) z5_0).trans q5_2; have y6_3 : w6.cell? ⟨w.heap.size, 3, none⟩ = some (v_x_list) := (hb6.cell (p := ⟨w.heap.size, 3, none⟩) z5_0).trans q5_3; have y6_4 : w6.cell? ⟨w.heap.size, 4, none⟩ = some (v_x_seen) := (hb6.cell (p := ⟨w.heap.size, 4, none⟩) z5_0).trans q5_4; have y6_5 : w6.cell? ⟨w4.heap.size, 0, none⟩ = some (.string x.name) := (hb6.cell (p := ⟨w4.heap.size, 0, none⟩) z5_1).trans x5_0; have y6_6 : w6.cell? ⟨w4.heap.size, 1, none⟩ = some (.int .i64 x.from_) := (hb6.cell (p := ⟨w4.heap.size, 1, none⟩) z5_1).trans x5_1; have y6_7 : w6.cell? ⟨w4.heap.size, 2, none⟩ = some (.slice a4_0 x.text.length c4_0) := (hb6.cell (p := ⟨w4.heap.size, 2, none⟩) z5_1).trans x5_2; have y6_8 : w6.cell? ⟨w4.heap.size, 3, none⟩ = some (.slice a4_1 x.list.length c4_1) := (hb6.cell (p := ⟨w4.heap.size, 3, none⟩) z5_1).trans x5_3; have y6_9 : w6.cell? ⟨w4.heap.size, 4, none⟩ = some (.slice a4_2 x.seen.length c4_2) := (hb6.cell (p := ⟨w4.heap.size, 4, none⟩) z5_1).trans x5_4; clear hc6 hf6) | (go_at_call 16; refine (eqDoc_c x _ _ _ _ _ _ _ (((by repeat' (first | (with_reducible exact HO4_0) | (with_reducible refine OwnB.setCell ?_ ?_ _) | (with_reducible refine OwnB.drew ?_) | (with_reducible refine OwnB.drewN ?_ _) | (with_reducible refine OwnB.below ?_ (by assumption)) | (with_reducible refine OwnB.alloc ?_ _) | omega | (simp; done) | (simp; omega))) : OwnB C4_0 D4_0 _ _ _).own.rd) (((by repeat' (first | (with_reducible exact HO6_0) | (with_reducible refine OwnB.setCell ?_ ?_ _) | (with_reducible refine OwnB.drew ?_) | (with_reducible refine OwnB.drewN ?_ _) | (with_reducible refine OwnB.below ?_ (by assumption)) | (with_reducible refine OwnB.alloc ?_ _) | omega | (simp; done) | (simp; omega))) : OwnB C6_0 D6_0 _ _ _).own.rd) (((by repeat' (first | (with_reducible exact HO4_1) | (with_reducible refine OwnB.setCell ?_ ?_ _) | (with_reducible refine OwnB.drew ?_) | (with_reducible refine OwnB.drewN ?_ _) | (with_reducible refine OwnB.below ?_ (by assumption)) | (with_reducible refine OwnB.alloc ?_ _) | omega | (simp; done) | (simp; omega))) : OwnB C4_1 D4_1 _ _ _).own.rd) (((by repeat' (first | (with_reducible exact HO6_1) | (with_reducible refine OwnB.setCell ?_ ?_ _) | (with_reducible refine OwnB.drew ?_) | (with_reducible refine OwnB.drewN ?_ _) | (with_reducible refine OwnB.below ?_ (by assumption)) | (with_reducible refine OwnB.alloc ?_ _) | omega | (simp; done) | (simp; omega))) : OwnB C6_1 D6_1 _ _ _).own.rd) (((by repeat' (first | (with_reducible exact HO4_2) | (with_reducible refine OwnB.setCell ?_ ?_ _) | (with_reducible refine OwnB.drew ?_) | (with_reducible refine OwnB.drewN ?_ _) | (with_reducible refine OwnB.below ?_ (by assumption)) | (with_reducible refine OwnB.alloc ?_ _) | omega | (simp; done) | (simp; omega))) : OwnB C4_2 D4_2 _ _ _).own.rd) (((by repeat' (first | (with_reducible exact HO6_2) | (with_reducible refine OwnB.setCell ?_ ?_ _) | (with_reducible refine OwnB.drew ?_) | (with_reducible refine OwnB.drewN ?_ _) | (with_reducible refine OwnB.below ?_ (by assumption)) | (with_reducible refine OwnB.alloc ?_ _) | omega | (simp; done) | (simp; omega))) : OwnB C6_2 D6_2 _ _ _).own.rd)).mono ?_; rintro e w7 ⟨rfl, hb7⟩; have s7 : w6.heap.size ≤ w7.heap.size := (by have := hb7.size; (try simp at this); omega); obtain ⟨hc7, hf7⟩ := bcell hb7; have z7_0 : w.heap.size < w7.heap.size := (by omega); have z7_1 : w4.heap.size < w7.heap.size := (by omega); have y7_0 : w7.cell? ⟨w.heap.size, 0, none⟩ = some (.string x.name) := (hb7.cell (p := ⟨w.heap.size, 0, none⟩) z6_0).trans y6_0; have y7_1 : w7.cell? ⟨w.heap.size, 1, none⟩ = some (.int .i64 x.from_) := (hb7.cell (p := ⟨w.heap.size, 1, none⟩) z6_0).trans y6_1; have y7_2 : w7.cell? ⟨w.heap.size, 2, none⟩ = some (v_x_text) := (hb7.cell (p := ⟨w.heap.size, 2, none⟩) z6_0).trans y6_2; have y7_3 : w7.cell? ⟨w.heap.size, 3, none⟩ = some (v_x_list) := (hb7.cell (p := ⟨w.heap.size, 3, none⟩) z6_0).trans y6_3; have y7_4 : w7.cell? ⟨w.heap.size, 4, none⟩ = some (v_x_seen) := (hb7.cell (p := ⟨w.heap.size, 4, none⟩) z6_0).trans y6_4; have y7_5 : w7.cell? ⟨w4.heap.size, 0, none⟩ = some (.string x.name) := (hb7.cell (p := ⟨w4.heap.size, 0, none⟩) z6_1).trans y6_5; have y7_6 : w7.cell? ⟨w4.heap.size, 1, none⟩ = some (.int .i64 x.from_) := (hb7.cell (p := ⟨w4.heap.size, 1, none⟩) z6_1).trans y6_6; have y7_7 : w7.cell? ⟨w4.heap.size, 2, none⟩ = some (.slice a4_0 x.text.length c4_0) := (hb7.cell (p := ⟨w4.heap.size, 2, none⟩) z6_1).trans y6_7; have y7_8 : w7.cell? ⟨w4.heap.size, 3, none⟩ = some (.slice a4_1 x.list.length c4_1) := (hb7.cell (p := ⟨w4.heap.size, 3, none⟩) z6_1).trans y6_8; have y7_9 : w7.cell? ⟨w4.heap.size, 4, none⟩ = some (.slice a4_2 x.seen.length c4_2) := (hb7.cell (p := ⟨w4.heap.size, 4, none⟩) z6_1).trans y6_9; clear hc7 hf7))
  go_wp2
  go_ret
  exact ⟨rfl, (by repeat' (first | (with_reducible exact Below.refl _ _) | (with_reducible assumption) | (with_reducible refine Below.setCell ?_ ?_ _) | (with_reducible refine Below.alloc ?_ ?_ _) | (with_reducible refine Below.drew ?_) | (with_reducible refine belowN ?_ _) | (with_reducible refine below_after ?_ (by assumption) ?_) | omega | (simp; done) | (simp; omega)))⟩
namespace fnExactMissed
theorem own : ownKnob Try.prog.godebug = none := by kernel_rfl
theorem laidOut : laidOutB Try.prog = true := by kernel_rfl
set_option maxRecDepth 100000 in
theorem lifted (os : Os) (started : os.Started) (H : Type) (enc : TypeId × Value → H) :
    ReturnsInHanded {} Try.checked os 6 .any (Rows.fnExactMissedSpec.pre6 enc Try.prog Try.f6 Rows.fnExactMissedRow.domain false) (Rows.fnExactMissedSpec.post enc Try.prog Try.f6 false true false false) := by
  refine returnsInHanded_of_change (C := Try.checked) own started (by kernel_rfl) Try.func6
    (ChangeSpec.witness6 (enc := enc) (C := Try.checked) false ⟨#[], #[.agg #[.string ByteArray.empty, .int .i64 0, .slice none 0 0, .slice none 0 0, .slice none 0 0], .int .i64 0], []⟩ 8 (by kernel_rfl) (by kernel_rfl) (by kernel_rfl) (by kernel_rfl)) ?_
  intro W base args ds gs before hval0 hW hcnd _
  have hval : ∀ (j : Nat) t v, Try.f6.params[j]? = some t → args[j]? = some v → Value.okWide Try.prog W .any base t v := hval0
  have hW' := hW
  obtain ⟨p, q, hA0, hV, rfl, hfz, hnd⟩ := hW
  have hA : DataW.TrodAll enc Try.prog W 0 (fun _ => true) true Try.f6.params.toList args.toList ds p := hA0
  rw [Try.params6] at hA hval
  obtain ⟨v0, vs0, d0, ds0, p0, q0, hargs, rfl, rfl, h0, r0⟩ := trodAll_cons hA
  obtain ⟨v1, vs1, d1, ds1, p1, q1, rfl, rfl, rfl, h1, r1⟩ := trodAll_cons r0
  obtain ⟨rfl, rfl, rfl⟩ := trodAll_nil r1
  obtain rfl : args = #[v0, v1] := by cases args; simp_all
  obtain ⟨rfl, rfl⟩ := trodVars_none hV
  obtain ⟨cs0, rfl, _⟩ := okWide_struct Try.underlying26 (hval 0 26 v0 rfl rfl)
  have k0 := h0
  have lt0 : ∀ x ∈ p0, x.block < W.heap.size := by obtain ⟨m, hm⟩ := k0; exact DataW.trod_lt m _ _ _ hm
  obtain ⟨x0, m0⟩ : ∃ x : DDoc, RdM maxLen W cs0.toList x := by
    obtain ⟨fuel, hf⟩ := h0
    exact opens_DDoc _ _ _ _ _ _ _ _ hf
  obtain ⟨v_text0, v_list0, v_seen0, hc0, n_name0, m_text0, m_list0, m_seen0⟩ := invM_DDoc m0
  obtain ⟨cs0⟩ := cs0
  simp only at hc0
  subst hc0
  obtain ⟨a1, rfl, rfl, rfl, w1⟩ := open_int Try.underlying3 (hval 1 3 v1 rfl rfl) h1
  have b1 := i64_bounds w1
  clear hA0 hval0
  refine (walk_FnExactMissed x0 _ _ _ a1 W n_name0 m_text0 m_list0 m_seen0 b1.1 b1.2).mono fun e W' ⟨he, bel⟩ => ?_
  subst he
  exact ⟨_, rfl, _, _, _, [], _, [], hW', trodAll_mk1 (shut_bool Try.underlying4 _), (trodAll_cons_mk (Below.trod laidOut (by kernel_rfl) (of_decide_eq_true (by kernel_rfl)) k0 bel lt0) (trodAll_cons_mk (shut_int Try.underlying3 w1) trodAll_mk0)), rfl, bel.frame _, fun h => by cases h⟩
theorem over : Rows.fnExactMissedRow.holds Try.pinned (OpenSpec.ofChange Rows.fnExactMissedSpec) :=
  OpenClaim.holds_of_wide 6 Try.f6 rfl rfl rfl rfl rfl rfl rfl ⟨rfl, rfl, rfl, rfl, rfl⟩ rfl rfl rfl rfl rfl (by kernel_rfl) Try.func6 (by kernel_rfl)
    (of_decide_eq_true (by kernel_rfl)) (by unfold Func.isWrapper; first | (rw [if_pos (by decide +kernel)]; kernel_rfl) | (rw [if_neg (by decide +kernel)]; exact ⟨rfl, rfl⟩))
    (fun os started H enc _ => lifted os started H enc)
theorem proved : Rows.FnExactMissedSaid := over
end fnExactMissed
#print axioms fnExactMissed.proved
end Go.Proofs.Ytkbhlgmgjpbloaa
