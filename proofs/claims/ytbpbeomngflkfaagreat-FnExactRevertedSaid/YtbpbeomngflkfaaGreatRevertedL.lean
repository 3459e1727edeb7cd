/- 'laws.FnExactReverted' answers true for every input, and each argument reads afterwards as before. No conditions. -/
import Derived.Test.YtbpbeomngflkfaaGreatEz
import Derived.Test.YtbpbeomngflkfaaGreatMk
import Derived.Test.YtbpbeomngflkfaaGreatRo
import Derived.Test.YtbpbeomngflkfaaGreatCdr
import Derived.Test.YtbpbeomngflkfaaGreatRows
import Derived.Test.YtbpbeomngflkfaaGreatChc
import Derived.ProofKit
import Derived.OpenShut
import Derived.ChangeMaps5
import Derived.Deep.RegionHeld3
namespace Go.Proofs.YtbpbeomngflkfaaGreat
open Go.ChangeShapes Go.WideShapes Go.ChangeAt Go.RowKit
theorem mem_pre {α : Type} {p : α} {a b c : List α} (h : p ∈ a ++ b) : p ∈ a ++ (b ++ c) := by
  simp only [List.mem_append] at *
  rcases h with h | h <;> simp [h]
theorem mem_pre3 {α : Type} {p : α} {a b c d : List α} (h : p ∈ a ++ (b ++ c)) : p ∈ a ++ (b ++ (c ++ d)) := by
  simp only [List.mem_append] at *
  rcases h with h | h | h <;> simp [h]
set_option maxHeartbeats 16000000 in
theorem walk_FnExactReverted (x : DDoc) (v_x_text : Value) (v_x_list : Value) (v_x_seen : Value) (rev : Int) (w : World) (n_x_name : x.name.size ≤ maxLen) (h_x_text : RdSM maxLen w v_x_text x.text) (h_x_list : RdSM maxLen w v_x_list x.list) (h_x_seen : RdSM maxLen w v_x_seen x.seen) (_b1_rev : -9223372036854775808 ≤ rev) (_b2_rev : rev ≤ 9223372036854775807) (y0 : List DPart) (y1 : Bool)
    (HS0 : x.name.size ≤ BIG → -9223372036854775808 ≤ rev → rev ≤ 9223372036854775807 → ∀ (v_x_text v_x_list v_x_seen : Value) (W : World), RdS W v_x_text x.text → RdS W v_x_list x.list → RdS W v_x_seen x.seen → Calls Tryz.prog 28 #[.agg #[.string x.name, .int .i64 x.from_, v_x_text, v_x_list, v_x_seen], .int .i64 rev] W (Out_PartS_b W y0 y1))
    (HI0 : x.name.size ≤ BIG → -9223372036854775808 ≤ rev → rev ≤ 9223372036854775807 → ∀ (v_x_text v_x_list v_x_seen : Value) (W : World), RdS W v_x_text x.text → RdS W v_x_list x.list → RdS W v_x_seen x.seen → Calls Tryz.prog 29 #[.agg #[.string x.name, .int .i64 x.from_, v_x_text, v_x_list, v_x_seen], .int .i64 rev] W (Out_PartS_b W y0 y1))
    (HC0 : (GoS.sz x : Nat) ≤ 1048576 → cntL y0 ≤ 1099511627776) :
    Calls Tryz.prog 6 #[.agg #[.string x.name, .int .i64 x.from_, v_x_text, v_x_list, v_x_seen], .int .i64 rev] w (Tells w (.bool true)) := by
  have HS1 := Lib.hid HS0
  have HI1 := Lib.hid HI0
  clear HS0 HI0
  by_cases cz_x : ((GoS.sz x : Nat) : Int) ≤ 1048576
  rotate_left
  · go_enter Tryz.func6, Tryz.ntmps6
    go_wp2_with fail
    refine (szDoc_c x _ _ _ _ _ (by omega) (by omega) n_x_name (h_x_text.below blw2) (h_x_list.below blw2) (h_x_seen.below blw2)).mono ?_
    rintro e w1 ⟨rfl, hb1⟩
    have hN : Below (w.heap.size + 1) (w.alloc (.cells #[.string x.name, .int .i64 x.from_, v_x_text, v_x_list, v_x_seen] 26)) w1 := blw2
    have B1 : Below w.heap.size w w1 := blw2
    have s1 : w.heap.size + 1 ≤ w1.heap.size := (by have := hb1.size; (try simp at this); omega)
    have cp0_0 : w1.cell? ⟨w.heap.size, 0, none⟩ = some (.string x.name) := by rw [hN.cell (by simp; try omega)]; simp
    have cp0_1 : w1.cell? ⟨w.heap.size, 1, none⟩ = some (.int .i64 x.from_) := by rw [hN.cell (by simp; try omega)]; simp
    have cp0_2 : w1.cell? ⟨w.heap.size, 2, none⟩ = some (v_x_text) := by rw [hN.cell (by simp; try omega)]; simp
    have cp0_3 : w1.cell? ⟨w.heap.size, 3, none⟩ = some (v_x_list) := by rw [hN.cell (by simp; try omega)]; simp
    have cp0_4 : w1.cell? ⟨w.heap.size, 4, none⟩ = some (v_x_seen) := by rw [hN.cell (by simp; try omega)]; simp
    clear hN
    have z1_p0 : w.heap.size < w1.heap.size := (by omega)
    clear hb1
    rw [less_neg (by omega)]
    go_wp2
    go_ret
    exact ⟨rfl, blw2⟩
  have hr_x_text : RdS w v_x_text x.text := let ⟨fp, s⟩ := h_x_text; ⟨fp, s.up (by have : GoS.sz x = x.name.size + szL x.text + szL x.list + szL x.seen := rfl; exact le_BIG (by omega))⟩
  have hr_x_list : RdS w v_x_list x.list := let ⟨fp, s⟩ := h_x_list; ⟨fp, s.up (by have : GoS.sz x = x.name.size + szL x.text + szL x.list + szL x.seen := rfl; exact le_BIG (by omega))⟩
  have hr_x_seen : RdS w v_x_seen x.seen := let ⟨fp, s⟩ := h_x_seen; ⟨fp, s.up (by have : GoS.sz x = x.name.size + szL x.text + szL x.list + szL x.seen := rfl; exact le_BIG (by omega))⟩
  have nr_x_name : x.name.size ≤ BIG := by have : GoS.sz x = x.name.size + szL x.text + szL x.list + szL x.seen := rfl; exact le_BIG (by omega)
  have cx_x : cntL x.text + cntL x.list + cntL x.seen ≤ 5 * 1048576 := by have : GoS.sz x = x.name.size + szL x.text + szL x.list + szL x.seen := rfl; have := cntL_le x.text; have := cntL_le x.list; have := cntL_le x.seen; omega
  have HS := Lib.hid (HS1.out nr_x_name _b1_rev _b2_rev)
  have HI := Lib.hid (HI1.out nr_x_name _b1_rev _b2_rev)
  clear HS1 HI1
  have hcnt : cntL y0 ≤ 1099511627776 := HC0 (by omega)
  clear HC0
  go_enter Tryz.func6, Tryz.ntmps6
  go_wp2_with fail
  refine (szDoc_c x _ _ _ _ _ (by omega) (by omega) n_x_name (h_x_text.below blw2) (h_x_list.below blw2) (h_x_seen.below blw2)).mono ?_
  rintro e w1 ⟨rfl, hb1⟩
  have hN : Below (w.heap.size + 1) (w.alloc (.cells #[.string x.name, .int .i64 x.from_, v_x_text, v_x_list, v_x_seen] 26)) w1 := blw2
  have B1 : Below w.heap.size w w1 := blw2
  have s1 : w.heap.size + 1 ≤ w1.heap.size := (by have := hb1.size; (try simp at this); omega)
  have cp0_0 : w1.cell? ⟨w.heap.size, 0, none⟩ = some (.string x.name) := by rw [hN.cell (by simp; try omega)]; simp
  have cp0_1 : w1.cell? ⟨w.heap.size, 1, none⟩ = some (.int .i64 x.from_) := by rw [hN.cell (by simp; try omega)]; simp
  have cp0_2 : w1.cell? ⟨w.heap.size, 2, none⟩ = some (v_x_text) := by rw [hN.cell (by simp; try omega)]; simp
  have cp0_3 : w1.cell? ⟨w.heap.size, 3, none⟩ = some (v_x_list) := by rw [hN.cell (by simp; try omega)]; simp
  have cp0_4 : w1.cell? ⟨w.heap.size, 4, none⟩ = some (v_x_seen) := by rw [hN.cell (by simp; try omega)]; simp
  clear hN
  have z1_p0 : w.heap.size < w1.heap.size := (by omega)
  clear hb1
  rw [less_pos (by omega)]
  go_wp2_with fail
  refine (toDoc_c x _ _ _ _ nr_x_name (hr_x_text.below blw2) (hr_x_list.below blw2) (hr_x_seen.below blw2)).mono ?_
  rintro e w2 ⟨_, rfl, ⟨fp2, ho2, FR2⟩, hb2⟩
  obtain ⟨v2_text, v2_list, v2_seen, f2_text, f2_list, f2_seen, rfl, n2_name, S2_text, S2_list, S2_seen, rfl⟩ := ho2
  obtain ⟨a2_text, c2_text, rfl⟩ := RdS.isSlice ⟨_, S2_text⟩
  obtain ⟨a2_list, c2_list, rfl⟩ := RdS.isSlice ⟨_, S2_list⟩
  obtain ⟨a2_seen, c2_seen, rfl⟩ := RdS.isSlice ⟨_, S2_seen⟩
  have UB2 : ∀ p ∈ (f2_text ++ (f2_list ++ f2_seen)), p.1 < w2.heap.size := Live.lt (Live.append.2 ⟨S2_text.live, Live.append.2 ⟨S2_list.live, S2_seen.live⟩⟩)
  replace FR2 : Fresh (w1.heap.size) w2 (f2_text ++ (f2_list ++ f2_seen)) := FR2.mono (by first | exact Nat.le_refl _ | (simp; done) | (simp; omega))
  have K2 : Kept (f2_text ++ (f2_list ++ f2_seen)) w2 w2 := Kept.refl _ _
  have B2 : Below w1.heap.size w1 w2 := blw2
  have s2 : w1.heap.size ≤ w2.heap.size := (by have := hb2.size; (try simp at this); omega)
  have hh := mc5 B2 cp0_0 cp0_1 cp0_2 cp0_3 cp0_4
  clear cp0_0 cp0_1 cp0_2 cp0_3 cp0_4
  obtain ⟨cp0_0, cp0_1, cp0_2, cp0_3, cp0_4⟩ := hh
  have z2_p0 : w.heap.size < w2.heap.size := (by omega)
  clear hb2
  go_wp2_with fail
  refine (HS.out _ _ _ _ ((⟨_, S2_text.kept (K2.below (show Below w2.heap.size w2 _ from blw2) (fun p hp => Nat.lt_of_lt_of_le (UB2 p hp) (by omega))) (by intro p hp; simp only [List.mem_append]; simp [hp])⟩ : RdS _ _ _)) ((⟨_, S2_list.kept (K2.below (show Below w2.heap.size w2 _ from blw2) (fun p hp => Nat.lt_of_lt_of_le (UB2 p hp) (by omega))) (by intro p hp; simp only [List.mem_append]; simp [hp])⟩ : RdS _ _ _)) ((⟨_, S2_seen.kept (K2.below (show Below w2.heap.size w2 _ from blw2) (fun p hp => Nat.lt_of_lt_of_le (UB2 p hp) (by omega))) (by intro p hp; simp only [List.mem_append]; simp [hp])⟩ : RdS _ _ _))).mono ?_
  rintro e w3 ⟨v3_0, f3_0, rfl, S3_0, FR3, hb3⟩
  have UB3 : ∀ p ∈ f3_0, p.1 < w3.heap.size := Live.lt (S3_0.live)
  replace FR3 : Fresh (w2.heap.size) w3 f3_0 := FR3.mono (by first | exact Nat.le_refl _ | (simp; done) | (simp; omega))
  have K3 : Kept f3_0 w3 w3 := Kept.refl _ _
  have B3 : Below w2.heap.size w2 w3 := blw2
  have s3 : w2.heap.size ≤ w3.heap.size := (by have := hb3.size; (try simp at this); omega)
  have hh := mc5 B3 cp0_0 cp0_1 cp0_2 cp0_3 cp0_4
  clear cp0_0 cp0_1 cp0_2 cp0_3 cp0_4
  obtain ⟨cp0_0, cp0_1, cp0_2, cp0_3, cp0_4⟩ := hh
  replace K2 : Kept (f2_text ++ (f2_list ++ f2_seen)) w2 w3 := K2.below B3 (fun p hp => Nat.lt_of_lt_of_le (UB2 p hp) (by omega))
  have z3_p0 : w.heap.size < w3.heap.size := (by omega)
  clear hb3
  go_wp2_with fail
  refine (toDoc_c x _ _ _ _ nr_x_name (hr_x_text.below blw2) (hr_x_list.below blw2) (hr_x_seen.below blw2)).mono ?_
  rintro e w4 ⟨_, rfl, ⟨fp4, ho4, FR4⟩, hb4⟩
  obtain ⟨v4_text, v4_list, v4_seen, f4_text, f4_list, f4_seen, rfl, n4_name, S4_text, S4_list, S4_seen, rfl⟩ := ho4
  obtain ⟨a4_text, c4_text, rfl⟩ := RdS.isSlice ⟨_, S4_text⟩
  obtain ⟨a4_list, c4_list, rfl⟩ := RdS.isSlice ⟨_, S4_list⟩
  obtain ⟨a4_seen, c4_seen, rfl⟩ := RdS.isSlice ⟨_, S4_seen⟩
  have UB4 : ∀ p ∈ (f4_text ++ (f4_list ++ f4_seen)), p.1 < w4.heap.size := Live.lt (Live.append.2 ⟨S4_text.live, Live.append.2 ⟨S4_list.live, S4_seen.live⟩⟩)
  replace FR4 : Fresh (w3.heap.size) w4 (f4_text ++ (f4_list ++ f4_seen)) := FR4.mono (by first | exact Nat.le_refl _ | (simp; done) | (simp; omega))
  have K4 : Kept (f4_text ++ (f4_list ++ f4_seen)) w4 w4 := Kept.refl _ _
  have B4 : Below w3.heap.size w3 w4 := blw2
  have s4 : w3.heap.size ≤ w4.heap.size := (by have := hb4.size; (try simp at this); omega)
  have hh := mc5 B4 cp0_0 cp0_1 cp0_2 cp0_3 cp0_4
  clear cp0_0 cp0_1 cp0_2 cp0_3 cp0_4
  obtain ⟨cp0_0, cp0_1, cp0_2, cp0_3, cp0_4⟩ := hh
  replace K3 : Kept f3_0 w3 w4 := K3.below B4 (fun p hp => Nat.lt_of_lt_of_le (UB3 p hp) (by omega))
  have z4_p0 : w.heap.size < w4.heap.size := (by omega)
  clear hb4
  go_wp2_with fail
  refine (HI.out _ _ _ _ ((⟨_, S4_text.kept (K4.below (show Below w4.heap.size w4 _ from blw2) (fun p hp => Nat.lt_of_lt_of_le (UB4 p hp) (by omega))) (by intro p hp; simp only [List.mem_append]; simp [hp])⟩ : RdS _ _ _)) ((⟨_, S4_list.kept (K4.below (show Below w4.heap.size w4 _ from blw2) (fun p hp => Nat.lt_of_lt_of_le (UB4 p hp) (by omega))) (by intro p hp; simp only [List.mem_append]; simp [hp])⟩ : RdS _ _ _)) ((⟨_, S4_seen.kept (K4.below (show Below w4.heap.size w4 _ from blw2) (fun p hp => Nat.lt_of_lt_of_le (UB4 p hp) (by omega))) (by intro p hp; simp only [List.mem_append]; simp [hp])⟩ : RdS _ _ _))).mono ?_
  rintro e w5 ⟨v5_0, f5_0, rfl, S5_0, FR5, hb5⟩
  have UB5 : ∀ p ∈ f5_0, p.1 < w5.heap.size := Live.lt (S5_0.live)
  replace FR5 : Fresh (w4.heap.size + 1) w5 f5_0 := FR5.mono (by first | exact Nat.le_refl _ | (simp; done) | (simp; omega))
  have K5 : Kept f5_0 w5 w5 := Kept.refl _ _
  have hN : Below (w4.heap.size + 1) (w4.alloc (.cells #[.string x.name, .int .i64 x.from_, .slice a4_text x.text.length c4_text, .slice a4_list x.list.length c4_list, .slice a4_seen x.seen.length c4_seen] 33)) w5 := blw2
  have B5 : Below w4.heap.size w4 w5 := blw2
  have s5 : w4.heap.size + 1 ≤ w5.heap.size := (by have := hb5.size; (try simp at this); omega)
  have hh := mc5 B5 cp0_0 cp0_1 cp0_2 cp0_3 cp0_4
  clear cp0_0 cp0_1 cp0_2 cp0_3 cp0_4
  obtain ⟨cp0_0, cp0_1, cp0_2, cp0_3, cp0_4⟩ := hh
  have cxx_0 : w5.cell? ⟨w4.heap.size, 0, none⟩ = some (.string x.name) := by rw [hN.cell (by simp; try omega)]; simp
  have cxx_1 : w5.cell? ⟨w4.heap.size, 1, none⟩ = some (.int .i64 x.from_) := by rw [hN.cell (by simp; try omega)]; simp
  have cxx_2 : w5.cell? ⟨w4.heap.size, 2, none⟩ = some (.slice a4_text x.text.length c4_text) := by rw [hN.cell (by simp; try omega)]; simp
  have cxx_3 : w5.cell? ⟨w4.heap.size, 3, none⟩ = some (.slice a4_list x.list.length c4_list) := by rw [hN.cell (by simp; try omega)]; simp
  have cxx_4 : w5.cell? ⟨w4.heap.size, 4, none⟩ = some (.slice a4_seen x.seen.length c4_seen) := by rw [hN.cell (by simp; try omega)]; simp
  clear hN
  replace K3 : Kept f3_0 w3 w5 := K3.below B5 (fun p hp => Nat.lt_of_lt_of_le (UB3 p hp) (by omega))
  replace K4 : Kept (f4_text ++ (f4_list ++ f4_seen)) w4 w5 := K4.below B5 (fun p hp => Nat.lt_of_lt_of_le (UB4 p hp) (by omega))
  have z5_p0 : w.heap.size < w5.heap.size := (by omega)
  have z5_xx : w4.heap.size < w5.heap.size := (by omega)
  clear hb5
  go_wp2_with fail
  refine (eqPartS_c _ _ y0 _ ((⟨_, S5_0.kept (K5.below (show Below w5.heap.size w5 _ from blw2) (fun p hp => Nat.lt_of_lt_of_le (UB5 p hp) (by omega))) (fun _ h => h)⟩ : RdS _ _ _)) ((⟨_, S3_0.kept (K3.below (show Below w5.heap.size w5 _ from blw2) (fun p hp => Nat.lt_of_lt_of_le (UB3 p hp) (by omega))) (fun _ h => h)⟩ : RdS _ _ _))).mono ?_
  rintro e w6 ⟨rfl, hb6⟩
  have B6 : Below w5.heap.size w5 w6 := blw2
  have s6 : w5.heap.size ≤ w6.heap.size := (by have := hb6.size; (try simp at this); omega)
  have hh := mc8 B6 cp0_0 cp0_1 cp0_2 cp0_3 cp0_4 cxx_0 cxx_1 cxx_2
  clear cp0_0 cp0_1 cp0_2 cp0_3 cp0_4 cxx_0 cxx_1 cxx_2
  obtain ⟨cp0_0, cp0_1, cp0_2, cp0_3, cp0_4, cxx_0, cxx_1, cxx_2⟩ := hh
  have hh := mc2 B6 cxx_3 cxx_4
  clear cxx_3 cxx_4
  obtain ⟨cxx_3, cxx_4⟩ := hh
  replace K3 : Kept f3_0 w3 w6 := K3.below B6 (fun p hp => Nat.lt_of_lt_of_le (UB3 p hp) (by omega))
  replace K4 : Kept (f4_text ++ (f4_list ++ f4_seen)) w4 w6 := K4.below B6 (fun p hp => Nat.lt_of_lt_of_le (UB4 p hp) (by omega))
  replace K5 : Kept f5_0 w5 w6 := K5.below B6 (fun p hp => Nat.lt_of_lt_of_le (UB5 p hp) (by omega))
  have z6_p0 : w.heap.size < w6.heap.size := (by omega)
  have z6_xx : w4.heap.size < w6.heap.size := (by omega)
  clear hb6
  go_wp2_with fail
  go_region_held3 (fun w' => w'.cell? ⟨w.heap.size, 0, none⟩ = some (.string x.name) ∧ w'.cell? ⟨w.heap.size, 1, none⟩ = some (.int .i64 x.from_) ∧ w'.cell? ⟨w.heap.size, 2, none⟩ = some (v_x_text) ∧ w'.cell? ⟨w.heap.size, 3, none⟩ = some (v_x_list) ∧ w'.cell? ⟨w.heap.size, 4, none⟩ = some (v_x_seen) ∧ w'.cell? ⟨w4.heap.size, 0, none⟩ = some (.string x.name) ∧ w'.cell? ⟨w4.heap.size, 1, none⟩ = some (.int .i64 x.from_) ∧ w'.cell? ⟨w4.heap.size, 2, none⟩ = some (.slice a4_text x.text.length c4_text) ∧ w'.cell? ⟨w4.heap.size, 3, none⟩ = some (.slice a4_list x.list.length c4_list) ∧ w'.cell? ⟨w4.heap.size, 4, none⟩ = some (.slice a4_seen x.seen.length c4_seen)) (go_keep)
    (first | (go_at_call 10; refine (toDoc_c x _ _ _ _ nr_x_name (hr_x_text.below blw2) (hr_x_list.below blw2) (hr_x_seen.below blw2)).mono ?_; rintro e w7 ⟨_, rfl, ⟨fp7, ho7, FR7⟩, hb7⟩; obtain ⟨v7_text, v7_list, v7_seen, f7_text, f7_list, f7_seen, rfl, n7_name, S7_text, S7_list, S7_seen, rfl⟩ := ho7; obtain ⟨a7_text, c7_text, rfl⟩ := RdS.isSlice ⟨_, S7_text⟩; obtain ⟨a7_list, c7_list, rfl⟩ := RdS.isSlice ⟨_, S7_list⟩; obtain ⟨a7_seen, c7_seen, rfl⟩ := RdS.isSlice ⟨_, S7_seen⟩; have UB7 : ∀ p ∈ (f7_text ++ (f7_list ++ f7_seen)), p.1 < w7.heap.size := Live.lt (Live.append.2 ⟨S7_text.live, Live.append.2 ⟨S7_list.live, S7_seen.live⟩⟩); replace FR7 : Fresh (w6.heap.size) w7 (f7_text ++ (f7_list ++ f7_seen)) := FR7.mono (by first | exact Nat.le_refl _ | (simp; done) | (simp; omega)); have K7 : Kept (f7_text ++ (f7_list ++ f7_seen)) w7 w7 := Kept.refl _ _; have B7 : Below w6.heap.size w6 w7 := blw2; have s7 : w6.heap.size ≤ w7.heap.size := (by have := hb7.size; (try simp at this); omega); replace cp0_0 : w7.cell? ⟨w.heap.size, 0, none⟩ = some (.string x.name) := cellb B7 cp0_0; replace cp0_1 : w7.cell? ⟨w.heap.size, 1, none⟩ = some (.int .i64 x.from_) := cellb B7 cp0_1; replace cp0_2 : w7.cell? ⟨w.heap.size, 2, none⟩ = some (v_x_text) := cellb B7 cp0_2; replace cp0_3 : w7.cell? ⟨w.heap.size, 3, none⟩ = some (v_x_list) := cellb B7 cp0_3; replace cp0_4 : w7.cell? ⟨w.heap.size, 4, none⟩ = some (v_x_seen) := cellb B7 cp0_4; replace cxx_0 : w7.cell? ⟨w4.heap.size, 0, none⟩ = some (.string x.name) := cellb B7 cxx_0; replace cxx_1 : w7.cell? ⟨w4.heap.size, 1, none⟩ = some (.int .i64 x.from_) := cellb B7 cxx_1; replace cxx_2 : w7.cell? ⟨w4.heap.size, 2, none⟩ = some (.slice a4_text x.text.length c4_text) := cellb B7 cxx_2; replace cxx_3 : w7.cell? ⟨w4.heap.size, 3, none⟩ = some (.slice a4_list x.list.length c4_list) := cellb B7 cxx_3; replace cxx_4 : w7.cell? ⟨w4.heap.size, 4, none⟩ = some (.slice a4_seen x.seen.length c4_seen) := cellb B7 cxx_4; replace K3 : Kept f3_0 w3 w7 := K3.below B7 (fun p hp => Nat.lt_of_lt_of_le (UB3 p hp) (by omega)); replace K4 : Kept (f4_text ++ (f4_list ++ f4_seen)) w4 w7 := K4.below B7 (fun p hp => Nat.lt_of_lt_of_le (UB4 p hp) (by omega)); replace K5 : Kept f5_0 w5 w7 := K5.below B7 (fun p hp => Nat.lt_of_lt_of_le (UB5 p hp) (by omega)); have z7_p0 : w.heap.size < w7.heap.size := (by omega); have z7_xx : w4.heap.size < w7.heap.size := (by omega); clear hb7) | (go_at_call 13; refine (eqDoc_c x _ _ _ _ _ _ _ ((⟨_, S4_text.kept (K4.below (show Below w7.heap.size w7 _ from blw2) (fun p hp => Nat.lt_of_lt_of_le (UB4 p hp) (by omega))) (by intro p hp; simp only [List.mem_append]; simp [hp])⟩ : RdS _ _ _)) ((⟨_, S7_text.kept (K7.below (show Below w7.heap.size w7 _ from blw2) (fun p hp => Nat.lt_of_lt_of_le (UB7 p hp) (by omega))) (by intro p hp; simp only [List.mem_append]; simp [hp])⟩ : RdS _ _ _)) ((⟨_, S4_list.kept (K4.below (show Below w7.heap.size w7 _ from blw2) (fun p hp => Nat.lt_of_lt_of_le (UB4 p hp) (by omega))) (by intro p hp; simp only [List.mem_append]; simp [hp])⟩ : RdS _ _ _)) ((⟨_, S7_list.kept (K7.below (show Below w7.heap.size w7 _ from blw2) (fun p hp => Nat.lt_of_lt_of_le (UB7 p hp) (by omega))) (by intro p hp; simp only [List.mem_append]; simp [hp])⟩ : RdS _ _ _)) ((⟨_, S4_seen.kept (K4.below (show Below w7.heap.size w7 _ from blw2) (fun p hp => Nat.lt_of_lt_of_le (UB4 p hp) (by omega))) (by intro p hp; simp only [List.mem_append]; simp [hp])⟩ : RdS _ _ _)) ((⟨_, S7_seen.kept (K7.below (show Below w7.heap.size w7 _ from blw2) (fun p hp => Nat.lt_of_lt_of_le (UB7 p hp) (by omega))) (by intro p hp; simp only [List.mem_append]; simp [hp])⟩ : RdS _ _ _))).mono ?_; rintro e w8 ⟨rfl, hb8⟩; have B8 : Below w7.heap.size w7 w8 := blw2; have s8 : w7.heap.size ≤ w8.heap.size := (by have := hb8.size; (try simp at this); omega); replace cp0_0 : w8.cell? ⟨w.heap.size, 0, none⟩ = some (.string x.name) := cellb B8 cp0_0; replace cp0_1 : w8.cell? ⟨w.heap.size, 1, none⟩ = some (.int .i64 x.from_) := cellb B8 cp0_1; replace cp0_2 : w8.cell? ⟨w.heap.size, 2, none⟩ = some (v_x_text) := cellb B8 cp0_2; replace cp0_3 : w8.cell? ⟨w.heap.size, 3, none⟩ = some (v_x_list) := cellb B8 cp0_3; replace cp0_4 : w8.cell? ⟨w.heap.size, 4, none⟩ = some (v_x_seen) := cellb B8 cp0_4; replace cxx_0 : w8.cell? ⟨w4.heap.size, 0, none⟩ = some (.string x.name) := cellb B8 cxx_0; replace cxx_1 : w8.cell? ⟨w4.heap.size, 1, none⟩ = some (.int .i64 x.from_) := cellb B8 cxx_1; replace cxx_2 : w8.cell? ⟨w4.heap.size, 2, none⟩ = some (.slice a4_text x.text.length c4_text) := cellb B8 cxx_2; replace cxx_3 : w8.cell? ⟨w4.heap.size, 3, none⟩ = some (.slice a4_list x.list.length c4_list) := cellb B8 cxx_3; replace cxx_4 : w8.cell? ⟨w4.heap.size, 4, none⟩ = some (.slice a4_seen x.seen.length c4_seen) := cellb B8 cxx_4; replace K3 : Kept f3_0 w3 w8 := K3.below B8 (fun p hp => Nat.lt_of_lt_of_le (UB3 p hp) (by omega)); replace K4 : Kept (f4_text ++ (f4_list ++ f4_seen)) w4 w8 := K4.below B8 (fun p hp => Nat.lt_of_lt_of_le (UB4 p hp) (by omega)); replace K5 : Kept f5_0 w5 w8 := K5.below B8 (fun p hp => Nat.lt_of_lt_of_le (UB5 p hp) (by omega)); replace K7 : Kept (f7_text ++ (f7_list ++ f7_seen)) w7 w8 := K7.below B8 (fun p hp => Nat.lt_of_lt_of_le (UB7 p hp) (by omega)); have z8_p0 : w.heap.size < w8.heap.size := (by omega); have z8_xx : w4.heap.size < w8.heap.size := (by omega); clear hb8))
  replace S4_text := S4_text.kept K4 (by intro p hp; simp only [List.mem_append]; simp [hp])
  replace S4_list := S4_list.kept K4 (by intro p hp; simp only [List.mem_append]; simp [hp])
  replace S4_seen := S4_seen.kept K4 (by intro p hp; simp only [List.mem_append]; simp [hp])
  replace FR4 := FR4.kept K4 (fun _ h => h)
  clear K4
  go_wp2_with fail
  refine (markDoc_c (w3.heap.size) x.name x.from_ _ _ _ _ _ _ f4_text f4_list f4_seen _ 1 (by omega) (by omega) (S4_text.belowW blw2) (S4_list.belowW blw2) (S4_seen.belowW blw2) (FR4.belowL blw2 (fun p hp => Nat.lt_of_lt_of_le (UB4 p hp) (by omega)))).mono ?_
  rintro e w9 ⟨he, T9_text, T9_list, T9_seen, hw9⟩
  have s9 : w8.heap.size ≤ w9.heap.size := wrs hw9 blw2
  replace cp0_0 : w9.cell? ⟨w.heap.size, 0, none⟩ = some (.string x.name) := cellw blw2 hw9 cp0_0 (fun hp => by have q1 := FR4.ge _ hp; have q2 := UB4 _ hp; simp only at q1 q2; omega)
  replace cp0_1 : w9.cell? ⟨w.heap.size, 1, none⟩ = some (.int .i64 x.from_) := cellw blw2 hw9 cp0_1 (fun hp => by have q1 := FR4.ge _ hp; have q2 := UB4 _ hp; simp only at q1 q2; omega)
  replace cp0_2 : w9.cell? ⟨w.heap.size, 2, none⟩ = some (v_x_text) := cellw blw2 hw9 cp0_2 (fun hp => by have q1 := FR4.ge _ hp; have q2 := UB4 _ hp; simp only at q1 q2; omega)
  replace cp0_3 : w9.cell? ⟨w.heap.size, 3, none⟩ = some (v_x_list) := cellw blw2 hw9 cp0_3 (fun hp => by have q1 := FR4.ge _ hp; have q2 := UB4 _ hp; simp only at q1 q2; omega)
  replace cp0_4 : w9.cell? ⟨w.heap.size, 4, none⟩ = some (v_x_seen) := cellw blw2 hw9 cp0_4 (fun hp => by have q1 := FR4.ge _ hp; have q2 := UB4 _ hp; simp only at q1 q2; omega)
  replace cxx_0 : w9.cell? ⟨w4.heap.size, 0, none⟩ = some (.string x.name) := cellw blw2 hw9 cxx_0 (fun hp => by have q1 := FR4.ge _ hp; have q2 := UB4 _ hp; simp only at q1 q2; omega)
  replace cxx_1 : w9.cell? ⟨w4.heap.size, 1, none⟩ = some (.int .i64 x.from_) := cellw blw2 hw9 cxx_1 (fun hp => by have q1 := FR4.ge _ hp; have q2 := UB4 _ hp; simp only at q1 q2; omega)
  replace cxx_2 : w9.cell? ⟨w4.heap.size, 2, none⟩ = some (.slice a4_text x.text.length c4_text) := cellw blw2 hw9 cxx_2 (fun hp => by have q1 := FR4.ge _ hp; have q2 := UB4 _ hp; simp only at q1 q2; omega)
  replace cxx_3 : w9.cell? ⟨w4.heap.size, 3, none⟩ = some (.slice a4_list x.list.length c4_list) := cellw blw2 hw9 cxx_3 (fun hp => by have q1 := FR4.ge _ hp; have q2 := UB4 _ hp; simp only at q1 q2; omega)
  replace cxx_4 : w9.cell? ⟨w4.heap.size, 4, none⟩ = some (.slice a4_seen x.seen.length c4_seen) := cellw blw2 hw9 cxx_4 (fun hp => by have q1 := FR4.ge _ hp; have q2 := UB4 _ hp; simp only at q1 q2; omega)
  replace K3 : Kept f3_0 w3 w9 := K3.wr2 blw2 hw9 (fun p hp => Nat.lt_of_lt_of_le (UB3 p hp) (by omega)) (fun q hq hp => by have q1 := FR4.ge q hp; have q2 := UB4 q hp; first | (have q3 := UB3 q hq; omega) | (have q3 := FR3.ge q hq; omega))
  replace K5 : Kept f5_0 w5 w9 := K5.wr2 blw2 hw9 (fun p hp => Nat.lt_of_lt_of_le (UB5 p hp) (by omega)) (fun q hq hp => by have q1 := FR4.ge q hp; have q2 := UB4 q hp; first | (have q3 := UB5 q hq; omega) | (have q3 := FR5.ge q hq; omega))
  have B9 : Below (w3.heap.size) w8 w9 := wrb hw9 blw2 (by omega) (fun p hp => FR4.ge p hp)
  replace FR4 : Fresh (w3.heap.size) w9 (f4_text ++ (f4_list ++ f4_seen)) := FR4.wr2 blw2 hw9 (fun p hp => Nat.lt_of_lt_of_le (UB4 p hp) (by omega))
  replace S4_text := T9_text
  replace S4_list := T9_list
  replace S4_seen := T9_seen
  have K4 : Kept (f4_text ++ (f4_list ++ f4_seen)) w9 w9 := Kept.refl _ _
  have z9_p0 : w.heap.size < w9.heap.size := (by omega)
  have z9_xx : w4.heap.size < w9.heap.size := (by omega)
  obtain ⟨k1, hk1, hp1⟩ : ∃ k : Int, k = 1 + ((cntL x.text + cntL x.list + cntL x.seen : Nat) : Int) ∧ 1 ≤ k := ⟨_, rfl, by omega⟩
  obtain rfl : e = .returned (.int .i64 k1) := he.trans (by rw [hk1])
  have hq1 : k1 ≤ 1 + 5242880 := by omega
  clear he hk1
  have hkn : decide (k1 < 0) = false := by simp; omega
  have hkm : ¬ k1 < 0 := by omega
  go_wp2_with fail
  refine (eqPartS_c _ _ y0 _ ((⟨_, S5_0.kept (K5.below (show Below w9.heap.size w9 _ from blw2) (fun p hp => Nat.lt_of_lt_of_le (UB5 p hp) (by omega))) (fun _ h => h)⟩ : RdS _ _ _)) ((⟨_, S3_0.kept (K3.below (show Below w9.heap.size w9 _ from blw2) (fun p hp => Nat.lt_of_lt_of_le (UB3 p hp) (by omega))) (fun _ h => h)⟩ : RdS _ _ _))).mono ?_
  rintro e w10 ⟨rfl, hb10⟩
  have B10 : Below w9.heap.size w9 w10 := blw2
  have s10 : w9.heap.size ≤ w10.heap.size := (by have := hb10.size; (try simp at this); omega)
  have hh := mc8 B10 cp0_0 cp0_1 cp0_2 cp0_3 cp0_4 cxx_0 cxx_1 cxx_2
  clear cp0_0 cp0_1 cp0_2 cp0_3 cp0_4 cxx_0 cxx_1 cxx_2
  obtain ⟨cp0_0, cp0_1, cp0_2, cp0_3, cp0_4, cxx_0, cxx_1, cxx_2⟩ := hh
  have hh := mc2 B10 cxx_3 cxx_4
  clear cxx_3 cxx_4
  obtain ⟨cxx_3, cxx_4⟩ := hh
  replace K3 : Kept f3_0 w3 w10 := K3.below B10 (fun p hp => Nat.lt_of_lt_of_le (UB3 p hp) (by omega))
  replace K5 : Kept f5_0 w5 w10 := K5.below B10 (fun p hp => Nat.lt_of_lt_of_le (UB5 p hp) (by omega))
  have z10_p0 : w.heap.size < w10.heap.size := (by omega)
  have z10_xx : w4.heap.size < w10.heap.size := (by omega)
  clear hb10
  replace S5_0 := S5_0.kept K5 (fun _ h => h)
  replace FR5 := FR5.kept K5 (fun _ h => h)
  clear K5
  go_wp2_with fail
  refine (markPartS_c (w4.heap.size + 1) _ _ f5_0 _ 1 (by omega) (by omega) (S5_0.belowW blw2) (FR5.belowL blw2 (fun p hp => Nat.lt_of_lt_of_le (UB5 p hp) (by omega)))).mono ?_
  rintro e w11 ⟨he, T11_0, hw11⟩
  have s11 : w10.heap.size ≤ w11.heap.size := wrs hw11 blw2
  replace cp0_0 : w11.cell? ⟨w.heap.size, 0, none⟩ = some (.string x.name) := cellw blw2 hw11 cp0_0 (fun hp => by have q1 := FR5.ge _ hp; have q2 := UB5 _ hp; simp only at q1 q2; omega)
  replace cp0_1 : w11.cell? ⟨w.heap.size, 1, none⟩ = some (.int .i64 x.from_) := cellw blw2 hw11 cp0_1 (fun hp => by have q1 := FR5.ge _ hp; have q2 := UB5 _ hp; simp only at q1 q2; omega)
  replace cp0_2 : w11.cell? ⟨w.heap.size, 2, none⟩ = some (v_x_text) := cellw blw2 hw11 cp0_2 (fun hp => by have q1 := FR5.ge _ hp; have q2 := UB5 _ hp; simp only at q1 q2; omega)
  replace cp0_3 : w11.cell? ⟨w.heap.size, 3, none⟩ = some (v_x_list) := cellw blw2 hw11 cp0_3 (fun hp => by have q1 := FR5.ge _ hp; have q2 := UB5 _ hp; simp only at q1 q2; omega)
  replace cp0_4 : w11.cell? ⟨w.heap.size, 4, none⟩ = some (v_x_seen) := cellw blw2 hw11 cp0_4 (fun hp => by have q1 := FR5.ge _ hp; have q2 := UB5 _ hp; simp only at q1 q2; omega)
  replace cxx_0 : w11.cell? ⟨w4.heap.size, 0, none⟩ = some (.string x.name) := cellw blw2 hw11 cxx_0 (fun hp => by have q1 := FR5.ge _ hp; have q2 := UB5 _ hp; simp only at q1 q2; omega)
  replace cxx_1 : w11.cell? ⟨w4.heap.size, 1, none⟩ = some (.int .i64 x.from_) := cellw blw2 hw11 cxx_1 (fun hp => by have q1 := FR5.ge _ hp; have q2 := UB5 _ hp; simp only at q1 q2; omega)
  replace cxx_2 : w11.cell? ⟨w4.heap.size, 2, none⟩ = some (.slice a4_text x.text.length c4_text) := cellw blw2 hw11 cxx_2 (fun hp => by have q1 := FR5.ge _ hp; have q2 := UB5 _ hp; simp only at q1 q2; omega)
  replace cxx_3 : w11.cell? ⟨w4.heap.size, 3, none⟩ = some (.slice a4_list x.list.length c4_list) := cellw blw2 hw11 cxx_3 (fun hp => by have q1 := FR5.ge _ hp; have q2 := UB5 _ hp; simp only at q1 q2; omega)
  replace cxx_4 : w11.cell? ⟨w4.heap.size, 4, none⟩ = some (.slice a4_seen x.seen.length c4_seen) := cellw blw2 hw11 cxx_4 (fun hp => by have q1 := FR5.ge _ hp; have q2 := UB5 _ hp; simp only at q1 q2; omega)
  replace K3 : Kept f3_0 w3 w11 := K3.wr2 blw2 hw11 (fun p hp => Nat.lt_of_lt_of_le (UB3 p hp) (by omega)) (fun q hq hp => by have q1 := FR5.ge q hp; have q2 := UB5 q hp; first | (have q3 := UB3 q hq; omega) | (have q3 := FR3.ge q hq; omega))
  have B11 : Below (w4.heap.size + 1) w10 w11 := wrb hw11 blw2 (by omega) (fun p hp => FR5.ge p hp)
  replace FR5 : Fresh (w4.heap.size + 1) w11 f5_0 := FR5.wr2 blw2 hw11 (fun p hp => Nat.lt_of_lt_of_le (UB5 p hp) (by omega))
  replace S5_0 := T11_0
  have K5 : Kept f5_0 w11 w11 := Kept.refl _ _
  have z11_p0 : w.heap.size < w11.heap.size := (by omega)
  have z11_xx : w4.heap.size < w11.heap.size := (by omega)
  obtain ⟨m1, hm1, hn1⟩ : ∃ m : Int, m = 1 + ((cntL y0 : Nat) : Int) ∧ 1 ≤ m := ⟨_, rfl, by omega⟩
  obtain rfl : e = .returned (.int .i64 m1) := he.trans (by rw [hm1])
  have ho1 : m1 ≤ 1 + 1099511627776 := by omega
  have HM1 : Hid (m1 = 1 + ((cntL y0 : Nat) : Int)) := Lib.hid hm1
  clear he hm1
  have hx1 : decide (m1 < 0) = false := by simp; omega
  have hy1 : ¬ m1 < 0 := by omega
  have hz : (m1 != m1) = false := by simp
  go_wp2_with fail
  refine (heldPartS_c _ _ _ 1 (by omega) (by rw [cntL_mkL]; omega) ((⟨_, S5_0.kept (K5.below (show Below w11.heap.size w11 _ from blw2) (fun p hp => Nat.lt_of_lt_of_le (UB5 p hp) (by omega))) (fun _ h => h)⟩ : RdS _ _ _)) (mkL_mkL _ _)).mono ?_
  rintro e w12 ⟨he, hb12⟩
  obtain rfl : e = .returned (.int .i64 m1) := he.trans (by (try simp only [cntL_mkL]); rw [HM1.out])
  clear he
  have B12 : Below w11.heap.size w11 w12 := blw2
  have s12 : w11.heap.size ≤ w12.heap.size := (by have := hb12.size; (try simp at this); omega)
  have hh := mc8 B12 cp0_0 cp0_1 cp0_2 cp0_3 cp0_4 cxx_0 cxx_1 cxx_2
  clear cp0_0 cp0_1 cp0_2 cp0_3 cp0_4 cxx_0 cxx_1 cxx_2
  obtain ⟨cp0_0, cp0_1, cp0_2, cp0_3, cp0_4, cxx_0, cxx_1, cxx_2⟩ := hh
  have hh := mc2 B12 cxx_3 cxx_4
  clear cxx_3 cxx_4
  obtain ⟨cxx_3, cxx_4⟩ := hh
  replace K3 : Kept f3_0 w3 w12 := K3.below B12 (fun p hp => Nat.lt_of_lt_of_le (UB3 p hp) (by omega))
  replace K5 : Kept f5_0 w11 w12 := K5.below B12 (fun p hp => Nat.lt_of_lt_of_le (UB5 p hp) (by omega))
  have z12_p0 : w.heap.size < w12.heap.size := (by omega)
  have z12_xx : w4.heap.size < w12.heap.size := (by omega)
  clear hb12
  go_wp2_with fail
  refine (toDoc_c x _ _ _ _ nr_x_name (hr_x_text.below blw2) (hr_x_list.below blw2) (hr_x_seen.below blw2)).mono ?_
  rintro e w13 ⟨_, rfl, ⟨fp13, ho13, FR13⟩, hb13⟩
  obtain ⟨v13_text, v13_list, v13_seen, f13_text, f13_list, f13_seen, rfl, n13_name, S13_text, S13_list, S13_seen, rfl⟩ := ho13
  obtain ⟨a13_text, c13_text, rfl⟩ := RdS.isSlice ⟨_, S13_text⟩
  obtain ⟨a13_list, c13_list, rfl⟩ := RdS.isSlice ⟨_, S13_list⟩
  obtain ⟨a13_seen, c13_seen, rfl⟩ := RdS.isSlice ⟨_, S13_seen⟩
  have UB13 : ∀ p ∈ (f13_text ++ (f13_list ++ f13_seen)), p.1 < w13.heap.size := Live.lt (Live.append.2 ⟨S13_text.live, Live.append.2 ⟨S13_list.live, S13_seen.live⟩⟩)
  replace FR13 : Fresh (w12.heap.size) w13 (f13_text ++ (f13_list ++ f13_seen)) := FR13.mono (by first | exact Nat.le_refl _ | (simp; done) | (simp; omega))
  have K13 : Kept (f13_text ++ (f13_list ++ f13_seen)) w13 w13 := Kept.refl _ _
  have B13 : Below w12.heap.size w12 w13 := blw2
  have s13 : w12.heap.size ≤ w13.heap.size := (by have := hb13.size; (try simp at this); omega)
  have hh := mc8 B13 cp0_0 cp0_1 cp0_2 cp0_3 cp0_4 cxx_0 cxx_1 cxx_2
  clear cp0_0 cp0_1 cp0_2 cp0_3 cp0_4 cxx_0 cxx_1 cxx_2
  obtain ⟨cp0_0, cp0_1, cp0_2, cp0_3, cp0_4, cxx_0, cxx_1, cxx_2⟩ := hh
  have hh := mc2 B13 cxx_3 cxx_4
  clear cxx_3 cxx_4
  obtain ⟨cxx_3, cxx_4⟩ := hh
  replace K3 : Kept f3_0 w3 w13 := K3.below B13 (fun p hp => Nat.lt_of_lt_of_le (UB3 p hp) (by omega))
  replace K5 : Kept f5_0 w11 w13 := K5.below B13 (fun p hp => Nat.lt_of_lt_of_le (UB5 p hp) (by omega))
  have z13_p0 : w.heap.size < w13.heap.size := (by omega)
  have z13_xx : w4.heap.size < w13.heap.size := (by omega)
  clear hb13
  go_wp2_with fail
  refine (HI.out _ _ _ _ ((⟨_, S13_text.kept (K13.below (show Below w13.heap.size w13 _ from blw2) (fun p hp => Nat.lt_of_lt_of_le (UB13 p hp) (by omega))) (by intro p hp; simp only [List.mem_append]; simp [hp])⟩ : RdS _ _ _)) ((⟨_, S13_list.kept (K13.below (show Below w13.heap.size w13 _ from blw2) (fun p hp => Nat.lt_of_lt_of_le (UB13 p hp) (by omega))) (by intro p hp; simp only [List.mem_append]; simp [hp])⟩ : RdS _ _ _)) ((⟨_, S13_seen.kept (K13.below (show Below w13.heap.size w13 _ from blw2) (fun p hp => Nat.lt_of_lt_of_le (UB13 p hp) (by omega))) (by intro p hp; simp only [List.mem_append]; simp [hp])⟩ : RdS _ _ _))).mono ?_
  rintro e w14 ⟨v14_0, f14_0, rfl, S14_0, FR14, hb14⟩
  have UB14 : ∀ p ∈ f14_0, p.1 < w14.heap.size := Live.lt (S14_0.live)
  replace FR14 : Fresh (w13.heap.size) w14 f14_0 := FR14.mono (by first | exact Nat.le_refl _ | (simp; done) | (simp; omega))
  have K14 : Kept f14_0 w14 w14 := Kept.refl _ _
  have B14 : Below w13.heap.size w13 w14 := blw2
  have s14 : w13.heap.size ≤ w14.heap.size := (by have := hb14.size; (try simp at this); omega)
  have hh := mc8 B14 cp0_0 cp0_1 cp0_2 cp0_3 cp0_4 cxx_0 cxx_1 cxx_2
  clear cp0_0 cp0_1 cp0_2 cp0_3 cp0_4 cxx_0 cxx_1 cxx_2
  obtain ⟨cp0_0, cp0_1, cp0_2, cp0_3, cp0_4, cxx_0, cxx_1, cxx_2⟩ := hh
  have hh := mc2 B14 cxx_3 cxx_4
  clear cxx_3 cxx_4
  obtain ⟨cxx_3, cxx_4⟩ := hh
  replace K3 : Kept f3_0 w3 w14 := K3.below B14 (fun p hp => Nat.lt_of_lt_of_le (UB3 p hp) (by omega))
  replace K5 : Kept f5_0 w11 w14 := K5.below B14 (fun p hp => Nat.lt_of_lt_of_le (UB5 p hp) (by omega))
  replace K13 : Kept (f13_text ++ (f13_list ++ f13_seen)) w13 w14 := K13.below B14 (fun p hp => Nat.lt_of_lt_of_le (UB13 p hp) (by omega))
  have z14_p0 : w.heap.size < w14.heap.size := (by omega)
  have z14_xx : w4.heap.size < w14.heap.size := (by omega)
  clear hb14
  go_wp2_with fail
  refine (eqPartS_c _ _ y0 _ ((⟨_, S14_0.kept (K14.below (show Below w14.heap.size w14 _ from blw2) (fun p hp => Nat.lt_of_lt_of_le (UB14 p hp) (by omega))) (fun _ h => h)⟩ : RdS _ _ _)) ((⟨_, S3_0.kept (K3.below (show Below w14.heap.size w14 _ from blw2) (fun p hp => Nat.lt_of_lt_of_le (UB3 p hp) (by omega))) (fun _ h => h)⟩ : RdS _ _ _))).mono ?_
  rintro e w15 ⟨rfl, hb15⟩
  have B15 : Below w14.heap.size w14 w15 := blw2
  have s15 : w14.heap.size ≤ w15.heap.size := (by have := hb15.size; (try simp at this); omega)
  have hh := mc8 B15 cp0_0 cp0_1 cp0_2 cp0_3 cp0_4 cxx_0 cxx_1 cxx_2
  clear cp0_0 cp0_1 cp0_2 cp0_3 cp0_4 cxx_0 cxx_1 cxx_2
  obtain ⟨cp0_0, cp0_1, cp0_2, cp0_3, cp0_4, cxx_0, cxx_1, cxx_2⟩ := hh
  have hh := mc2 B15 cxx_3 cxx_4
  clear cxx_3 cxx_4
  obtain ⟨cxx_3, cxx_4⟩ := hh
  replace K3 : Kept f3_0 w3 w15 := K3.below B15 (fun p hp => Nat.lt_of_lt_of_le (UB3 p hp) (by omega))
  replace K5 : Kept f5_0 w11 w15 := K5.below B15 (fun p hp => Nat.lt_of_lt_of_le (UB5 p hp) (by omega))
  replace K14 : Kept f14_0 w14 w15 := K14.below B15 (fun p hp => Nat.lt_of_lt_of_le (UB14 p hp) (by omega))
  have z15_p0 : w.heap.size < w15.heap.size := (by omega)
  have z15_xx : w4.heap.size < w15.heap.size := (by omega)
  clear hb15
  go_wp2_with fail
  refine (heldPartS_c _ _ _ 1 (by omega) (by rw [cntL_mkL]; omega) ((⟨_, S5_0.kept (K5.below (show Below w15.heap.size w15 _ from blw2) (fun p hp => Nat.lt_of_lt_of_le (UB5 p hp) (by omega))) (fun _ h => h)⟩ : RdS _ _ _)) (mkL_mkL _ _)).mono ?_
  rintro e w16 ⟨he, hb16⟩
  obtain rfl : e = .returned (.int .i64 m1) := he.trans (by (try simp only [cntL_mkL]); rw [HM1.out])
  clear he
  have B16 : Below w15.heap.size w15 w16 := blw2
  have s16 : w15.heap.size ≤ w16.heap.size := (by have := hb16.size; (try simp at this); omega)
  have hh := mc8 B16 cp0_0 cp0_1 cp0_2 cp0_3 cp0_4 cxx_0 cxx_1 cxx_2
  clear cp0_0 cp0_1 cp0_2 cp0_3 cp0_4 cxx_0 cxx_1 cxx_2
  obtain ⟨cp0_0, cp0_1, cp0_2, cp0_3, cp0_4, cxx_0, cxx_1, cxx_2⟩ := hh
  have hh := mc2 B16 cxx_3 cxx_4
  clear cxx_3 cxx_4
  obtain ⟨cxx_3, cxx_4⟩ := hh
  replace K3 : Kept f3_0 w3 w16 := K3.below B16 (fun p hp => Nat.lt_of_lt_of_le (UB3 p hp) (by omega))
  replace K5 : Kept f5_0 w11 w16 := K5.below B16 (fun p hp => Nat.lt_of_lt_of_le (UB5 p hp) (by omega))
  have z16_p0 : w.heap.size < w16.heap.size := (by omega)
  have z16_xx : w4.heap.size < w16.heap.size := (by omega)
  clear hb16
  go_wp2
  go_ret
  exact ⟨rfl, blw2⟩
theorem walkc_FnExactReverted (x : DDoc) (v_x_text : Value) (v_x_list : Value) (v_x_seen : Value) (rev : Int) (w : World) (n_x_name : x.name.size ≤ maxLen) (h_x_text : RdSM maxLen w v_x_text x.text) (h_x_list : RdSM maxLen w v_x_list x.list) (h_x_seen : RdSM maxLen w v_x_seen x.seen) (b1_rev : -9223372036854775808 ≤ rev) (b2_rev : rev ≤ 9223372036854775807) :
    Calls Tryz.prog 6 #[.agg #[.string x.name, .int .i64 x.from_, v_x_text, v_x_list, v_x_seen], .int .i64 rev] w (Tells w (.bool true)) :=
  walk_FnExactReverted x v_x_text v_x_list v_x_seen rev w n_x_name h_x_text h_x_list h_x_seen b1_rev b2_rev (((reverted x rev).getD [])) ((reverted x rev).isSome) (fun nn _ _ _ _ _ W h1 h2 h3 => (spec_Reverted_c x _ _ _ rev W nn h1 h2 h3).mono fun _ _ h => h.part) (fun nn _ _ _ _ _ W h1 h2 h3 => (impl_Reverted_c x _ _ _ rev W nn h1 h2 h3).mono fun _ _ h => h.part) (fun _ => by have := reverted_cnt x rev; omega)
namespace fnExactReverted
theorem own : ownKnob Tryz.prog.godebug = none := by kernel_rfl
theorem laidOut : laidOutB Tryz.prog = true := by kernel_rfl
set_option maxRecDepth 100000 in
theorem lifted (os : Os) (started : os.Started) (H : Type) (enc : TypeId × Value → H) :
    ReturnsInHanded {} Tryz.checked os 6 .any (Rows.fnExactRevertedSpec.pre6 enc Tryz.prog Tryz.f6 Rows.fnExactRevertedRow.domain false) (Rows.fnExactRevertedSpec.post enc Tryz.prog Tryz.f6 false true false false) := by
  refine returnsInHanded_of_change (C := Tryz.checked) own started (by kernel_rfl) Tryz.func6
    (ChangeSpec.witness6 (enc := enc) (C := Tryz.checked) false ⟨#[], #[.agg #[.string ByteArray.empty, .int .i64 0, .slice none 0 0, .slice none 0 0, .slice none 0 0], .int .i64 0], []⟩ 8 (by kernel_rfl) (by kernel_rfl) (by kernel_rfl) (by kernel_rfl)) ?_
  intro W base args ds gs before hval0 hW hcnd _
  have hval : ∀ (j : Nat) t v, Tryz.f6.params[j]? = some t → args[j]? = some v → Value.okWide Tryz.prog W .any base t v := hval0
  have hW' := hW
  obtain ⟨p, q, hA0, hV, rfl, hfz, hnd⟩ := hW
  have hA : DataW.TrodAll enc Tryz.prog W 0 (fun _ => true) true Tryz.f6.params.toList args.toList ds p := hA0
  rw [Tryz.params6] at hA hval
  obtain ⟨v0, vs0, d0, ds0, p0, q0, hargs, rfl, rfl, h0, r0⟩ := trodAll_cons hA
  obtain ⟨v1, vs1, d1, ds1, p1, q1, rfl, rfl, rfl, h1, r1⟩ := trodAll_cons r0
  obtain ⟨rfl, rfl, rfl⟩ := trodAll_nil r1
  obtain rfl : args = #[v0, v1] := by cases args; simp_all
  obtain ⟨rfl, rfl⟩ := trodVars_none hV
  obtain ⟨cs0, rfl, _⟩ := okWide_struct Tryz.underlying26 (hval 0 26 v0 rfl rfl)
  have k0 := h0
  have lt0 : ∀ x ∈ p0, x.block < W.heap.size := by obtain ⟨m, hm⟩ := k0; exact DataW.trod_lt m _ _ _ hm
  obtain ⟨x0, m0⟩ : ∃ x : DDoc, RdM maxLen W cs0.toList x := by
    obtain ⟨fuel, hf⟩ := h0
    exact opens_DDoc _ _ _ _ _ _ _ _ hf
  obtain ⟨v_text0, v_list0, v_seen0, hc0, n_name0, m_text0, m_list0, m_seen0⟩ := invM_DDoc m0
  obtain ⟨cs0⟩ := cs0
  simp only at hc0
  subst hc0
  obtain ⟨a1, rfl, rfl, rfl, w1⟩ := open_int Tryz.underlying3 (hval 1 3 v1 rfl rfl) h1
  have b1 := i64_bounds w1
  clear hA0 hval0
  refine (walkc_FnExactReverted x0 _ _ _ a1 W n_name0 m_text0 m_list0 m_seen0 b1.1 b1.2).mono fun e W' ⟨he, bel⟩ => ?_
  subst he
  exact ⟨_, rfl, _, _, _, [], _, [], hW', trodAll_mk1 (shut_bool Tryz.underlying4 _), (trodAll_cons_mk (Below.trod laidOut (by kernel_rfl) (of_decide_eq_true (by kernel_rfl)) k0 bel lt0) (trodAll_cons_mk (shut_int Tryz.underlying3 w1) trodAll_mk0)), rfl, bel.frame _, fun h => by cases h⟩
theorem over : Rows.fnExactRevertedRow.holds Tryz.pinned (OpenSpec.ofChange Rows.fnExactRevertedSpec) :=
  OpenClaim.holds_of_wide 6 Tryz.f6 rfl rfl rfl rfl rfl rfl rfl ⟨rfl, rfl, rfl, rfl, rfl⟩ rfl rfl rfl rfl rfl (by kernel_rfl) Tryz.func6 (by kernel_rfl)
    (of_decide_eq_true (by kernel_rfl)) (by unfold Func.isWrapper; first | (rw [if_pos (by decide +kernel)]; kernel_rfl) | (rw [if_neg (by decide +kernel)]; exact ⟨rfl, rfl⟩))
    (fun os started H enc _ => lifted os started H enc)
theorem proved : Rows.FnExactRevertedSaid := over
end fnExactReverted
#print axioms fnExactReverted.proved
end Go.Proofs.YtbpbeomngflkfaaGreat
