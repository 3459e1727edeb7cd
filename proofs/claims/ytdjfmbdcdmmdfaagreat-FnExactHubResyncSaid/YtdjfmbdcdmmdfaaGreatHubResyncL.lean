/- 'laws.FnExactHubResync' answers true for every input, and each argument reads afterwards as before. No conditions. -/
import Derived.Test.YtdjfmbdcdmmdfaaGreatEz
import Derived.Test.YtdjfmbdcdmmdfaaGreatMk
import Derived.Test.YtdjfmbdcdmmdfaaGreatRo
import Derived.Test.YtdjfmbdcdmmdfaaGreatCdr
import Derived.Test.YtdjfmbdcdmmdfaaGreatRows
import Derived.Test.YtdjfmbdcdmmdfaaGreatHrs
import Derived.ProofKit
import Derived.OpenShut
import Derived.ChangeMaps5
import Derived.Deep.RegionHeld3
namespace Go.Proofs.YtdjfmbdcdmmdfaaGreat
open Go.ChangeShapes Go.WideShapes Go.ChangeAt Go.RowKit
theorem mem_pre {α : Type} {p : α} {a b c : List α} (h : p ∈ a ++ b) : p ∈ a ++ (b ++ c) := by
  simp only [List.mem_append] at *
  rcases h with h | h <;> simp [h]
theorem mem_pre3 {α : Type} {p : α} {a b c d : List α} (h : p ∈ a ++ (b ++ c)) : p ∈ a ++ (b ++ (c ++ d)) := by
  simp only [List.mem_append] at *
  rcases h with h | h | h <;> simp [h]
set_option maxHeartbeats 16000000 in
set_option maxRecDepth 100000 in
theorem walk_FnExactHubResync (x : DHub) (v_x_docs : Value) (v_x_subs : Value) (id : Int) (w : World) (h_x_docs : RdSM maxLen w v_x_docs x.docs) (h_x_subs : RdSM maxLen w v_x_subs x.subs) (_b1_id : -9223372036854775808 ≤ id) (_b2_id : id ≤ 9223372036854775807) (y0 : DHub) (y1 : List Int) (y2 : Int) (y3 : Int)
    (HS0 : -9223372036854775808 ≤ id → id ≤ 9223372036854775807 → ∀ (v_x_docs v_x_subs : Value) (W : World), RdS W v_x_docs x.docs → RdS W v_x_subs x.subs → Calls Tryz.prog 9 #[.agg #[.bool x.shut, v_x_docs, v_x_subs, .int .i64 x.last], .int .i64 id] W (Out_Hub_IntS_i_i W y0 y1 y2 y3))
    (HI0 : -9223372036854775808 ≤ id → id ≤ 9223372036854775807 → ∀ (v_x_docs v_x_subs : Value) (W : World), RdS W v_x_docs x.docs → RdS W v_x_subs x.subs → Calls Tryz.prog 11 #[.agg #[.bool x.shut, v_x_docs, v_x_subs, .int .i64 x.last], .int .i64 id] W (Out_Hub_IntS_i_i W y0 y1 y2 y3))
    (HC0 : (GoS.sz x : Nat) ≤ 1048576 → cntL y0.docs + cntL y0.subs + cntL y1 ≤ 1099511627776) :
    Calls Tryz.prog 3 #[.agg #[.bool x.shut, v_x_docs, v_x_subs, .int .i64 x.last], .int .i64 id] w (Tells w (.bool true)) := by
  have HS1 := Lib.hid HS0
  have HI1 := Lib.hid HI0
  clear HS0 HI0
  by_cases cz_x : ((GoS.sz x : Nat) : Int) ≤ 1048576
  rotate_left
  · go_enter Tryz.func3, Tryz.ntmps3
    go_wp2_with fail
    refine (szHub_c x _ _ _ _ (by omega) (by omega)  (h_x_docs.below blw2) (h_x_subs.below blw2)).mono ?_
    rintro e w1 ⟨rfl, hb1⟩
    have hN : Below (w.heap.size + 1) (w.alloc (.cells #[.bool x.shut, v_x_docs, v_x_subs, .int .i64 x.last] 25)) w1 := blw2
    have B1 : Below w.heap.size w w1 := blw2
    have s1 : w.heap.size + 1 ≤ w1.heap.size := (by have := hb1.size; (try simp at this); omega)
    have cp0_0 : w1.cell? ⟨w.heap.size, 0, none⟩ = some (.bool x.shut) := by rw [hN.cell (by simp; try omega)]; simp
    have cp0_1 : w1.cell? ⟨w.heap.size, 1, none⟩ = some (v_x_docs) := by rw [hN.cell (by simp; try omega)]; simp
    have cp0_2 : w1.cell? ⟨w.heap.size, 2, none⟩ = some (v_x_subs) := by rw [hN.cell (by simp; try omega)]; simp
    have cp0_3 : w1.cell? ⟨w.heap.size, 3, none⟩ = some (.int .i64 x.last) := by rw [hN.cell (by simp; try omega)]; simp
    clear hN
    have z1_p0 : w.heap.size < w1.heap.size := (by omega)
    clear hb1
    rw [less_neg (by omega)]
    go_wp2
    go_ret
    exact ⟨rfl, blw2⟩
  have hr_x_docs : RdS w v_x_docs x.docs := let ⟨fp, s⟩ := h_x_docs; ⟨fp, s.up (by have : GoS.sz x = szL x.docs + szL x.subs := rfl; exact le_BIG (by omega))⟩
  have hr_x_subs : RdS w v_x_subs x.subs := let ⟨fp, s⟩ := h_x_subs; ⟨fp, s.up (by have : GoS.sz x = szL x.docs + szL x.subs := rfl; exact le_BIG (by omega))⟩
  have cx_x : cntL x.docs + cntL x.subs ≤ 5 * 1048576 := by have : GoS.sz x = szL x.docs + szL x.subs := rfl; have := cntL_le x.docs; have := cntL_le x.subs; omega
  have HS := Lib.hid (HS1.out _b1_id _b2_id)
  have HI := Lib.hid (HI1.out _b1_id _b2_id)
  clear HS1 HI1
  have hcnt : cntL y0.docs + cntL y0.subs + cntL y1 ≤ 1099511627776 := HC0 (by omega)
  clear HC0
  go_enter Tryz.func3, Tryz.ntmps3
  go_wp2_with fail
  refine (szHub_c x _ _ _ _ (by omega) (by omega)  (h_x_docs.below blw2) (h_x_subs.below blw2)).mono ?_
  rintro e w1 ⟨rfl, hb1⟩
  have hN : Below (w.heap.size + 1) (w.alloc (.cells #[.bool x.shut, v_x_docs, v_x_subs, .int .i64 x.last] 25)) w1 := blw2
  have B1 : Below w.heap.size w w1 := blw2
  have s1 : w.heap.size + 1 ≤ w1.heap.size := (by have := hb1.size; (try simp at this); omega)
  have cp0_0 : w1.cell? ⟨w.heap.size, 0, none⟩ = some (.bool x.shut) := by rw [hN.cell (by simp; try omega)]; simp
  have cp0_1 : w1.cell? ⟨w.heap.size, 1, none⟩ = some (v_x_docs) := by rw [hN.cell (by simp; try omega)]; simp
  have cp0_2 : w1.cell? ⟨w.heap.size, 2, none⟩ = some (v_x_subs) := by rw [hN.cell (by simp; try omega)]; simp
  have cp0_3 : w1.cell? ⟨w.heap.size, 3, none⟩ = some (.int .i64 x.last) := by rw [hN.cell (by simp; try omega)]; simp
  clear hN
  have z1_p0 : w.heap.size < w1.heap.size := (by omega)
  clear hb1
  rw [less_pos (by omega)]
  go_wp2_with fail
  refine (toHub_c x _ _ _  (hr_x_docs.below blw2) (hr_x_subs.below blw2)).mono ?_
  rintro e w2 ⟨_, rfl, ⟨fp2, ho2, FR2⟩, hb2⟩
  obtain ⟨v2_docs, v2_subs, f2_docs, f2_subs, rfl, S2_docs, S2_subs, rfl⟩ := ho2
  obtain ⟨a2_docs, c2_docs, rfl⟩ := RdS.isSlice ⟨_, S2_docs⟩
  obtain ⟨a2_subs, c2_subs, rfl⟩ := RdS.isSlice ⟨_, S2_subs⟩
  have UB2 : ∀ p ∈ (f2_docs ++ f2_subs), p.1 < w2.heap.size := Live.lt (Live.append.2 ⟨S2_docs.live, S2_subs.live⟩)
  replace FR2 : Fresh (w1.heap.size) w2 (f2_docs ++ f2_subs) := FR2.mono (by first | exact Nat.le_refl _ | (simp; done) | (simp; omega))
  have K2 : Kept (f2_docs ++ f2_subs) w2 w2 := Kept.refl _ _
  have B2 : Below w1.heap.size w1 w2 := blw2
  have s2 : w1.heap.size ≤ w2.heap.size := (by have := hb2.size; (try simp at this); omega)
  have hh := mc4 B2 cp0_0 cp0_1 cp0_2 cp0_3
  clear cp0_0 cp0_1 cp0_2 cp0_3
  obtain ⟨cp0_0, cp0_1, cp0_2, cp0_3⟩ := hh
  have z2_p0 : w.heap.size < w2.heap.size := (by omega)
  clear hb2
  go_wp2_with fail
  refine (HS.out _ _ _ ((⟨_, S2_docs.kept (K2.below (show Below w2.heap.size w2 _ from blw2) (fun p hp => Nat.lt_of_lt_of_le (UB2 p hp) (by omega))) (by intro p hp; simp only [List.mem_append]; simp [hp])⟩ : RdS _ _ _)) ((⟨_, S2_subs.kept (K2.below (show Below w2.heap.size w2 _ from blw2) (fun p hp => Nat.lt_of_lt_of_le (UB2 p hp) (by omega))) (by intro p hp; simp only [List.mem_append]; simp [hp])⟩ : RdS _ _ _))).mono ?_
  rintro e w3 ⟨v3_0_docs, v3_0_subs, v3_1, f3_0_docs, f3_0_subs, f3_1, rfl, S3_0_docs, S3_0_subs, S3_1, FR3, hb3⟩
  obtain ⟨a3_0_docs, c3_0_docs, rfl⟩ := RdS.isSlice ⟨_, S3_0_docs⟩
  obtain ⟨a3_0_subs, c3_0_subs, rfl⟩ := RdS.isSlice ⟨_, S3_0_subs⟩
  have UB3 : ∀ p ∈ (f3_0_docs ++ (f3_0_subs ++ f3_1)), p.1 < w3.heap.size := Live.lt (Live.append.2 ⟨S3_0_docs.live, Live.append.2 ⟨S3_0_subs.live, S3_1.live⟩⟩)
  replace FR3 : Fresh (w2.heap.size) w3 (f3_0_docs ++ (f3_0_subs ++ f3_1)) := FR3.mono (by first | exact Nat.le_refl _ | (simp; done) | (simp; omega))
  have K3 : Kept (f3_0_docs ++ (f3_0_subs ++ f3_1)) w3 w3 := Kept.refl _ _
  have B3 : Below w2.heap.size w2 w3 := blw2
  have s3 : w2.heap.size ≤ w3.heap.size := (by have := hb3.size; (try simp at this); omega)
  have hh := mc4 B3 cp0_0 cp0_1 cp0_2 cp0_3
  clear cp0_0 cp0_1 cp0_2 cp0_3
  obtain ⟨cp0_0, cp0_1, cp0_2, cp0_3⟩ := hh
  replace K2 : Kept (f2_docs ++ f2_subs) w2 w3 := K2.below B3 (fun p hp => Nat.lt_of_lt_of_le (UB2 p hp) (by omega))
  have z3_p0 : w.heap.size < w3.heap.size := (by omega)
  clear hb3
  go_wp2_with fail
  refine (toHub_c x _ _ _  (hr_x_docs.below blw2) (hr_x_subs.below blw2)).mono ?_
  rintro e w4 ⟨_, rfl, ⟨fp4, ho4, FR4⟩, hb4⟩
  obtain ⟨v4_docs, v4_subs, f4_docs, f4_subs, rfl, S4_docs, S4_subs, rfl⟩ := ho4
  obtain ⟨a4_docs, c4_docs, rfl⟩ := RdS.isSlice ⟨_, S4_docs⟩
  obtain ⟨a4_subs, c4_subs, rfl⟩ := RdS.isSlice ⟨_, S4_subs⟩
  have UB4 : ∀ p ∈ (f4_docs ++ f4_subs), p.1 < w4.heap.size := Live.lt (Live.append.2 ⟨S4_docs.live, S4_subs.live⟩)
  replace FR4 : Fresh (w3.heap.size + 1) w4 (f4_docs ++ f4_subs) := FR4.mono (by first | exact Nat.le_refl _ | (simp; done) | (simp; omega))
  have K4 : Kept (f4_docs ++ f4_subs) w4 w4 := Kept.refl _ _
  have hN : Below (w3.heap.size + 1) (w3.alloc (.cells #[.bool y0.shut, .slice a3_0_docs y0.docs.length c3_0_docs, .slice a3_0_subs y0.subs.length c3_0_subs, .int .i64 y0.last] 30)) w4 := blw2
  have B4 : Below w3.heap.size w3 w4 := blw2
  have s4 : w3.heap.size + 1 ≤ w4.heap.size := (by have := hb4.size; (try simp at this); omega)
  have hh := mc4 B4 cp0_0 cp0_1 cp0_2 cp0_3
  clear cp0_0 cp0_1 cp0_2 cp0_3
  obtain ⟨cp0_0, cp0_1, cp0_2, cp0_3⟩ := hh
  have cW0_0 : w4.cell? ⟨w3.heap.size, 0, none⟩ = some (.bool y0.shut) := by rw [hN.cell (by simp; try omega)]; simp
  have cW0_1 : w4.cell? ⟨w3.heap.size, 1, none⟩ = some (.slice a3_0_docs y0.docs.length c3_0_docs) := by rw [hN.cell (by simp; try omega)]; simp
  have cW0_2 : w4.cell? ⟨w3.heap.size, 2, none⟩ = some (.slice a3_0_subs y0.subs.length c3_0_subs) := by rw [hN.cell (by simp; try omega)]; simp
  have cW0_3 : w4.cell? ⟨w3.heap.size, 3, none⟩ = some (.int .i64 y0.last) := by rw [hN.cell (by simp; try omega)]; simp
  clear hN
  replace K3 : Kept (f3_0_docs ++ (f3_0_subs ++ f3_1)) w3 w4 := K3.below B4 (fun p hp => Nat.lt_of_lt_of_le (UB3 p hp) (by omega))
  have z4_p0 : w.heap.size < w4.heap.size := (by omega)
  have z4_W0 : w3.heap.size < w4.heap.size := (by omega)
  clear hb4
  go_wp2_with fail
  refine (HI.out _ _ _ ((⟨_, S4_docs.kept (K4.below (show Below w4.heap.size w4 _ from blw2) (fun p hp => Nat.lt_of_lt_of_le (UB4 p hp) (by omega))) (by intro p hp; simp only [List.mem_append]; simp [hp])⟩ : RdS _ _ _)) ((⟨_, S4_subs.kept (K4.below (show Below w4.heap.size w4 _ from blw2) (fun p hp => Nat.lt_of_lt_of_le (UB4 p hp) (by omega))) (by intro p hp; simp only [List.mem_append]; simp [hp])⟩ : RdS _ _ _))).mono ?_
  rintro e w5 ⟨v5_0_docs, v5_0_subs, v5_1, f5_0_docs, f5_0_subs, f5_1, rfl, S5_0_docs, S5_0_subs, S5_1, FR5, hb5⟩
  obtain ⟨a5_0_docs, c5_0_docs, rfl⟩ := RdS.isSlice ⟨_, S5_0_docs⟩
  obtain ⟨a5_0_subs, c5_0_subs, rfl⟩ := RdS.isSlice ⟨_, S5_0_subs⟩
  have UB5 : ∀ p ∈ (f5_0_docs ++ (f5_0_subs ++ f5_1)), p.1 < w5.heap.size := Live.lt (Live.append.2 ⟨S5_0_docs.live, Live.append.2 ⟨S5_0_subs.live, S5_1.live⟩⟩)
  replace FR5 : Fresh (w4.heap.size + 1) w5 (f5_0_docs ++ (f5_0_subs ++ f5_1)) := FR5.mono (by first | exact Nat.le_refl _ | (simp; done) | (simp; omega))
  have K5 : Kept (f5_0_docs ++ (f5_0_subs ++ f5_1)) w5 w5 := Kept.refl _ _
  have hN : Below (w4.heap.size + 1) (w4.alloc (.cells #[.bool x.shut, .slice a4_docs x.docs.length c4_docs, .slice a4_subs x.subs.length c4_subs, .int .i64 x.last] 30)) w5 := blw2
  have B5 : Below w4.heap.size w4 w5 := blw2
  have s5 : w4.heap.size + 1 ≤ w5.heap.size := (by have := hb5.size; (try simp at this); omega)
  have hh := mc8 B5 cp0_0 cp0_1 cp0_2 cp0_3 cW0_0 cW0_1 cW0_2 cW0_3
  clear cp0_0 cp0_1 cp0_2 cp0_3 cW0_0 cW0_1 cW0_2 cW0_3
  obtain ⟨cp0_0, cp0_1, cp0_2, cp0_3, cW0_0, cW0_1, cW0_2, cW0_3⟩ := hh
  have cxx_0 : w5.cell? ⟨w4.heap.size, 0, none⟩ = some (.bool x.shut) := by rw [hN.cell (by simp; try omega)]; simp
  have cxx_1 : w5.cell? ⟨w4.heap.size, 1, none⟩ = some (.slice a4_docs x.docs.length c4_docs) := by rw [hN.cell (by simp; try omega)]; simp
  have cxx_2 : w5.cell? ⟨w4.heap.size, 2, none⟩ = some (.slice a4_subs x.subs.length c4_subs) := by rw [hN.cell (by simp; try omega)]; simp
  have cxx_3 : w5.cell? ⟨w4.heap.size, 3, none⟩ = some (.int .i64 x.last) := by rw [hN.cell (by simp; try omega)]; simp
  clear hN
  replace K3 : Kept (f3_0_docs ++ (f3_0_subs ++ f3_1)) w3 w5 := K3.below B5 (fun p hp => Nat.lt_of_lt_of_le (UB3 p hp) (by omega))
  replace K4 : Kept (f4_docs ++ f4_subs) w4 w5 := K4.below B5 (fun p hp => Nat.lt_of_lt_of_le (UB4 p hp) (by omega))
  have z5_p0 : w.heap.size < w5.heap.size := (by omega)
  have z5_W0 : w3.heap.size < w5.heap.size := (by omega)
  have z5_xx : w4.heap.size < w5.heap.size := (by omega)
  clear hb5
  go_wp2_with fail
  refine (eqHub_c y0 _ _ _ _ _ ((⟨_, S5_0_docs.kept (K5.below (show Below w5.heap.size w5 _ from blw2) (fun p hp => Nat.lt_of_lt_of_le (UB5 p hp) (by omega))) (by intro p hp; simp only [List.mem_append]; simp [hp])⟩ : RdS _ _ _)) ((⟨_, S3_0_docs.kept (K3.below (show Below w5.heap.size w5 _ from blw2) (fun p hp => Nat.lt_of_lt_of_le (UB3 p hp) (by omega))) (by intro p hp; simp only [List.mem_append]; simp [hp])⟩ : RdS _ _ _)) ((⟨_, S5_0_subs.kept (K5.below (show Below w5.heap.size w5 _ from blw2) (fun p hp => Nat.lt_of_lt_of_le (UB5 p hp) (by omega))) (by intro p hp; simp only [List.mem_append]; simp [hp])⟩ : RdS _ _ _)) ((⟨_, S3_0_subs.kept (K3.below (show Below w5.heap.size w5 _ from blw2) (fun p hp => Nat.lt_of_lt_of_le (UB3 p hp) (by omega))) (by intro p hp; simp only [List.mem_append]; simp [hp])⟩ : RdS _ _ _))).mono ?_
  rintro e w6 ⟨rfl, hb6⟩
  have hN : Below (w5.heap.size + 1) (w5.alloc (.cells #[.bool y0.shut, .slice a5_0_docs y0.docs.length c5_0_docs, .slice a5_0_subs y0.subs.length c5_0_subs, .int .i64 y0.last] 30)) w6 := blw2
  have B6 : Below w5.heap.size w5 w6 := blw2
  have s6 : w5.heap.size + 1 ≤ w6.heap.size := (by have := hb6.size; (try simp at this); omega)
  have hh := mc8 B6 cp0_0 cp0_1 cp0_2 cp0_3 cW0_0 cW0_1 cW0_2 cW0_3
  clear cp0_0 cp0_1 cp0_2 cp0_3 cW0_0 cW0_1 cW0_2 cW0_3
  obtain ⟨cp0_0, cp0_1, cp0_2, cp0_3, cW0_0, cW0_1, cW0_2, cW0_3⟩ := hh
  have hh := mc4 B6 cxx_0 cxx_1 cxx_2 cxx_3
  clear cxx_0 cxx_1 cxx_2 cxx_3
  obtain ⟨cxx_0, cxx_1, cxx_2, cxx_3⟩ := hh
  have cG0_0 : w6.cell? ⟨w5.heap.size, 0, none⟩ = some (.bool y0.shut) := by rw [hN.cell (by simp; try omega)]; simp
  have cG0_1 : w6.cell? ⟨w5.heap.size, 1, none⟩ = some (.slice a5_0_docs y0.docs.length c5_0_docs) := by rw [hN.cell (by simp; try omega)]; simp
  have cG0_2 : w6.cell? ⟨w5.heap.size, 2, none⟩ = some (.slice a5_0_subs y0.subs.length c5_0_subs) := by rw [hN.cell (by simp; try omega)]; simp
  have cG0_3 : w6.cell? ⟨w5.heap.size, 3, none⟩ = some (.int .i64 y0.last) := by rw [hN.cell (by simp; try omega)]; simp
  clear hN
  replace K3 : Kept (f3_0_docs ++ (f3_0_subs ++ f3_1)) w3 w6 := K3.below B6 (fun p hp => Nat.lt_of_lt_of_le (UB3 p hp) (by omega))
  replace K4 : Kept (f4_docs ++ f4_subs) w4 w6 := K4.below B6 (fun p hp => Nat.lt_of_lt_of_le (UB4 p hp) (by omega))
  replace K5 : Kept (f5_0_docs ++ (f5_0_subs ++ f5_1)) w5 w6 := K5.below B6 (fun p hp => Nat.lt_of_lt_of_le (UB5 p hp) (by omega))
  have z6_p0 : w.heap.size < w6.heap.size := (by omega)
  have z6_W0 : w3.heap.size < w6.heap.size := (by omega)
  have z6_xx : w4.heap.size < w6.heap.size := (by omega)
  have z6_G0 : w5.heap.size < w6.heap.size := (by omega)
  clear hb6
  go_wp2_with fail
  refine (eqIntS_c _ _ y1 _ ((⟨_, S5_1.kept (K5.below (show Below w6.heap.size w6 _ from blw2) (fun p hp => Nat.lt_of_lt_of_le (UB5 p hp) (by omega))) (by intro p hp; simp only [List.mem_append]; simp [hp])⟩ : RdS _ _ _)) ((⟨_, S3_1.kept (K3.below (show Below w6.heap.size w6 _ from blw2) (fun p hp => Nat.lt_of_lt_of_le (UB3 p hp) (by omega))) (by intro p hp; simp only [List.mem_append]; simp [hp])⟩ : RdS _ _ _))).mono ?_
  rintro e w7 ⟨rfl, hb7⟩
  have B7 : Below w6.heap.size w6 w7 := blw2
  have s7 : w6.heap.size ≤ w7.heap.size := (by have := hb7.size; (try simp at this); omega)
  have hh := mc8 B7 cp0_0 cp0_1 cp0_2 cp0_3 cW0_0 cW0_1 cW0_2 cW0_3
  clear cp0_0 cp0_1 cp0_2 cp0_3 cW0_0 cW0_1 cW0_2 cW0_3
  obtain ⟨cp0_0, cp0_1, cp0_2, cp0_3, cW0_0, cW0_1, cW0_2, cW0_3⟩ := hh
  have hh := mc8 B7 cxx_0 cxx_1 cxx_2 cxx_3 cG0_0 cG0_1 cG0_2 cG0_3
  clear cxx_0 cxx_1 cxx_2 cxx_3 cG0_0 cG0_1 cG0_2 cG0_3
  obtain ⟨cxx_0, cxx_1, cxx_2, cxx_3, cG0_0, cG0_1, cG0_2, cG0_3⟩ := hh
  replace K3 : Kept (f3_0_docs ++ (f3_0_subs ++ f3_1)) w3 w7 := K3.below B7 (fun p hp => Nat.lt_of_lt_of_le (UB3 p hp) (by omega))
  replace K4 : Kept (f4_docs ++ f4_subs) w4 w7 := K4.below B7 (fun p hp => Nat.lt_of_lt_of_le (UB4 p hp) (by omega))
  replace K5 : Kept (f5_0_docs ++ (f5_0_subs ++ f5_1)) w5 w7 := K5.below B7 (fun p hp => Nat.lt_of_lt_of_le (UB5 p hp) (by omega))
  have z7_p0 : w.heap.size < w7.heap.size := (by omega)
  have z7_W0 : w3.heap.size < w7.heap.size := (by omega)
  have z7_xx : w4.heap.size < w7.heap.size := (by omega)
  have z7_G0 : w5.heap.size < w7.heap.size := (by omega)
  clear hb7
  go_wp2_with fail
  go_region_held3 (fun w' => w'.cell? ⟨w.heap.size, 0, none⟩ = some (.bool x.shut) ∧ w'.cell? ⟨w.heap.size, 1, none⟩ = some (v_x_docs) ∧ w'.cell? ⟨w.heap.size, 2, none⟩ = some (v_x_subs) ∧ w'.cell? ⟨w.heap.size, 3, none⟩ = some (.int .i64 x.last) ∧ w'.cell? ⟨w4.heap.size, 0, none⟩ = some (.bool x.shut) ∧ w'.cell? ⟨w4.heap.size, 1, none⟩ = some (.slice a4_docs x.docs.length c4_docs) ∧ w'.cell? ⟨w4.heap.size, 2, none⟩ = some (.slice a4_subs x.subs.length c4_subs) ∧ w'.cell? ⟨w4.heap.size, 3, none⟩ = some (.int .i64 x.last)) (go_keep)
    (first | (go_at_call 10; refine (toHub_c x _ _ _  (hr_x_docs.below blw2) (hr_x_subs.below blw2)).mono ?_; rintro e w8 ⟨_, rfl, ⟨fp8, ho8, FR8⟩, hb8⟩; obtain ⟨v8_docs, v8_subs, f8_docs, f8_subs, rfl, S8_docs, S8_subs, rfl⟩ := ho8; obtain ⟨a8_docs, c8_docs, rfl⟩ := RdS.isSlice ⟨_, S8_docs⟩; obtain ⟨a8_subs, c8_subs, rfl⟩ := RdS.isSlice ⟨_, S8_subs⟩; have UB8 : ∀ p ∈ (f8_docs ++ f8_subs), p.1 < w8.heap.size := Live.lt (Live.append.2 ⟨S8_docs.live, S8_subs.live⟩); replace FR8 : Fresh (w7.heap.size) w8 (f8_docs ++ f8_subs) := FR8.mono (by first | exact Nat.le_refl _ | (simp; done) | (simp; omega)); have K8 : Kept (f8_docs ++ f8_subs) w8 w8 := Kept.refl _ _; have B8 : Below w7.heap.size w7 w8 := blw2; have s8 : w7.heap.size ≤ w8.heap.size := (by have := hb8.size; (try simp at this); omega); replace cp0_0 : w8.cell? ⟨w.heap.size, 0, none⟩ = some (.bool x.shut) := cellb B8 cp0_0; replace cp0_1 : w8.cell? ⟨w.heap.size, 1, none⟩ = some (v_x_docs) := cellb B8 cp0_1; replace cp0_2 : w8.cell? ⟨w.heap.size, 2, none⟩ = some (v_x_subs) := cellb B8 cp0_2; replace cp0_3 : w8.cell? ⟨w.heap.size, 3, none⟩ = some (.int .i64 x.last) := cellb B8 cp0_3; replace cW0_0 : w8.cell? ⟨w3.heap.size, 0, none⟩ = some (.bool y0.shut) := cellb B8 cW0_0; replace cW0_1 : w8.cell? ⟨w3.heap.size, 1, none⟩ = some (.slice a3_0_docs y0.docs.length c3_0_docs) := cellb B8 cW0_1; replace cW0_2 : w8.cell? ⟨w3.heap.size, 2, none⟩ = some (.slice a3_0_subs y0.subs.length c3_0_subs) := cellb B8 cW0_2; replace cW0_3 : w8.cell? ⟨w3.heap.size, 3, none⟩ = some (.int .i64 y0.last) := cellb B8 cW0_3; replace cxx_0 : w8.cell? ⟨w4.heap.size, 0, none⟩ = some (.bool x.shut) := cellb B8 cxx_0; replace cxx_1 : w8.cell? ⟨w4.heap.size, 1, none⟩ = some (.slice a4_docs x.docs.length c4_docs) := cellb B8 cxx_1; replace cxx_2 : w8.cell? ⟨w4.heap.size, 2, none⟩ = some (.slice a4_subs x.subs.length c4_subs) := cellb B8 cxx_2; replace cxx_3 : w8.cell? ⟨w4.heap.size, 3, none⟩ = some (.int .i64 x.last) := cellb B8 cxx_3; replace cG0_0 : w8.cell? ⟨w5.heap.size, 0, none⟩ = some (.bool y0.shut) := cellb B8 cG0_0; replace cG0_1 : w8.cell? ⟨w5.heap.size, 1, none⟩ = some (.slice a5_0_docs y0.docs.length c5_0_docs) := cellb B8 cG0_1; replace cG0_2 : w8.cell? ⟨w5.heap.size, 2, none⟩ = some (.slice a5_0_subs y0.subs.length c5_0_subs) := cellb B8 cG0_2; replace cG0_3 : w8.cell? ⟨w5.heap.size, 3, none⟩ = some (.int .i64 y0.last) := cellb B8 cG0_3; replace K3 : Kept (f3_0_docs ++ (f3_0_subs ++ f3_1)) w3 w8 := K3.below B8 (fun p hp => Nat.lt_of_lt_of_le (UB3 p hp) (by omega)); replace K4 : Kept (f4_docs ++ f4_subs) w4 w8 := K4.below B8 (fun p hp => Nat.lt_of_lt_of_le (UB4 p hp) (by omega)); replace K5 : Kept (f5_0_docs ++ (f5_0_subs ++ f5_1)) w5 w8 := K5.below B8 (fun p hp => Nat.lt_of_lt_of_le (UB5 p hp) (by omega)); have z8_p0 : w.heap.size < w8.heap.size := (by omega); have z8_W0 : w3.heap.size < w8.heap.size := (by omega); have z8_xx : w4.heap.size < w8.heap.size := (by omega); have z8_G0 : w5.heap.size < w8.heap.size := (by omega); clear hb8) | (go_at_call 12; refine (eqHub_c x _ _ _ _ _ ((⟨_, S4_docs.kept (K4.below (show Below w8.heap.size w8 _ from blw2) (fun p hp => Nat.lt_of_lt_of_le (UB4 p hp) (by omega))) (by intro p hp; simp only [List.mem_append]; simp [hp])⟩ : RdS _ _ _)) ((⟨_, S8_docs.kept (K8.below (show Below w8.heap.size w8 _ from blw2) (fun p hp => Nat.lt_of_lt_of_le (UB8 p hp) (by omega))) (by intro p hp; simp only [List.mem_append]; simp [hp])⟩ : RdS _ _ _)) ((⟨_, S4_subs.kept (K4.below (show Below w8.heap.size w8 _ from blw2) (fun p hp => Nat.lt_of_lt_of_le (UB4 p hp) (by omega))) (by intro p hp; simp only [List.mem_append]; simp [hp])⟩ : RdS _ _ _)) ((⟨_, S8_subs.kept (K8.below (show Below w8.heap.size w8 _ from blw2) (fun p hp => Nat.lt_of_lt_of_le (UB8 p hp) (by omega))) (by intro p hp; simp only [List.mem_append]; simp [hp])⟩ : RdS _ _ _))).mono ?_; rintro e w9 ⟨rfl, hb9⟩; have B9 : Below w8.heap.size w8 w9 := blw2; have s9 : w8.heap.size ≤ w9.heap.size := (by have := hb9.size; (try simp at this); omega); replace cp0_0 : w9.cell? ⟨w.heap.size, 0, none⟩ = some (.bool x.shut) := cellb B9 cp0_0; replace cp0_1 : w9.cell? ⟨w.heap.size, 1, none⟩ = some (v_x_docs) := cellb B9 cp0_1; replace cp0_2 : w9.cell? ⟨w.heap.size, 2, none⟩ = some (v_x_subs) := cellb B9 cp0_2; replace cp0_3 : w9.cell? ⟨w.heap.size, 3, none⟩ = some (.int .i64 x.last) := cellb B9 cp0_3; replace cW0_0 : w9.cell? ⟨w3.heap.size, 0, none⟩ = some (.bool y0.shut) := cellb B9 cW0_0; replace cW0_1 : w9.cell? ⟨w3.heap.size, 1, none⟩ = some (.slice a3_0_docs y0.docs.length c3_0_docs) := cellb B9 cW0_1; replace cW0_2 : w9.cell? ⟨w3.heap.size, 2, none⟩ = some (.slice a3_0_subs y0.subs.length c3_0_subs) := cellb B9 cW0_2; replace cW0_3 : w9.cell? ⟨w3.heap.size, 3, none⟩ = some (.int .i64 y0.last) := cellb B9 cW0_3; replace cxx_0 : w9.cell? ⟨w4.heap.size, 0, none⟩ = some (.bool x.shut) := cellb B9 cxx_0; replace cxx_1 : w9.cell? ⟨w4.heap.size, 1, none⟩ = some (.slice a4_docs x.docs.length c4_docs) := cellb B9 cxx_1; replace cxx_2 : w9.cell? ⟨w4.heap.size, 2, none⟩ = some (.slice a4_subs x.subs.length c4_subs) := cellb B9 cxx_2; replace cxx_3 : w9.cell? ⟨w4.heap.size, 3, none⟩ = some (.int .i64 x.last) := cellb B9 cxx_3; replace cG0_0 : w9.cell? ⟨w5.heap.size, 0, none⟩ = some (.bool y0.shut) := cellb B9 cG0_0; replace cG0_1 : w9.cell? ⟨w5.heap.size, 1, none⟩ = some (.slice a5_0_docs y0.docs.length c5_0_docs) := cellb B9 cG0_1; replace cG0_2 : w9.cell? ⟨w5.heap.size, 2, none⟩ = some (.slice a5_0_subs y0.subs.length c5_0_subs) := cellb B9 cG0_2; replace cG0_3 : w9.cell? ⟨w5.heap.size, 3, none⟩ = some (.int .i64 y0.last) := cellb B9 cG0_3; replace K3 : Kept (f3_0_docs ++ (f3_0_subs ++ f3_1)) w3 w9 := K3.below B9 (fun p hp => Nat.lt_of_lt_of_le (UB3 p hp) (by omega)); replace K4 : Kept (f4_docs ++ f4_subs) w4 w9 := K4.below B9 (fun p hp => Nat.lt_of_lt_of_le (UB4 p hp) (by omega)); replace K5 : Kept (f5_0_docs ++ (f5_0_subs ++ f5_1)) w5 w9 := K5.below B9 (fun p hp => Nat.lt_of_lt_of_le (UB5 p hp) (by omega)); replace K8 : Kept (f8_docs ++ f8_subs) w8 w9 := K8.below B9 (fun p hp => Nat.lt_of_lt_of_le (UB8 p hp) (by omega)); have z9_p0 : w.heap.size < w9.heap.size := (by omega); have z9_W0 : w3.heap.size < w9.heap.size := (by omega); have z9_xx : w4.heap.size < w9.heap.size := (by omega); have z9_G0 : w5.heap.size < w9.heap.size := (by omega); clear hb9))
  replace S4_docs := S4_docs.kept K4 (by intro p hp; simp only [List.mem_append]; simp [hp])
  replace S4_subs := S4_subs.kept K4 (by intro p hp; simp only [List.mem_append]; simp [hp])
  replace FR4 := FR4.kept K4 (fun _ h => h)
  clear K4
  go_wp2_with fail
  refine (markHub_c (w3.heap.size + 1) x.shut x.last _ _ _ _ f4_docs f4_subs _ 1 (by omega) (by omega) (S4_docs.belowW blw2) (S4_subs.belowW blw2) (FR4.belowL blw2 (fun p hp => Nat.lt_of_lt_of_le (UB4 p hp) (by omega)))).mono ?_
  rintro e w10 ⟨he, T10_docs, T10_subs, hw10⟩
  have s10 : w9.heap.size ≤ w10.heap.size := wrs hw10 blw2
  replace cp0_0 : w10.cell? ⟨w.heap.size, 0, none⟩ = some (.bool x.shut) := cellw blw2 hw10 cp0_0 (fun hp => by have q1 := FR4.ge _ hp; have q2 := UB4 _ hp; simp only at q1 q2; omega)
  replace cp0_1 : w10.cell? ⟨w.heap.size, 1, none⟩ = some (v_x_docs) := cellw blw2 hw10 cp0_1 (fun hp => by have q1 := FR4.ge _ hp; have q2 := UB4 _ hp; simp only at q1 q2; omega)
  replace cp0_2 : w10.cell? ⟨w.heap.size, 2, none⟩ = some (v_x_subs) := cellw blw2 hw10 cp0_2 (fun hp => by have q1 := FR4.ge _ hp; have q2 := UB4 _ hp; simp only at q1 q2; omega)
  replace cp0_3 : w10.cell? ⟨w.heap.size, 3, none⟩ = some (.int .i64 x.last) := cellw blw2 hw10 cp0_3 (fun hp => by have q1 := FR4.ge _ hp; have q2 := UB4 _ hp; simp only at q1 q2; omega)
  replace cW0_0 : w10.cell? ⟨w3.heap.size, 0, none⟩ = some (.bool y0.shut) := cellw blw2 hw10 cW0_0 (fun hp => by have q1 := FR4.ge _ hp; have q2 := UB4 _ hp; simp only at q1 q2; omega)
  replace cW0_1 : w10.cell? ⟨w3.heap.size, 1, none⟩ = some (.slice a3_0_docs y0.docs.length c3_0_docs) := cellw blw2 hw10 cW0_1 (fun hp => by have q1 := FR4.ge _ hp; have q2 := UB4 _ hp; simp only at q1 q2; omega)
  replace cW0_2 : w10.cell? ⟨w3.heap.size, 2, none⟩ = some (.slice a3_0_subs y0.subs.length c3_0_subs) := cellw blw2 hw10 cW0_2 (fun hp => by have q1 := FR4.ge _ hp; have q2 := UB4 _ hp; simp only at q1 q2; omega)
  replace cW0_3 : w10.cell? ⟨w3.heap.size, 3, none⟩ = some (.int .i64 y0.last) := cellw blw2 hw10 cW0_3 (fun hp => by have q1 := FR4.ge _ hp; have q2 := UB4 _ hp; simp only at q1 q2; omega)
  replace cxx_0 : w10.cell? ⟨w4.heap.size, 0, none⟩ = some (.bool x.shut) := cellw blw2 hw10 cxx_0 (fun hp => by have q1 := FR4.ge _ hp; have q2 := UB4 _ hp; simp only at q1 q2; omega)
  replace cxx_1 : w10.cell? ⟨w4.heap.size, 1, none⟩ = some (.slice a4_docs x.docs.length c4_docs) := cellw blw2 hw10 cxx_1 (fun hp => by have q1 := FR4.ge _ hp; have q2 := UB4 _ hp; simp only at q1 q2; omega)
  replace cxx_2 : w10.cell? ⟨w4.heap.size, 2, none⟩ = some (.slice a4_subs x.subs.length c4_subs) := cellw blw2 hw10 cxx_2 (fun hp => by have q1 := FR4.ge _ hp; have q2 := UB4 _ hp; simp only at q1 q2; omega)
  replace cxx_3 : w10.cell? ⟨w4.heap.size, 3, none⟩ = some (.int .i64 x.last) := cellw blw2 hw10 cxx_3 (fun hp => by have q1 := FR4.ge _ hp; have q2 := UB4 _ hp; simp only at q1 q2; omega)
  replace cG0_0 : w10.cell? ⟨w5.heap.size, 0, none⟩ = some (.bool y0.shut) := cellw blw2 hw10 cG0_0 (fun hp => by have q1 := FR4.ge _ hp; have q2 := UB4 _ hp; simp only at q1 q2; omega)
  replace cG0_1 : w10.cell? ⟨w5.heap.size, 1, none⟩ = some (.slice a5_0_docs y0.docs.length c5_0_docs) := cellw blw2 hw10 cG0_1 (fun hp => by have q1 := FR4.ge _ hp; have q2 := UB4 _ hp; simp only at q1 q2; omega)
  replace cG0_2 : w10.cell? ⟨w5.heap.size, 2, none⟩ = some (.slice a5_0_subs y0.subs.length c5_0_subs) := cellw blw2 hw10 cG0_2 (fun hp => by have q1 := FR4.ge _ hp; have q2 := UB4 _ hp; simp only at q1 q2; omega)
  replace cG0_3 : w10.cell? ⟨w5.heap.size, 3, none⟩ = some (.int .i64 y0.last) := cellw blw2 hw10 cG0_3 (fun hp => by have q1 := FR4.ge _ hp; have q2 := UB4 _ hp; simp only at q1 q2; omega)
  replace K3 : Kept (f3_0_docs ++ (f3_0_subs ++ f3_1)) w3 w10 := K3.wr2 blw2 hw10 (fun p hp => Nat.lt_of_lt_of_le (UB3 p hp) (by omega)) (fun q hq hp => by have q1 := FR4.ge q hp; have q2 := UB4 q hp; first | (have q3 := UB3 q hq; omega) | (have q3 := FR3.ge q hq; omega))
  replace K5 : Kept (f5_0_docs ++ (f5_0_subs ++ f5_1)) w5 w10 := K5.wr2 blw2 hw10 (fun p hp => Nat.lt_of_lt_of_le (UB5 p hp) (by omega)) (fun q hq hp => by have q1 := FR4.ge q hp; have q2 := UB4 q hp; first | (have q3 := UB5 q hq; omega) | (have q3 := FR5.ge q hq; omega))
  have B10 : Below (w3.heap.size + 1) w9 w10 := wrb hw10 blw2 (by omega) (fun p hp => FR4.ge p hp)
  replace FR4 : Fresh (w3.heap.size + 1) w10 (f4_docs ++ f4_subs) := FR4.wr2 blw2 hw10 (fun p hp => Nat.lt_of_lt_of_le (UB4 p hp) (by omega))
  replace S4_docs := T10_docs
  replace S4_subs := T10_subs
  have K4 : Kept (f4_docs ++ f4_subs) w10 w10 := Kept.refl _ _
  have z10_p0 : w.heap.size < w10.heap.size := (by omega)
  have z10_W0 : w3.heap.size < w10.heap.size := (by omega)
  have z10_xx : w4.heap.size < w10.heap.size := (by omega)
  have z10_G0 : w5.heap.size < w10.heap.size := (by omega)
  obtain ⟨k1, hk1, hp1⟩ : ∃ k : Int, k = 1 + ((cntL x.docs + cntL x.subs : Nat) : Int) ∧ 1 ≤ k := ⟨_, rfl, by omega⟩
  obtain rfl : e = .returned (.int .i64 k1) := he.trans (by rw [hk1])
  have hq1 : k1 ≤ 1 + 5242880 := by omega
  clear he hk1
  have hkn : decide (k1 < 0) = false := by simp; omega
  have hkm : ¬ k1 < 0 := by omega
  go_wp2_with fail
  refine (eqHub_c y0 _ _ _ _ _ ((⟨_, S5_0_docs.kept (K5.below (show Below w10.heap.size w10 _ from blw2) (fun p hp => Nat.lt_of_lt_of_le (UB5 p hp) (by omega))) (by intro p hp; simp only [List.mem_append]; simp [hp])⟩ : RdS _ _ _)) ((⟨_, S3_0_docs.kept (K3.below (show Below w10.heap.size w10 _ from blw2) (fun p hp => Nat.lt_of_lt_of_le (UB3 p hp) (by omega))) (by intro p hp; simp only [List.mem_append]; simp [hp])⟩ : RdS _ _ _)) ((⟨_, S5_0_subs.kept (K5.below (show Below w10.heap.size w10 _ from blw2) (fun p hp => Nat.lt_of_lt_of_le (UB5 p hp) (by omega))) (by intro p hp; simp only [List.mem_append]; simp [hp])⟩ : RdS _ _ _)) ((⟨_, S3_0_subs.kept (K3.below (show Below w10.heap.size w10 _ from blw2) (fun p hp => Nat.lt_of_lt_of_le (UB3 p hp) (by omega))) (by intro p hp; simp only [List.mem_append]; simp [hp])⟩ : RdS _ _ _))).mono ?_
  rintro e w11 ⟨rfl, hb11⟩
  have B11 : Below w10.heap.size w10 w11 := blw2
  have s11 : w10.heap.size ≤ w11.heap.size := (by have := hb11.size; (try simp at this); omega)
  have hh := mc8 B11 cp0_0 cp0_1 cp0_2 cp0_3 cW0_0 cW0_1 cW0_2 cW0_3
  clear cp0_0 cp0_1 cp0_2 cp0_3 cW0_0 cW0_1 cW0_2 cW0_3
  obtain ⟨cp0_0, cp0_1, cp0_2, cp0_3, cW0_0, cW0_1, cW0_2, cW0_3⟩ := hh
  have hh := mc8 B11 cxx_0 cxx_1 cxx_2 cxx_3 cG0_0 cG0_1 cG0_2 cG0_3
  clear cxx_0 cxx_1 cxx_2 cxx_3 cG0_0 cG0_1 cG0_2 cG0_3
  obtain ⟨cxx_0, cxx_1, cxx_2, cxx_3, cG0_0, cG0_1, cG0_2, cG0_3⟩ := hh
  replace K3 : Kept (f3_0_docs ++ (f3_0_subs ++ f3_1)) w3 w11 := K3.below B11 (fun p hp => Nat.lt_of_lt_of_le (UB3 p hp) (by omega))
  replace K5 : Kept (f5_0_docs ++ (f5_0_subs ++ f5_1)) w5 w11 := K5.below B11 (fun p hp => Nat.lt_of_lt_of_le (UB5 p hp) (by omega))
  have z11_p0 : w.heap.size < w11.heap.size := (by omega)
  have z11_W0 : w3.heap.size < w11.heap.size := (by omega)
  have z11_xx : w4.heap.size < w11.heap.size := (by omega)
  have z11_G0 : w5.heap.size < w11.heap.size := (by omega)
  clear hb11
  go_wp2_with fail
  refine (eqIntS_c _ _ y1 _ ((⟨_, S5_1.kept (K5.below (show Below w11.heap.size w11 _ from blw2) (fun p hp => Nat.lt_of_lt_of_le (UB5 p hp) (by omega))) (by intro p hp; simp only [List.mem_append]; simp [hp])⟩ : RdS _ _ _)) ((⟨_, S3_1.kept (K3.below (show Below w11.heap.size w11 _ from blw2) (fun p hp => Nat.lt_of_lt_of_le (UB3 p hp) (by omega))) (by intro p hp; simp only [List.mem_append]; simp [hp])⟩ : RdS _ _ _))).mono ?_
  rintro e w12 ⟨rfl, hb12⟩
  have B12 : Below w11.heap.size w11 w12 := blw2
  have s12 : w11.heap.size ≤ w12.heap.size := (by have := hb12.size; (try simp at this); omega)
  have hh := mc8 B12 cp0_0 cp0_1 cp0_2 cp0_3 cW0_0 cW0_1 cW0_2 cW0_3
  clear cp0_0 cp0_1 cp0_2 cp0_3 cW0_0 cW0_1 cW0_2 cW0_3
  obtain ⟨cp0_0, cp0_1, cp0_2, cp0_3, cW0_0, cW0_1, cW0_2, cW0_3⟩ := hh
  have hh := mc8 B12 cxx_0 cxx_1 cxx_2 cxx_3 cG0_0 cG0_1 cG0_2 cG0_3
  clear cxx_0 cxx_1 cxx_2 cxx_3 cG0_0 cG0_1 cG0_2 cG0_3
  obtain ⟨cxx_0, cxx_1, cxx_2, cxx_3, cG0_0, cG0_1, cG0_2, cG0_3⟩ := hh
  replace K3 : Kept (f3_0_docs ++ (f3_0_subs ++ f3_1)) w3 w12 := K3.below B12 (fun p hp => Nat.lt_of_lt_of_le (UB3 p hp) (by omega))
  replace K5 : Kept (f5_0_docs ++ (f5_0_subs ++ f5_1)) w5 w12 := K5.below B12 (fun p hp => Nat.lt_of_lt_of_le (UB5 p hp) (by omega))
  have z12_p0 : w.heap.size < w12.heap.size := (by omega)
  have z12_W0 : w3.heap.size < w12.heap.size := (by omega)
  have z12_xx : w4.heap.size < w12.heap.size := (by omega)
  have z12_G0 : w5.heap.size < w12.heap.size := (by omega)
  clear hb12
  replace S5_0_docs := S5_0_docs.kept K5 (by intro p hp; simp only [List.mem_append]; simp [hp])
  replace S5_0_subs := S5_0_subs.kept K5 (by intro p hp; simp only [List.mem_append]; simp [hp])
  replace S5_1 := S5_1.kept K5 (by intro p hp; simp only [List.mem_append]; simp [hp])
  replace FR5 := FR5.kept K5 (fun _ h => h)
  clear K5
  go_wp2_with fail
  refine (markHub_c (w4.heap.size + 1) y0.shut y0.last _ _ _ _ f5_0_docs f5_0_subs _ 1 (by omega) (by omega) (S5_0_docs.belowW blw2) (S5_0_subs.belowW blw2) (FR5.pre2.belowL blw2 (fun p hp => Nat.lt_of_lt_of_le (UB5 p (by first | exact hp | exact List.mem_append.2 (.inl hp) | exact List.mem_append.2 (.inr hp) | exact List.mem_append.2 (.inr (List.mem_append.2 (.inl hp))) | exact List.mem_append.2 (.inr (List.mem_append.2 (.inr hp))) | exact mem_pre hp | exact mem_pre3 hp | (simp only [List.mem_append] at hp ⊢; grind))) (by omega)))).mono ?_
  rintro e w13 ⟨he, T13_0_docs, T13_0_subs, hw13⟩
  have s13 : w12.heap.size ≤ w13.heap.size := wrs hw13 blw2
  replace cp0_0 : w13.cell? ⟨w.heap.size, 0, none⟩ = some (.bool x.shut) := cellw blw2 hw13 cp0_0 (fun hp => by have q1 := FR5.ge _ (by first | exact hp | exact List.mem_append.2 (.inl hp) | exact List.mem_append.2 (.inr hp) | exact List.mem_append.2 (.inr (List.mem_append.2 (.inl hp))) | exact List.mem_append.2 (.inr (List.mem_append.2 (.inr hp))) | exact mem_pre hp | exact mem_pre3 hp | (simp only [List.mem_append] at hp ⊢; grind)); have q2 := UB5 _ (by first | exact hp | exact List.mem_append.2 (.inl hp) | exact List.mem_append.2 (.inr hp) | exact List.mem_append.2 (.inr (List.mem_append.2 (.inl hp))) | exact List.mem_append.2 (.inr (List.mem_append.2 (.inr hp))) | exact mem_pre hp | exact mem_pre3 hp | (simp only [List.mem_append] at hp ⊢; grind)); simp only at q1 q2; omega)
  replace cp0_1 : w13.cell? ⟨w.heap.size, 1, none⟩ = some (v_x_docs) := cellw blw2 hw13 cp0_1 (fun hp => by have q1 := FR5.ge _ (by first | exact hp | exact List.mem_append.2 (.inl hp) | exact List.mem_append.2 (.inr hp) | exact List.mem_append.2 (.inr (List.mem_append.2 (.inl hp))) | exact List.mem_append.2 (.inr (List.mem_append.2 (.inr hp))) | exact mem_pre hp | exact mem_pre3 hp | (simp only [List.mem_append] at hp ⊢; grind)); have q2 := UB5 _ (by first | exact hp | exact List.mem_append.2 (.inl hp) | exact List.mem_append.2 (.inr hp) | exact List.mem_append.2 (.inr (List.mem_append.2 (.inl hp))) | exact List.mem_append.2 (.inr (List.mem_append.2 (.inr hp))) | exact mem_pre hp | exact mem_pre3 hp | (simp only [List.mem_append] at hp ⊢; grind)); simp only at q1 q2; omega)
  replace cp0_2 : w13.cell? ⟨w.heap.size, 2, none⟩ = some (v_x_subs) := cellw blw2 hw13 cp0_2 (fun hp => by have q1 := FR5.ge _ (by first | exact hp | exact List.mem_append.2 (.inl hp) | exact List.mem_append.2 (.inr hp) | exact List.mem_append.2 (.inr (List.mem_append.2 (.inl hp))) | exact List.mem_append.2 (.inr (List.mem_append.2 (.inr hp))) | exact mem_pre hp | exact mem_pre3 hp | (simp only [List.mem_append] at hp ⊢; grind)); have q2 := UB5 _ (by first | exact hp | exact List.mem_append.2 (.inl hp) | exact List.mem_append.2 (.inr hp) | exact List.mem_append.2 (.inr (List.mem_append.2 (.inl hp))) | exact List.mem_append.2 (.inr (List.mem_append.2 (.inr hp))) | exact mem_pre hp | exact mem_pre3 hp | (simp only [List.mem_append] at hp ⊢; grind)); simp only at q1 q2; omega)
  replace cp0_3 : w13.cell? ⟨w.heap.size, 3, none⟩ = some (.int .i64 x.last) := cellw blw2 hw13 cp0_3 (fun hp => by have q1 := FR5.ge _ (by first | exact hp | exact List.mem_append.2 (.inl hp) | exact List.mem_append.2 (.inr hp) | exact List.mem_append.2 (.inr (List.mem_append.2 (.inl hp))) | exact List.mem_append.2 (.inr (List.mem_append.2 (.inr hp))) | exact mem_pre hp | exact mem_pre3 hp | (simp only [List.mem_append] at hp ⊢; grind)); have q2 := UB5 _ (by first | exact hp | exact List.mem_append.2 (.inl hp) | exact List.mem_append.2 (.inr hp) | exact List.mem_append.2 (.inr (List.mem_append.2 (.inl hp))) | exact List.mem_append.2 (.inr (List.mem_append.2 (.inr hp))) | exact mem_pre hp | exact mem_pre3 hp | (simp only [List.mem_append] at hp ⊢; grind)); simp only at q1 q2; omega)
  replace cW0_0 : w13.cell? ⟨w3.heap.size, 0, none⟩ = some (.bool y0.shut) := cellw blw2 hw13 cW0_0 (fun hp => by have q1 := FR5.ge _ (by first | exact hp | exact List.mem_append.2 (.inl hp) | exact List.mem_append.2 (.inr hp) | exact List.mem_append.2 (.inr (List.mem_append.2 (.inl hp))) | exact List.mem_append.2 (.inr (List.mem_append.2 (.inr hp))) | exact mem_pre hp | exact mem_pre3 hp | (simp only [List.mem_append] at hp ⊢; grind)); have q2 := UB5 _ (by first | exact hp | exact List.mem_append.2 (.inl hp) | exact List.mem_append.2 (.inr hp) | exact List.mem_append.2 (.inr (List.mem_append.2 (.inl hp))) | exact List.mem_append.2 (.inr (List.mem_append.2 (.inr hp))) | exact mem_pre hp | exact mem_pre3 hp | (simp only [List.mem_append] at hp ⊢; grind)); simp only at q1 q2; omega)
  replace cW0_1 : w13.cell? ⟨w3.heap.size, 1, none⟩ = some (.slice a3_0_docs y0.docs.length c3_0_docs) := cellw blw2 hw13 cW0_1 (fun hp => by have q1 := FR5.ge _ (by first | exact hp | exact List.mem_append.2 (.inl hp) | exact List.mem_append.2 (.inr hp) | exact List.mem_append.2 (.inr (List.mem_append.2 (.inl hp))) | exact List.mem_append.2 (.inr (List.mem_append.2 (.inr hp))) | exact mem_pre hp | exact mem_pre3 hp | (simp only [List.mem_append] at hp ⊢; grind)); have q2 := UB5 _ (by first | exact hp | exact List.mem_append.2 (.inl hp) | exact List.mem_append.2 (.inr hp) | exact List.mem_append.2 (.inr (List.mem_append.2 (.inl hp))) | exact List.mem_append.2 (.inr (List.mem_append.2 (.inr hp))) | exact mem_pre hp | exact mem_pre3 hp | (simp only [List.mem_append] at hp ⊢; grind)); simp only at q1 q2; omega)
  replace cW0_2 : w13.cell? ⟨w3.heap.size, 2, none⟩ = some (.slice a3_0_subs y0.subs.length c3_0_subs) := cellw blw2 hw13 cW0_2 (fun hp => by have q1 := FR5.ge _ (by first | exact hp | exact List.mem_append.2 (.inl hp) | exact List.mem_append.2 (.inr hp) | exact List.mem_append.2 (.inr (List.mem_append.2 (.inl hp))) | exact List.mem_append.2 (.inr (List.mem_append.2 (.inr hp))) | exact mem_pre hp | exact mem_pre3 hp | (simp only [List.mem_append] at hp ⊢; grind)); have q2 := UB5 _ (by first | exact hp | exact List.mem_append.2 (.inl hp) | exact List.mem_append.2 (.inr hp) | exact List.mem_append.2 (.inr (List.mem_append.2 (.inl hp))) | exact List.mem_append.2 (.inr (List.mem_append.2 (.inr hp))) | exact mem_pre hp | exact mem_pre3 hp | (simp only [List.mem_append] at hp ⊢; grind)); simp only at q1 q2; omega)
  replace cW0_3 : w13.cell? ⟨w3.heap.size, 3, none⟩ = some (.int .i64 y0.last) := cellw blw2 hw13 cW0_3 (fun hp => by have q1 := FR5.ge _ (by first | exact hp | exact List.mem_append.2 (.inl hp) | exact List.mem_append.2 (.inr hp) | exact List.mem_append.2 (.inr (List.mem_append.2 (.inl hp))) | exact List.mem_append.2 (.inr (List.mem_append.2 (.inr hp))) | exact mem_pre hp | exact mem_pre3 hp | (simp only [List.mem_append] at hp ⊢; grind)); have q2 := UB5 _ (by first | exact hp | exact List.mem_append.2 (.inl hp) | exact List.mem_append.2 (.inr hp) | exact List.mem_append.2 (.inr (List.mem_append.2 (.inl hp))) | exact List.mem_append.2 (.inr (List.mem_append.2 (.inr hp))) | exact mem_pre hp | exact mem_pre3 hp | (simp only [List.mem_append] at hp ⊢; grind)); simp only at q1 q2; omega)
  replace cxx_0 : w13.cell? ⟨w4.heap.size, 0, none⟩ = some (.bool x.shut) := cellw blw2 hw13 cxx_0 (fun hp => by have q1 := FR5.ge _ (by first | exact hp | exact List.mem_append.2 (.inl hp) | exact List.mem_append.2 (.inr hp) | exact List.mem_append.2 (.inr (List.mem_append.2 (.inl hp))) | exact List.mem_append.2 (.inr (List.mem_append.2 (.inr hp))) | exact mem_pre hp | exact mem_pre3 hp | (simp only [List.mem_append] at hp ⊢; grind)); have q2 := UB5 _ (by first | exact hp | exact List.mem_append.2 (.inl hp) | exact List.mem_append.2 (.inr hp) | exact List.mem_append.2 (.inr (List.mem_append.2 (.inl hp))) | exact List.mem_append.2 (.inr (List.mem_append.2 (.inr hp))) | exact mem_pre hp | exact mem_pre3 hp | (simp only [List.mem_append] at hp ⊢; grind)); simp only at q1 q2; omega)
  replace cxx_1 : w13.cell? ⟨w4.heap.size, 1, none⟩ = some (.slice a4_docs x.docs.length c4_docs) := cellw blw2 hw13 cxx_1 (fun hp => by have q1 := FR5.ge _ (by first | exact hp | exact List.mem_append.2 (.inl hp) | exact List.mem_append.2 (.inr hp) | exact List.mem_append.2 (.inr (List.mem_append.2 (.inl hp))) | exact List.mem_append.2 (.inr (List.mem_append.2 (.inr hp))) | exact mem_pre hp | exact mem_pre3 hp | (simp only [List.mem_append] at hp ⊢; grind)); have q2 := UB5 _ (by first | exact hp | exact List.mem_append.2 (.inl hp) | exact List.mem_append.2 (.inr hp) | exact List.mem_append.2 (.inr (List.mem_append.2 (.inl hp))) | exact List.mem_append.2 (.inr (List.mem_append.2 (.inr hp))) | exact mem_pre hp | exact mem_pre3 hp | (simp only [List.mem_append] at hp ⊢; grind)); simp only at q1 q2; omega)
  replace cxx_2 : w13.cell? ⟨w4.heap.size, 2, none⟩ = some (.slice a4_subs x.subs.length c4_subs) := cellw blw2 hw13 cxx_2 (fun hp => by have q1 := FR5.ge _ (by first | exact hp | exact List.mem_append.2 (.inl hp) | exact List.mem_append.2 (.inr hp) | exact List.mem_append.2 (.inr (List.mem_append.2 (.inl hp))) | exact List.mem_append.2 (.inr (List.mem_append.2 (.inr hp))) | exact mem_pre hp | exact mem_pre3 hp | (simp only [List.mem_append] at hp ⊢; grind)); have q2 := UB5 _ (by first | exact hp | exact List.mem_append.2 (.inl hp) | exact List.mem_append.2 (.inr hp) | exact List.mem_append.2 (.inr (List.mem_append.2 (.inl hp))) | exact List.mem_append.2 (.inr (List.mem_append.2 (.inr hp))) | exact mem_pre hp | exact mem_pre3 hp | (simp only [List.mem_append] at hp ⊢; grind)); simp only at q1 q2; omega)
  replace cxx_3 : w13.cell? ⟨w4.heap.size, 3, none⟩ = some (.int .i64 x.last) := cellw blw2 hw13 cxx_3 (fun hp => by have q1 := FR5.ge _ (by first | exact hp | exact List.mem_append.2 (.inl hp) | exact List.mem_append.2 (.inr hp) | exact List.mem_append.2 (.inr (List.mem_append.2 (.inl hp))) | exact List.mem_append.2 (.inr (List.mem_append.2 (.inr hp))) | exact mem_pre hp | exact mem_pre3 hp | (simp only [List.mem_append] at hp ⊢; grind)); have q2 := UB5 _ (by first | exact hp | exact List.mem_append.2 (.inl hp) | exact List.mem_append.2 (.inr hp) | exact List.mem_append.2 (.inr (List.mem_append.2 (.inl hp))) | exact List.mem_append.2 (.inr (List.mem_append.2 (.inr hp))) | exact mem_pre hp | exact mem_pre3 hp | (simp only [List.mem_append] at hp ⊢; grind)); simp only at q1 q2; omega)
  replace cG0_0 : w13.cell? ⟨w5.heap.size, 0, none⟩ = some (.bool y0.shut) := cellw blw2 hw13 cG0_0 (fun hp => by have q1 := FR5.ge _ (by first | exact hp | exact List.mem_append.2 (.inl hp) | exact List.mem_append.2 (.inr hp) | exact List.mem_append.2 (.inr (List.mem_append.2 (.inl hp))) | exact List.mem_append.2 (.inr (List.mem_append.2 (.inr hp))) | exact mem_pre hp | exact mem_pre3 hp | (simp only [List.mem_append] at hp ⊢; grind)); have q2 := UB5 _ (by first | exact hp | exact List.mem_append.2 (.inl hp) | exact List.mem_append.2 (.inr hp) | exact List.mem_append.2 (.inr (List.mem_append.2 (.inl hp))) | exact List.mem_append.2 (.inr (List.mem_append.2 (.inr hp))) | exact mem_pre hp | exact mem_pre3 hp | (simp only [List.mem_append] at hp ⊢; grind)); simp only at q1 q2; omega)
  replace cG0_1 : w13.cell? ⟨w5.heap.size, 1, none⟩ = some (.slice a5_0_docs y0.docs.length c5_0_docs) := cellw blw2 hw13 cG0_1 (fun hp => by have q1 := FR5.ge _ (by first | exact hp | exact List.mem_append.2 (.inl hp) | exact List.mem_append.2 (.inr hp) | exact List.mem_append.2 (.inr (List.mem_append.2 (.inl hp))) | exact List.mem_append.2 (.inr (List.mem_append.2 (.inr hp))) | exact mem_pre hp | exact mem_pre3 hp | (simp only [List.mem_append] at hp ⊢; grind)); have q2 := UB5 _ (by first | exact hp | exact List.mem_append.2 (.inl hp) | exact List.mem_append.2 (.inr hp) | exact List.mem_append.2 (.inr (List.mem_append.2 (.inl hp))) | exact List.mem_append.2 (.inr (List.mem_append.2 (.inr hp))) | exact mem_pre hp | exact mem_pre3 hp | (simp only [List.mem_append] at hp ⊢; grind)); simp only at q1 q2; omega)
  replace cG0_2 : w13.cell? ⟨w5.heap.size, 2, none⟩ = some (.slice a5_0_subs y0.subs.length c5_0_subs) := cellw blw2 hw13 cG0_2 (fun hp => by have q1 := FR5.ge _ (by first | exact hp | exact List.mem_append.2 (.inl hp) | exact List.mem_append.2 (.inr hp) | exact List.mem_append.2 (.inr (List.mem_append.2 (.inl hp))) | exact List.mem_append.2 (.inr (List.mem_append.2 (.inr hp))) | exact mem_pre hp | exact mem_pre3 hp | (simp only [List.mem_append] at hp ⊢; grind)); have q2 := UB5 _ (by first | exact hp | exact List.mem_append.2 (.inl hp) | exact List.mem_append.2 (.inr hp) | exact List.mem_append.2 (.inr (List.mem_append.2 (.inl hp))) | exact List.mem_append.2 (.inr (List.mem_append.2 (.inr hp))) | exact mem_pre hp | exact mem_pre3 hp | (simp only [List.mem_append] at hp ⊢; grind)); simp only at q1 q2; omega)
  replace cG0_3 : w13.cell? ⟨w5.heap.size, 3, none⟩ = some (.int .i64 y0.last) := cellw blw2 hw13 cG0_3 (fun hp => by have q1 := FR5.ge _ (by first | exact hp | exact List.mem_append.2 (.inl hp) | exact List.mem_append.2 (.inr hp) | exact List.mem_append.2 (.inr (List.mem_append.2 (.inl hp))) | exact List.mem_append.2 (.inr (List.mem_append.2 (.inr hp))) | exact mem_pre hp | exact mem_pre3 hp | (simp only [List.mem_append] at hp ⊢; grind)); have q2 := UB5 _ (by first | exact hp | exact List.mem_append.2 (.inl hp) | exact List.mem_append.2 (.inr hp) | exact List.mem_append.2 (.inr (List.mem_append.2 (.inl hp))) | exact List.mem_append.2 (.inr (List.mem_append.2 (.inr hp))) | exact mem_pre hp | exact mem_pre3 hp | (simp only [List.mem_append] at hp ⊢; grind)); simp only at q1 q2; omega)
  replace K3 : Kept (f3_0_docs ++ (f3_0_subs ++ f3_1)) w3 w13 := K3.wr2 blw2 hw13 (fun p hp => Nat.lt_of_lt_of_le (UB3 p hp) (by omega)) (fun q hq hp => by have q1 := FR5.ge q (by first | exact hp | exact List.mem_append.2 (.inl hp) | exact List.mem_append.2 (.inr hp) | exact List.mem_append.2 (.inr (List.mem_append.2 (.inl hp))) | exact List.mem_append.2 (.inr (List.mem_append.2 (.inr hp))) | exact mem_pre hp | exact mem_pre3 hp | (simp only [List.mem_append] at hp ⊢; grind)); have q2 := UB5 q (by first | exact hp | exact List.mem_append.2 (.inl hp) | exact List.mem_append.2 (.inr hp) | exact List.mem_append.2 (.inr (List.mem_append.2 (.inl hp))) | exact List.mem_append.2 (.inr (List.mem_append.2 (.inr hp))) | exact mem_pre hp | exact mem_pre3 hp | (simp only [List.mem_append] at hp ⊢; grind)); first | (have q3 := UB3 q hq; omega) | (have q3 := FR3.ge q hq; omega))
  have B13 : Below (w4.heap.size + 1) w12 w13 := wrb hw13 blw2 (by omega) (fun p hp => FR5.ge p (by first | exact hp | exact List.mem_append.2 (.inl hp) | exact List.mem_append.2 (.inr hp) | exact List.mem_append.2 (.inr (List.mem_append.2 (.inl hp))) | exact List.mem_append.2 (.inr (List.mem_append.2 (.inr hp))) | exact mem_pre hp | exact mem_pre3 hp | (simp only [List.mem_append] at hp ⊢; grind)))
  replace FR5 : Fresh (w4.heap.size + 1) w13 (f5_0_docs ++ (f5_0_subs ++ f5_1)) := FR5.wr2 blw2 hw13 (fun p hp => Nat.lt_of_lt_of_le (UB5 p hp) (by omega))
  replace S5_0_docs := T13_0_docs
  replace S5_0_subs := T13_0_subs
  replace S5_1 := S5_1.wr2 blw2 hw13 (fun p hp hq => by have hh := FR5.nodup; (try simp only [List.nodup_append] at hh); (try simp only [List.mem_append] at hh hq); grind)
  have K5 : Kept (f5_0_docs ++ (f5_0_subs ++ f5_1)) w13 w13 := Kept.refl _ _
  have z13_p0 : w.heap.size < w13.heap.size := (by omega)
  have z13_W0 : w3.heap.size < w13.heap.size := (by omega)
  have z13_xx : w4.heap.size < w13.heap.size := (by omega)
  have z13_G0 : w5.heap.size < w13.heap.size := (by omega)
  obtain ⟨m1, hm1, hn1⟩ : ∃ m : Int, m = 1 + ((cntL y0.docs + cntL y0.subs : Nat) : Int) ∧ 1 ≤ m := ⟨_, rfl, by omega⟩
  obtain rfl : e = .returned (.int .i64 m1) := he.trans (by rw [hm1])
  have ho1 : m1 ≤ 1 + 1099511627776 := by omega
  have HM1 : Hid (m1 = 1 + ((cntL y0.docs + cntL y0.subs : Nat) : Int)) := Lib.hid hm1
  clear he hm1
  replace S5_0_docs := S5_0_docs.kept K5 (by intro p hp; simp only [List.mem_append]; simp [hp])
  replace S5_0_subs := S5_0_subs.kept K5 (by intro p hp; simp only [List.mem_append]; simp [hp])
  replace S5_1 := S5_1.kept K5 (by intro p hp; simp only [List.mem_append]; simp [hp])
  replace FR5 := FR5.kept K5 (fun _ h => h)
  clear K5
  go_wp2_with fail
  refine (markIntS_c (w4.heap.size + 1) _ _ f5_1 _ m1 (by omega) (by omega) (S5_1.belowW blw2) (FR5.right.right.belowL blw2 (fun p hp => Nat.lt_of_lt_of_le (UB5 p (by first | exact hp | exact List.mem_append.2 (.inl hp) | exact List.mem_append.2 (.inr hp) | exact List.mem_append.2 (.inr (List.mem_append.2 (.inl hp))) | exact List.mem_append.2 (.inr (List.mem_append.2 (.inr hp))) | exact mem_pre hp | exact mem_pre3 hp | (simp only [List.mem_append] at hp ⊢; grind))) (by omega)))).mono ?_
  rintro e w14 ⟨he, T14_1, hw14⟩
  have s14 : w13.heap.size ≤ w14.heap.size := wrs hw14 blw2
  replace cp0_0 : w14.cell? ⟨w.heap.size, 0, none⟩ = some (.bool x.shut) := cellw blw2 hw14 cp0_0 (fun hp => by have q1 := FR5.ge _ (by first | exact hp | exact List.mem_append.2 (.inl hp) | exact List.mem_append.2 (.inr hp) | exact List.mem_append.2 (.inr (List.mem_append.2 (.inl hp))) | exact List.mem_append.2 (.inr (List.mem_append.2 (.inr hp))) | exact mem_pre hp | exact mem_pre3 hp | (simp only [List.mem_append] at hp ⊢; grind)); have q2 := UB5 _ (by first | exact hp | exact List.mem_append.2 (.inl hp) | exact List.mem_append.2 (.inr hp) | exact List.mem_append.2 (.inr (List.mem_append.2 (.inl hp))) | exact List.mem_append.2 (.inr (List.mem_append.2 (.inr hp))) | exact mem_pre hp | exact mem_pre3 hp | (simp only [List.mem_append] at hp ⊢; grind)); simp only at q1 q2; omega)
  replace cp0_1 : w14.cell? ⟨w.heap.size, 1, none⟩ = some (v_x_docs) := cellw blw2 hw14 cp0_1 (fun hp => by have q1 := FR5.ge _ (by first | exact hp | exact List.mem_append.2 (.inl hp) | exact List.mem_append.2 (.inr hp) | exact List.mem_append.2 (.inr (List.mem_append.2 (.inl hp))) | exact List.mem_append.2 (.inr (List.mem_append.2 (.inr hp))) | exact mem_pre hp | exact mem_pre3 hp | (simp only [List.mem_append] at hp ⊢; grind)); have q2 := UB5 _ (by first | exact hp | exact List.mem_append.2 (.inl hp) | exact List.mem_append.2 (.inr hp) | exact List.mem_append.2 (.inr (List.mem_append.2 (.inl hp))) | exact List.mem_append.2 (.inr (List.mem_append.2 (.inr hp))) | exact mem_pre hp | exact mem_pre3 hp | (simp only [List.mem_append] at hp ⊢; grind)); simp only at q1 q2; omega)
  replace cp0_2 : w14.cell? ⟨w.heap.size, 2, none⟩ = some (v_x_subs) := cellw blw2 hw14 cp0_2 (fun hp => by have q1 := FR5.ge _ (by first | exact hp | exact List.mem_append.2 (.inl hp) | exact List.mem_append.2 (.inr hp) | exact List.mem_append.2 (.inr (List.mem_append.2 (.inl hp))) | exact List.mem_append.2 (.inr (List.mem_append.2 (.inr hp))) | exact mem_pre hp | exact mem_pre3 hp | (simp only [List.mem_append] at hp ⊢; grind)); have q2 := UB5 _ (by first | exact hp | exact List.mem_append.2 (.inl hp) | exact List.mem_append.2 (.inr hp) | exact List.mem_append.2 (.inr (List.mem_append.2 (.inl hp))) | exact List.mem_append.2 (.inr (List.mem_append.2 (.inr hp))) | exact mem_pre hp | exact mem_pre3 hp | (simp only [List.mem_append] at hp ⊢; grind)); simp only at q1 q2; omega)
  replace cp0_3 : w14.cell? ⟨w.heap.size, 3, none⟩ = some (.int .i64 x.last) := cellw blw2 hw14 cp0_3 (fun hp => by have q1 := FR5.ge _ (by first | exact hp | exact List.mem_append.2 (.inl hp) | exact List.mem_append.2 (.inr hp) | exact List.mem_append.2 (.inr (List.mem_append.2 (.inl hp))) | exact List.mem_append.2 (.inr (List.mem_append.2 (.inr hp))) | exact mem_pre hp | exact mem_pre3 hp | (simp only [List.mem_append] at hp ⊢; grind)); have q2 := UB5 _ (by first | exact hp | exact List.mem_append.2 (.inl hp) | exact List.mem_append.2 (.inr hp) | exact List.mem_append.2 (.inr (List.mem_append.2 (.inl hp))) | exact List.mem_append.2 (.inr (List.mem_append.2 (.inr hp))) | exact mem_pre hp | exact mem_pre3 hp | (simp only [List.mem_append] at hp ⊢; grind)); simp only at q1 q2; omega)
  replace cW0_0 : w14.cell? ⟨w3.heap.size, 0, none⟩ = some (.bool y0.shut) := cellw blw2 hw14 cW0_0 (fun hp => by have q1 := FR5.ge _ (by first | exact hp | exact List.mem_append.2 (.inl hp) | exact List.mem_append.2 (.inr hp) | exact List.mem_append.2 (.inr (List.mem_append.2 (.inl hp))) | exact List.mem_append.2 (.inr (List.mem_append.2 (.inr hp))) | exact mem_pre hp | exact mem_pre3 hp | (simp only [List.mem_append] at hp ⊢; grind)); have q2 := UB5 _ (by first | exact hp | exact List.mem_append.2 (.inl hp) | exact List.mem_append.2 (.inr hp) | exact List.mem_append.2 (.inr (List.mem_append.2 (.inl hp))) | exact List.mem_append.2 (.inr (List.mem_append.2 (.inr hp))) | exact mem_pre hp | exact mem_pre3 hp | (simp only [List.mem_append] at hp ⊢; grind)); simp only at q1 q2; omega)
  replace cW0_1 : w14.cell? ⟨w3.heap.size, 1, none⟩ = some (.slice a3_0_docs y0.docs.length c3_0_docs) := cellw blw2 hw14 cW0_1 (fun hp => by have q1 := FR5.ge _ (by first | exact hp | exact List.mem_append.2 (.inl hp) | exact List.mem_append.2 (.inr hp) | exact List.mem_append.2 (.inr (List.mem_append.2 (.inl hp))) | exact List.mem_append.2 (.inr (List.mem_append.2 (.inr hp))) | exact mem_pre hp | exact mem_pre3 hp | (simp only [List.mem_append] at hp ⊢; grind)); have q2 := UB5 _ (by first | exact hp | exact List.mem_append.2 (.inl hp) | exact List.mem_append.2 (.inr hp) | exact List.mem_append.2 (.inr (List.mem_append.2 (.inl hp))) | exact List.mem_append.2 (.inr (List.mem_append.2 (.inr hp))) | exact mem_pre hp | exact mem_pre3 hp | (simp only [List.mem_append] at hp ⊢; grind)); simp only at q1 q2; omega)
  replace cW0_2 : w14.cell? ⟨w3.heap.size, 2, none⟩ = some (.slice a3_0_subs y0.subs.length c3_0_subs) := cellw blw2 hw14 cW0_2 (fun hp => by have q1 := FR5.ge _ (by first | exact hp | exact List.mem_append.2 (.inl hp) | exact List.mem_append.2 (.inr hp) | exact List.mem_append.2 (.inr (List.mem_append.2 (.inl hp))) | exact List.mem_append.2 (.inr (List.mem_append.2 (.inr hp))) | exact mem_pre hp | exact mem_pre3 hp | (simp only [List.mem_append] at hp ⊢; grind)); have q2 := UB5 _ (by first | exact hp | exact List.mem_append.2 (.inl hp) | exact List.mem_append.2 (.inr hp) | exact List.mem_append.2 (.inr (List.mem_append.2 (.inl hp))) | exact List.mem_append.2 (.inr (List.mem_append.2 (.inr hp))) | exact mem_pre hp | exact mem_pre3 hp | (simp only [List.mem_append] at hp ⊢; grind)); simp only at q1 q2; omega)
  replace cW0_3 : w14.cell? ⟨w3.heap.size, 3, none⟩ = some (.int .i64 y0.last) := cellw blw2 hw14 cW0_3 (fun hp => by have q1 := FR5.ge _ (by first | exact hp | exact List.mem_append.2 (.inl hp) | exact List.mem_append.2 (.inr hp) | exact List.mem_append.2 (.inr (List.mem_append.2 (.inl hp))) | exact List.mem_append.2 (.inr (List.mem_append.2 (.inr hp))) | exact mem_pre hp | exact mem_pre3 hp | (simp only [List.mem_append] at hp ⊢; grind)); have q2 := UB5 _ (by first | exact hp | exact List.mem_append.2 (.inl hp) | exact List.mem_append.2 (.inr hp) | exact List.mem_append.2 (.inr (List.mem_append.2 (.inl hp))) | exact List.mem_append.2 (.inr (List.mem_append.2 (.inr hp))) | exact mem_pre hp | exact mem_pre3 hp | (simp only [List.mem_append] at hp ⊢; grind)); simp only at q1 q2; omega)
  replace cxx_0 : w14.cell? ⟨w4.heap.size, 0, none⟩ = some (.bool x.shut) := cellw blw2 hw14 cxx_0 (fun hp => by have q1 := FR5.ge _ (by first | exact hp | exact List.mem_append.2 (.inl hp) | exact List.mem_append.2 (.inr hp) | exact List.mem_append.2 (.inr (List.mem_append.2 (.inl hp))) | exact List.mem_append.2 (.inr (List.mem_append.2 (.inr hp))) | exact mem_pre hp | exact mem_pre3 hp | (simp only [List.mem_append] at hp ⊢; grind)); have q2 := UB5 _ (by first | exact hp | exact List.mem_append.2 (.inl hp) | exact List.mem_append.2 (.inr hp) | exact List.mem_append.2 (.inr (List.mem_append.2 (.inl hp))) | exact List.mem_append.2 (.inr (List.mem_append.2 (.inr hp))) | exact mem_pre hp | exact mem_pre3 hp | (simp only [List.mem_append] at hp ⊢; grind)); simp only at q1 q2; omega)
  replace cxx_1 : w14.cell? ⟨w4.heap.size, 1, none⟩ = some (.slice a4_docs x.docs.length c4_docs) := cellw blw2 hw14 cxx_1 (fun hp => by have q1 := FR5.ge _ (by first | exact hp | exact List.mem_append.2 (.inl hp) | exact List.mem_append.2 (.inr hp) | exact List.mem_append.2 (.inr (List.mem_append.2 (.inl hp))) | exact List.mem_append.2 (.inr (List.mem_append.2 (.inr hp))) | exact mem_pre hp | exact mem_pre3 hp | (simp only [List.mem_append] at hp ⊢; grind)); have q2 := UB5 _ (by first | exact hp | exact List.mem_append.2 (.inl hp) | exact List.mem_append.2 (.inr hp) | exact List.mem_append.2 (.inr (List.mem_append.2 (.inl hp))) | exact List.mem_append.2 (.inr (List.mem_append.2 (.inr hp))) | exact mem_pre hp | exact mem_pre3 hp | (simp only [List.mem_append] at hp ⊢; grind)); simp only at q1 q2; omega)
  replace cxx_2 : w14.cell? ⟨w4.heap.size, 2, none⟩ = some (.slice a4_subs x.subs.length c4_subs) := cellw blw2 hw14 cxx_2 (fun hp => by have q1 := FR5.ge _ (by first | exact hp | exact List.mem_append.2 (.inl hp) | exact List.mem_append.2 (.inr hp) | exact List.mem_append.2 (.inr (List.mem_append.2 (.inl hp))) | exact List.mem_append.2 (.inr (List.mem_append.2 (.inr hp))) | exact mem_pre hp | exact mem_pre3 hp | (simp only [List.mem_append] at hp ⊢; grind)); have q2 := UB5 _ (by first | exact hp | exact List.mem_append.2 (.inl hp) | exact List.mem_append.2 (.inr hp) | exact List.mem_append.2 (.inr (List.mem_append.2 (.inl hp))) | exact List.mem_append.2 (.inr (List.mem_append.2 (.inr hp))) | exact mem_pre hp | exact mem_pre3 hp | (simp only [List.mem_append] at hp ⊢; grind)); simp only at q1 q2; omega)
  replace cxx_3 : w14.cell? ⟨w4.heap.size, 3, none⟩ = some (.int .i64 x.last) := cellw blw2 hw14 cxx_3 (fun hp => by have q1 := FR5.ge _ (by first | exact hp | exact List.mem_append.2 (.inl hp) | exact List.mem_append.2 (.inr hp) | exact List.mem_append.2 (.inr (List.mem_append.2 (.inl hp))) | exact List.mem_append.2 (.inr (List.mem_append.2 (.inr hp))) | exact mem_pre hp | exact mem_pre3 hp | (simp only [List.mem_append] at hp ⊢; grind)); have q2 := UB5 _ (by first | exact hp | exact List.mem_append.2 (.inl hp) | exact List.mem_append.2 (.inr hp) | exact List.mem_append.2 (.inr (List.mem_append.2 (.inl hp))) | exact List.mem_append.2 (.inr (List.mem_append.2 (.inr hp))) | exact mem_pre hp | exact mem_pre3 hp | (simp only [List.mem_append] at hp ⊢; grind)); simp only at q1 q2; omega)
  replace cG0_0 : w14.cell? ⟨w5.heap.size, 0, none⟩ = some (.bool y0.shut) := cellw blw2 hw14 cG0_0 (fun hp => by have q1 := FR5.ge _ (by first | exact hp | exact List.mem_append.2 (.inl hp) | exact List.mem_append.2 (.inr hp) | exact List.mem_append.2 (.inr (List.mem_append.2 (.inl hp))) | exact List.mem_append.2 (.inr (List.mem_append.2 (.inr hp))) | exact mem_pre hp | exact mem_pre3 hp | (simp only [List.mem_append] at hp ⊢; grind)); have q2 := UB5 _ (by first | exact hp | exact List.mem_append.2 (.inl hp) | exact List.mem_append.2 (.inr hp) | exact List.mem_append.2 (.inr (List.mem_append.2 (.inl hp))) | exact List.mem_append.2 (.inr (List.mem_append.2 (.inr hp))) | exact mem_pre hp | exact mem_pre3 hp | (simp only [List.mem_append] at hp ⊢; grind)); simp only at q1 q2; omega)
  replace cG0_1 : w14.cell? ⟨w5.heap.size, 1, none⟩ = some (.slice a5_0_docs y0.docs.length c5_0_docs) := cellw blw2 hw14 cG0_1 (fun hp => by have q1 := FR5.ge _ (by first | exact hp | exact List.mem_append.2 (.inl hp) | exact List.mem_append.2 (.inr hp) | exact List.mem_append.2 (.inr (List.mem_append.2 (.inl hp))) | exact List.mem_append.2 (.inr (List.mem_append.2 (.inr hp))) | exact mem_pre hp | exact mem_pre3 hp | (simp only [List.mem_append] at hp ⊢; grind)); have q2 := UB5 _ (by first | exact hp | exact List.mem_append.2 (.inl hp) | exact List.mem_append.2 (.inr hp) | exact List.mem_append.2 (.inr (List.mem_append.2 (.inl hp))) | exact List.mem_append.2 (.inr (List.mem_append.2 (.inr hp))) | exact mem_pre hp | exact mem_pre3 hp | (simp only [List.mem_append] at hp ⊢; grind)); simp only at q1 q2; omega)
  replace cG0_2 : w14.cell? ⟨w5.heap.size, 2, none⟩ = some (.slice a5_0_subs y0.subs.length c5_0_subs) := cellw blw2 hw14 cG0_2 (fun hp => by have q1 := FR5.ge _ (by first | exact hp | exact List.mem_append.2 (.inl hp) | exact List.mem_append.2 (.inr hp) | exact List.mem_append.2 (.inr (List.mem_append.2 (.inl hp))) | exact List.mem_append.2 (.inr (List.mem_append.2 (.inr hp))) | exact mem_pre hp | exact mem_pre3 hp | (simp only [List.mem_append] at hp ⊢; grind)); have q2 := UB5 _ (by first | exact hp | exact List.mem_append.2 (.inl hp) | exact List.mem_append.2 (.inr hp) | exact List.mem_append.2 (.inr (List.mem_append.2 (.inl hp))) | exact List.mem_append.2 (.inr (List.mem_append.2 (.inr hp))) | exact mem_pre hp | exact mem_pre3 hp | (simp only [List.mem_append] at hp ⊢; grind)); simp only at q1 q2; omega)
  replace cG0_3 : w14.cell? ⟨w5.heap.size, 3, none⟩ = some (.int .i64 y0.last) := cellw blw2 hw14 cG0_3 (fun hp => by have q1 := FR5.ge _ (by first | exact hp | exact List.mem_append.2 (.inl hp) | exact List.mem_append.2 (.inr hp) | exact List.mem_append.2 (.inr (List.mem_append.2 (.inl hp))) | exact List.mem_append.2 (.inr (List.mem_append.2 (.inr hp))) | exact mem_pre hp | exact mem_pre3 hp | (simp only [List.mem_append] at hp ⊢; grind)); have q2 := UB5 _ (by first | exact hp | exact List.mem_append.2 (.inl hp) | exact List.mem_append.2 (.inr hp) | exact List.mem_append.2 (.inr (List.mem_append.2 (.inl hp))) | exact List.mem_append.2 (.inr (List.mem_append.2 (.inr hp))) | exact mem_pre hp | exact mem_pre3 hp | (simp only [List.mem_append] at hp ⊢; grind)); simp only at q1 q2; omega)
  replace K3 : Kept (f3_0_docs ++ (f3_0_subs ++ f3_1)) w3 w14 := K3.wr2 blw2 hw14 (fun p hp => Nat.lt_of_lt_of_le (UB3 p hp) (by omega)) (fun q hq hp => by have q1 := FR5.ge q (by first | exact hp | exact List.mem_append.2 (.inl hp) | exact List.mem_append.2 (.inr hp) | exact List.mem_append.2 (.inr (List.mem_append.2 (.inl hp))) | exact List.mem_append.2 (.inr (List.mem_append.2 (.inr hp))) | exact mem_pre hp | exact mem_pre3 hp | (simp only [List.mem_append] at hp ⊢; grind)); have q2 := UB5 q (by first | exact hp | exact List.mem_append.2 (.inl hp) | exact List.mem_append.2 (.inr hp) | exact List.mem_append.2 (.inr (List.mem_append.2 (.inl hp))) | exact List.mem_append.2 (.inr (List.mem_append.2 (.inr hp))) | exact mem_pre hp | exact mem_pre3 hp | (simp only [List.mem_append] at hp ⊢; grind)); first | (have q3 := UB3 q hq; omega) | (have q3 := FR3.ge q hq; omega))
  have B14 : Below (w4.heap.size + 1) w13 w14 := wrb hw14 blw2 (by omega) (fun p hp => FR5.ge p (by first | exact hp | exact List.mem_append.2 (.inl hp) | exact List.mem_append.2 (.inr hp) | exact List.mem_append.2 (.inr (List.mem_append.2 (.inl hp))) | exact List.mem_append.2 (.inr (List.mem_append.2 (.inr hp))) | exact mem_pre hp | exact mem_pre3 hp | (simp only [List.mem_append] at hp ⊢; grind)))
  replace FR5 : Fresh (w4.heap.size + 1) w14 (f5_0_docs ++ (f5_0_subs ++ f5_1)) := FR5.wr2 blw2 hw14 (fun p hp => Nat.lt_of_lt_of_le (UB5 p hp) (by omega))
  replace S5_0_docs := S5_0_docs.wr2 blw2 hw14 (fun p hp hq => by have hh := FR5.nodup; (try simp only [List.nodup_append] at hh); (try simp only [List.mem_append] at hh hq); grind)
  replace S5_0_subs := S5_0_subs.wr2 blw2 hw14 (fun p hp hq => by have hh := FR5.nodup; (try simp only [List.nodup_append] at hh); (try simp only [List.mem_append] at hh hq); grind)
  replace S5_1 := T14_1
  have K5 : Kept (f5_0_docs ++ (f5_0_subs ++ f5_1)) w14 w14 := Kept.refl _ _
  have z14_p0 : w.heap.size < w14.heap.size := (by omega)
  have z14_W0 : w3.heap.size < w14.heap.size := (by omega)
  have z14_xx : w4.heap.size < w14.heap.size := (by omega)
  have z14_G0 : w5.heap.size < w14.heap.size := (by omega)
  obtain ⟨m2, hm2, hn2⟩ : ∃ m : Int, m = m1 + ((cntL y1 : Nat) : Int) ∧ m1 ≤ m := ⟨_, rfl, by omega⟩
  obtain rfl : e = .returned (.int .i64 m2) := he.trans (by rw [hm2])
  have ho2 : m2 ≤ m1 + 1099511627776 := by omega
  have HM2 : Hid (m2 = m1 + ((cntL y1 : Nat) : Int)) := Lib.hid hm2
  clear he hm2
  have hx1 : decide (m1 < 0) = false := by simp; omega
  have hy1 : ¬ m1 < 0 := by omega
  have hx2 : decide (m2 < 0) = false := by simp; omega
  have hy2 : ¬ m2 < 0 := by omega
  have hz : (m2 != m2) = false := by simp
  go_wp2_with fail
  refine (heldHub_c y0.shut y0.last _ _ _ _ _ 1 (by omega) (by (try simp only [cntL_mkL]); omega) ((⟨_, S5_0_docs.kept (K5.below (show Below w14.heap.size w14 _ from blw2) (fun p hp => Nat.lt_of_lt_of_le (UB5 p hp) (by omega))) (by intro p hp; simp only [List.mem_append]; simp [hp])⟩ : RdS _ _ _)) ((⟨_, S5_0_subs.kept (K5.below (show Below w14.heap.size w14 _ from blw2) (fun p hp => Nat.lt_of_lt_of_le (UB5 p hp) (by omega))) (by intro p hp; simp only [List.mem_append]; simp [hp])⟩ : RdS _ _ _)) (by (try simp only [cntL_mkL]); exact mkL_mkL _ _) (by (try simp only [cntL_mkL]); exact mkL_mkL _ _)).mono ?_
  rintro e w15 ⟨he, hb15⟩
  obtain rfl : e = .returned (.int .i64 m1) := he.trans (by (try simp only [cntL_mkL]); rw [HM1.out])
  clear he
  have B15 : Below w14.heap.size w14 w15 := blw2
  have s15 : w14.heap.size ≤ w15.heap.size := (by have := hb15.size; (try simp at this); omega)
  have hh := mc8 B15 cp0_0 cp0_1 cp0_2 cp0_3 cW0_0 cW0_1 cW0_2 cW0_3
  clear cp0_0 cp0_1 cp0_2 cp0_3 cW0_0 cW0_1 cW0_2 cW0_3
  obtain ⟨cp0_0, cp0_1, cp0_2, cp0_3, cW0_0, cW0_1, cW0_2, cW0_3⟩ := hh
  have hh := mc8 B15 cxx_0 cxx_1 cxx_2 cxx_3 cG0_0 cG0_1 cG0_2 cG0_3
  clear cxx_0 cxx_1 cxx_2 cxx_3 cG0_0 cG0_1 cG0_2 cG0_3
  obtain ⟨cxx_0, cxx_1, cxx_2, cxx_3, cG0_0, cG0_1, cG0_2, cG0_3⟩ := hh
  replace K3 : Kept (f3_0_docs ++ (f3_0_subs ++ f3_1)) w3 w15 := K3.below B15 (fun p hp => Nat.lt_of_lt_of_le (UB3 p hp) (by omega))
  replace K5 : Kept (f5_0_docs ++ (f5_0_subs ++ f5_1)) w14 w15 := K5.below B15 (fun p hp => Nat.lt_of_lt_of_le (UB5 p hp) (by omega))
  have z15_p0 : w.heap.size < w15.heap.size := (by omega)
  have z15_W0 : w3.heap.size < w15.heap.size := (by omega)
  have z15_xx : w4.heap.size < w15.heap.size := (by omega)
  have z15_G0 : w5.heap.size < w15.heap.size := (by omega)
  clear hb15
  go_wp2_with fail
  refine (heldIntS_c _ _ _ m1 (by omega) (by rw [cntL_mkL]; omega) ((⟨_, S5_1.kept (K5.below (show Below w15.heap.size w15 _ from blw2) (fun p hp => Nat.lt_of_lt_of_le (UB5 p hp) (by omega))) (by intro p hp; simp only [List.mem_append]; simp [hp])⟩ : RdS _ _ _)) (mkL_mkL _ _)).mono ?_
  rintro e w16 ⟨he, hb16⟩
  obtain rfl : e = .returned (.int .i64 m2) := he.trans (by (try simp only [cntL_mkL]); rw [HM2.out])
  clear he
  have B16 : Below w15.heap.size w15 w16 := blw2
  have s16 : w15.heap.size ≤ w16.heap.size := (by have := hb16.size; (try simp at this); omega)
  have hh := mc8 B16 cp0_0 cp0_1 cp0_2 cp0_3 cW0_0 cW0_1 cW0_2 cW0_3
  clear cp0_0 cp0_1 cp0_2 cp0_3 cW0_0 cW0_1 cW0_2 cW0_3
  obtain ⟨cp0_0, cp0_1, cp0_2, cp0_3, cW0_0, cW0_1, cW0_2, cW0_3⟩ := hh
  have hh := mc8 B16 cxx_0 cxx_1 cxx_2 cxx_3 cG0_0 cG0_1 cG0_2 cG0_3
  clear cxx_0 cxx_1 cxx_2 cxx_3 cG0_0 cG0_1 cG0_2 cG0_3
  obtain ⟨cxx_0, cxx_1, cxx_2, cxx_3, cG0_0, cG0_1, cG0_2, cG0_3⟩ := hh
  replace K3 : Kept (f3_0_docs ++ (f3_0_subs ++ f3_1)) w3 w16 := K3.below B16 (fun p hp => Nat.lt_of_lt_of_le (UB3 p hp) (by omega))
  replace K5 : Kept (f5_0_docs ++ (f5_0_subs ++ f5_1)) w14 w16 := K5.below B16 (fun p hp => Nat.lt_of_lt_of_le (UB5 p hp) (by omega))
  have z16_p0 : w.heap.size < w16.heap.size := (by omega)
  have z16_W0 : w3.heap.size < w16.heap.size := (by omega)
  have z16_xx : w4.heap.size < w16.heap.size := (by omega)
  have z16_G0 : w5.heap.size < w16.heap.size := (by omega)
  clear hb16
  go_wp2_with fail
  refine (toHub_c x _ _ _  (hr_x_docs.below blw2) (hr_x_subs.below blw2)).mono ?_
  rintro e w17 ⟨_, rfl, ⟨fp17, ho17, FR17⟩, hb17⟩
  obtain ⟨v17_docs, v17_subs, f17_docs, f17_subs, rfl, S17_docs, S17_subs, rfl⟩ := ho17
  obtain ⟨a17_docs, c17_docs, rfl⟩ := RdS.isSlice ⟨_, S17_docs⟩
  obtain ⟨a17_subs, c17_subs, rfl⟩ := RdS.isSlice ⟨_, S17_subs⟩
  have UB17 : ∀ p ∈ (f17_docs ++ f17_subs), p.1 < w17.heap.size := Live.lt (Live.append.2 ⟨S17_docs.live, S17_subs.live⟩)
  replace FR17 : Fresh (w16.heap.size) w17 (f17_docs ++ f17_subs) := FR17.mono (by first | exact Nat.le_refl _ | (simp; done) | (simp; omega))
  have K17 : Kept (f17_docs ++ f17_subs) w17 w17 := Kept.refl _ _
  have B17 : Below w16.heap.size w16 w17 := blw2
  have s17 : w16.heap.size ≤ w17.heap.size := (by have := hb17.size; (try simp at this); omega)
  have hh := mc8 B17 cp0_0 cp0_1 cp0_2 cp0_3 cW0_0 cW0_1 cW0_2 cW0_3
  clear cp0_0 cp0_1 cp0_2 cp0_3 cW0_0 cW0_1 cW0_2 cW0_3
  obtain ⟨cp0_0, cp0_1, cp0_2, cp0_3, cW0_0, cW0_1, cW0_2, cW0_3⟩ := hh
  have hh := mc8 B17 cxx_0 cxx_1 cxx_2 cxx_3 cG0_0 cG0_1 cG0_2 cG0_3
  clear cxx_0 cxx_1 cxx_2 cxx_3 cG0_0 cG0_1 cG0_2 cG0_3
  obtain ⟨cxx_0, cxx_1, cxx_2, cxx_3, cG0_0, cG0_1, cG0_2, cG0_3⟩ := hh
  replace K3 : Kept (f3_0_docs ++ (f3_0_subs ++ f3_1)) w3 w17 := K3.below B17 (fun p hp => Nat.lt_of_lt_of_le (UB3 p hp) (by omega))
  replace K5 : Kept (f5_0_docs ++ (f5_0_subs ++ f5_1)) w14 w17 := K5.below B17 (fun p hp => Nat.lt_of_lt_of_le (UB5 p hp) (by omega))
  have z17_p0 : w.heap.size < w17.heap.size := (by omega)
  have z17_W0 : w3.heap.size < w17.heap.size := (by omega)
  have z17_xx : w4.heap.size < w17.heap.size := (by omega)
  have z17_G0 : w5.heap.size < w17.heap.size := (by omega)
  clear hb17
  go_wp2_with fail
  refine (HI.out _ _ _ ((⟨_, S17_docs.kept (K17.below (show Below w17.heap.size w17 _ from blw2) (fun p hp => Nat.lt_of_lt_of_le (UB17 p hp) (by omega))) (by intro p hp; simp only [List.mem_append]; simp [hp])⟩ : RdS _ _ _)) ((⟨_, S17_subs.kept (K17.below (show Below w17.heap.size w17 _ from blw2) (fun p hp => Nat.lt_of_lt_of_le (UB17 p hp) (by omega))) (by intro p hp; simp only [List.mem_append]; simp [hp])⟩ : RdS _ _ _))).mono ?_
  rintro e w18 ⟨v18_0_docs, v18_0_subs, v18_1, f18_0_docs, f18_0_subs, f18_1, rfl, S18_0_docs, S18_0_subs, S18_1, FR18, hb18⟩
  obtain ⟨a18_0_docs, c18_0_docs, rfl⟩ := RdS.isSlice ⟨_, S18_0_docs⟩
  obtain ⟨a18_0_subs, c18_0_subs, rfl⟩ := RdS.isSlice ⟨_, S18_0_subs⟩
  have UB18 : ∀ p ∈ (f18_0_docs ++ (f18_0_subs ++ f18_1)), p.1 < w18.heap.size := Live.lt (Live.append.2 ⟨S18_0_docs.live, Live.append.2 ⟨S18_0_subs.live, S18_1.live⟩⟩)
  replace FR18 : Fresh (w17.heap.size) w18 (f18_0_docs ++ (f18_0_subs ++ f18_1)) := FR18.mono (by first | exact Nat.le_refl _ | (simp; done) | (simp; omega))
  have K18 : Kept (f18_0_docs ++ (f18_0_subs ++ f18_1)) w18 w18 := Kept.refl _ _
  have B18 : Below w17.heap.size w17 w18 := blw2
  have s18 : w17.heap.size ≤ w18.heap.size := (by have := hb18.size; (try simp at this); omega)
  have hh := mc8 B18 cp0_0 cp0_1 cp0_2 cp0_3 cW0_0 cW0_1 cW0_2 cW0_3
  clear cp0_0 cp0_1 cp0_2 cp0_3 cW0_0 cW0_1 cW0_2 cW0_3
  obtain ⟨cp0_0, cp0_1, cp0_2, cp0_3, cW0_0, cW0_1, cW0_2, cW0_3⟩ := hh
  have hh := mc8 B18 cxx_0 cxx_1 cxx_2 cxx_3 cG0_0 cG0_1 cG0_2 cG0_3
  clear cxx_0 cxx_1 cxx_2 cxx_3 cG0_0 cG0_1 cG0_2 cG0_3
  obtain ⟨cxx_0, cxx_1, cxx_2, cxx_3, cG0_0, cG0_1, cG0_2, cG0_3⟩ := hh
  replace K3 : Kept (f3_0_docs ++ (f3_0_subs ++ f3_1)) w3 w18 := K3.below B18 (fun p hp => Nat.lt_of_lt_of_le (UB3 p hp) (by omega))
  replace K5 : Kept (f5_0_docs ++ (f5_0_subs ++ f5_1)) w14 w18 := K5.below B18 (fun p hp => Nat.lt_of_lt_of_le (UB5 p hp) (by omega))
  replace K17 : Kept (f17_docs ++ f17_subs) w17 w18 := K17.below B18 (fun p hp => Nat.lt_of_lt_of_le (UB17 p hp) (by omega))
  have z18_p0 : w.heap.size < w18.heap.size := (by omega)
  have z18_W0 : w3.heap.size < w18.heap.size := (by omega)
  have z18_xx : w4.heap.size < w18.heap.size := (by omega)
  have z18_G0 : w5.heap.size < w18.heap.size := (by omega)
  clear hb18
  go_wp2_with fail
  refine (eqHub_c y0 _ _ _ _ _ ((⟨_, S18_0_docs.kept (K18.below (show Below w18.heap.size w18 _ from blw2) (fun p hp => Nat.lt_of_lt_of_le (UB18 p hp) (by omega))) (by intro p hp; simp only [List.mem_append]; simp [hp])⟩ : RdS _ _ _)) ((⟨_, S3_0_docs.kept (K3.below (show Below w18.heap.size w18 _ from blw2) (fun p hp => Nat.lt_of_lt_of_le (UB3 p hp) (by omega))) (by intro p hp; simp only [List.mem_append]; simp [hp])⟩ : RdS _ _ _)) ((⟨_, S18_0_subs.kept (K18.below (show Below w18.heap.size w18 _ from blw2) (fun p hp => Nat.lt_of_lt_of_le (UB18 p hp) (by omega))) (by intro p hp; simp only [List.mem_append]; simp [hp])⟩ : RdS _ _ _)) ((⟨_, S3_0_subs.kept (K3.below (show Below w18.heap.size w18 _ from blw2) (fun p hp => Nat.lt_of_lt_of_le (UB3 p hp) (by omega))) (by intro p hp; simp only [List.mem_append]; simp [hp])⟩ : RdS _ _ _))).mono ?_
  rintro e w19 ⟨rfl, hb19⟩
  have hN : Below (w18.heap.size + 1) (w18.alloc (.cells #[.bool y0.shut, .slice a18_0_docs y0.docs.length c18_0_docs, .slice a18_0_subs y0.subs.length c18_0_subs, .int .i64 y0.last] 30)) w19 := blw2
  have B19 : Below w18.heap.size w18 w19 := blw2
  have s19 : w18.heap.size + 1 ≤ w19.heap.size := (by have := hb19.size; (try simp at this); omega)
  have hh := mc8 B19 cp0_0 cp0_1 cp0_2 cp0_3 cW0_0 cW0_1 cW0_2 cW0_3
  clear cp0_0 cp0_1 cp0_2 cp0_3 cW0_0 cW0_1 cW0_2 cW0_3
  obtain ⟨cp0_0, cp0_1, cp0_2, cp0_3, cW0_0, cW0_1, cW0_2, cW0_3⟩ := hh
  have hh := mc8 B19 cxx_0 cxx_1 cxx_2 cxx_3 cG0_0 cG0_1 cG0_2 cG0_3
  clear cxx_0 cxx_1 cxx_2 cxx_3 cG0_0 cG0_1 cG0_2 cG0_3
  obtain ⟨cxx_0, cxx_1, cxx_2, cxx_3, cG0_0, cG0_1, cG0_2, cG0_3⟩ := hh
  have cH0_0 : w19.cell? ⟨w18.heap.size, 0, none⟩ = some (.bool y0.shut) := by rw [hN.cell (by simp; try omega)]; simp
  have cH0_1 : w19.cell? ⟨w18.heap.size, 1, none⟩ = some (.slice a18_0_docs y0.docs.length c18_0_docs) := by rw [hN.cell (by simp; try omega)]; simp
  have cH0_2 : w19.cell? ⟨w18.heap.size, 2, none⟩ = some (.slice a18_0_subs y0.subs.length c18_0_subs) := by rw [hN.cell (by simp; try omega)]; simp
  have cH0_3 : w19.cell? ⟨w18.heap.size, 3, none⟩ = some (.int .i64 y0.last) := by rw [hN.cell (by simp; try omega)]; simp
  clear hN
  replace K3 : Kept (f3_0_docs ++ (f3_0_subs ++ f3_1)) w3 w19 := K3.below B19 (fun p hp => Nat.lt_of_lt_of_le (UB3 p hp) (by omega))
  replace K5 : Kept (f5_0_docs ++ (f5_0_subs ++ f5_1)) w14 w19 := K5.below B19 (fun p hp => Nat.lt_of_lt_of_le (UB5 p hp) (by omega))
  replace K18 : Kept (f18_0_docs ++ (f18_0_subs ++ f18_1)) w18 w19 := K18.below B19 (fun p hp => Nat.lt_of_lt_of_le (UB18 p hp) (by omega))
  have z19_p0 : w.heap.size < w19.heap.size := (by omega)
  have z19_W0 : w3.heap.size < w19.heap.size := (by omega)
  have z19_xx : w4.heap.size < w19.heap.size := (by omega)
  have z19_G0 : w5.heap.size < w19.heap.size := (by omega)
  have z19_H0 : w18.heap.size < w19.heap.size := (by omega)
  clear hb19
  go_wp2_with fail
  refine (eqIntS_c _ _ y1 _ ((⟨_, S18_1.kept (K18.below (show Below w19.heap.size w19 _ from blw2) (fun p hp => Nat.lt_of_lt_of_le (UB18 p hp) (by omega))) (by intro p hp; simp only [List.mem_append]; simp [hp])⟩ : RdS _ _ _)) ((⟨_, S3_1.kept (K3.below (show Below w19.heap.size w19 _ from blw2) (fun p hp => Nat.lt_of_lt_of_le (UB3 p hp) (by omega))) (by intro p hp; simp only [List.mem_append]; simp [hp])⟩ : RdS _ _ _))).mono ?_
  rintro e w20 ⟨rfl, hb20⟩
  have B20 : Below w19.heap.size w19 w20 := blw2
  have s20 : w19.heap.size ≤ w20.heap.size := (by have := hb20.size; (try simp at this); omega)
  have hh := mc8 B20 cp0_0 cp0_1 cp0_2 cp0_3 cW0_0 cW0_1 cW0_2 cW0_3
  clear cp0_0 cp0_1 cp0_2 cp0_3 cW0_0 cW0_1 cW0_2 cW0_3
  obtain ⟨cp0_0, cp0_1, cp0_2, cp0_3, cW0_0, cW0_1, cW0_2, cW0_3⟩ := hh
  have hh := mc8 B20 cxx_0 cxx_1 cxx_2 cxx_3 cG0_0 cG0_1 cG0_2 cG0_3
  clear cxx_0 cxx_1 cxx_2 cxx_3 cG0_0 cG0_1 cG0_2 cG0_3
  obtain ⟨cxx_0, cxx_1, cxx_2, cxx_3, cG0_0, cG0_1, cG0_2, cG0_3⟩ := hh
  have hh := mc4 B20 cH0_0 cH0_1 cH0_2 cH0_3
  clear cH0_0 cH0_1 cH0_2 cH0_3
  obtain ⟨cH0_0, cH0_1, cH0_2, cH0_3⟩ := hh
  replace K3 : Kept (f3_0_docs ++ (f3_0_subs ++ f3_1)) w3 w20 := K3.below B20 (fun p hp => Nat.lt_of_lt_of_le (UB3 p hp) (by omega))
  replace K5 : Kept (f5_0_docs ++ (f5_0_subs ++ f5_1)) w14 w20 := K5.below B20 (fun p hp => Nat.lt_of_lt_of_le (UB5 p hp) (by omega))
  replace K18 : Kept (f18_0_docs ++ (f18_0_subs ++ f18_1)) w18 w20 := K18.below B20 (fun p hp => Nat.lt_of_lt_of_le (UB18 p hp) (by omega))
  have z20_p0 : w.heap.size < w20.heap.size := (by omega)
  have z20_W0 : w3.heap.size < w20.heap.size := (by omega)
  have z20_xx : w4.heap.size < w20.heap.size := (by omega)
  have z20_G0 : w5.heap.size < w20.heap.size := (by omega)
  have z20_H0 : w18.heap.size < w20.heap.size := (by omega)
  clear hb20
  go_wp2_with fail
  refine (heldHub_c y0.shut y0.last _ _ _ _ _ 1 (by omega) (by (try simp only [cntL_mkL]); omega) ((⟨_, S5_0_docs.kept (K5.below (show Below w20.heap.size w20 _ from blw2) (fun p hp => Nat.lt_of_lt_of_le (UB5 p hp) (by omega))) (by intro p hp; simp only [List.mem_append]; simp [hp])⟩ : RdS _ _ _)) ((⟨_, S5_0_subs.kept (K5.below (show Below w20.heap.size w20 _ from blw2) (fun p hp => Nat.lt_of_lt_of_le (UB5 p hp) (by omega))) (by intro p hp; simp only [List.mem_append]; simp [hp])⟩ : RdS _ _ _)) (by (try simp only [cntL_mkL]); exact mkL_mkL _ _) (by (try simp only [cntL_mkL]); exact mkL_mkL _ _)).mono ?_
  rintro e w21 ⟨he, hb21⟩
  obtain rfl : e = .returned (.int .i64 m1) := he.trans (by (try simp only [cntL_mkL]); rw [HM1.out])
  clear he
  have B21 : Below w20.heap.size w20 w21 := blw2
  have s21 : w20.heap.size ≤ w21.heap.size := (by have := hb21.size; (try simp at this); omega)
  have hh := mc8 B21 cp0_0 cp0_1 cp0_2 cp0_3 cW0_0 cW0_1 cW0_2 cW0_3
  clear cp0_0 cp0_1 cp0_2 cp0_3 cW0_0 cW0_1 cW0_2 cW0_3
  obtain ⟨cp0_0, cp0_1, cp0_2, cp0_3, cW0_0, cW0_1, cW0_2, cW0_3⟩ := hh
  have hh := mc8 B21 cxx_0 cxx_1 cxx_2 cxx_3 cG0_0 cG0_1 cG0_2 cG0_3
  clear cxx_0 cxx_1 cxx_2 cxx_3 cG0_0 cG0_1 cG0_2 cG0_3
  obtain ⟨cxx_0, cxx_1, cxx_2, cxx_3, cG0_0, cG0_1, cG0_2, cG0_3⟩ := hh
  have hh := mc4 B21 cH0_0 cH0_1 cH0_2 cH0_3
  clear cH0_0 cH0_1 cH0_2 cH0_3
  obtain ⟨cH0_0, cH0_1, cH0_2, cH0_3⟩ := hh
  replace K3 : Kept (f3_0_docs ++ (f3_0_subs ++ f3_1)) w3 w21 := K3.below B21 (fun p hp => Nat.lt_of_lt_of_le (UB3 p hp) (by omega))
  replace K5 : Kept (f5_0_docs ++ (f5_0_subs ++ f5_1)) w14 w21 := K5.below B21 (fun p hp => Nat.lt_of_lt_of_le (UB5 p hp) (by omega))
  have z21_p0 : w.heap.size < w21.heap.size := (by omega)
  have z21_W0 : w3.heap.size < w21.heap.size := (by omega)
  have z21_xx : w4.heap.size < w21.heap.size := (by omega)
  have z21_G0 : w5.heap.size < w21.heap.size := (by omega)
  have z21_H0 : w18.heap.size < w21.heap.size := (by omega)
  clear hb21
  go_wp2_with fail
  refine (heldIntS_c _ _ _ m1 (by omega) (by rw [cntL_mkL]; omega) ((⟨_, S5_1.kept (K5.below (show Below w21.heap.size w21 _ from blw2) (fun p hp => Nat.lt_of_lt_of_le (UB5 p hp) (by omega))) (by intro p hp; simp only [List.mem_append]; simp [hp])⟩ : RdS _ _ _)) (mkL_mkL _ _)).mono ?_
  rintro e w22 ⟨he, hb22⟩
  obtain rfl : e = .returned (.int .i64 m2) := he.trans (by (try simp only [cntL_mkL]); rw [HM2.out])
  clear he
  have B22 : Below w21.heap.size w21 w22 := blw2
  have s22 : w21.heap.size ≤ w22.heap.size := (by have := hb22.size; (try simp at this); omega)
  have hh := mc8 B22 cp0_0 cp0_1 cp0_2 cp0_3 cW0_0 cW0_1 cW0_2 cW0_3
  clear cp0_0 cp0_1 cp0_2 cp0_3 cW0_0 cW0_1 cW0_2 cW0_3
  obtain ⟨cp0_0, cp0_1, cp0_2, cp0_3, cW0_0, cW0_1, cW0_2, cW0_3⟩ := hh
  have hh := mc8 B22 cxx_0 cxx_1 cxx_2 cxx_3 cG0_0 cG0_1 cG0_2 cG0_3
  clear cxx_0 cxx_1 cxx_2 cxx_3 cG0_0 cG0_1 cG0_2 cG0_3
  obtain ⟨cxx_0, cxx_1, cxx_2, cxx_3, cG0_0, cG0_1, cG0_2, cG0_3⟩ := hh
  have hh := mc4 B22 cH0_0 cH0_1 cH0_2 cH0_3
  clear cH0_0 cH0_1 cH0_2 cH0_3
  obtain ⟨cH0_0, cH0_1, cH0_2, cH0_3⟩ := hh
  replace K3 : Kept (f3_0_docs ++ (f3_0_subs ++ f3_1)) w3 w22 := K3.below B22 (fun p hp => Nat.lt_of_lt_of_le (UB3 p hp) (by omega))
  replace K5 : Kept (f5_0_docs ++ (f5_0_subs ++ f5_1)) w14 w22 := K5.below B22 (fun p hp => Nat.lt_of_lt_of_le (UB5 p hp) (by omega))
  have z22_p0 : w.heap.size < w22.heap.size := (by omega)
  have z22_W0 : w3.heap.size < w22.heap.size := (by omega)
  have z22_xx : w4.heap.size < w22.heap.size := (by omega)
  have z22_G0 : w5.heap.size < w22.heap.size := (by omega)
  have z22_H0 : w18.heap.size < w22.heap.size := (by omega)
  clear hb22
  go_wp2
  go_ret
  exact ⟨rfl, blw2⟩
theorem walkc_FnExactHubResync (x : DHub) (v_x_docs : Value) (v_x_subs : Value) (id : Int) (w : World) (h_x_docs : RdSM maxLen w v_x_docs x.docs) (h_x_subs : RdSM maxLen w v_x_subs x.subs) (b1_id : -9223372036854775808 ≤ id) (b2_id : id ≤ 9223372036854775807) :
    Calls Tryz.prog 3 #[.agg #[.bool x.shut, v_x_docs, v_x_subs, .int .i64 x.last], .int .i64 id] w (Tells w (.bool true)) :=
  walk_FnExactHubResync x v_x_docs v_x_subs id w h_x_docs h_x_subs b1_id b2_id ((hubResync x id).1) ((hubResync x id).2.1) ((hubResync x id).2.2.1) ((hubResync x id).2.2.2) (fun _ _ _ _ W h1 h2 => spec_HubResync_c x _ _ id W h1 h2) (fun _ _ _ _ W h1 h2 => impl_HubResync_c x _ _ id W h1 h2) (fun hz => by have := hubResync_cnt x id; have : GoS.sz x = szL x.docs + szL x.subs := rfl; omega)
namespace fnExactHubResync
theorem own : ownKnob Tryz.prog.godebug = none := by kernel_rfl
theorem laidOut : laidOutB Tryz.prog = true := by kernel_rfl
set_option maxRecDepth 100000 in
theorem lifted (os : Os) (started : os.Started) (H : Type) (enc : TypeId × Value → H) :
    ReturnsInHanded {} Tryz.checked os 3 .any (Rows.fnExactHubResyncSpec.pre6 enc Tryz.prog Tryz.f3 Rows.fnExactHubResyncRow.domain false) (Rows.fnExactHubResyncSpec.post enc Tryz.prog Tryz.f3 false true false false) := by
  refine returnsInHanded_of_change (C := Tryz.checked) own started (by kernel_rfl) Tryz.func3
    (ChangeSpec.witness6 (enc := enc) (C := Tryz.checked) false ⟨#[], #[.agg #[.bool false, .slice none 0 0, .slice none 0 0, .int .i64 0], .int .i64 0], []⟩ 8 (by kernel_rfl) (by kernel_rfl) (by kernel_rfl) (by kernel_rfl)) ?_
  intro W base args ds gs before hval0 hW hcnd _
  have hval : ∀ (j : Nat) t v, Tryz.f3.params[j]? = some t → args[j]? = some v → Value.okWide Tryz.prog W .any base t v := hval0
  have hW' := hW
  obtain ⟨p, q, hA0, hV, rfl, hfz, hnd⟩ := hW
  have hA : DataW.TrodAll enc Tryz.prog W 0 (fun _ => true) true Tryz.f3.params.toList args.toList ds p := hA0
  rw [Tryz.params3] at hA hval
  obtain ⟨v0, vs0, d0, ds0, p0, q0, hargs, rfl, rfl, h0, r0⟩ := trodAll_cons hA
  obtain ⟨v1, vs1, d1, ds1, p1, q1, rfl, rfl, rfl, h1, r1⟩ := trodAll_cons r0
  obtain ⟨rfl, rfl, rfl⟩ := trodAll_nil r1
  obtain rfl : args = #[v0, v1] := by cases args; simp_all
  obtain ⟨rfl, rfl⟩ := trodVars_none hV
  obtain ⟨cs0, rfl, _⟩ := okWide_struct Tryz.underlying25 (hval 0 25 v0 rfl rfl)
  have k0 := h0
  have lt0 : ∀ x ∈ p0, x.block < W.heap.size := by obtain ⟨m, hm⟩ := k0; exact DataW.trod_lt m _ _ _ hm
  obtain ⟨x0, m0⟩ : ∃ x : DHub, RdM maxLen W cs0.toList x := by
    obtain ⟨fuel, hf⟩ := h0
    exact opens_DHub _ _ _ _ _ _ _ _ hf
  obtain ⟨v_docs0, v_subs0, hc0, m_docs0, m_subs0⟩ := invM_DHub m0
  obtain ⟨cs0⟩ := cs0
  simp only at hc0
  subst hc0
  obtain ⟨a1, rfl, rfl, rfl, w1⟩ := open_int Tryz.underlying3 (hval 1 3 v1 rfl rfl) h1
  have b1 := i64_bounds w1
  clear hA0 hval0
  refine (walkc_FnExactHubResync x0 _ _ a1 W m_docs0 m_subs0 b1.1 b1.2).mono fun e W' ⟨he, bel⟩ => ?_
  subst he
  exact ⟨_, rfl, _, _, _, [], _, [], hW', trodAll_mk1 (shut_bool Tryz.underlying4 _), (trodAll_cons_mk (Below.trod laidOut (by kernel_rfl) (of_decide_eq_true (by kernel_rfl)) k0 bel lt0) (trodAll_cons_mk (shut_int Tryz.underlying3 w1) trodAll_mk0)), rfl, bel.frame _, fun h => by cases h⟩
theorem over : Rows.fnExactHubResyncRow.holds Tryz.pinned (OpenSpec.ofChange Rows.fnExactHubResyncSpec) :=
  OpenClaim.holds_of_wide 3 Tryz.f3 rfl rfl rfl rfl rfl rfl rfl ⟨rfl, rfl, rfl, rfl, rfl⟩ rfl rfl rfl rfl rfl (by kernel_rfl) Tryz.func3 (by kernel_rfl)
    (of_decide_eq_true (by kernel_rfl)) (by unfold Func.isWrapper; first | (rw [if_pos (by decide +kernel)]; kernel_rfl) | (rw [if_neg (by decide +kernel)]; exact ⟨rfl, rfl⟩))
    (fun os started H enc _ => lifted os started H enc)
theorem proved : Rows.FnExactHubResyncSaid := over
end fnExactHubResync
#print axioms fnExactHubResync.proved
end Go.Proofs.YtdjfmbdcdmmdfaaGreat
