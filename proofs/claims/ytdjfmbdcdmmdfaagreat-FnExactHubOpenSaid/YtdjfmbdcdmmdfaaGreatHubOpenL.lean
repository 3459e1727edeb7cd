/- 'laws.FnExactHubOpen' answers true for every input, and each argument reads afterwards as before. No conditions. -/
import Derived.Test.YtdjfmbdcdmmdfaaGreatEz
import Derived.Test.YtdjfmbdcdmmdfaaGreatMk
import Derived.Test.YtdjfmbdcdmmdfaaGreatRo
import Derived.Test.YtdjfmbdcdmmdfaaGreatCdr
import Derived.Test.YtdjfmbdcdmmdfaaGreatRows
import Derived.Test.YtdjfmbdcdmmdfaaGreatHop
import Derived.ProofKit
import Derived.OpenShut
import Derived.ChangeMaps5
import Derived.Deep.RegionHeld3
namespace Go.Proofs.YtdjfmbdcdmmdfaaGreat
open Go.ChangeShapes Go.WideShapes Go.ChangeAt Go.RowKit
open Go.ChangeMaps (open_string shut_string)
theorem mem_pre {α : Type} {p : α} {a b c : List α} (h : p ∈ a ++ b) : p ∈ a ++ (b ++ c) := by
  simp only [List.mem_append] at *
  rcases h with h | h <;> simp [h]
theorem mem_pre3 {α : Type} {p : α} {a b c d : List α} (h : p ∈ a ++ (b ++ c)) : p ∈ a ++ (b ++ (c ++ d)) := by
  simp only [List.mem_append] at *
  rcases h with h | h | h <;> simp [h]
set_option maxHeartbeats 16000000 in
theorem walk_FnExactHubOpen (x : DHub) (v_x_docs : Value) (v_x_subs : Value) (nm : ByteArray) (t : List Int) (v_t : Value) (w : World) (h_x_docs : RdSM maxLen w v_x_docs x.docs) (h_x_subs : RdSM maxLen w v_x_subs x.subs) (n_nm : nm.size ≤ maxLen) (h_t : RdSM maxLen w v_t t) (y0 : DHub) (y1 : Int)
    (HS0 : (GoS.sz x : Nat) ≤ 1048576 → nm.size ≤ 1048576 → (t.length : Nat) ≤ 1048576 → ∀ (v_x_docs v_x_subs v_t : Value) (W : World), RdS W v_x_docs x.docs → RdS W v_x_subs x.subs → RdS W v_t t → Calls Tryz.prog 18 #[.agg #[.bool x.shut, v_x_docs, v_x_subs, .int .i64 x.last], .string nm, v_t] W (Out_Hub_i W y0 y1))
    (HI0 : (GoS.sz x : Nat) ≤ 1048576 → nm.size ≤ 1048576 → (t.length : Nat) ≤ 1048576 → ∀ (v_x_docs v_x_subs v_t : Value) (W : World), RdS W v_x_docs x.docs → RdS W v_x_subs x.subs → RdS W v_t t → Calls Tryz.prog 20 #[.agg #[.bool x.shut, v_x_docs, v_x_subs, .int .i64 x.last], .string nm, v_t] W (Out_Hub_i W y0 y1))
    (HC0 : (GoS.sz x : Nat) ≤ 1048576 → t.length ≤ 1048576 → cntL y0.docs + cntL y0.subs ≤ 1099511627776) :
    Calls Tryz.prog 4 #[.agg #[.bool x.shut, v_x_docs, v_x_subs, .int .i64 x.last], .string nm, v_t] w (Tells w (.bool true)) := by
  have HS1 := Lib.hid HS0
  have HI1 := Lib.hid HI0
  clear HS0 HI0
  unfold maxLen at n_nm
  have hl_t := fun w1 ty => h_t.len Tryz.underlying31 w1 ty
  have hle_t := h_t.le
  by_cases cl_nm : nm.size ≤ 1048576
  rotate_left
  · go_enter Tryz.func4, Tryz.ntmps4
    go_wp2
    go_ret
    exact ⟨rfl, blw2⟩
  by_cases cl_t : t.length ≤ 1048576
  rotate_left
  · go_enter Tryz.func4, Tryz.ntmps4
    go_wp2
    go_ret
    exact ⟨rfl, blw2⟩
  by_cases cz_x : ((GoS.sz x : Nat) : Int) ≤ 1048576
  rotate_left
  · go_enter Tryz.func4, Tryz.ntmps4
    go_wp2_with fail
    refine (szHub_c x _ _ _ _ (by omega) (by omega)  (h_x_docs.below blw2) (h_x_subs.below blw2)).mono ?_
    rintro e w1 ⟨rfl, hb1⟩
    have hN : Below (w.heap.size + 1) (w.alloc (.cells #[.bool x.shut, v_x_docs, v_x_subs, .int .i64 x.last] 25)) w1 := blw2
    have B1 : Below w.heap.size w w1 := blw2
    have s1 : w.heap.size + 1 ≤ w1.heap.size := (by have := hb1.size; (try simp at this); omega)
    have cp0_0 : w1.cell? ⟨w.heap.size, 0, none⟩ = some (.bool x.shut) := by rw [hN.cell (by simp; try omega)]; simp
    have cp0_1 : w1.cell? ⟨w.heap.size, 1, none⟩ = some (v_x_docs) := by rw [hN.cell (by simp; try omega)]; simp
    have cp0_2 : w1.cell? ⟨w.heap.size, 2, none⟩ = some (v_x_subs) := by rw [hN.cell (by simp; try omega)]; simp
    have cp0_3 : w1.cell? ⟨w.heap.size, 3, none⟩ = some (.int .i64 x.last) := by rw [hN.cell (by simp; try omega)]; simp
    clear hN
    have z1_p0 : w.heap.size < w1.heap.size := (by omega)
    clear hb1
    rw [less_neg (by omega)]
    go_wp2
    go_ret
    exact ⟨rfl, blw2⟩
  have hr_x_docs : RdS w v_x_docs x.docs := let ⟨fp, s⟩ := h_x_docs; ⟨fp, s.up (by have : GoS.sz x = szL x.docs + szL x.subs := rfl; exact le_BIG (by omega))⟩
  have hr_x_subs : RdS w v_x_subs x.subs := let ⟨fp, s⟩ := h_x_subs; ⟨fp, s.up (by have : GoS.sz x = szL x.docs + szL x.subs := rfl; exact le_BIG (by omega))⟩
  have cx_x : cntL x.docs + cntL x.subs ≤ 5 * 1048576 := by have : GoS.sz x = szL x.docs + szL x.subs := rfl; have := cntL_le x.docs; have := cntL_le x.subs; omega
  have hr_t : RdS w v_t t := let ⟨fp, s⟩ := h_t; ⟨fp, s.up (by rw [szL_int]; exact le_BIG (by omega))⟩
  have HS := Lib.hid (HS1.out (by omega) (by omega) (by omega))
  have HI := Lib.hid (HI1.out (by omega) (by omega) (by omega))
  clear HS1 HI1
  have hcnt : cntL y0.docs + cntL y0.subs ≤ 1099511627776 := HC0 (by omega) (by omega)
  clear HC0
  have cx_t : cntL t ≤ 5 * 1048576 := by have := cntL_le t; rw [szL_int] at this; omega
  go_enter Tryz.func4, Tryz.ntmps4
  go_wp2_with fail
  refine (szHub_c x _ _ _ _ (by omega) (by omega)  (h_x_docs.below blw2) (h_x_subs.below blw2)).mono ?_
  rintro e w1 ⟨rfl, hb1⟩
  have hN : Below (w.heap.size + 1) (w.alloc (.cells #[.bool x.shut, v_x_docs, v_x_subs, .int .i64 x.last] 25)) w1 := blw2
  have B1 : Below w.heap.size w w1 := blw2
  have s1 : w.heap.size + 1 ≤ w1.heap.size := (by have := hb1.size; (try simp at this); omega)
  have cp0_0 : w1.cell? ⟨w.heap.size, 0, none⟩ = some (.bool x.shut) := by rw [hN.cell (by simp; try omega)]; simp
  have cp0_1 : w1.cell? ⟨w.heap.size, 1, none⟩ = some (v_x_docs) := by rw [hN.cell (by simp; try omega)]; simp
  have cp0_2 : w1.cell? ⟨w.heap.size, 2, none⟩ = some (v_x_subs) := by rw [hN.cell (by simp; try omega)]; simp
  have cp0_3 : w1.cell? ⟨w.heap.size, 3, none⟩ = some (.int .i64 x.last) := by rw [hN.cell (by simp; try omega)]; simp
  clear hN
  have z1_p0 : w.heap.size < w1.heap.size := (by omega)
  clear hb1
  rw [less_pos (by omega)]
  go_wp2_with fail
  refine (toHub_c x _ _ _  (hr_x_docs.below blw2) (hr_x_subs.below blw2)).mono ?_
  rintro e w2 ⟨_, rfl, ⟨fp2, ho2, FR2⟩, hb2⟩
  obtain ⟨v2_docs, v2_subs, f2_docs, f2_subs, rfl, S2_docs, S2_subs, rfl⟩ := ho2
  obtain ⟨a2_docs, c2_docs, rfl⟩ := RdS.isSlice ⟨_, S2_docs⟩
  obtain ⟨a2_subs, c2_subs, rfl⟩ := RdS.isSlice ⟨_, S2_subs⟩
  have UB2 : ∀ p ∈ (f2_docs ++ f2_subs), p.1 < w2.heap.size := Live.lt (Live.append.2 ⟨S2_docs.live, S2_subs.live⟩)
  replace FR2 : Fresh (w1.heap.size) w2 (f2_docs ++ f2_subs) := FR2.mono (by first | exact Nat.le_refl _ | (simp; done) | (simp; omega))
  have K2 : Kept (f2_docs ++ f2_subs) w2 w2 := Kept.refl _ _
  have B2 : Below w1.heap.size w1 w2 := blw2
  have s2 : w1.heap.size ≤ w2.heap.size := (by have := hb2.size; (try simp at this); omega)
  have hh := mc4 B2 cp0_0 cp0_1 cp0_2 cp0_3
  clear cp0_0 cp0_1 cp0_2 cp0_3
  obtain ⟨cp0_0, cp0_1, cp0_2, cp0_3⟩ := hh
  have z2_p0 : w.heap.size < w2.heap.size := (by omega)
  clear hb2
  go_wp2_with fail
  refine (toIntS_c _ t _ (hr_t.below blw2)).mono ?_
  rintro e w3 ⟨v3_t, rfl, ⟨f3_t, S3_t, FR3⟩, hb3⟩
  have UB3 : ∀ p ∈ f3_t, p.1 < w3.heap.size := Live.lt (S3_t.live)
  replace FR3 : Fresh (w2.heap.size) w3 f3_t := FR3.mono (by first | exact Nat.le_refl _ | (simp; done) | (simp; omega))
  have K3 : Kept f3_t w3 w3 := Kept.refl _ _
  have B3 : Below w2.heap.size w2 w3 := blw2
  have s3 : w2.heap.size ≤ w3.heap.size := (by have := hb3.size; (try simp at this); omega)
  have hh := mc4 B3 cp0_0 cp0_1 cp0_2 cp0_3
  clear cp0_0 cp0_1 cp0_2 cp0_3
  obtain ⟨cp0_0, cp0_1, cp0_2, cp0_3⟩ := hh
  replace K2 : Kept (f2_docs ++ f2_subs) w2 w3 := K2.below B3 (fun p hp => Nat.lt_of_lt_of_le (UB2 p hp) (by omega))
  have z3_p0 : w.heap.size < w3.heap.size := (by omega)
  clear hb3
  go_wp2_with fail
  refine (HS.out _ _ _ _ ((⟨_, S2_docs.kept (K2.below (show Below w3.heap.size w3 _ from blw2) (fun p hp => Nat.lt_of_lt_of_le (UB2 p hp) (by omega))) (by intro p hp; simp only [List.mem_append]; simp [hp])⟩ : RdS _ _ _)) ((⟨_, S2_subs.kept (K2.below (show Below w3.heap.size w3 _ from blw2) (fun p hp => Nat.lt_of_lt_of_le (UB2 p hp) (by omega))) (by intro p hp; simp only [List.mem_append]; simp [hp])⟩ : RdS _ _ _)) ((⟨_, S3_t.kept (K3.below (show Below w3.heap.size w3 _ from blw2) (fun p hp => Nat.lt_of_lt_of_le (UB3 p hp) (by omega))) (fun _ h => h)⟩ : RdS _ _ _))).mono ?_
  rintro e w4 ⟨v4_0_docs, v4_0_subs, f4_0_docs, f4_0_subs, rfl, S4_0_docs, S4_0_subs, FR4, hb4⟩
  obtain ⟨a4_0_docs, c4_0_docs, rfl⟩ := RdS.isSlice ⟨_, S4_0_docs⟩
  obtain ⟨a4_0_subs, c4_0_subs, rfl⟩ := RdS.isSlice ⟨_, S4_0_subs⟩
  have UB4 : ∀ p ∈ (f4_0_docs ++ f4_0_subs), p.1 < w4.heap.size := Live.lt (Live.append.2 ⟨S4_0_docs.live, S4_0_subs.live⟩)
  replace FR4 : Fresh (w3.heap.size) w4 (f4_0_docs ++ f4_0_subs) := FR4.mono (by first | exact Nat.le_refl _ | (simp; done) | (simp; omega))
  have K4 : Kept (f4_0_docs ++ f4_0_subs) w4 w4 := Kept.refl _ _
  have B4 : Below w3.heap.size w3 w4 := blw2
  have s4 : w3.heap.size ≤ w4.heap.size := (by have := hb4.size; (try simp at this); omega)
  have hh := mc4 B4 cp0_0 cp0_1 cp0_2 cp0_3
  clear cp0_0 cp0_1 cp0_2 cp0_3
  obtain ⟨cp0_0, cp0_1, cp0_2, cp0_3⟩ := hh
  replace K2 : Kept (f2_docs ++ f2_subs) w2 w4 := K2.below B4 (fun p hp => Nat.lt_of_lt_of_le (UB2 p hp) (by omega))
  replace K3 : Kept f3_t w3 w4 := K3.below B4 (fun p hp => Nat.lt_of_lt_of_le (UB3 p hp) (by omega))
  have z4_p0 : w.heap.size < w4.heap.size := (by omega)
  clear hb4
  go_wp2_with fail
  refine (toHub_c x _ _ _  (hr_x_docs.below blw2) (hr_x_subs.below blw2)).mono ?_
  rintro e w5 ⟨_, rfl, ⟨fp5, ho5, FR5⟩, hb5⟩
  obtain ⟨v5_docs, v5_subs, f5_docs, f5_subs, rfl, S5_docs, S5_subs, rfl⟩ := ho5
  obtain ⟨a5_docs, c5_docs, rfl⟩ := RdS.isSlice ⟨_, S5_docs⟩
  obtain ⟨a5_subs, c5_subs, rfl⟩ := RdS.isSlice ⟨_, S5_subs⟩
  have UB5 : ∀ p ∈ (f5_docs ++ f5_subs), p.1 < w5.heap.size := Live.lt (Live.append.2 ⟨S5_docs.live, S5_subs.live⟩)
  replace FR5 : Fresh (w4.heap.size + 1) w5 (f5_docs ++ f5_subs) := FR5.mono (by first | exact Nat.le_refl _ | (simp; done) | (simp; omega))
  have K5 : Kept (f5_docs ++ f5_subs) w5 w5 := Kept.refl _ _
  have hN : Below (w4.heap.size + 1) (w4.alloc (.cells #[.bool y0.shut, .slice a4_0_docs y0.docs.length c4_0_docs, .slice a4_0_subs y0.subs.length c4_0_subs, .int .i64 y0.last] 30)) w5 := blw2
  have B5 : Below w4.heap.size w4 w5 := blw2
  have s5 : w4.heap.size + 1 ≤ w5.heap.size := (by have := hb5.size; (try simp at this); omega)
  have hh := mc4 B5 cp0_0 cp0_1 cp0_2 cp0_3
  clear cp0_0 cp0_1 cp0_2 cp0_3
  obtain ⟨cp0_0, cp0_1, cp0_2, cp0_3⟩ := hh
  have cW0_0 : w5.cell? ⟨w4.heap.size, 0, none⟩ = some (.bool y0.shut) := by rw [hN.cell (by simp; try omega)]; simp
  have cW0_1 : w5.cell? ⟨w4.heap.size, 1, none⟩ = some (.slice a4_0_docs y0.docs.length c4_0_docs) := by rw [hN.cell (by simp; try omega)]; simp
  have cW0_2 : w5.cell? ⟨w4.heap.size, 2, none⟩ = some (.slice a4_0_subs y0.subs.length c4_0_subs) := by rw [hN.cell (by simp; try omega)]; simp
  have cW0_3 : w5.cell? ⟨w4.heap.size, 3, none⟩ = some (.int .i64 y0.last) := by rw [hN.cell (by simp; try omega)]; simp
  clear hN
  replace K4 : Kept (f4_0_docs ++ f4_0_subs) w4 w5 := K4.below B5 (fun p hp => Nat.lt_of_lt_of_le (UB4 p hp) (by omega))
  have z5_p0 : w.heap.size < w5.heap.size := (by omega)
  have z5_W0 : w4.heap.size < w5.heap.size := (by omega)
  clear hb5
  go_wp2_with fail
  refine (toIntS_c _ t _ (hr_t.below blw2)).mono ?_
  rintro e w6 ⟨v6_t, rfl, ⟨f6_t, S6_t, FR6⟩, hb6⟩
  have UB6 : ∀ p ∈ f6_t, p.1 < w6.heap.size := Live.lt (S6_t.live)
  replace FR6 : Fresh (w5.heap.size + 1) w6 f6_t := FR6.mono (by first | exact Nat.le_refl _ | (simp; done) | (simp; omega))
  have K6 : Kept f6_t w6 w6 := Kept.refl _ _
  have hN : Below (w5.heap.size + 1) (w5.alloc (.cells #[.bool x.shut, .slice a5_docs x.docs.length c5_docs, .slice a5_subs x.subs.length c5_subs, .int .i64 x.last] 30)) w6 := blw2
  have B6 : Below w5.heap.size w5 w6 := blw2
  have s6 : w5.heap.size + 1 ≤ w6.heap.size := (by have := hb6.size; (try simp at this); omega)
  have hh := mc8 B6 cp0_0 cp0_1 cp0_2 cp0_3 cW0_0 cW0_1 cW0_2 cW0_3
  clear cp0_0 cp0_1 cp0_2 cp0_3 cW0_0 cW0_1 cW0_2 cW0_3
  obtain ⟨cp0_0, cp0_1, cp0_2, cp0_3, cW0_0, cW0_1, cW0_2, cW0_3⟩ := hh
  have cxx_0 : w6.cell? ⟨w5.heap.size, 0, none⟩ = some (.bool x.shut) := by rw [hN.cell (by simp; try omega)]; simp
  have cxx_1 : w6.cell? ⟨w5.heap.size, 1, none⟩ = some (.slice a5_docs x.docs.length c5_docs) := by rw [hN.cell (by simp; try omega)]; simp
  have cxx_2 : w6.cell? ⟨w5.heap.size, 2, none⟩ = some (.slice a5_subs x.subs.length c5_subs) := by rw [hN.cell (by simp; try omega)]; simp
  have cxx_3 : w6.cell? ⟨w5.heap.size, 3, none⟩ = some (.int .i64 x.last) := by rw [hN.cell (by simp; try omega)]; simp
  clear hN
  replace K4 : Kept (f4_0_docs ++ f4_0_subs) w4 w6 := K4.below B6 (fun p hp => Nat.lt_of_lt_of_le (UB4 p hp) (by omega))
  replace K5 : Kept (f5_docs ++ f5_subs) w5 w6 := K5.below B6 (fun p hp => Nat.lt_of_lt_of_le (UB5 p hp) (by omega))
  have z6_p0 : w.heap.size < w6.heap.size := (by omega)
  have z6_W0 : w4.heap.size < w6.heap.size := (by omega)
  have z6_xx : w5.heap.size < w6.heap.size := (by omega)
  clear hb6
  go_wp2_with fail
  refine (HI.out _ _ _ _ ((⟨_, S5_docs.kept (K5.below (show Below w6.heap.size w6 _ from blw2) (fun p hp => Nat.lt_of_lt_of_le (UB5 p hp) (by omega))) (by intro p hp; simp only [List.mem_append]; simp [hp])⟩ : RdS _ _ _)) ((⟨_, S5_subs.kept (K5.below (show Below w6.heap.size w6 _ from blw2) (fun p hp => Nat.lt_of_lt_of_le (UB5 p hp) (by omega))) (by intro p hp; simp only [List.mem_append]; simp [hp])⟩ : RdS _ _ _)) ((⟨_, S6_t.kept (K6.below (show Below w6.heap.size w6 _ from blw2) (fun p hp => Nat.lt_of_lt_of_le (UB6 p hp) (by omega))) (fun _ h => h)⟩ : RdS _ _ _))).mono ?_
  rintro e w7 ⟨v7_0_docs, v7_0_subs, f7_0_docs, f7_0_subs, rfl, S7_0_docs, S7_0_subs, FR7, hb7⟩
  obtain ⟨a7_0_docs, c7_0_docs, rfl⟩ := RdS.isSlice ⟨_, S7_0_docs⟩
  obtain ⟨a7_0_subs, c7_0_subs, rfl⟩ := RdS.isSlice ⟨_, S7_0_subs⟩
  have UB7 : ∀ p ∈ (f7_0_docs ++ f7_0_subs), p.1 < w7.heap.size := Live.lt (Live.append.2 ⟨S7_0_docs.live, S7_0_subs.live⟩)
  replace FR7 : Fresh (w6.heap.size) w7 (f7_0_docs ++ f7_0_subs) := FR7.mono (by first | exact Nat.le_refl _ | (simp; done) | (simp; omega))
  have K7 : Kept (f7_0_docs ++ f7_0_subs) w7 w7 := Kept.refl _ _
  have B7 : Below w6.heap.size w6 w7 := blw2
  have s7 : w6.heap.size ≤ w7.heap.size := (by have := hb7.size; (try simp at this); omega)
  have hh := mc8 B7 cp0_0 cp0_1 cp0_2 cp0_3 cW0_0 cW0_1 cW0_2 cW0_3
  clear cp0_0 cp0_1 cp0_2 cp0_3 cW0_0 cW0_1 cW0_2 cW0_3
  obtain ⟨cp0_0, cp0_1, cp0_2, cp0_3, cW0_0, cW0_1, cW0_2, cW0_3⟩ := hh
  have hh := mc4 B7 cxx_0 cxx_1 cxx_2 cxx_3
  clear cxx_0 cxx_1 cxx_2 cxx_3
  obtain ⟨cxx_0, cxx_1, cxx_2, cxx_3⟩ := hh
  replace K4 : Kept (f4_0_docs ++ f4_0_subs) w4 w7 := K4.below B7 (fun p hp => Nat.lt_of_lt_of_le (UB4 p hp) (by omega))
  replace K5 : Kept (f5_docs ++ f5_subs) w5 w7 := K5.below B7 (fun p hp => Nat.lt_of_lt_of_le (UB5 p hp) (by omega))
  replace K6 : Kept f6_t w6 w7 := K6.below B7 (fun p hp => Nat.lt_of_lt_of_le (UB6 p hp) (by omega))
  have z7_p0 : w.heap.size < w7.heap.size := (by omega)
  have z7_W0 : w4.heap.size < w7.heap.size := (by omega)
  have z7_xx : w5.heap.size < w7.heap.size := (by omega)
  clear hb7
  go_wp2_with fail
  refine (eqHub_c y0 _ _ _ _ _ ((⟨_, S7_0_docs.kept (K7.below (show Below w7.heap.size w7 _ from blw2) (fun p hp => Nat.lt_of_lt_of_le (UB7 p hp) (by omega))) (by intro p hp; simp only [List.mem_append]; simp [hp])⟩ : RdS _ _ _)) ((⟨_, S4_0_docs.kept (K4.below (show Below w7.heap.size w7 _ from blw2) (fun p hp => Nat.lt_of_lt_of_le (UB4 p hp) (by omega))) (by intro p hp; simp only [List.mem_append]; simp [hp])⟩ : RdS _ _ _)) ((⟨_, S7_0_subs.kept (K7.below (show Below w7.heap.size w7 _ from blw2) (fun p hp => Nat.lt_of_lt_of_le (UB7 p hp) (by omega))) (by intro p hp; simp only [List.mem_append]; simp [hp])⟩ : RdS _ _ _)) ((⟨_, S4_0_subs.kept (K4.below (show Below w7.heap.size w7 _ from blw2) (fun p hp => Nat.lt_of_lt_of_le (UB4 p hp) (by omega))) (by intro p hp; simp only [List.mem_append]; simp [hp])⟩ : RdS _ _ _))).mono ?_
  rintro e w8 ⟨rfl, hb8⟩
  have hN : Below (w7.heap.size + 1) (w7.alloc (.cells #[.bool y0.shut, .slice a7_0_docs y0.docs.length c7_0_docs, .slice a7_0_subs y0.subs.length c7_0_subs, .int .i64 y0.last] 30)) w8 := blw2
  have B8 : Below w7.heap.size w7 w8 := blw2
  have s8 : w7.heap.size + 1 ≤ w8.heap.size := (by have := hb8.size; (try simp at this); omega)
  have hh := mc8 B8 cp0_0 cp0_1 cp0_2 cp0_3 cW0_0 cW0_1 cW0_2 cW0_3
  clear cp0_0 cp0_1 cp0_2 cp0_3 cW0_0 cW0_1 cW0_2 cW0_3
  obtain ⟨cp0_0, cp0_1, cp0_2, cp0_3, cW0_0, cW0_1, cW0_2, cW0_3⟩ := hh
  have hh := mc4 B8 cxx_0 cxx_1 cxx_2 cxx_3
  clear cxx_0 cxx_1 cxx_2 cxx_3
  obtain ⟨cxx_0, cxx_1, cxx_2, cxx_3⟩ := hh
  have cG0_0 : w8.cell? ⟨w7.heap.size, 0, none⟩ = some (.bool y0.shut) := by rw [hN.cell (by simp; try omega)]; simp
  have cG0_1 : w8.cell? ⟨w7.heap.size, 1, none⟩ = some (.slice a7_0_docs y0.docs.length c7_0_docs) := by rw [hN.cell (by simp; try omega)]; simp
  have cG0_2 : w8.cell? ⟨w7.heap.size, 2, none⟩ = some (.slice a7_0_subs y0.subs.length c7_0_subs) := by rw [hN.cell (by simp; try omega)]; simp
  have cG0_3 : w8.cell? ⟨w7.heap.size, 3, none⟩ = some (.int .i64 y0.last) := by rw [hN.cell (by simp; try omega)]; simp
  clear hN
  replace K4 : Kept (f4_0_docs ++ f4_0_subs) w4 w8 := K4.below B8 (fun p hp => Nat.lt_of_lt_of_le (UB4 p hp) (by omega))
  replace K5 : Kept (f5_docs ++ f5_subs) w5 w8 := K5.below B8 (fun p hp => Nat.lt_of_lt_of_le (UB5 p hp) (by omega))
  replace K6 : Kept f6_t w6 w8 := K6.below B8 (fun p hp => Nat.lt_of_lt_of_le (UB6 p hp) (by omega))
  replace K7 : Kept (f7_0_docs ++ f7_0_subs) w7 w8 := K7.below B8 (fun p hp => Nat.lt_of_lt_of_le (UB7 p hp) (by omega))
  have z8_p0 : w.heap.size < w8.heap.size := (by omega)
  have z8_W0 : w4.heap.size < w8.heap.size := (by omega)
  have z8_xx : w5.heap.size < w8.heap.size := (by omega)
  have z8_G0 : w7.heap.size < w8.heap.size := (by omega)
  clear hb8
  go_wp2_with fail
  go_region_held3 (fun w' => w'.cell? ⟨w.heap.size, 0, none⟩ = some (.bool x.shut) ∧ w'.cell? ⟨w.heap.size, 1, none⟩ = some (v_x_docs) ∧ w'.cell? ⟨w.heap.size, 2, none⟩ = some (v_x_subs) ∧ w'.cell? ⟨w.heap.size, 3, none⟩ = some (.int .i64 x.last) ∧ w'.cell? ⟨w5.heap.size, 0, none⟩ = some (.bool x.shut) ∧ w'.cell? ⟨w5.heap.size, 1, none⟩ = some (.slice a5_docs x.docs.length c5_docs) ∧ w'.cell? ⟨w5.heap.size, 2, none⟩ = some (.slice a5_subs x.subs.length c5_subs) ∧ w'.cell? ⟨w5.heap.size, 3, none⟩ = some (.int .i64 x.last)) (go_keep)
    (first | (go_at_call 10; refine (toHub_c x _ _ _  (hr_x_docs.below blw2) (hr_x_subs.below blw2)).mono ?_; rintro e w9 ⟨_, rfl, ⟨fp9, ho9, FR9⟩, hb9⟩; obtain ⟨v9_docs, v9_subs, f9_docs, f9_subs, rfl, S9_docs, S9_subs, rfl⟩ := ho9; obtain ⟨a9_docs, c9_docs, rfl⟩ := RdS.isSlice ⟨_, S9_docs⟩; obtain ⟨a9_subs, c9_subs, rfl⟩ := RdS.isSlice ⟨_, S9_subs⟩; have UB9 : ∀ p ∈ (f9_docs ++ f9_subs), p.1 < w9.heap.size := Live.lt (Live.append.2 ⟨S9_docs.live, S9_subs.live⟩); replace FR9 : Fresh (w8.heap.size) w9 (f9_docs ++ f9_subs) := FR9.mono (by first | exact Nat.le_refl _ | (simp; done) | (simp; omega)); have K9 : Kept (f9_docs ++ f9_subs) w9 w9 := Kept.refl _ _; have B9 : Below w8.heap.size w8 w9 := blw2; have s9 : w8.heap.size ≤ w9.heap.size := (by have := hb9.size; (try simp at this); omega); replace cp0_0 : w9.cell? ⟨w.heap.size, 0, none⟩ = some (.bool x.shut) := cellb B9 cp0_0; replace cp0_1 : w9.cell? ⟨w.heap.size, 1, none⟩ = some (v_x_docs) := cellb B9 cp0_1; replace cp0_2 : w9.cell? ⟨w.heap.size, 2, none⟩ = some (v_x_subs) := cellb B9 cp0_2; replace cp0_3 : w9.cell? ⟨w.heap.size, 3, none⟩ = some (.int .i64 x.last) := cellb B9 cp0_3; replace cW0_0 : w9.cell? ⟨w4.heap.size, 0, none⟩ = some (.bool y0.shut) := cellb B9 cW0_0; replace cW0_1 : w9.cell? ⟨w4.heap.size, 1, none⟩ = some (.slice a4_0_docs y0.docs.length c4_0_docs) := cellb B9 cW0_1; replace cW0_2 : w9.cell? ⟨w4.heap.size, 2, none⟩ = some (.slice a4_0_subs y0.subs.length c4_0_subs) := cellb B9 cW0_2; replace cW0_3 : w9.cell? ⟨w4.heap.size, 3, none⟩ = some (.int .i64 y0.last) := cellb B9 cW0_3; replace cxx_0 : w9.cell? ⟨w5.heap.size, 0, none⟩ = some (.bool x.shut) := cellb B9 cxx_0; replace cxx_1 : w9.cell? ⟨w5.heap.size, 1, none⟩ = some (.slice a5_docs x.docs.length c5_docs) := cellb B9 cxx_1; replace cxx_2 : w9.cell? ⟨w5.heap.size, 2, none⟩ = some (.slice a5_subs x.subs.length c5_subs) := cellb B9 cxx_2; replace cxx_3 : w9.cell? ⟨w5.heap.size, 3, none⟩ = some (.int .i64 x.last) := cellb B9 cxx_3; replace cG0_0 : w9.cell? ⟨w7.heap.size, 0, none⟩ = some (.bool y0.shut) := cellb B9 cG0_0; replace cG0_1 : w9.cell? ⟨w7.heap.size, 1, none⟩ = some (.slice a7_0_docs y0.docs.length c7_0_docs) := cellb B9 cG0_1; replace cG0_2 : w9.cell? ⟨w7.heap.size, 2, none⟩ = some (.slice a7_0_subs y0.subs.length c7_0_subs) := cellb B9 cG0_2; replace cG0_3 : w9.cell? ⟨w7.heap.size, 3, none⟩ = some (.int .i64 y0.last) := cellb B9 cG0_3; replace K4 : Kept (f4_0_docs ++ f4_0_subs) w4 w9 := K4.below B9 (fun p hp => Nat.lt_of_lt_of_le (UB4 p hp) (by omega)); replace K5 : Kept (f5_docs ++ f5_subs) w5 w9 := K5.below B9 (fun p hp => Nat.lt_of_lt_of_le (UB5 p hp) (by omega)); replace K6 : Kept f6_t w6 w9 := K6.below B9 (fun p hp => Nat.lt_of_lt_of_le (UB6 p hp) (by omega)); replace K7 : Kept (f7_0_docs ++ f7_0_subs) w7 w9 := K7.below B9 (fun p hp => Nat.lt_of_lt_of_le (UB7 p hp) (by omega)); have z9_p0 : w.heap.size < w9.heap.size := (by omega); have z9_W0 : w4.heap.size < w9.heap.size := (by omega); have z9_xx : w5.heap.size < w9.heap.size := (by omega); have z9_G0 : w7.heap.size < w9.heap.size := (by omega); clear hb9) | (go_at_call 12; refine (eqHub_c x _ _ _ _ _ ((⟨_, S5_docs.kept (K5.below (show Below w9.heap.size w9 _ from blw2) (fun p hp => Nat.lt_of_lt_of_le (UB5 p hp) (by omega))) (by intro p hp; simp only [List.mem_append]; simp [hp])⟩ : RdS _ _ _)) ((⟨_, S9_docs.kept (K9.below (show Below w9.heap.size w9 _ from blw2) (fun p hp => Nat.lt_of_lt_of_le (UB9 p hp) (by omega))) (by intro p hp; simp only [List.mem_append]; simp [hp])⟩ : RdS _ _ _)) ((⟨_, S5_subs.kept (K5.below (show Below w9.heap.size w9 _ from blw2) (fun p hp => Nat.lt_of_lt_of_le (UB5 p hp) (by omega))) (by intro p hp; simp only [List.mem_append]; simp [hp])⟩ : RdS _ _ _)) ((⟨_, S9_subs.kept (K9.below (show Below w9.heap.size w9 _ from blw2) (fun p hp => Nat.lt_of_lt_of_le (UB9 p hp) (by omega))) (by intro p hp; simp only [List.mem_append]; simp [hp])⟩ : RdS _ _ _))).mono ?_; rintro e w10 ⟨rfl, hb10⟩; have B10 : Below w9.heap.size w9 w10 := blw2; have s10 : w9.heap.size ≤ w10.heap.size := (by have := hb10.size; (try simp at this); omega); replace cp0_0 : w10.cell? ⟨w.heap.size, 0, none⟩ = some (.bool x.shut) := cellb B10 cp0_0; replace cp0_1 : w10.cell? ⟨w.heap.size, 1, none⟩ = some (v_x_docs) := cellb B10 cp0_1; replace cp0_2 : w10.cell? ⟨w.heap.size, 2, none⟩ = some (v_x_subs) := cellb B10 cp0_2; replace cp0_3 : w10.cell? ⟨w.heap.size, 3, none⟩ = some (.int .i64 x.last) := cellb B10 cp0_3; replace cW0_0 : w10.cell? ⟨w4.heap.size, 0, none⟩ = some (.bool y0.shut) := cellb B10 cW0_0; replace cW0_1 : w10.cell? ⟨w4.heap.size, 1, none⟩ = some (.slice a4_0_docs y0.docs.length c4_0_docs) := cellb B10 cW0_1; replace cW0_2 : w10.cell? ⟨w4.heap.size, 2, none⟩ = some (.slice a4_0_subs y0.subs.length c4_0_subs) := cellb B10 cW0_2; replace cW0_3 : w10.cell? ⟨w4.heap.size, 3, none⟩ = some (.int .i64 y0.last) := cellb B10 cW0_3; replace cxx_0 : w10.cell? ⟨w5.heap.size, 0, none⟩ = some (.bool x.shut) := cellb B10 cxx_0; replace cxx_1 : w10.cell? ⟨w5.heap.size, 1, none⟩ = some (.slice a5_docs x.docs.length c5_docs) := cellb B10 cxx_1; replace cxx_2 : w10.cell? ⟨w5.heap.size, 2, none⟩ = some (.slice a5_subs x.subs.length c5_subs) := cellb B10 cxx_2; replace cxx_3 : w10.cell? ⟨w5.heap.size, 3, none⟩ = some (.int .i64 x.last) := cellb B10 cxx_3; replace cG0_0 : w10.cell? ⟨w7.heap.size, 0, none⟩ = some (.bool y0.shut) := cellb B10 cG0_0; replace cG0_1 : w10.cell? ⟨w7.heap.size, 1, none⟩ = some (.slice a7_0_docs y0.docs.length c7_0_docs) := cellb B10 cG0_1; replace cG0_2 : w10.cell? ⟨w7.heap.size, 2, none⟩ = some (.slice a7_0_subs y0.subs.length c7_0_subs) := cellb B10 cG0_2; replace cG0_3 : w10.cell? ⟨w7.heap.size, 3, none⟩ = some (.int .i64 y0.last) := cellb B10 cG0_3; replace K4 : Kept (f4_0_docs ++ f4_0_subs) w4 w10 := K4.below B10 (fun p hp => Nat.lt_of_lt_of_le (UB4 p hp) (by omega)); replace K5 : Kept (f5_docs ++ f5_subs) w5 w10 := K5.below B10 (fun p hp => Nat.lt_of_lt_of_le (UB5 p hp) (by omega)); replace K6 : Kept f6_t w6 w10 := K6.below B10 (fun p hp => Nat.lt_of_lt_of_le (UB6 p hp) (by omega)); replace K7 : Kept (f7_0_docs ++ f7_0_subs) w7 w10 := K7.below B10 (fun p hp => Nat.lt_of_lt_of_le (UB7 p hp) (by omega)); replace K9 : Kept (f9_docs ++ f9_subs) w9 w10 := K9.below B10 (fun p hp => Nat.lt_of_lt_of_le (UB9 p hp) (by omega)); have z10_p0 : w.heap.size < w10.heap.size := (by omega); have z10_W0 : w4.heap.size < w10.heap.size := (by omega); have z10_xx : w5.heap.size < w10.heap.size := (by omega); have z10_G0 : w7.heap.size < w10.heap.size := (by omega); clear hb10))
  go_wp2_with fail
  refine (toIntS_c _ t _ (hr_t.below blw2)).mono ?_
  rintro e w11 ⟨v11_t, rfl, ⟨f11_t, S11_t, FR11⟩, hb11⟩
  have UB11 : ∀ p ∈ f11_t, p.1 < w11.heap.size := Live.lt (S11_t.live)
  replace FR11 : Fresh (w10.heap.size) w11 f11_t := FR11.mono (by first | exact Nat.le_refl _ | (simp; done) | (simp; omega))
  have K11 : Kept f11_t w11 w11 := Kept.refl _ _
  have B11 : Below w10.heap.size w10 w11 := blw2
  have s11 : w10.heap.size ≤ w11.heap.size := (by have := hb11.size; (try simp at this); omega)
  have hh := mc8 B11 cp0_0 cp0_1 cp0_2 cp0_3 cW0_0 cW0_1 cW0_2 cW0_3
  clear cp0_0 cp0_1 cp0_2 cp0_3 cW0_0 cW0_1 cW0_2 cW0_3
  obtain ⟨cp0_0, cp0_1, cp0_2, cp0_3, cW0_0, cW0_1, cW0_2, cW0_3⟩ := hh
  have hh := mc8 B11 cxx_0 cxx_1 cxx_2 cxx_3 cG0_0 cG0_1 cG0_2 cG0_3
  clear cxx_0 cxx_1 cxx_2 cxx_3 cG0_0 cG0_1 cG0_2 cG0_3
  obtain ⟨cxx_0, cxx_1, cxx_2, cxx_3, cG0_0, cG0_1, cG0_2, cG0_3⟩ := hh
  replace K4 : Kept (f4_0_docs ++ f4_0_subs) w4 w11 := K4.below B11 (fun p hp => Nat.lt_of_lt_of_le (UB4 p hp) (by omega))
  replace K5 : Kept (f5_docs ++ f5_subs) w5 w11 := K5.below B11 (fun p hp => Nat.lt_of_lt_of_le (UB5 p hp) (by omega))
  replace K6 : Kept f6_t w6 w11 := K6.below B11 (fun p hp => Nat.lt_of_lt_of_le (UB6 p hp) (by omega))
  replace K7 : Kept (f7_0_docs ++ f7_0_subs) w7 w11 := K7.below B11 (fun p hp => Nat.lt_of_lt_of_le (UB7 p hp) (by omega))
  have z11_p0 : w.heap.size < w11.heap.size := (by omega)
  have z11_W0 : w4.heap.size < w11.heap.size := (by omega)
  have z11_xx : w5.heap.size < w11.heap.size := (by omega)
  have z11_G0 : w7.heap.size < w11.heap.size := (by omega)
  clear hb11
  go_wp2_with fail
  refine (eqIntS_c _ _ t _ ((⟨_, S6_t.kept (K6.below (show Below w11.heap.size w11 _ from blw2) (fun p hp => Nat.lt_of_lt_of_le (UB6 p hp) (by omega))) (fun _ h => h)⟩ : RdS _ _ _)) ((⟨_, S11_t.kept (K11.below (show Below w11.heap.size w11 _ from blw2) (fun p hp => Nat.lt_of_lt_of_le (UB11 p hp) (by omega))) (fun _ h => h)⟩ : RdS _ _ _))).mono ?_
  rintro e w12 ⟨rfl, hb12⟩
  have B12 : Below w11.heap.size w11 w12 := blw2
  have s12 : w11.heap.size ≤ w12.heap.size := (by have := hb12.size; (try simp at this); omega)
  have hh := mc8 B12 cp0_0 cp0_1 cp0_2 cp0_3 cW0_0 cW0_1 cW0_2 cW0_3
  clear cp0_0 cp0_1 cp0_2 cp0_3 cW0_0 cW0_1 cW0_2 cW0_3
  obtain ⟨cp0_0, cp0_1, cp0_2, cp0_3, cW0_0, cW0_1, cW0_2, cW0_3⟩ := hh
  have hh := mc8 B12 cxx_0 cxx_1 cxx_2 cxx_3 cG0_0 cG0_1 cG0_2 cG0_3
  clear cxx_0 cxx_1 cxx_2 cxx_3 cG0_0 cG0_1 cG0_2 cG0_3
  obtain ⟨cxx_0, cxx_1, cxx_2, cxx_3, cG0_0, cG0_1, cG0_2, cG0_3⟩ := hh
  replace K4 : Kept (f4_0_docs ++ f4_0_subs) w4 w12 := K4.below B12 (fun p hp => Nat.lt_of_lt_of_le (UB4 p hp) (by omega))
  replace K5 : Kept (f5_docs ++ f5_subs) w5 w12 := K5.below B12 (fun p hp => Nat.lt_of_lt_of_le (UB5 p hp) (by omega))
  replace K6 : Kept f6_t w6 w12 := K6.below B12 (fun p hp => Nat.lt_of_lt_of_le (UB6 p hp) (by omega))
  replace K7 : Kept (f7_0_docs ++ f7_0_subs) w7 w12 := K7.below B12 (fun p hp => Nat.lt_of_lt_of_le (UB7 p hp) (by omega))
  replace K11 : Kept f11_t w11 w12 := K11.below B12 (fun p hp => Nat.lt_of_lt_of_le (UB11 p hp) (by omega))
  have z12_p0 : w.heap.size < w12.heap.size := (by omega)
  have z12_W0 : w4.heap.size < w12.heap.size := (by omega)
  have z12_xx : w5.heap.size < w12.heap.size := (by omega)
  have z12_G0 : w7.heap.size < w12.heap.size := (by omega)
  clear hb12
  replace S5_docs := S5_docs.kept K5 (by intro p hp; simp only [List.mem_append]; simp [hp])
  replace S5_subs := S5_subs.kept K5 (by intro p hp; simp only [List.mem_append]; simp [hp])
  replace FR5 := FR5.kept K5 (fun _ h => h)
  clear K5
  go_wp2_with fail
  refine (markHub_c (w4.heap.size + 1) x.shut x.last _ _ _ _ f5_docs f5_subs _ 1 (by omega) (by omega) (S5_docs.belowW blw2) (S5_subs.belowW blw2) (FR5.belowL blw2 (fun p hp => Nat.lt_of_lt_of_le (UB5 p hp) (by omega)))).mono ?_
  rintro e w13 ⟨he, T13_docs, T13_subs, hw13⟩
  have s13 : w12.heap.size ≤ w13.heap.size := wrs hw13 blw2
  replace cp0_0 : w13.cell? ⟨w.heap.size, 0, none⟩ = some (.bool x.shut) := cellw blw2 hw13 cp0_0 (fun hp => by have q1 := FR5.ge _ hp; have q2 := UB5 _ hp; simp only at q1 q2; omega)
  replace cp0_1 : w13.cell? ⟨w.heap.size, 1, none⟩ = some (v_x_docs) := cellw blw2 hw13 cp0_1 (fun hp => by have q1 := FR5.ge _ hp; have q2 := UB5 _ hp; simp only at q1 q2; omega)
  replace cp0_2 : w13.cell? ⟨w.heap.size, 2, none⟩ = some (v_x_subs) := cellw blw2 hw13 cp0_2 (fun hp => by have q1 := FR5.ge _ hp; have q2 := UB5 _ hp; simp only at q1 q2; omega)
  replace cp0_3 : w13.cell? ⟨w.heap.size, 3, none⟩ = some (.int .i64 x.last) := cellw blw2 hw13 cp0_3 (fun hp => by have q1 := FR5.ge _ hp; have q2 := UB5 _ hp; simp only at q1 q2; omega)
  replace cW0_0 : w13.cell? ⟨w4.heap.size, 0, none⟩ = some (.bool y0.shut) := cellw blw2 hw13 cW0_0 (fun hp => by have q1 := FR5.ge _ hp; have q2 := UB5 _ hp; simp only at q1 q2; omega)
  replace cW0_1 : w13.cell? ⟨w4.heap.size, 1, none⟩ = some (.slice a4_0_docs y0.docs.length c4_0_docs) := cellw blw2 hw13 cW0_1 (fun hp => by have q1 := FR5.ge _ hp; have q2 := UB5 _ hp; simp only at q1 q2; omega)
  replace cW0_2 : w13.cell? ⟨w4.heap.size, 2, none⟩ = some (.slice a4_0_subs y0.subs.length c4_0_subs) := cellw blw2 hw13 cW0_2 (fun hp => by have q1 := FR5.ge _ hp; have q2 := UB5 _ hp; simp only at q1 q2; omega)
  replace cW0_3 : w13.cell? ⟨w4.heap.size, 3, none⟩ = some (.int .i64 y0.last) := cellw blw2 hw13 cW0_3 (fun hp => by have q1 := FR5.ge _ hp; have q2 := UB5 _ hp; simp only at q1 q2; omega)
  replace cxx_0 : w13.cell? ⟨w5.heap.size, 0, none⟩ = some (.bool x.shut) := cellw blw2 hw13 cxx_0 (fun hp => by have q1 := FR5.ge _ hp; have q2 := UB5 _ hp; simp only at q1 q2; omega)
  replace cxx_1 : w13.cell? ⟨w5.heap.size, 1, none⟩ = some (.slice a5_docs x.docs.length c5_docs) := cellw blw2 hw13 cxx_1 (fun hp => by have q1 := FR5.ge _ hp; have q2 := UB5 _ hp; simp only at q1 q2; omega)
  replace cxx_2 : w13.cell? ⟨w5.heap.size, 2, none⟩ = some (.slice a5_subs x.subs.length c5_subs) := cellw blw2 hw13 cxx_2 (fun hp => by have q1 := FR5.ge _ hp; have q2 := UB5 _ hp; simp only at q1 q2; omega)
  replace cxx_3 : w13.cell? ⟨w5.heap.size, 3, none⟩ = some (.int .i64 x.last) := cellw blw2 hw13 cxx_3 (fun hp => by have q1 := FR5.ge _ hp; have q2 := UB5 _ hp; simp only at q1 q2; omega)
  replace cG0_0 : w13.cell? ⟨w7.heap.size, 0, none⟩ = some (.bool y0.shut) := cellw blw2 hw13 cG0_0 (fun hp => by have q1 := FR5.ge _ hp; have q2 := UB5 _ hp; simp only at q1 q2; omega)
  replace cG0_1 : w13.cell? ⟨w7.heap.size, 1, none⟩ = some (.slice a7_0_docs y0.docs.length c7_0_docs) := cellw blw2 hw13 cG0_1 (fun hp => by have q1 := FR5.ge _ hp; have q2 := UB5 _ hp; simp only at q1 q2; omega)
  replace cG0_2 : w13.cell? ⟨w7.heap.size, 2, none⟩ = some (.slice a7_0_subs y0.subs.length c7_0_subs) := cellw blw2 hw13 cG0_2 (fun hp => by have q1 := FR5.ge _ hp; have q2 := UB5 _ hp; simp only at q1 q2; omega)
  replace cG0_3 : w13.cell? ⟨w7.heap.size, 3, none⟩ = some (.int .i64 y0.last) := cellw blw2 hw13 cG0_3 (fun hp => by have q1 := FR5.ge _ hp; have q2 := UB5 _ hp; simp only at q1 q2; omega)
  replace K4 : Kept (f4_0_docs ++ f4_0_subs) w4 w13 := K4.wr2 blw2 hw13 (fun p hp => Nat.lt_of_lt_of_le (UB4 p hp) (by omega)) (fun q hq hp => by have q1 := FR5.ge q hp; have q2 := UB5 q hp; first | (have q3 := UB4 q hq; omega) | (have q3 := FR4.ge q hq; omega))
  replace K6 : Kept f6_t w6 w13 := K6.wr2 blw2 hw13 (fun p hp => Nat.lt_of_lt_of_le (UB6 p hp) (by omega)) (fun q hq hp => by have q1 := FR5.ge q hp; have q2 := UB5 q hp; first | (have q3 := UB6 q hq; omega) | (have q3 := FR6.ge q hq; omega))
  replace K7 : Kept (f7_0_docs ++ f7_0_subs) w7 w13 := K7.wr2 blw2 hw13 (fun p hp => Nat.lt_of_lt_of_le (UB7 p hp) (by omega)) (fun q hq hp => by have q1 := FR5.ge q hp; have q2 := UB5 q hp; first | (have q3 := UB7 q hq; omega) | (have q3 := FR7.ge q hq; omega))
  have B13 : Below (w4.heap.size + 1) w12 w13 := wrb hw13 blw2 (by omega) (fun p hp => FR5.ge p hp)
  replace FR5 : Fresh (w4.heap.size + 1) w13 (f5_docs ++ f5_subs) := FR5.wr2 blw2 hw13 (fun p hp => Nat.lt_of_lt_of_le (UB5 p hp) (by omega))
  replace S5_docs := T13_docs
  replace S5_subs := T13_subs
  have K5 : Kept (f5_docs ++ f5_subs) w13 w13 := Kept.refl _ _
  have z13_p0 : w.heap.size < w13.heap.size := (by omega)
  have z13_W0 : w4.heap.size < w13.heap.size := (by omega)
  have z13_xx : w5.heap.size < w13.heap.size := (by omega)
  have z13_G0 : w7.heap.size < w13.heap.size := (by omega)
  obtain ⟨k1, hk1, hp1⟩ : ∃ k : Int, k = 1 + ((cntL x.docs + cntL x.subs : Nat) : Int) ∧ 1 ≤ k := ⟨_, rfl, by omega⟩
  obtain rfl : e = .returned (.int .i64 k1) := he.trans (by rw [hk1])
  have hq1 : k1 ≤ 1 + 5242880 := by omega
  clear he hk1
  replace S6_t := S6_t.kept K6 (fun _ h => h)
  replace FR6 := FR6.kept K6 (fun _ h => h)
  clear K6
  go_wp2_with fail
  refine (markIntS_c (w5.heap.size + 1) _ _ f6_t _ k1 (by omega) (by omega) (S6_t.belowW blw2) (FR6.belowL blw2 (fun p hp => Nat.lt_of_lt_of_le (UB6 p hp) (by omega)))).mono ?_
  rintro e w14 ⟨he, T14_t, hw14⟩
  have s14 : w13.heap.size ≤ w14.heap.size := wrs hw14 blw2
  replace cp0_0 : w14.cell? ⟨w.heap.size, 0, none⟩ = some (.bool x.shut) := cellw blw2 hw14 cp0_0 (fun hp => by have q1 := FR6.ge _ hp; have q2 := UB6 _ hp; simp only at q1 q2; omega)
  replace cp0_1 : w14.cell? ⟨w.heap.size, 1, none⟩ = some (v_x_docs) := cellw blw2 hw14 cp0_1 (fun hp => by have q1 := FR6.ge _ hp; have q2 := UB6 _ hp; simp only at q1 q2; omega)
  replace cp0_2 : w14.cell? ⟨w.heap.size, 2, none⟩ = some (v_x_subs) := cellw blw2 hw14 cp0_2 (fun hp => by have q1 := FR6.ge _ hp; have q2 := UB6 _ hp; simp only at q1 q2; omega)
  replace cp0_3 : w14.cell? ⟨w.heap.size, 3, none⟩ = some (.int .i64 x.last) := cellw blw2 hw14 cp0_3 (fun hp => by have q1 := FR6.ge _ hp; have q2 := UB6 _ hp; simp only at q1 q2; omega)
  replace cW0_0 : w14.cell? ⟨w4.heap.size, 0, none⟩ = some (.bool y0.shut) := cellw blw2 hw14 cW0_0 (fun hp => by have q1 := FR6.ge _ hp; have q2 := UB6 _ hp; simp only at q1 q2; omega)
  replace cW0_1 : w14.cell? ⟨w4.heap.size, 1, none⟩ = some (.slice a4_0_docs y0.docs.length c4_0_docs) := cellw blw2 hw14 cW0_1 (fun hp => by have q1 := FR6.ge _ hp; have q2 := UB6 _ hp; simp only at q1 q2; omega)
  replace cW0_2 : w14.cell? ⟨w4.heap.size, 2, none⟩ = some (.slice a4_0_subs y0.subs.length c4_0_subs) := cellw blw2 hw14 cW0_2 (fun hp => by have q1 := FR6.ge _ hp; have q2 := UB6 _ hp; simp only at q1 q2; omega)
  replace cW0_3 : w14.cell? ⟨w4.heap.size, 3, none⟩ = some (.int .i64 y0.last) := cellw blw2 hw14 cW0_3 (fun hp => by have q1 := FR6.ge _ hp; have q2 := UB6 _ hp; simp only at q1 q2; omega)
  replace cxx_0 : w14.cell? ⟨w5.heap.size, 0, none⟩ = some (.bool x.shut) := cellw blw2 hw14 cxx_0 (fun hp => by have q1 := FR6.ge _ hp; have q2 := UB6 _ hp; simp only at q1 q2; omega)
  replace cxx_1 : w14.cell? ⟨w5.heap.size, 1, none⟩ = some (.slice a5_docs x.docs.length c5_docs) := cellw blw2 hw14 cxx_1 (fun hp => by have q1 := FR6.ge _ hp; have q2 := UB6 _ hp; simp only at q1 q2; omega)
  replace cxx_2 : w14.cell? ⟨w5.heap.size, 2, none⟩ = some (.slice a5_subs x.subs.length c5_subs) := cellw blw2 hw14 cxx_2 (fun hp => by have q1 := FR6.ge _ hp; have q2 := UB6 _ hp; simp only at q1 q2; omega)
  replace cxx_3 : w14.cell? ⟨w5.heap.size, 3, none⟩ = some (.int .i64 x.last) := cellw blw2 hw14 cxx_3 (fun hp => by have q1 := FR6.ge _ hp; have q2 := UB6 _ hp; simp only at q1 q2; omega)
  replace cG0_0 : w14.cell? ⟨w7.heap.size, 0, none⟩ = some (.bool y0.shut) := cellw blw2 hw14 cG0_0 (fun hp => by have q1 := FR6.ge _ hp; have q2 := UB6 _ hp; simp only at q1 q2; omega)
  replace cG0_1 : w14.cell? ⟨w7.heap.size, 1, none⟩ = some (.slice a7_0_docs y0.docs.length c7_0_docs) := cellw blw2 hw14 cG0_1 (fun hp => by have q1 := FR6.ge _ hp; have q2 := UB6 _ hp; simp only at q1 q2; omega)
  replace cG0_2 : w14.cell? ⟨w7.heap.size, 2, none⟩ = some (.slice a7_0_subs y0.subs.length c7_0_subs) := cellw blw2 hw14 cG0_2 (fun hp => by have q1 := FR6.ge _ hp; have q2 := UB6 _ hp; simp only at q1 q2; omega)
  replace cG0_3 : w14.cell? ⟨w7.heap.size, 3, none⟩ = some (.int .i64 y0.last) := cellw blw2 hw14 cG0_3 (fun hp => by have q1 := FR6.ge _ hp; have q2 := UB6 _ hp; simp only at q1 q2; omega)
  replace K4 : Kept (f4_0_docs ++ f4_0_subs) w4 w14 := K4.wr2 blw2 hw14 (fun p hp => Nat.lt_of_lt_of_le (UB4 p hp) (by omega)) (fun q hq hp => by have q1 := FR6.ge q hp; have q2 := UB6 q hp; first | (have q3 := UB4 q hq; omega) | (have q3 := FR4.ge q hq; omega))
  replace K5 : Kept (f5_docs ++ f5_subs) w13 w14 := K5.wr2 blw2 hw14 (fun p hp => Nat.lt_of_lt_of_le (UB5 p hp) (by omega)) (fun q hq hp => by have q1 := FR6.ge q hp; have q2 := UB6 q hp; first | (have q3 := UB5 q hq; omega) | (have q3 := FR5.ge q hq; omega))
  replace K7 : Kept (f7_0_docs ++ f7_0_subs) w7 w14 := K7.wr2 blw2 hw14 (fun p hp => Nat.lt_of_lt_of_le (UB7 p hp) (by omega)) (fun q hq hp => by have q1 := FR6.ge q hp; have q2 := UB6 q hp; first | (have q3 := UB7 q hq; omega) | (have q3 := FR7.ge q hq; omega))
  have B14 : Below (w5.heap.size + 1) w13 w14 := wrb hw14 blw2 (by omega) (fun p hp => FR6.ge p hp)
  replace FR6 : Fresh (w5.heap.size + 1) w14 f6_t := FR6.wr2 blw2 hw14 (fun p hp => Nat.lt_of_lt_of_le (UB6 p hp) (by omega))
  replace S6_t := T14_t
  have K6 : Kept f6_t w14 w14 := Kept.refl _ _
  have z14_p0 : w.heap.size < w14.heap.size := (by omega)
  have z14_W0 : w4.heap.size < w14.heap.size := (by omega)
  have z14_xx : w5.heap.size < w14.heap.size := (by omega)
  have z14_G0 : w7.heap.size < w14.heap.size := (by omega)
  obtain ⟨k2, hk2, hp2⟩ : ∃ k : Int, k = k1 + ((cntL t : Nat) : Int) ∧ k1 ≤ k := ⟨_, rfl, by omega⟩
  obtain rfl : e = .returned (.int .i64 k2) := he.trans (by rw [hk2])
  have hq2 : k2 ≤ k1 + 5242880 := by omega
  clear he hk2
  have hkn : decide (k2 < 0) = false := by simp; omega
  have hkm : ¬ k2 < 0 := by omega
  go_wp2_with fail
  refine (eqHub_c y0 _ _ _ _ _ ((⟨_, S7_0_docs.kept (K7.below (show Below w14.heap.size w14 _ from blw2) (fun p hp => Nat.lt_of_lt_of_le (UB7 p hp) (by omega))) (by intro p hp; simp only [List.mem_append]; simp [hp])⟩ : RdS _ _ _)) ((⟨_, S4_0_docs.kept (K4.below (show Below w14.heap.size w14 _ from blw2) (fun p hp => Nat.lt_of_lt_of_le (UB4 p hp) (by omega))) (by intro p hp; simp only [List.mem_append]; simp [hp])⟩ : RdS _ _ _)) ((⟨_, S7_0_subs.kept (K7.below (show Below w14.heap.size w14 _ from blw2) (fun p hp => Nat.lt_of_lt_of_le (UB7 p hp) (by omega))) (by intro p hp; simp only [List.mem_append]; simp [hp])⟩ : RdS _ _ _)) ((⟨_, S4_0_subs.kept (K4.below (show Below w14.heap.size w14 _ from blw2) (fun p hp => Nat.lt_of_lt_of_le (UB4 p hp) (by omega))) (by intro p hp; simp only [List.mem_append]; simp [hp])⟩ : RdS _ _ _))).mono ?_
  rintro e w15 ⟨rfl, hb15⟩
  have B15 : Below w14.heap.size w14 w15 := blw2
  have s15 : w14.heap.size ≤ w15.heap.size := (by have := hb15.size; (try simp at this); omega)
  have hh := mc8 B15 cp0_0 cp0_1 cp0_2 cp0_3 cW0_0 cW0_1 cW0_2 cW0_3
  clear cp0_0 cp0_1 cp0_2 cp0_3 cW0_0 cW0_1 cW0_2 cW0_3
  obtain ⟨cp0_0, cp0_1, cp0_2, cp0_3, cW0_0, cW0_1, cW0_2, cW0_3⟩ := hh
  have hh := mc8 B15 cxx_0 cxx_1 cxx_2 cxx_3 cG0_0 cG0_1 cG0_2 cG0_3
  clear cxx_0 cxx_1 cxx_2 cxx_3 cG0_0 cG0_1 cG0_2 cG0_3
  obtain ⟨cxx_0, cxx_1, cxx_2, cxx_3, cG0_0, cG0_1, cG0_2, cG0_3⟩ := hh
  replace K4 : Kept (f4_0_docs ++ f4_0_subs) w4 w15 := K4.below B15 (fun p hp => Nat.lt_of_lt_of_le (UB4 p hp) (by omega))
  replace K7 : Kept (f7_0_docs ++ f7_0_subs) w7 w15 := K7.below B15 (fun p hp => Nat.lt_of_lt_of_le (UB7 p hp) (by omega))
  have z15_p0 : w.heap.size < w15.heap.size := (by omega)
  have z15_W0 : w4.heap.size < w15.heap.size := (by omega)
  have z15_xx : w5.heap.size < w15.heap.size := (by omega)
  have z15_G0 : w7.heap.size < w15.heap.size := (by omega)
  clear hb15
  replace S7_0_docs := S7_0_docs.kept K7 (by intro p hp; simp only [List.mem_append]; simp [hp])
  replace S7_0_subs := S7_0_subs.kept K7 (by intro p hp; simp only [List.mem_append]; simp [hp])
  replace FR7 := FR7.kept K7 (fun _ h => h)
  clear K7
  go_wp2_with fail
  refine (markHub_c (w6.heap.size) y0.shut y0.last _ _ _ _ f7_0_docs f7_0_subs _ 1 (by omega) (by omega) (S7_0_docs.belowW blw2) (S7_0_subs.belowW blw2) (FR7.belowL blw2 (fun p hp => Nat.lt_of_lt_of_le (UB7 p hp) (by omega)))).mono ?_
  rintro e w16 ⟨he, T16_0_docs, T16_0_subs, hw16⟩
  have s16 : w15.heap.size ≤ w16.heap.size := wrs hw16 blw2
  replace cp0_0 : w16.cell? ⟨w.heap.size, 0, none⟩ = some (.bool x.shut) := cellw blw2 hw16 cp0_0 (fun hp => by have q1 := FR7.ge _ hp; have q2 := UB7 _ hp; simp only at q1 q2; omega)
  replace cp0_1 : w16.cell? ⟨w.heap.size, 1, none⟩ = some (v_x_docs) := cellw blw2 hw16 cp0_1 (fun hp => by have q1 := FR7.ge _ hp; have q2 := UB7 _ hp; simp only at q1 q2; omega)
  replace cp0_2 : w16.cell? ⟨w.heap.size, 2, none⟩ = some (v_x_subs) := cellw blw2 hw16 cp0_2 (fun hp => by have q1 := FR7.ge _ hp; have q2 := UB7 _ hp; simp only at q1 q2; omega)
  replace cp0_3 : w16.cell? ⟨w.heap.size, 3, none⟩ = some (.int .i64 x.last) := cellw blw2 hw16 cp0_3 (fun hp => by have q1 := FR7.ge _ hp; have q2 := UB7 _ hp; simp only at q1 q2; omega)
  replace cW0_0 : w16.cell? ⟨w4.heap.size, 0, none⟩ = some (.bool y0.shut) := cellw blw2 hw16 cW0_0 (fun hp => by have q1 := FR7.ge _ hp; have q2 := UB7 _ hp; simp only at q1 q2; omega)
  replace cW0_1 : w16.cell? ⟨w4.heap.size, 1, none⟩ = some (.slice a4_0_docs y0.docs.length c4_0_docs) := cellw blw2 hw16 cW0_1 (fun hp => by have q1 := FR7.ge _ hp; have q2 := UB7 _ hp; simp only at q1 q2; omega)
  replace cW0_2 : w16.cell? ⟨w4.heap.size, 2, none⟩ = some (.slice a4_0_subs y0.subs.length c4_0_subs) := cellw blw2 hw16 cW0_2 (fun hp => by have q1 := FR7.ge _ hp; have q2 := UB7 _ hp; simp only at q1 q2; omega)
  replace cW0_3 : w16.cell? ⟨w4.heap.size, 3, none⟩ = some (.int .i64 y0.last) := cellw blw2 hw16 cW0_3 (fun hp => by have q1 := FR7.ge _ hp; have q2 := UB7 _ hp; simp only at q1 q2; omega)
  replace cxx_0 : w16.cell? ⟨w5.heap.size, 0, none⟩ = some (.bool x.shut) := cellw blw2 hw16 cxx_0 (fun hp => by have q1 := FR7.ge _ hp; have q2 := UB7 _ hp; simp only at q1 q2; omega)
  replace cxx_1 : w16.cell? ⟨w5.heap.size, 1, none⟩ = some (.slice a5_docs x.docs.length c5_docs) := cellw blw2 hw16 cxx_1 (fun hp => by have q1 := FR7.ge _ hp; have q2 := UB7 _ hp; simp only at q1 q2; omega)
  replace cxx_2 : w16.cell? ⟨w5.heap.size, 2, none⟩ = some (.slice a5_subs x.subs.length c5_subs) := cellw blw2 hw16 cxx_2 (fun hp => by have q1 := FR7.ge _ hp; have q2 := UB7 _ hp; simp only at q1 q2; omega)
  replace cxx_3 : w16.cell? ⟨w5.heap.size, 3, none⟩ = some (.int .i64 x.last) := cellw blw2 hw16 cxx_3 (fun hp => by have q1 := FR7.ge _ hp; have q2 := UB7 _ hp; simp only at q1 q2; omega)
  replace cG0_0 : w16.cell? ⟨w7.heap.size, 0, none⟩ = some (.bool y0.shut) := cellw blw2 hw16 cG0_0 (fun hp => by have q1 := FR7.ge _ hp; have q2 := UB7 _ hp; simp only at q1 q2; omega)
  replace cG0_1 : w16.cell? ⟨w7.heap.size, 1, none⟩ = some (.slice a7_0_docs y0.docs.length c7_0_docs) := cellw blw2 hw16 cG0_1 (fun hp => by have q1 := FR7.ge _ hp; have q2 := UB7 _ hp; simp only at q1 q2; omega)
  replace cG0_2 : w16.cell? ⟨w7.heap.size, 2, none⟩ = some (.slice a7_0_subs y0.subs.length c7_0_subs) := cellw blw2 hw16 cG0_2 (fun hp => by have q1 := FR7.ge _ hp; have q2 := UB7 _ hp; simp only at q1 q2; omega)
  replace cG0_3 : w16.cell? ⟨w7.heap.size, 3, none⟩ = some (.int .i64 y0.last) := cellw blw2 hw16 cG0_3 (fun hp => by have q1 := FR7.ge _ hp; have q2 := UB7 _ hp; simp only at q1 q2; omega)
  replace K4 : Kept (f4_0_docs ++ f4_0_subs) w4 w16 := K4.wr2 blw2 hw16 (fun p hp => Nat.lt_of_lt_of_le (UB4 p hp) (by omega)) (fun q hq hp => by have q1 := FR7.ge q hp; have q2 := UB7 q hp; first | (have q3 := UB4 q hq; omega) | (have q3 := FR4.ge q hq; omega))
  have B16 : Below (w6.heap.size) w15 w16 := wrb hw16 blw2 (by omega) (fun p hp => FR7.ge p hp)
  replace FR7 : Fresh (w6.heap.size) w16 (f7_0_docs ++ f7_0_subs) := FR7.wr2 blw2 hw16 (fun p hp => Nat.lt_of_lt_of_le (UB7 p hp) (by omega))
  replace S7_0_docs := T16_0_docs
  replace S7_0_subs := T16_0_subs
  have K7 : Kept (f7_0_docs ++ f7_0_subs) w16 w16 := Kept.refl _ _
  have z16_p0 : w.heap.size < w16.heap.size := (by omega)
  have z16_W0 : w4.heap.size < w16.heap.size := (by omega)
  have z16_xx : w5.heap.size < w16.heap.size := (by omega)
  have z16_G0 : w7.heap.size < w16.heap.size := (by omega)
  obtain ⟨m1, hm1, hn1⟩ : ∃ m : Int, m = 1 + ((cntL y0.docs + cntL y0.subs : Nat) : Int) ∧ 1 ≤ m := ⟨_, rfl, by omega⟩
  obtain rfl : e = .returned (.int .i64 m1) := he.trans (by rw [hm1])
  have ho1 : m1 ≤ 1 + 1099511627776 := by omega
  have HM1 : Hid (m1 = 1 + ((cntL y0.docs + cntL y0.subs : Nat) : Int)) := Lib.hid hm1
  clear he hm1
  have hx1 : decide (m1 < 0) = false := by simp; omega
  have hy1 : ¬ m1 < 0 := by omega
  have hz : (m1 != m1) = false := by simp
  go_wp2_with fail
  refine (heldHub_c y0.shut y0.last _ _ _ _ _ 1 (by omega) (by (try simp only [cntL_mkL]); omega) ((⟨_, S7_0_docs.kept (K7.below (show Below w16.heap.size w16 _ from blw2) (fun p hp => Nat.lt_of_lt_of_le (UB7 p hp) (by omega))) (by intro p hp; simp only [List.mem_append]; simp [hp])⟩ : RdS _ _ _)) ((⟨_, S7_0_subs.kept (K7.below (show Below w16.heap.size w16 _ from blw2) (fun p hp => Nat.lt_of_lt_of_le (UB7 p hp) (by omega))) (by intro p hp; simp only [List.mem_append]; simp [hp])⟩ : RdS _ _ _)) (by (try simp only [cntL_mkL]); exact mkL_mkL _ _) (by (try simp only [cntL_mkL]); exact mkL_mkL _ _)).mono ?_
  rintro e w17 ⟨he, hb17⟩
  obtain rfl : e = .returned (.int .i64 m1) := he.trans (by (try simp only [cntL_mkL]); rw [HM1.out])
  clear he
  have B17 : Below w16.heap.size w16 w17 := blw2
  have s17 : w16.heap.size ≤ w17.heap.size := (by have := hb17.size; (try simp at this); omega)
  have hh := mc8 B17 cp0_0 cp0_1 cp0_2 cp0_3 cW0_0 cW0_1 cW0_2 cW0_3
  clear cp0_0 cp0_1 cp0_2 cp0_3 cW0_0 cW0_1 cW0_2 cW0_3
  obtain ⟨cp0_0, cp0_1, cp0_2, cp0_3, cW0_0, cW0_1, cW0_2, cW0_3⟩ := hh
  have hh := mc8 B17 cxx_0 cxx_1 cxx_2 cxx_3 cG0_0 cG0_1 cG0_2 cG0_3
  clear cxx_0 cxx_1 cxx_2 cxx_3 cG0_0 cG0_1 cG0_2 cG0_3
  obtain ⟨cxx_0, cxx_1, cxx_2, cxx_3, cG0_0, cG0_1, cG0_2, cG0_3⟩ := hh
  replace K4 : Kept (f4_0_docs ++ f4_0_subs) w4 w17 := K4.below B17 (fun p hp => Nat.lt_of_lt_of_le (UB4 p hp) (by omega))
  replace K7 : Kept (f7_0_docs ++ f7_0_subs) w16 w17 := K7.below B17 (fun p hp => Nat.lt_of_lt_of_le (UB7 p hp) (by omega))
  have z17_p0 : w.heap.size < w17.heap.size := (by omega)
  have z17_W0 : w4.heap.size < w17.heap.size := (by omega)
  have z17_xx : w5.heap.size < w17.heap.size := (by omega)
  have z17_G0 : w7.heap.size < w17.heap.size := (by omega)
  clear hb17
  go_wp2_with fail
  refine (toHub_c x _ _ _  (hr_x_docs.below blw2) (hr_x_subs.below blw2)).mono ?_
  rintro e w18 ⟨_, rfl, ⟨fp18, ho18, FR18⟩, hb18⟩
  obtain ⟨v18_docs, v18_subs, f18_docs, f18_subs, rfl, S18_docs, S18_subs, rfl⟩ := ho18
  obtain ⟨a18_docs, c18_docs, rfl⟩ := RdS.isSlice ⟨_, S18_docs⟩
  obtain ⟨a18_subs, c18_subs, rfl⟩ := RdS.isSlice ⟨_, S18_subs⟩
  have UB18 : ∀ p ∈ (f18_docs ++ f18_subs), p.1 < w18.heap.size := Live.lt (Live.append.2 ⟨S18_docs.live, S18_subs.live⟩)
  replace FR18 : Fresh (w17.heap.size) w18 (f18_docs ++ f18_subs) := FR18.mono (by first | exact Nat.le_refl _ | (simp; done) | (simp; omega))
  have K18 : Kept (f18_docs ++ f18_subs) w18 w18 := Kept.refl _ _
  have B18 : Below w17.heap.size w17 w18 := blw2
  have s18 : w17.heap.size ≤ w18.heap.size := (by have := hb18.size; (try simp at this); omega)
  have hh := mc8 B18 cp0_0 cp0_1 cp0_2 cp0_3 cW0_0 cW0_1 cW0_2 cW0_3
  clear cp0_0 cp0_1 cp0_2 cp0_3 cW0_0 cW0_1 cW0_2 cW0_3
  obtain ⟨cp0_0, cp0_1, cp0_2, cp0_3, cW0_0, cW0_1, cW0_2, cW0_3⟩ := hh
  have hh := mc8 B18 cxx_0 cxx_1 cxx_2 cxx_3 cG0_0 cG0_1 cG0_2 cG0_3
  clear cxx_0 cxx_1 cxx_2 cxx_3 cG0_0 cG0_1 cG0_2 cG0_3
  obtain ⟨cxx_0, cxx_1, cxx_2, cxx_3, cG0_0, cG0_1, cG0_2, cG0_3⟩ := hh
  replace K4 : Kept (f4_0_docs ++ f4_0_subs) w4 w18 := K4.below B18 (fun p hp => Nat.lt_of_lt_of_le (UB4 p hp) (by omega))
  replace K7 : Kept (f7_0_docs ++ f7_0_subs) w16 w18 := K7.below B18 (fun p hp => Nat.lt_of_lt_of_le (UB7 p hp) (by omega))
  have z18_p0 : w.heap.size < w18.heap.size := (by omega)
  have z18_W0 : w4.heap.size < w18.heap.size := (by omega)
  have z18_xx : w5.heap.size < w18.heap.size := (by omega)
  have z18_G0 : w7.heap.size < w18.heap.size := (by omega)
  clear hb18
  go_wp2_with fail
  refine (toIntS_c _ t _ (hr_t.below blw2)).mono ?_
  rintro e w19 ⟨v19_t, rfl, ⟨f19_t, S19_t, FR19⟩, hb19⟩
  have UB19 : ∀ p ∈ f19_t, p.1 < w19.heap.size := Live.lt (S19_t.live)
  replace FR19 : Fresh (w18.heap.size) w19 f19_t := FR19.mono (by first | exact Nat.le_refl _ | (simp; done) | (simp; omega))
  have K19 : Kept f19_t w19 w19 := Kept.refl _ _
  have B19 : Below w18.heap.size w18 w19 := blw2
  have s19 : w18.heap.size ≤ w19.heap.size := (by have := hb19.size; (try simp at this); omega)
  have hh := mc8 B19 cp0_0 cp0_1 cp0_2 cp0_3 cW0_0 cW0_1 cW0_2 cW0_3
  clear cp0_0 cp0_1 cp0_2 cp0_3 cW0_0 cW0_1 cW0_2 cW0_3
  obtain ⟨cp0_0, cp0_1, cp0_2, cp0_3, cW0_0, cW0_1, cW0_2, cW0_3⟩ := hh
  have hh := mc8 B19 cxx_0 cxx_1 cxx_2 cxx_3 cG0_0 cG0_1 cG0_2 cG0_3
  clear cxx_0 cxx_1 cxx_2 cxx_3 cG0_0 cG0_1 cG0_2 cG0_3
  obtain ⟨cxx_0, cxx_1, cxx_2, cxx_3, cG0_0, cG0_1, cG0_2, cG0_3⟩ := hh
  replace K4 : Kept (f4_0_docs ++ f4_0_subs) w4 w19 := K4.below B19 (fun p hp => Nat.lt_of_lt_of_le (UB4 p hp) (by omega))
  replace K7 : Kept (f7_0_docs ++ f7_0_subs) w16 w19 := K7.below B19 (fun p hp => Nat.lt_of_lt_of_le (UB7 p hp) (by omega))
  replace K18 : Kept (f18_docs ++ f18_subs) w18 w19 := K18.below B19 (fun p hp => Nat.lt_of_lt_of_le (UB18 p hp) (by omega))
  have z19_p0 : w.heap.size < w19.heap.size := (by omega)
  have z19_W0 : w4.heap.size < w19.heap.size := (by omega)
  have z19_xx : w5.heap.size < w19.heap.size := (by omega)
  have z19_G0 : w7.heap.size < w19.heap.size := (by omega)
  clear hb19
  go_wp2_with fail
  refine (HI.out _ _ _ _ ((⟨_, S18_docs.kept (K18.below (show Below w19.heap.size w19 _ from blw2) (fun p hp => Nat.lt_of_lt_of_le (UB18 p hp) (by omega))) (by intro p hp; simp only [List.mem_append]; simp [hp])⟩ : RdS _ _ _)) ((⟨_, S18_subs.kept (K18.below (show Below w19.heap.size w19 _ from blw2) (fun p hp => Nat.lt_of_lt_of_le (UB18 p hp) (by omega))) (by intro p hp; simp only [List.mem_append]; simp [hp])⟩ : RdS _ _ _)) ((⟨_, S19_t.kept (K19.below (show Below w19.heap.size w19 _ from blw2) (fun p hp => Nat.lt_of_lt_of_le (UB19 p hp) (by omega))) (fun _ h => h)⟩ : RdS _ _ _))).mono ?_
  rintro e w20 ⟨v20_0_docs, v20_0_subs, f20_0_docs, f20_0_subs, rfl, S20_0_docs, S20_0_subs, FR20, hb20⟩
  obtain ⟨a20_0_docs, c20_0_docs, rfl⟩ := RdS.isSlice ⟨_, S20_0_docs⟩
  obtain ⟨a20_0_subs, c20_0_subs, rfl⟩ := RdS.isSlice ⟨_, S20_0_subs⟩
  have UB20 : ∀ p ∈ (f20_0_docs ++ f20_0_subs), p.1 < w20.heap.size := Live.lt (Live.append.2 ⟨S20_0_docs.live, S20_0_subs.live⟩)
  replace FR20 : Fresh (w19.heap.size) w20 (f20_0_docs ++ f20_0_subs) := FR20.mono (by first | exact Nat.le_refl _ | (simp; done) | (simp; omega))
  have K20 : Kept (f20_0_docs ++ f20_0_subs) w20 w20 := Kept.refl _ _
  have B20 : Below w19.heap.size w19 w20 := blw2
  have s20 : w19.heap.size ≤ w20.heap.size := (by have := hb20.size; (try simp at this); omega)
  have hh := mc8 B20 cp0_0 cp0_1 cp0_2 cp0_3 cW0_0 cW0_1 cW0_2 cW0_3
  clear cp0_0 cp0_1 cp0_2 cp0_3 cW0_0 cW0_1 cW0_2 cW0_3
  obtain ⟨cp0_0, cp0_1, cp0_2, cp0_3, cW0_0, cW0_1, cW0_2, cW0_3⟩ := hh
  have hh := mc8 B20 cxx_0 cxx_1 cxx_2 cxx_3 cG0_0 cG0_1 cG0_2 cG0_3
  clear cxx_0 cxx_1 cxx_2 cxx_3 cG0_0 cG0_1 cG0_2 cG0_3
  obtain ⟨cxx_0, cxx_1, cxx_2, cxx_3, cG0_0, cG0_1, cG0_2, cG0_3⟩ := hh
  replace K4 : Kept (f4_0_docs ++ f4_0_subs) w4 w20 := K4.below B20 (fun p hp => Nat.lt_of_lt_of_le (UB4 p hp) (by omega))
  replace K7 : Kept (f7_0_docs ++ f7_0_subs) w16 w20 := K7.below B20 (fun p hp => Nat.lt_of_lt_of_le (UB7 p hp) (by omega))
  replace K18 : Kept (f18_docs ++ f18_subs) w18 w20 := K18.below B20 (fun p hp => Nat.lt_of_lt_of_le (UB18 p hp) (by omega))
  replace K19 : Kept f19_t w19 w20 := K19.below B20 (fun p hp => Nat.lt_of_lt_of_le (UB19 p hp) (by omega))
  have z20_p0 : w.heap.size < w20.heap.size := (by omega)
  have z20_W0 : w4.heap.size < w20.heap.size := (by omega)
  have z20_xx : w5.heap.size < w20.heap.size := (by omega)
  have z20_G0 : w7.heap.size < w20.heap.size := (by omega)
  clear hb20
  go_wp2_with fail
  refine (eqHub_c y0 _ _ _ _ _ ((⟨_, S20_0_docs.kept (K20.below (show Below w20.heap.size w20 _ from blw2) (fun p hp => Nat.lt_of_lt_of_le (UB20 p hp) (by omega))) (by intro p hp; simp only [List.mem_append]; simp [hp])⟩ : RdS _ _ _)) ((⟨_, S4_0_docs.kept (K4.below (show Below w20.heap.size w20 _ from blw2) (fun p hp => Nat.lt_of_lt_of_le (UB4 p hp) (by omega))) (by intro p hp; simp only [List.mem_append]; simp [hp])⟩ : RdS _ _ _)) ((⟨_, S20_0_subs.kept (K20.below (show Below w20.heap.size w20 _ from blw2) (fun p hp => Nat.lt_of_lt_of_le (UB20 p hp) (by omega))) (by intro p hp; simp only [List.mem_append]; simp [hp])⟩ : RdS _ _ _)) ((⟨_, S4_0_subs.kept (K4.below (show Below w20.heap.size w20 _ from blw2) (fun p hp => Nat.lt_of_lt_of_le (UB4 p hp) (by omega))) (by intro p hp; simp only [List.mem_append]; simp [hp])⟩ : RdS _ _ _))).mono ?_
  rintro e w21 ⟨rfl, hb21⟩
  have hN : Below (w20.heap.size + 1) (w20.alloc (.cells #[.bool y0.shut, .slice a20_0_docs y0.docs.length c20_0_docs, .slice a20_0_subs y0.subs.length c20_0_subs, .int .i64 y0.last] 30)) w21 := blw2
  have B21 : Below w20.heap.size w20 w21 := blw2
  have s21 : w20.heap.size + 1 ≤ w21.heap.size := (by have := hb21.size; (try simp at this); omega)
  have hh := mc8 B21 cp0_0 cp0_1 cp0_2 cp0_3 cW0_0 cW0_1 cW0_2 cW0_3
  clear cp0_0 cp0_1 cp0_2 cp0_3 cW0_0 cW0_1 cW0_2 cW0_3
  obtain ⟨cp0_0, cp0_1, cp0_2, cp0_3, cW0_0, cW0_1, cW0_2, cW0_3⟩ := hh
  have hh := mc8 B21 cxx_0 cxx_1 cxx_2 cxx_3 cG0_0 cG0_1 cG0_2 cG0_3
  clear cxx_0 cxx_1 cxx_2 cxx_3 cG0_0 cG0_1 cG0_2 cG0_3
  obtain ⟨cxx_0, cxx_1, cxx_2, cxx_3, cG0_0, cG0_1, cG0_2, cG0_3⟩ := hh
  have cH0_0 : w21.cell? ⟨w20.heap.size, 0, none⟩ = some (.bool y0.shut) := by rw [hN.cell (by simp; try omega)]; simp
  have cH0_1 : w21.cell? ⟨w20.heap.size, 1, none⟩ = some (.slice a20_0_docs y0.docs.length c20_0_docs) := by rw [hN.cell (by simp; try omega)]; simp
  have cH0_2 : w21.cell? ⟨w20.heap.size, 2, none⟩ = some (.slice a20_0_subs y0.subs.length c20_0_subs) := by rw [hN.cell (by simp; try omega)]; simp
  have cH0_3 : w21.cell? ⟨w20.heap.size, 3, none⟩ = some (.int .i64 y0.last) := by rw [hN.cell (by simp; try omega)]; simp
  clear hN
  replace K4 : Kept (f4_0_docs ++ f4_0_subs) w4 w21 := K4.below B21 (fun p hp => Nat.lt_of_lt_of_le (UB4 p hp) (by omega))
  replace K7 : Kept (f7_0_docs ++ f7_0_subs) w16 w21 := K7.below B21 (fun p hp => Nat.lt_of_lt_of_le (UB7 p hp) (by omega))
  replace K20 : Kept (f20_0_docs ++ f20_0_subs) w20 w21 := K20.below B21 (fun p hp => Nat.lt_of_lt_of_le (UB20 p hp) (by omega))
  have z21_p0 : w.heap.size < w21.heap.size := (by omega)
  have z21_W0 : w4.heap.size < w21.heap.size := (by omega)
  have z21_xx : w5.heap.size < w21.heap.size := (by omega)
  have z21_G0 : w7.heap.size < w21.heap.size := (by omega)
  have z21_H0 : w20.heap.size < w21.heap.size := (by omega)
  clear hb21
  go_wp2_with fail
  refine (heldHub_c y0.shut y0.last _ _ _ _ _ 1 (by omega) (by (try simp only [cntL_mkL]); omega) ((⟨_, S7_0_docs.kept (K7.below (show Below w21.heap.size w21 _ from blw2) (fun p hp => Nat.lt_of_lt_of_le (UB7 p hp) (by omega))) (by intro p hp; simp only [List.mem_append]; simp [hp])⟩ : RdS _ _ _)) ((⟨_, S7_0_subs.kept (K7.below (show Below w21.heap.size w21 _ from blw2) (fun p hp => Nat.lt_of_lt_of_le (UB7 p hp) (by omega))) (by intro p hp; simp only [List.mem_append]; simp [hp])⟩ : RdS _ _ _)) (by (try simp only [cntL_mkL]); exact mkL_mkL _ _) (by (try simp only [cntL_mkL]); exact mkL_mkL _ _)).mono ?_
  rintro e w22 ⟨he, hb22⟩
  obtain rfl : e = .returned (.int .i64 m1) := he.trans (by (try simp only [cntL_mkL]); rw [HM1.out])
  clear he
  have B22 : Below w21.heap.size w21 w22 := blw2
  have s22 : w21.heap.size ≤ w22.heap.size := (by have := hb22.size; (try simp at this); omega)
  have hh := mc8 B22 cp0_0 cp0_1 cp0_2 cp0_3 cW0_0 cW0_1 cW0_2 cW0_3
  clear cp0_0 cp0_1 cp0_2 cp0_3 cW0_0 cW0_1 cW0_2 cW0_3
  obtain ⟨cp0_0, cp0_1, cp0_2, cp0_3, cW0_0, cW0_1, cW0_2, cW0_3⟩ := hh
  have hh := mc8 B22 cxx_0 cxx_1 cxx_2 cxx_3 cG0_0 cG0_1 cG0_2 cG0_3
  clear cxx_0 cxx_1 cxx_2 cxx_3 cG0_0 cG0_1 cG0_2 cG0_3
  obtain ⟨cxx_0, cxx_1, cxx_2, cxx_3, cG0_0, cG0_1, cG0_2, cG0_3⟩ := hh
  have hh := mc4 B22 cH0_0 cH0_1 cH0_2 cH0_3
  clear cH0_0 cH0_1 cH0_2 cH0_3
  obtain ⟨cH0_0, cH0_1, cH0_2, cH0_3⟩ := hh
  replace K4 : Kept (f4_0_docs ++ f4_0_subs) w4 w22 := K4.below B22 (fun p hp => Nat.lt_of_lt_of_le (UB4 p hp) (by omega))
  replace K7 : Kept (f7_0_docs ++ f7_0_subs) w16 w22 := K7.below B22 (fun p hp => Nat.lt_of_lt_of_le (UB7 p hp) (by omega))
  have z22_p0 : w.heap.size < w22.heap.size := (by omega)
  have z22_W0 : w4.heap.size < w22.heap.size := (by omega)
  have z22_xx : w5.heap.size < w22.heap.size := (by omega)
  have z22_G0 : w7.heap.size < w22.heap.size := (by omega)
  have z22_H0 : w20.heap.size < w22.heap.size := (by omega)
  clear hb22
  go_wp2
  go_ret
  exact ⟨rfl, blw2⟩
theorem walkc_FnExactHubOpen (x : DHub) (v_x_docs : Value) (v_x_subs : Value) (nm : ByteArray) (t : List Int) (v_t : Value) (w : World) (h_x_docs : RdSM maxLen w v_x_docs x.docs) (h_x_subs : RdSM maxLen w v_x_subs x.subs) (n_nm : nm.size ≤ maxLen) (h_t : RdSM maxLen w v_t t) :
    Calls Tryz.prog 4 #[.agg #[.bool x.shut, v_x_docs, v_x_subs, .int .i64 x.last], .string nm, v_t] w (Tells w (.bool true)) :=
  walk_FnExactHubOpen x v_x_docs v_x_subs nm t v_t w h_x_docs h_x_subs n_nm h_t ((hubOpen x nm t).1) ((hubOpen x nm t).2) (fun ns hx ht _ _ _ W h1 h2 h3 => spec_HubOpen_c x _ _ nm t _ W h1 h2 (le_BIG (by omega)) h3 (by omega)) (fun ns hx ht _ _ _ W h1 h2 h3 => impl_HubOpen_c x _ _ nm t _ W h1 h2 (le_BIG (by omega)) h3 (by omega)) (fun hz ht => by have := hubOpen_cnt x nm t; have : GoS.sz x = szL x.docs + szL x.subs := rfl; rw [szL_int] at *; omega)
namespace fnExactHubOpen
theorem own : ownKnob Tryz.prog.godebug = none := by kernel_rfl
theorem laidOut : laidOutB Tryz.prog = true := by kernel_rfl
set_option maxRecDepth 100000 in
theorem lifted (os : Os) (started : os.Started) (H : Type) (enc : TypeId × Value → H) :
    ReturnsInHanded {} Tryz.checked os 4 .any (Rows.fnExactHubOpenSpec.pre6 enc Tryz.prog Tryz.f4 Rows.fnExactHubOpenRow.domain false) (Rows.fnExactHubOpenSpec.post enc Tryz.prog Tryz.f4 false true false false) := by
  refine returnsInHanded_of_change (C := Tryz.checked) own started (by kernel_rfl) Tryz.func4
    (ChangeSpec.witness6 (enc := enc) (C := Tryz.checked) false ⟨#[], #[.agg #[.bool false, .slice none 0 0, .slice none 0 0, .int .i64 0], .string ByteArray.empty, .slice none 0 0], []⟩ 8 (by kernel_rfl) (by kernel_rfl) (by kernel_rfl) (by kernel_rfl)) ?_
  intro W base args ds gs before hval0 hW hcnd _
  have hval : ∀ (j : Nat) t v, Tryz.f4.params[j]? = some t → args[j]? = some v → Value.okWide Tryz.prog W .any base t v := hval0
  have hW' := hW
  obtain ⟨p, q, hA0, hV, rfl, hfz, hnd⟩ := hW
  have hA : DataW.TrodAll enc Tryz.prog W 0 (fun _ => true) true Tryz.f4.params.toList args.toList ds p := hA0
  rw [Tryz.params4] at hA hval
  obtain ⟨v0, vs0, d0, ds0, p0, q0, hargs, rfl, rfl, h0, r0⟩ := trodAll_cons hA
  obtain ⟨v1, vs1, d1, ds1, p1, q1, rfl, rfl, rfl, h1, r1⟩ := trodAll_cons r0
  obtain ⟨v2, vs2, d2, ds2, p2, q2, rfl, rfl, rfl, h2, r2⟩ := trodAll_cons r1
  obtain ⟨rfl, rfl, rfl⟩ := trodAll_nil r2
  obtain rfl : args = #[v0, v1, v2] := by cases args; simp_all
  obtain ⟨rfl, rfl⟩ := trodVars_none hV
  obtain ⟨cs0, rfl, _⟩ := okWide_struct Tryz.underlying25 (hval 0 25 v0 rfl rfl)
  have k0 := h0
  have lt0 : ∀ x ∈ p0, x.block < W.heap.size := by obtain ⟨m, hm⟩ := k0; exact DataW.trod_lt m _ _ _ hm
  obtain ⟨x0, m0⟩ : ∃ x : DHub, RdM maxLen W cs0.toList x := by
    obtain ⟨fuel, hf⟩ := h0
    exact opens_DHub _ _ _ _ _ _ _ _ hf
  obtain ⟨v_docs0, v_subs0, hc0, m_docs0, m_subs0⟩ := invM_DHub m0
  obtain ⟨cs0⟩ := cs0
  simp only at hc0
  subst hc0
  obtain ⟨a1, rfl, rfl, rfl, w1⟩ := open_string Tryz.underlying9 (hval 1 9 v1 rfl rfl) h1
  obtain ⟨a2, len2, cap2, rfl⟩ := okWide_slice Tryz.underlying31 (hval 2 31 v2 rfl rfl)
  have k2 := h2
  have lt2 : ∀ x ∈ p2, x.block < W.heap.size := by obtain ⟨m, hm⟩ := k2; exact DataW.trod_lt m _ _ _ hm
  obtain ⟨x2, m2⟩ : ∃ l : List Int, RdSM maxLen W (.slice a2 len2 cap2) l := by
    obtain ⟨fuel, hf⟩ := h2
    obtain ⟨l, fp, v, hv, hs⟩ := opens_slice Tryz.underlying31 (by kernel_rfl) (opens_int Tryz.underlying3) _ _ _ _ _ _ _ _ hf
    simp only [Value.cells, List.cons.injEq, and_true] at hv
    subst hv
    exact ⟨l, fp, hs⟩
  clear hA0 hval0
  refine (walkc_FnExactHubOpen x0 _ _ a1 x2 _ W m_docs0 m_subs0 w1 m2).mono fun e W' ⟨he, bel⟩ => ?_
  subst he
  exact ⟨_, rfl, _, _, _, [], _, [], hW', trodAll_mk1 (shut_bool Tryz.underlying4 _), (trodAll_cons_mk (Below.trod laidOut (by kernel_rfl) (of_decide_eq_true (by kernel_rfl)) k0 bel lt0) (trodAll_cons_mk (shut_string Tryz.underlying9 w1) (trodAll_cons_mk (Below.trod laidOut (by kernel_rfl) (of_decide_eq_true (by kernel_rfl)) k2 bel lt2) trodAll_mk0))), rfl, bel.frame _, fun h => by cases h⟩
theorem over : Rows.fnExactHubOpenRow.holds Tryz.pinned (OpenSpec.ofChange Rows.fnExactHubOpenSpec) :=
  OpenClaim.holds_of_wide 4 Tryz.f4 rfl rfl rfl rfl rfl rfl rfl ⟨rfl, rfl, rfl, rfl, rfl⟩ rfl rfl rfl rfl rfl (by kernel_rfl) Tryz.func4 (by kernel_rfl)
    (of_decide_eq_true (by kernel_rfl)) (by unfold Func.isWrapper; first | (rw [if_pos (by decide +kernel)]; kernel_rfl) | (rw [if_neg (by decide +kernel)]; exact ⟨rfl, rfl⟩))
    (fun os started H enc _ => lifted os started H enc)
theorem proved : Rows.FnExactHubOpenSaid := over
end fnExactHubOpen
#print axioms fnExactHubOpen.proved
end Go.Proofs.YtdjfmbdcdmmdfaaGreat
