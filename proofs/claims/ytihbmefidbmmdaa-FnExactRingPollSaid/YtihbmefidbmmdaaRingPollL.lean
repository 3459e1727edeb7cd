/- 'laws.FnExactRingPoll' answers true for every input, and each argument reads afterwards as before. No conditions. -/
import Derived.Test.YtihbmefidbmmdaaEq3
import Derived.Test.YtihbmefidbmmdaaSz3
import Derived.Test.YtihbmefidbmmdaaConv
import Derived.Test.YtihbmefidbmmdaaRpl
import Derived.Test.YtihbmefidbmmdaaMk2
import Derived.Test.YtihbmefidbmmdaaOut
import Derived.Test.YtihbmefidbmmdaaRows
import Derived.ProofKit
import Derived.OpenShut
import Derived.ChangeMaps5
import Derived.Deep.RegionHeld3
namespace Go.Proofs.Ytihbmefidbmmdaa
open Go.ChangeShapes Go.WideShapes Go.ChangeAt Go.RowKit
set_option maxHeartbeats 16000000 in
theorem walk_FnExactRingPoll (x : DRing) (v_x_list : Value) (n : Int) (w : World) (h_x_list : RdSM maxLen w v_x_list x.list) (_b1_n : -9223372036854775808 ≤ n) (_b2_n : n ≤ 9223372036854775807) (y0 : DRing) (y1 : List DEntry) (y2 : Int)
    (HS0 : (GoS.sz x : Nat) ≤ 1048576 → -9223372036854775808 ≤ n → n ≤ 9223372036854775807 → ∀ (v_x_list : Value) (W : World), RdS W v_x_list x.list → Calls Try.prog 33 #[.agg #[.int .i64 x.cap, .int .i64 x.next, .bool x.out, v_x_list], .int .i64 n] W (Out_Ring_EntryS_i W y0 y1 y2))
    (HI0 : (GoS.sz x : Nat) ≤ 1048576 → -9223372036854775808 ≤ n → n ≤ 9223372036854775807 → ∀ (v_x_list : Value) (W : World), RdS W v_x_list x.list → Calls Try.prog 34 #[.agg #[.int .i64 x.cap, .int .i64 x.next, .bool x.out, v_x_list], .int .i64 n] W (Out_Ring_EntryS_i W y0 y1 y2))
    (HC0 : (GoS.sz x : Nat) ≤ 1048576 → cntL y0.list + cntL y1 ≤ 1099511627776) :
    Calls Try.prog 8 #[.agg #[.int .i64 x.cap, .int .i64 x.next, .bool x.out, v_x_list], .int .i64 n] w (Tells w (.bool true)) := by
  have HS1 := Lib.hid HS0
  have HI1 := Lib.hid HI0
  clear HS0 HI0
  by_cases cz_x : ((GoS.sz x : Nat) : Int) ≤ 1048576
  rotate_left
  · go_enter Try.func8, Try.ntmps8
    go_wp2_with fail
    refine (szRing_c x _ _ _ (by omega) (by omega)  (h_x_list.below (by repeat' (first | (with_reducible exact Below.refl _ _) | (with_reducible assumption) | (with_reducible refine Below.setCell ?_ ?_ _) | (with_reducible refine Below.alloc ?_ ?_ _) | (with_reducible refine Below.drew ?_) | (with_reducible refine belowN ?_ _) | (with_reducible refine below_after2 ?_ (by assumption) ?_) | omega | (simp; done) | (simp; omega))))).mono ?_
    rintro e w1 ⟨rfl, hb1⟩
    have hN : Below (w.heap.size + 1) (w.alloc (.cells #[.int .i64 x.cap, .int .i64 x.next, .bool x.out, v_x_list] 35)) w1 := (by repeat' (first | (with_reducible exact Below.refl _ _) | (with_reducible assumption) | (with_reducible refine Below.setCell ?_ ?_ _) | (with_reducible refine Below.alloc ?_ ?_ _) | (with_reducible refine Below.drew ?_) | (with_reducible refine belowN ?_ _) | (with_reducible refine below_after2 ?_ (by assumption) ?_) | omega | (simp; done) | (simp; omega)))
    have B1 : Below w.heap.size w w1 := (by repeat' (first | (with_reducible exact Below.refl _ _) | (with_reducible assumption) | (with_reducible refine Below.setCell ?_ ?_ _) | (with_reducible refine Below.alloc ?_ ?_ _) | (with_reducible refine Below.drew ?_) | (with_reducible refine belowN ?_ _) | (with_reducible refine below_after2 ?_ (by assumption) ?_) | omega | (simp; done) | (simp; omega)))
    have s1 : w.heap.size + 1 ≤ w1.heap.size := (by have := hb1.size; (try simp at this); omega)
    have cp0_0 : w1.cell? ⟨w.heap.size, 0, none⟩ = some (.int .i64 x.cap) := by rw [hN.cell (by simp; try omega)]; simp
    have cp0_1 : w1.cell? ⟨w.heap.size, 1, none⟩ = some (.int .i64 x.next) := by rw [hN.cell (by simp; try omega)]; simp
    have cp0_2 : w1.cell? ⟨w.heap.size, 2, none⟩ = some (.bool x.out) := by rw [hN.cell (by simp; try omega)]; simp
    have cp0_3 : w1.cell? ⟨w.heap.size, 3, none⟩ = some (v_x_list) := by rw [hN.cell (by simp; try omega)]; simp
    clear hN
    have z1_p0 : w.heap.size < w1.heap.size := (by omega)
    clear hb1
    rw [less_neg (by omega)]
    go_wp2
    go_ret
    exact ⟨rfl, (by repeat' (first | (with_reducible exact Below.refl _ _) | (with_reducible assumption) | (with_reducible refine Below.setCell ?_ ?_ _) | (with_reducible refine Below.alloc ?_ ?_ _) | (with_reducible refine Below.drew ?_) | (with_reducible refine belowN ?_ _) | (with_reducible refine below_after2 ?_ (by assumption) ?_) | omega | (simp; done) | (simp; omega)))⟩
  have hr_x_list : RdS w v_x_list x.list := let ⟨fp, s⟩ := h_x_list; ⟨fp, s.up (by have : GoS.sz x = szL x.list := rfl; exact le_BIG (by omega))⟩
  have cx_x : cntL x.list ≤ 5 * 1048576 := by have : GoS.sz x = szL x.list := rfl; have := cntL_le x.list; omega
  have HS := Lib.hid (HS1.out (by omega) _b1_n _b2_n)
  have HI := Lib.hid (HI1.out (by omega) _b1_n _b2_n)
  clear HS1 HI1
  have hcnt : cntL y0.list + cntL y1 ≤ 1099511627776 := HC0 (by omega)
  clear HC0
  go_enter Try.func8, Try.ntmps8
  go_wp2_with fail
  refine (szRing_c x _ _ _ (by omega) (by omega)  (h_x_list.below (by repeat' (first | (with_reducible exact Below.refl _ _) | (with_reducible assumption) | (with_reducible refine Below.setCell ?_ ?_ _) | (with_reducible refine Below.alloc ?_ ?_ _) | (with_reducible refine Below.drew ?_) | (with_reducible refine belowN ?_ _) | (with_reducible refine below_after2 ?_ (by assumption) ?_) | omega | (simp; done) | (simp; omega))))).mono ?_
  rintro e w1 ⟨rfl, hb1⟩
  have hN : Below (w.heap.size + 1) (w.alloc (.cells #[.int .i64 x.cap, .int .i64 x.next, .bool x.out, v_x_list] 35)) w1 := (by repeat' (first | (with_reducible exact Below.refl _ _) | (with_reducible assumption) | (with_reducible refine Below.setCell ?_ ?_ _) | (with_reducible refine Below.alloc ?_ ?_ _) | (with_reducible refine Below.drew ?_) | (with_reducible refine belowN ?_ _) | (with_reducible refine below_after2 ?_ (by assumption) ?_) | omega | (simp; done) | (simp; omega)))
  have B1 : Below w.heap.size w w1 := (by repeat' (first | (with_reducible exact Below.refl _ _) | (with_reducible assumption) | (with_reducible refine Below.setCell ?_ ?_ _) | (with_reducible refine Below.alloc ?_ ?_ _) | (with_reducible refine Below.drew ?_) | (with_reducible refine belowN ?_ _) | (with_reducible refine below_after2 ?_ (by assumption) ?_) | omega | (simp; done) | (simp; omega)))
  have s1 : w.heap.size + 1 ≤ w1.heap.size := (by have := hb1.size; (try simp at this); omega)
  have cp0_0 : w1.cell? ⟨w.heap.size, 0, none⟩ = some (.int .i64 x.cap) := by rw [hN.cell (by simp; try omega)]; simp
  have cp0_1 : w1.cell? ⟨w.heap.size, 1, none⟩ = some (.int .i64 x.next) := by rw [hN.cell (by simp; try omega)]; simp
  have cp0_2 : w1.cell? ⟨w.heap.size, 2, none⟩ = some (.bool x.out) := by rw [hN.cell (by simp; try omega)]; simp
  have cp0_3 : w1.cell? ⟨w.heap.size, 3, none⟩ = some (v_x_list) := by rw [hN.cell (by simp; try omega)]; simp
  clear hN
  have z1_p0 : w.heap.size < w1.heap.size := (by omega)
  clear hb1
  rw [less_pos (by omega)]
  go_wp2_with fail
  refine (toRing_c x _ _  (hr_x_list.below (by repeat' (first | (with_reducible exact Below.refl _ _) | (with_reducible assumption) | (with_reducible refine Below.setCell ?_ ?_ _) | (with_reducible refine Below.alloc ?_ ?_ _) | (with_reducible refine Below.drew ?_) | (with_reducible refine belowN ?_ _) | (with_reducible refine below_after2 ?_ (by assumption) ?_) | omega | (simp; done) | (simp; omega))))).mono ?_
  rintro e w2 ⟨_, rfl, ⟨f2_list, ho2, FR2⟩, hb2⟩
  obtain ⟨v2_list, f2_list', rfl, S2_list, rfl⟩ := ho2
  obtain ⟨a2_list, c2_list, rfl⟩ := RdS.isSlice ⟨_, S2_list⟩
  have UB2 : ∀ p ∈ f2_list, p.1 < w2.heap.size := Live.lt (S2_list.live)
  replace FR2 : Fresh (w1.heap.size) w2 f2_list := FR2.mono (by first | exact Nat.le_refl _ | (simp; done) | (simp; omega))
  have K2 : Kept f2_list w2 w2 := Kept.refl _ _
  have B2 : Below w1.heap.size w1 w2 := (by repeat' (first | (with_reducible exact Below.refl _ _) | (with_reducible assumption) | (with_reducible refine Below.setCell ?_ ?_ _) | (with_reducible refine Below.alloc ?_ ?_ _) | (with_reducible refine Below.drew ?_) | (with_reducible refine belowN ?_ _) | (with_reducible refine below_after2 ?_ (by assumption) ?_) | omega | (simp; done) | (simp; omega)))
  have s2 : w1.heap.size ≤ w2.heap.size := (by have := hb2.size; (try simp at this); omega)
  replace cp0_0 : w2.cell? ⟨w.heap.size, 0, none⟩ = some (.int .i64 x.cap) := cellb B2 cp0_0
  replace cp0_1 : w2.cell? ⟨w.heap.size, 1, none⟩ = some (.int .i64 x.next) := cellb B2 cp0_1
  replace cp0_2 : w2.cell? ⟨w.heap.size, 2, none⟩ = some (.bool x.out) := cellb B2 cp0_2
  replace cp0_3 : w2.cell? ⟨w.heap.size, 3, none⟩ = some (v_x_list) := cellb B2 cp0_3
  have z2_p0 : w.heap.size < w2.heap.size := (by omega)
  clear hb2
  go_wp2_with fail
  refine (HS.out _ _ ((⟨_, S2_list.kept (K2.below (show Below w2.heap.size w2 _ from (by repeat' (first | (with_reducible exact Below.refl _ _) | (with_reducible assumption) | (with_reducible refine Below.setCell ?_ ?_ _) | (with_reducible refine Below.alloc ?_ ?_ _) | (with_reducible refine Below.drew ?_) | (with_reducible refine belowN ?_ _) | (with_reducible refine below_after2 ?_ (by assumption) ?_) | omega | (simp; done) | (simp; omega)))) (fun p hp => Nat.lt_of_lt_of_le (UB2 p hp) (by omega))) (fun _ h => h)⟩ : RdS _ _ _))).mono ?_
  rintro e w3 ⟨v3_0_list, v3_1, f3_0_list, f3_1, rfl, S3_0_list, S3_1, FR3, hb3⟩
  obtain ⟨a3_0_list, c3_0_list, rfl⟩ := RdS.isSlice ⟨_, S3_0_list⟩
  have UB3 : ∀ p ∈ (f3_0_list ++ f3_1), p.1 < w3.heap.size := Live.lt (Live.append.2 ⟨S3_0_list.live, S3_1.live⟩)
  replace FR3 : Fresh (w2.heap.size) w3 (f3_0_list ++ f3_1) := FR3.mono (by first | exact Nat.le_refl _ | (simp; done) | (simp; omega))
  have K3 : Kept (f3_0_list ++ f3_1) w3 w3 := Kept.refl _ _
  have B3 : Below w2.heap.size w2 w3 := (by repeat' (first | (with_reducible exact Below.refl _ _) | (with_reducible assumption) | (with_reducible refine Below.setCell ?_ ?_ _) | (with_reducible refine Below.alloc ?_ ?_ _) | (with_reducible refine Below.drew ?_) | (with_reducible refine belowN ?_ _) | (with_reducible refine below_after2 ?_ (by assumption) ?_) | omega | (simp; done) | (simp; omega)))
  have s3 : w2.heap.size ≤ w3.heap.size := (by have := hb3.size; (try simp at this); omega)
  replace cp0_0 : w3.cell? ⟨w.heap.size, 0, none⟩ = some (.int .i64 x.cap) := cellb B3 cp0_0
  replace cp0_1 : w3.cell? ⟨w.heap.size, 1, none⟩ = some (.int .i64 x.next) := cellb B3 cp0_1
  replace cp0_2 : w3.cell? ⟨w.heap.size, 2, none⟩ = some (.bool x.out) := cellb B3 cp0_2
  replace cp0_3 : w3.cell? ⟨w.heap.size, 3, none⟩ = some (v_x_list) := cellb B3 cp0_3
  replace K2 : Kept f2_list w2 w3 := K2.below B3 (fun p hp => Nat.lt_of_lt_of_le (UB2 p hp) (by omega))
  have z3_p0 : w.heap.size < w3.heap.size := (by omega)
  clear hb3
  go_wp2_with fail
  refine (toRing_c x _ _  (hr_x_list.below (by repeat' (first | (with_reducible exact Below.refl _ _) | (with_reducible assumption) | (with_reducible refine Below.setCell ?_ ?_ _) | (with_reducible refine Below.alloc ?_ ?_ _) | (with_reducible refine Below.drew ?_) | (with_reducible refine belowN ?_ _) | (with_reducible refine below_after2 ?_ (by assumption) ?_) | omega | (simp; done) | (simp; omega))))).mono ?_
  rintro e w4 ⟨_, rfl, ⟨f4_list, ho4, FR4⟩, hb4⟩
  obtain ⟨v4_list, f4_list', rfl, S4_list, rfl⟩ := ho4
  obtain ⟨a4_list, c4_list, rfl⟩ := RdS.isSlice ⟨_, S4_list⟩
  have UB4 : ∀ p ∈ f4_list, p.1 < w4.heap.size := Live.lt (S4_list.live)
  replace FR4 : Fresh (w3.heap.size + 1) w4 f4_list := FR4.mono (by first | exact Nat.le_refl _ | (simp; done) | (simp; omega))
  have K4 : Kept f4_list w4 w4 := Kept.refl _ _
  have hN : Below (w3.heap.size + 1) (w3.alloc (.cells #[.int .i64 y0.cap, .int .i64 y0.next, .bool y0.out, .slice a3_0_list y0.list.length c3_0_list] 40)) w4 := (by repeat' (first | (with_reducible exact Below.refl _ _) | (with_reducible assumption) | (with_reducible refine Below.setCell ?_ ?_ _) | (with_reducible refine Below.alloc ?_ ?_ _) | (with_reducible refine Below.drew ?_) | (with_reducible refine belowN ?_ _) | (with_reducible refine below_after2 ?_ (by assumption) ?_) | omega | (simp; done) | (simp; omega)))
  have B4 : Below w3.heap.size w3 w4 := (by repeat' (first | (with_reducible exact Below.refl _ _) | (with_reducible assumption) | (with_reducible refine Below.setCell ?_ ?_ _) | (with_reducible refine Below.alloc ?_ ?_ _) | (with_reducible refine Below.drew ?_) | (with_reducible refine belowN ?_ _) | (with_reducible refine below_after2 ?_ (by assumption) ?_) | omega | (simp; done) | (simp; omega)))
  have s4 : w3.heap.size + 1 ≤ w4.heap.size := (by have := hb4.size; (try simp at this); omega)
  replace cp0_0 : w4.cell? ⟨w.heap.size, 0, none⟩ = some (.int .i64 x.cap) := cellb B4 cp0_0
  replace cp0_1 : w4.cell? ⟨w.heap.size, 1, none⟩ = some (.int .i64 x.next) := cellb B4 cp0_1
  replace cp0_2 : w4.cell? ⟨w.heap.size, 2, none⟩ = some (.bool x.out) := cellb B4 cp0_2
  replace cp0_3 : w4.cell? ⟨w.heap.size, 3, none⟩ = some (v_x_list) := cellb B4 cp0_3
  have cW0_0 : w4.cell? ⟨w3.heap.size, 0, none⟩ = some (.int .i64 y0.cap) := by rw [hN.cell (by simp; try omega)]; simp
  have cW0_1 : w4.cell? ⟨w3.heap.size, 1, none⟩ = some (.int .i64 y0.next) := by rw [hN.cell (by simp; try omega)]; simp
  have cW0_2 : w4.cell? ⟨w3.heap.size, 2, none⟩ = some (.bool y0.out) := by rw [hN.cell (by simp; try omega)]; simp
  have cW0_3 : w4.cell? ⟨w3.heap.size, 3, none⟩ = some (.slice a3_0_list y0.list.length c3_0_list) := by rw [hN.cell (by simp; try omega)]; simp
  clear hN
  replace K3 : Kept (f3_0_list ++ f3_1) w3 w4 := K3.below B4 (fun p hp => Nat.lt_of_lt_of_le (UB3 p hp) (by omega))
  have z4_p0 : w.heap.size < w4.heap.size := (by omega)
  have z4_W0 : w3.heap.size < w4.heap.size := (by omega)
  clear hb4
  go_wp2_with fail
  refine (HI.out _ _ ((⟨_, S4_list.kept (K4.below (show Below w4.heap.size w4 _ from (by repeat' (first | (with_reducible exact Below.refl _ _) | (with_reducible assumption) | (with_reducible refine Below.setCell ?_ ?_ _) | (with_reducible refine Below.alloc ?_ ?_ _) | (with_reducible refine Below.drew ?_) | (with_reducible refine belowN ?_ _) | (with_reducible refine below_after2 ?_ (by assumption) ?_) | omega | (simp; done) | (simp; omega)))) (fun p hp => Nat.lt_of_lt_of_le (UB4 p hp) (by omega))) (fun _ h => h)⟩ : RdS _ _ _))).mono ?_
  rintro e w5 ⟨v5_0_list, v5_1, f5_0_list, f5_1, rfl, S5_0_list, S5_1, FR5, hb5⟩
  obtain ⟨a5_0_list, c5_0_list, rfl⟩ := RdS.isSlice ⟨_, S5_0_list⟩
  have UB5 : ∀ p ∈ (f5_0_list ++ f5_1), p.1 < w5.heap.size := Live.lt (Live.append.2 ⟨S5_0_list.live, S5_1.live⟩)
  replace FR5 : Fresh (w4.heap.size + 1) w5 (f5_0_list ++ f5_1) := FR5.mono (by first | exact Nat.le_refl _ | (simp; done) | (simp; omega))
  have K5 : Kept (f5_0_list ++ f5_1) w5 w5 := Kept.refl _ _
  have hN : Below (w4.heap.size + 1) (w4.alloc (.cells #[.int .i64 x.cap, .int .i64 x.next, .bool x.out, .slice a4_list x.list.length c4_list] 40)) w5 := (by repeat' (first | (with_reducible exact Below.refl _ _) | (with_reducible assumption) | (with_reducible refine Below.setCell ?_ ?_ _) | (with_reducible refine Below.alloc ?_ ?_ _) | (with_reducible refine Below.drew ?_) | (with_reducible refine belowN ?_ _) | (with_reducible refine below_after2 ?_ (by assumption) ?_) | omega | (simp; done) | (simp; omega)))
  have B5 : Below w4.heap.size w4 w5 := (by repeat' (first | (with_reducible exact Below.refl _ _) | (with_reducible assumption) | (with_reducible refine Below.setCell ?_ ?_ _) | (with_reducible refine Below.alloc ?_ ?_ _) | (with_reducible refine Below.drew ?_) | (with_reducible refine belowN ?_ _) | (with_reducible refine below_after2 ?_ (by assumption) ?_) | omega | (simp; done) | (simp; omega)))
  have s5 : w4.heap.size + 1 ≤ w5.heap.size := (by have := hb5.size; (try simp at this); omega)
  replace cp0_0 : w5.cell? ⟨w.heap.size, 0, none⟩ = some (.int .i64 x.cap) := cellb B5 cp0_0
  replace cp0_1 : w5.cell? ⟨w.heap.size, 1, none⟩ = some (.int .i64 x.next) := cellb B5 cp0_1
  replace cp0_2 : w5.cell? ⟨w.heap.size, 2, none⟩ = some (.bool x.out) := cellb B5 cp0_2
  replace cp0_3 : w5.cell? ⟨w.heap.size, 3, none⟩ = some (v_x_list) := cellb B5 cp0_3
  replace cW0_0 : w5.cell? ⟨w3.heap.size, 0, none⟩ = some (.int .i64 y0.cap) := cellb B5 cW0_0
  replace cW0_1 : w5.cell? ⟨w3.heap.size, 1, none⟩ = some (.int .i64 y0.next) := cellb B5 cW0_1
  replace cW0_2 : w5.cell? ⟨w3.heap.size, 2, none⟩ = some (.bool y0.out) := cellb B5 cW0_2
  replace cW0_3 : w5.cell? ⟨w3.heap.size, 3, none⟩ = some (.slice a3_0_list y0.list.length c3_0_list) := cellb B5 cW0_3
  have cxx_0 : w5.cell? ⟨w4.heap.size, 0, none⟩ = some (.int .i64 x.cap) := by rw [hN.cell (by simp; try omega)]; simp
  have cxx_1 : w5.cell? ⟨w4.heap.size, 1, none⟩ = some (.int .i64 x.next) := by rw [hN.cell (by simp; try omega)]; simp
  have cxx_2 : w5.cell? ⟨w4.heap.size, 2, none⟩ = some (.bool x.out) := by rw [hN.cell (by simp; try omega)]; simp
  have cxx_3 : w5.cell? ⟨w4.heap.size, 3, none⟩ = some (.slice a4_list x.list.length c4_list) := by rw [hN.cell (by simp; try omega)]; simp
  clear hN
  replace K3 : Kept (f3_0_list ++ f3_1) w3 w5 := K3.below B5 (fun p hp => Nat.lt_of_lt_of_le (UB3 p hp) (by omega))
  replace K4 : Kept f4_list w4 w5 := K4.below B5 (fun p hp => Nat.lt_of_lt_of_le (UB4 p hp) (by omega))
  have z5_p0 : w.heap.size < w5.heap.size := (by omega)
  have z5_W0 : w3.heap.size < w5.heap.size := (by omega)
  have z5_xx : w4.heap.size < w5.heap.size := (by omega)
  clear hb5
  go_wp2_with fail
  refine (eqRing_c y0 _ _ _ ((⟨_, S5_0_list.kept (K5.below (show Below w5.heap.size w5 _ from (by repeat' (first | (with_reducible exact Below.refl _ _) | (with_reducible assumption) | (with_reducible refine Below.setCell ?_ ?_ _) | (with_reducible refine Below.alloc ?_ ?_ _) | (with_reducible refine Below.drew ?_) | (with_reducible refine belowN ?_ _) | (with_reducible refine below_after2 ?_ (by assumption) ?_) | omega | (simp; done) | (simp; omega)))) (fun p hp => Nat.lt_of_lt_of_le (UB5 p hp) (by omega))) (by intro p hp; simp only [List.mem_append]; simp [hp])⟩ : RdS _ _ _)) ((⟨_, S3_0_list.kept (K3.below (show Below w5.heap.size w5 _ from (by repeat' (first | (with_reducible exact Below.refl _ _) | (with_reducible assumption) | (with_reducible refine Below.setCell ?_ ?_ _) | (with_reducible refine Below.alloc ?_ ?_ _) | (with_reducible refine Below.drew ?_) | (with_reducible refine belowN ?_ _) | (with_reducible refine below_after2 ?_ (by assumption) ?_) | omega | (simp; done) | (simp; omega)))) (fun p hp => Nat.lt_of_lt_of_le (UB3 p hp) (by omega))) (by intro p hp; simp only [List.mem_append]; simp [hp])⟩ : RdS _ _ _))).mono ?_
  rintro e w6 ⟨rfl, hb6⟩
  have hN : Below (w5.heap.size + 1) (w5.alloc (.cells #[.int .i64 y0.cap, .int .i64 y0.next, .bool y0.out, .slice a5_0_list y0.list.length c5_0_list] 40)) w6 := (by repeat' (first | (with_reducible exact Below.refl _ _) | (with_reducible assumption) | (with_reducible refine Below.setCell ?_ ?_ _) | (with_reducible refine Below.alloc ?_ ?_ _) | (with_reducible refine Below.drew ?_) | (with_reducible refine belowN ?_ _) | (with_reducible refine below_after2 ?_ (by assumption) ?_) | omega | (simp; done) | (simp; omega)))
  have B6 : Below w5.heap.size w5 w6 := (by repeat' (first | (with_reducible exact Below.refl _ _) | (with_reducible assumption) | (with_reducible refine Below.setCell ?_ ?_ _) | (with_reducible refine Below.alloc ?_ ?_ _) | (with_reducible refine Below.drew ?_) | (with_reducible refine belowN ?_ _) | (with_reducible refine below_after2 ?_ (by assumption) ?_) | omega | (simp; done) | (simp; omega)))
  have s6 : w5.heap.size + 1 ≤ w6.heap.size := (by have := hb6.size; (try simp at this); omega)
  replace cp0_0 : w6.cell? ⟨w.heap.size, 0, none⟩ = some (.int .i64 x.cap) := cellb B6 cp0_0
  replace cp0_1 : w6.cell? ⟨w.heap.size, 1, none⟩ = some (.int .i64 x.next) := cellb B6 cp0_1
  replace cp0_2 : w6.cell? ⟨w.heap.size, 2, none⟩ = some (.bool x.out) := cellb B6 cp0_2
  replace cp0_3 : w6.cell? ⟨w.heap.size, 3, none⟩ = some (v_x_list) := cellb B6 cp0_3
  replace cW0_0 : w6.cell? ⟨w3.heap.size, 0, none⟩ = some (.int .i64 y0.cap) := cellb B6 cW0_0
  replace cW0_1 : w6.cell? ⟨w3.heap.size, 1, none⟩ = some (.int .i64 y0.next) := cellb B6 cW0_1
  replace cW0_2 : w6.cell? ⟨w3.heap.size, 2, none⟩ = some (.bool y0.out) := cellb B6 cW0_2
  replace cW0_3 : w6.cell? ⟨w3.heap.size, 3, none⟩ = some (.slice a3_0_list y0.list.length c3_0_list) := cellb B6 cW0_3
  replace cxx_0 : w6.cell? ⟨w4.heap.size, 0, none⟩ = some (.int .i64 x.cap) := cellb B6 cxx_0
  replace cxx_1 : w6.cell? ⟨w4.heap.size, 1, none⟩ = some (.int .i64 x.next) := cellb B6 cxx_1
  replace cxx_2 : w6.cell? ⟨w4.heap.size, 2, none⟩ = some (.bool x.out) := cellb B6 cxx_2
  replace cxx_3 : w6.cell? ⟨w4.heap.size, 3, none⟩ = some (.slice a4_list x.list.length c4_list) := cellb B6 cxx_3
  have cG0_0 : w6.cell? ⟨w5.heap.size, 0, none⟩ = some (.int .i64 y0.cap) := by rw [hN.cell (by simp; try omega)]; simp
  have cG0_1 : w6.cell? ⟨w5.heap.size, 1, none⟩ = some (.int .i64 y0.next) := by rw [hN.cell (by simp; try omega)]; simp
  have cG0_2 : w6.cell? ⟨w5.heap.size, 2, none⟩ = some (.bool y0.out) := by rw [hN.cell (by simp; try omega)]; simp
  have cG0_3 : w6.cell? ⟨w5.heap.size, 3, none⟩ = some (.slice a5_0_list y0.list.length c5_0_list) := by rw [hN.cell (by simp; try omega)]; simp
  clear hN
  replace K3 : Kept (f3_0_list ++ f3_1) w3 w6 := K3.below B6 (fun p hp => Nat.lt_of_lt_of_le (UB3 p hp) (by omega))
  replace K4 : Kept f4_list w4 w6 := K4.below B6 (fun p hp => Nat.lt_of_lt_of_le (UB4 p hp) (by omega))
  replace K5 : Kept (f5_0_list ++ f5_1) w5 w6 := K5.below B6 (fun p hp => Nat.lt_of_lt_of_le (UB5 p hp) (by omega))
  have z6_p0 : w.heap.size < w6.heap.size := (by omega)
  have z6_W0 : w3.heap.size < w6.heap.size := (by omega)
  have z6_xx : w4.heap.size < w6.heap.size := (by omega)
  have z6_G0 : w5.heap.size < w6.heap.size := (by omega)
  clear hb6
  go_wp2_with fail
  refine (eqEntryS_c _ _ y1 _ ((⟨_, S5_1.kept (K5.below (show Below w6.heap.size w6 _ from (by repeat' (first | (with_reducible exact Below.refl _ _) | (with_reducible assumption) | (with_reducible refine Below.setCell ?_ ?_ _) | (with_reducible refine Below.alloc ?_ ?_ _) | (with_reducible refine Below.drew ?_) | (with_reducible refine belowN ?_ _) | (with_reducible refine below_after2 ?_ (by assumption) ?_) | omega | (simp; done) | (simp; omega)))) (fun p hp => Nat.lt_of_lt_of_le (UB5 p hp) (by omega))) (by intro p hp; simp only [List.mem_append]; simp [hp])⟩ : RdS _ _ _)) ((⟨_, S3_1.kept (K3.below (show Below w6.heap.size w6 _ from (by repeat' (first | (with_reducible exact Below.refl _ _) | (with_reducible assumption) | (with_reducible refine Below.setCell ?_ ?_ _) | (with_reducible refine Below.alloc ?_ ?_ _) | (with_reducible refine Below.drew ?_) | (with_reducible refine belowN ?_ _) | (with_reducible refine below_after2 ?_ (by assumption) ?_) | omega | (simp; done) | (simp; omega)))) (fun p hp => Nat.lt_of_lt_of_le (UB3 p hp) (by omega))) (by intro p hp; simp only [List.mem_append]; simp [hp])⟩ : RdS _ _ _))).mono ?_
  rintro e w7 ⟨rfl, hb7⟩
  have B7 : Below w6.heap.size w6 w7 := (by repeat' (first | (with_reducible exact Below.refl _ _) | (with_reducible assumption) | (with_reducible refine Below.setCell ?_ ?_ _) | (with_reducible refine Below.alloc ?_ ?_ _) | (with_reducible refine Below.drew ?_) | (with_reducible refine belowN ?_ _) | (with_reducible refine below_after2 ?_ (by assumption) ?_) | omega | (simp; done) | (simp; omega)))
  have s7 : w6.heap.size ≤ w7.heap.size := (by have := hb7.size; (try simp at this); omega)
  replace cp0_0 : w7.cell? ⟨w.heap.size, 0, none⟩ = some (.int .i64 x.cap) := cellb B7 cp0_0
  replace cp0_1 : w7.cell? ⟨w.heap.size, 1, none⟩ = some (.int .i64 x.next) := cellb B7 cp0_1
  replace cp0_2 : w7.cell? ⟨w.heap.size, 2, none⟩ = some (.bool x.out) := cellb B7 cp0_2
  replace cp0_3 : w7.cell? ⟨w.heap.size, 3, none⟩ = some (v_x_list) := cellb B7 cp0_3
  replace cW0_0 : w7.cell? ⟨w3.heap.size, 0, none⟩ = some (.int .i64 y0.cap) := cellb B7 cW0_0
  replace cW0_1 : w7.cell? ⟨w3.heap.size, 1, none⟩ = some (.int .i64 y0.next) := cellb B7 cW0_1
  replace cW0_2 : w7.cell? ⟨w3.heap.size, 2, none⟩ = some (.bool y0.out) := cellb B7 cW0_2
  replace cW0_3 : w7.cell? ⟨w3.heap.size, 3, none⟩ = some (.slice a3_0_list y0.list.length c3_0_list) := cellb B7 cW0_3
  replace cxx_0 : w7.cell? ⟨w4.heap.size, 0, none⟩ = some (.int .i64 x.cap) := cellb B7 cxx_0
  replace cxx_1 : w7.cell? ⟨w4.heap.size, 1, none⟩ = some (.int .i64 x.next) := cellb B7 cxx_1
  replace cxx_2 : w7.cell? ⟨w4.heap.size, 2, none⟩ = some (.bool x.out) := cellb B7 cxx_2
  replace cxx_3 : w7.cell? ⟨w4.heap.size, 3, none⟩ = some (.slice a4_list x.list.length c4_list) := cellb B7 cxx_3
  replace cG0_0 : w7.cell? ⟨w5.heap.size, 0, none⟩ = some (.int .i64 y0.cap) := cellb B7 cG0_0
  replace cG0_1 : w7.cell? ⟨w5.heap.size, 1, none⟩ = some (.int .i64 y0.next) := cellb B7 cG0_1
  replace cG0_2 : w7.cell? ⟨w5.heap.size, 2, none⟩ = some (.bool y0.out) := cellb B7 cG0_2
  replace cG0_3 : w7.cell? ⟨w5.heap.size, 3, none⟩ = some (.slice a5_0_list y0.list.length c5_0_list) := cellb B7 cG0_3
  replace K3 : Kept (f3_0_list ++ f3_1) w3 w7 := K3.below B7 (fun p hp => Nat.lt_of_lt_of_le (UB3 p hp) (by omega))
  replace K4 : Kept f4_list w4 w7 := K4.below B7 (fun p hp => Nat.lt_of_lt_of_le (UB4 p hp) (by omega))
  replace K5 : Kept (f5_0_list ++ f5_1) w5 w7 := K5.below B7 (fun p hp => Nat.lt_of_lt_of_le (UB5 p hp) (by omega))
  have z7_p0 : w.heap.size < w7.heap.size := (by omega)
  have z7_W0 : w3.heap.size < w7.heap.size := (by omega)
  have z7_xx : w4.heap.size < w7.heap.size := (by omega)
  have z7_G0 : w5.heap.size < w7.heap.size := (by omega)
  clear hb7
  go_wp2_with fail
  go_region_held3 (fun w' => w'.cell? ⟨w.heap.size, 0, none⟩ = some (.int .i64 x.cap) ∧ w'.cell? ⟨w.heap.size, 1, none⟩ = some (.int .i64 x.next) ∧ w'.cell? ⟨w.heap.size, 2, none⟩ = some (.bool x.out) ∧ w'.cell? ⟨w.heap.size, 3, none⟩ = some (v_x_list) ∧ w'.cell? ⟨w4.heap.size, 0, none⟩ = some (.int .i64 x.cap) ∧ w'.cell? ⟨w4.heap.size, 1, none⟩ = some (.int .i64 x.next) ∧ w'.cell? ⟨w4.heap.size, 2, none⟩ = some (.bool x.out) ∧ w'.cell? ⟨w4.heap.size, 3, none⟩ = some (.slice a4_list x.list.length c4_list)) (go_keep)
    (first | (go_at_call 19; refine (toRing_c x _ _  (hr_x_list.below (by repeat' (first | (with_reducible exact Below.refl _ _) | (with_reducible assumption) | (with_reducible refine Below.setCell ?_ ?_ _) | (with_reducible refine Below.alloc ?_ ?_ _) | (with_reducible refine Below.drew ?_) | (with_reducible refine belowN ?_ _) | (with_reducible refine below_after2 ?_ (by assumption) ?_) | omega | (simp; done) | (simp; omega))))).mono ?_; rintro e w8 ⟨_, rfl, ⟨f8_list, ho8, FR8⟩, hb8⟩; obtain ⟨v8_list, f8_list', rfl, S8_list, rfl⟩ := ho8; obtain ⟨a8_list, c8_list, rfl⟩ := RdS.isSlice ⟨_, S8_list⟩; have UB8 : ∀ p ∈ f8_list, p.1 < w8.heap.size := Live.lt (S8_list.live); replace FR8 : Fresh (w7.heap.size) w8 f8_list := FR8.mono (by first | exact Nat.le_refl _ | (simp; done) | (simp; omega)); have K8 : Kept f8_list w8 w8 := Kept.refl _ _; have B8 : Below w7.heap.size w7 w8 := (by repeat' (first | (with_reducible exact Below.refl _ _) | (with_reducible assumption) | (with_reducible refine Below.setCell ?_ ?_ _) | (with_reducible refine Below.alloc ?_ ?_ _) | (with_reducible refine Below.drew ?_) | (with_reducible refine belowN ?_ _) | (with_reducible refine below_after2 ?_ (by assumption) ?_) | omega | (simp; done) | (simp; omega))); have s8 : w7.heap.size ≤ w8.heap.size := (by have := hb8.size; (try simp at this); omega); replace cp0_0 : w8.cell? ⟨w.heap.size, 0, none⟩ = some (.int .i64 x.cap) := cellb B8 cp0_0; replace cp0_1 : w8.cell? ⟨w.heap.size, 1, none⟩ = some (.int .i64 x.next) := cellb B8 cp0_1; replace cp0_2 : w8.cell? ⟨w.heap.size, 2, none⟩ = some (.bool x.out) := cellb B8 cp0_2; replace cp0_3 : w8.cell? ⟨w.heap.size, 3, none⟩ = some (v_x_list) := cellb B8 cp0_3; replace cW0_0 : w8.cell? ⟨w3.heap.size, 0, none⟩ = some (.int .i64 y0.cap) := cellb B8 cW0_0; replace cW0_1 : w8.cell? ⟨w3.heap.size, 1, none⟩ = some (.int .i64 y0.next) := cellb B8 cW0_1; replace cW0_2 : w8.cell? ⟨w3.heap.size, 2, none⟩ = some (.bool y0.out) := cellb B8 cW0_2; replace cW0_3 : w8.cell? ⟨w3.heap.size, 3, none⟩ = some (.slice a3_0_list y0.list.length c3_0_list) := cellb B8 cW0_3; replace cxx_0 : w8.cell? ⟨w4.heap.size, 0, none⟩ = some (.int .i64 x.cap) := cellb B8 cxx_0; replace cxx_1 : w8.cell? ⟨w4.heap.size, 1, none⟩ = some (.int .i64 x.next) := cellb B8 cxx_1; replace cxx_2 : w8.cell? ⟨w4.heap.size, 2, none⟩ = some (.bool x.out) := cellb B8 cxx_2; replace cxx_3 : w8.cell? ⟨w4.heap.size, 3, none⟩ = some (.slice a4_list x.list.length c4_list) := cellb B8 cxx_3; replace cG0_0 : w8.cell? ⟨w5.heap.size, 0, none⟩ = some (.int .i64 y0.cap) := cellb B8 cG0_0; replace cG0_1 : w8.cell? ⟨w5.heap.size, 1, none⟩ = some (.int .i64 y0.next) := cellb B8 cG0_1; replace cG0_2 : w8.cell? ⟨w5.heap.size, 2, none⟩ = some (.bool y0.out) := cellb B8 cG0_2; replace cG0_3 : w8.cell? ⟨w5.heap.size, 3, none⟩ = some (.slice a5_0_list y0.list.length c5_0_list) := cellb B8 cG0_3; replace K3 : Kept (f3_0_list ++ f3_1) w3 w8 := K3.below B8 (fun p hp => Nat.lt_of_lt_of_le (UB3 p hp) (by omega)); replace K4 : Kept f4_list w4 w8 := K4.below B8 (fun p hp => Nat.lt_of_lt_of_le (UB4 p hp) (by omega)); replace K5 : Kept (f5_0_list ++ f5_1) w5 w8 := K5.below B8 (fun p hp => Nat.lt_of_lt_of_le (UB5 p hp) (by omega)); have z8_p0 : w.heap.size < w8.heap.size := (by omega); have z8_W0 : w3.heap.size < w8.heap.size := (by omega); have z8_xx : w4.heap.size < w8.heap.size := (by omega); have z8_G0 : w5.heap.size < w8.heap.size := (by omega); clear hb8) | (go_at_call 21; refine (eqRing_c x _ _ _ ((⟨_, S4_list.kept (K4.below (show Below w8.heap.size w8 _ from (by repeat' (first | (with_reducible exact Below.refl _ _) | (with_reducible assumption) | (with_reducible refine Below.setCell ?_ ?_ _) | (with_reducible refine Below.alloc ?_ ?_ _) | (with_reducible refine Below.drew ?_) | (with_reducible refine belowN ?_ _) | (with_reducible refine below_after2 ?_ (by assumption) ?_) | omega | (simp; done) | (simp; omega)))) (fun p hp => Nat.lt_of_lt_of_le (UB4 p hp) (by omega))) (fun _ h => h)⟩ : RdS _ _ _)) ((⟨_, S8_list.kept (K8.below (show Below w8.heap.size w8 _ from (by repeat' (first | (with_reducible exact Below.refl _ _) | (with_reducible assumption) | (with_reducible refine Below.setCell ?_ ?_ _) | (with_reducible refine Below.alloc ?_ ?_ _) | (with_reducible refine Below.drew ?_) | (with_reducible refine belowN ?_ _) | (with_reducible refine below_after2 ?_ (by assumption) ?_) | omega | (simp; done) | (simp; omega)))) (fun p hp => Nat.lt_of_lt_of_le (UB8 p hp) (by omega))) (fun _ h => h)⟩ : RdS _ _ _))).mono ?_; rintro e w9 ⟨rfl, hb9⟩; have B9 : Below w8.heap.size w8 w9 := (by repeat' (first | (with_reducible exact Below.refl _ _) | (with_reducible assumption) | (with_reducible refine Below.setCell ?_ ?_ _) | (with_reducible refine Below.alloc ?_ ?_ _) | (with_reducible refine Below.drew ?_) | (with_reducible refine belowN ?_ _) | (with_reducible refine below_after2 ?_ (by assumption) ?_) | omega | (simp; done) | (simp; omega))); have s9 : w8.heap.size ≤ w9.heap.size := (by have := hb9.size; (try simp at this); omega); replace cp0_0 : w9.cell? ⟨w.heap.size, 0, none⟩ = some (.int .i64 x.cap) := cellb B9 cp0_0; replace cp0_1 : w9.cell? ⟨w.heap.size, 1, none⟩ = some (.int .i64 x.next) := cellb B9 cp0_1; replace cp0_2 : w9.cell? ⟨w.heap.size, 2, none⟩ = some (.bool x.out) := cellb B9 cp0_2; replace cp0_3 : w9.cell? ⟨w.heap.size, 3, none⟩ = some (v_x_list) := cellb B9 cp0_3; replace cW0_0 : w9.cell? ⟨w3.heap.size, 0, none⟩ = some (.int .i64 y0.cap) := cellb B9 cW0_0; replace cW0_1 : w9.cell? ⟨w3.heap.size, 1, none⟩ = some (.int .i64 y0.next) := cellb B9 cW0_1; replace cW0_2 : w9.cell? ⟨w3.heap.size, 2, none⟩ = some (.bool y0.out) := cellb B9 cW0_2; replace cW0_3 : w9.cell? ⟨w3.heap.size, 3, none⟩ = some (.slice a3_0_list y0.list.length c3_0_list) := cellb B9 cW0_3; replace cxx_0 : w9.cell? ⟨w4.heap.size, 0, none⟩ = some (.int .i64 x.cap) := cellb B9 cxx_0; replace cxx_1 : w9.cell? ⟨w4.heap.size, 1, none⟩ = some (.int .i64 x.next) := cellb B9 cxx_1; replace cxx_2 : w9.cell? ⟨w4.heap.size, 2, none⟩ = some (.bool x.out) := cellb B9 cxx_2; replace cxx_3 : w9.cell? ⟨w4.heap.size, 3, none⟩ = some (.slice a4_list x.list.length c4_list) := cellb B9 cxx_3; replace cG0_0 : w9.cell? ⟨w5.heap.size, 0, none⟩ = some (.int .i64 y0.cap) := cellb B9 cG0_0; replace cG0_1 : w9.cell? ⟨w5.heap.size, 1, none⟩ = some (.int .i64 y0.next) := cellb B9 cG0_1; replace cG0_2 : w9.cell? ⟨w5.heap.size, 2, none⟩ = some (.bool y0.out) := cellb B9 cG0_2; replace cG0_3 : w9.cell? ⟨w5.heap.size, 3, none⟩ = some (.slice a5_0_list y0.list.length c5_0_list) := cellb B9 cG0_3; replace K3 : Kept (f3_0_list ++ f3_1) w3 w9 := K3.below B9 (fun p hp => Nat.lt_of_lt_of_le (UB3 p hp) (by omega)); replace K4 : Kept f4_list w4 w9 := K4.below B9 (fun p hp => Nat.lt_of_lt_of_le (UB4 p hp) (by omega)); replace K5 : Kept (f5_0_list ++ f5_1) w5 w9 := K5.below B9 (fun p hp => Nat.lt_of_lt_of_le (UB5 p hp) (by omega)); replace K8 : Kept f8_list w8 w9 := K8.below B9 (fun p hp => Nat.lt_of_lt_of_le (UB8 p hp) (by omega)); have z9_p0 : w.heap.size < w9.heap.size := (by omega); have z9_W0 : w3.heap.size < w9.heap.size := (by omega); have z9_xx : w4.heap.size < w9.heap.size := (by omega); have z9_G0 : w5.heap.size < w9.heap.size := (by omega); clear hb9))
  replace S4_list := S4_list.kept K4 (fun _ h => h)
  replace FR4 := FR4.kept K4 (fun _ h => h)
  clear K4
  go_wp2_with fail
  refine (markRing_c (w3.heap.size + 1) x.cap x.next x.out _ _ f4_list _ 1 (by omega) (by omega) (S4_list.belowW (by repeat' (first | (with_reducible exact Below.refl _ _) | (with_reducible assumption) | (with_reducible refine Below.setCell ?_ ?_ _) | (with_reducible refine Below.alloc ?_ ?_ _) | (with_reducible refine Below.drew ?_) | (with_reducible refine belowN ?_ _) | (with_reducible refine below_after2 ?_ (by assumption) ?_) | omega | (simp; done) | (simp; omega)))) (FR4.belowL (by repeat' (first | (with_reducible exact Below.refl _ _) | (with_reducible assumption) | (with_reducible refine Below.setCell ?_ ?_ _) | (with_reducible refine Below.alloc ?_ ?_ _) | (with_reducible refine Below.drew ?_) | (with_reducible refine belowN ?_ _) | (with_reducible refine below_after2 ?_ (by assumption) ?_) | omega | (simp; done) | (simp; omega))) (fun p hp => Nat.lt_of_lt_of_le (UB4 p hp) (by omega)))).mono ?_
  rintro e w10 ⟨he, T10_list, hw10⟩
  have s10 : w9.heap.size ≤ w10.heap.size := wrs hw10 (by repeat' (first | (with_reducible exact Below.refl _ _) | (with_reducible assumption) | (with_reducible refine Below.setCell ?_ ?_ _) | (with_reducible refine Below.alloc ?_ ?_ _) | (with_reducible refine Below.drew ?_) | (with_reducible refine belowN ?_ _) | (with_reducible refine below_after2 ?_ (by assumption) ?_) | omega | (simp; done) | (simp; omega)))
  replace cp0_0 : w10.cell? ⟨w.heap.size, 0, none⟩ = some (.int .i64 x.cap) := cellw (by repeat' (first | (with_reducible exact Below.refl _ _) | (with_reducible assumption) | (with_reducible refine Below.setCell ?_ ?_ _) | (with_reducible refine Below.alloc ?_ ?_ _) | (with_reducible refine Below.drew ?_) | (with_reducible refine belowN ?_ _) | (with_reducible refine below_after2 ?_ (by assumption) ?_) | omega | (simp; done) | (simp; omega))) hw10 cp0_0 (fun hp => by have q1 := FR4.ge _ hp; have q2 := UB4 _ hp; simp only at q1 q2; omega)
  replace cp0_1 : w10.cell? ⟨w.heap.size, 1, none⟩ = some (.int .i64 x.next) := cellw (by repeat' (first | (with_reducible exact Below.refl _ _) | (with_reducible assumption) | (with_reducible refine Below.setCell ?_ ?_ _) | (with_reducible refine Below.alloc ?_ ?_ _) | (with_reducible refine Below.drew ?_) | (with_reducible refine belowN ?_ _) | (with_reducible refine below_after2 ?_ (by assumption) ?_) | omega | (simp; done) | (simp; omega))) hw10 cp0_1 (fun hp => by have q1 := FR4.ge _ hp; have q2 := UB4 _ hp; simp only at q1 q2; omega)
  replace cp0_2 : w10.cell? ⟨w.heap.size, 2, none⟩ = some (.bool x.out) := cellw (by repeat' (first | (with_reducible exact Below.refl _ _) | (with_reducible assumption) | (with_reducible refine Below.setCell ?_ ?_ _) | (with_reducible refine Below.alloc ?_ ?_ _) | (with_reducible refine Below.drew ?_) | (with_reducible refine belowN ?_ _) | (with_reducible refine below_after2 ?_ (by assumption) ?_) | omega | (simp; done) | (simp; omega))) hw10 cp0_2 (fun hp => by have q1 := FR4.ge _ hp; have q2 := UB4 _ hp; simp only at q1 q2; omega)
  replace cp0_3 : w10.cell? ⟨w.heap.size, 3, none⟩ = some (v_x_list) := cellw (by repeat' (first | (with_reducible exact Below.refl _ _) | (with_reducible assumption) | (with_reducible refine Below.setCell ?_ ?_ _) | (with_reducible refine Below.alloc ?_ ?_ _) | (with_reducible refine Below.drew ?_) | (with_reducible refine belowN ?_ _) | (with_reducible refine below_after2 ?_ (by assumption) ?_) | omega | (simp; done) | (simp; omega))) hw10 cp0_3 (fun hp => by have q1 := FR4.ge _ hp; have q2 := UB4 _ hp; simp only at q1 q2; omega)
  replace cW0_0 : w10.cell? ⟨w3.heap.size, 0, none⟩ = some (.int .i64 y0.cap) := cellw (by repeat' (first | (with_reducible exact Below.refl _ _) | (with_reducible assumption) | (with_reducible refine Below.setCell ?_ ?_ _) | (with_reducible refine Below.alloc ?_ ?_ _) | (with_reducible refine Below.drew ?_) | (with_reducible refine belowN ?_ _) | (with_reducible refine below_after2 ?_ (by assumption) ?_) | omega | (simp; done) | (simp; omega))) hw10 cW0_0 (fun hp => by have q1 := FR4.ge _ hp; have q2 := UB4 _ hp; simp only at q1 q2; omega)
  replace cW0_1 : w10.cell? ⟨w3.heap.size, 1, none⟩ = some (.int .i64 y0.next) := cellw (by repeat' (first | (with_reducible exact Below.refl _ _) | (with_reducible assumption) | (with_reducible refine Below.setCell ?_ ?_ _) | (with_reducible refine Below.alloc ?_ ?_ _) | (with_reducible refine Below.drew ?_) | (with_reducible refine belowN ?_ _) | (with_reducible refine below_after2 ?_ (by assumption) ?_) | omega | (simp; done) | (simp; omega))) hw10 cW0_1 (fun hp => by have q1 := FR4.ge _ hp; have q2 := UB4 _ hp; simp only at q1 q2; omega)
  replace cW0_2 : w10.cell? ⟨w3.heap.size, 2, none⟩ = some (.bool y0.out) := cellw (by repeat' (first | (with_reducible exact Below.refl _ _) | (with_reducible assumption) | (with_reducible refine Below.setCell ?_ ?_ _) | (with_reducible refine Below.alloc ?_ ?_ _) | (with_reducible refine Below.drew ?_) | (with_reducible refine belowN ?_ _) | (with_reducible refine below_after2 ?_ (by assumption) ?_) | omega | (simp; done) | (simp; omega))) hw10 cW0_2 (fun hp => by have q1 := FR4.ge _ hp; have q2 := UB4 _ hp; simp only at q1 q2; omega)
  replace cW0_3 : w10.cell? ⟨w3.heap.size, 3, none⟩ = some (.slice a3_0_list y0.list.length c3_0_list) := cellw (by repeat' (first | (with_reducible exact Below.refl _ _) | (with_reducible assumption) | (with_reducible refine Below.setCell ?_ ?_ _) | (with_reducible refine Below.alloc ?_ ?_ _) | (with_reducible refine Below.drew ?_) | (with_reducible refine belowN ?_ _) | (with_reducible refine below_after2 ?_ (by assumption) ?_) | omega | (simp; done) | (simp; omega))) hw10 cW0_3 (fun hp => by have q1 := FR4.ge _ hp; have q2 := UB4 _ hp; simp only at q1 q2; omega)
  replace cxx_0 : w10.cell? ⟨w4.heap.size, 0, none⟩ = some (.int .i64 x.cap) := cellw (by repeat' (first | (with_reducible exact Below.refl _ _) | (with_reducible assumption) | (with_reducible refine Below.setCell ?_ ?_ _) | (with_reducible refine Below.alloc ?_ ?_ _) | (with_reducible refine Below.drew ?_) | (with_reducible refine belowN ?_ _) | (with_reducible refine below_after2 ?_ (by assumption) ?_) | omega | (simp; done) | (simp; omega))) hw10 cxx_0 (fun hp => by have q1 := FR4.ge _ hp; have q2 := UB4 _ hp; simp only at q1 q2; omega)
  replace cxx_1 : w10.cell? ⟨w4.heap.size, 1, none⟩ = some (.int .i64 x.next) := cellw (by repeat' (first | (with_reducible exact Below.refl _ _) | (with_reducible assumption) | (with_reducible refine Below.setCell ?_ ?_ _) | (with_reducible refine Below.alloc ?_ ?_ _) | (with_reducible refine Below.drew ?_) | (with_reducible refine belowN ?_ _) | (with_reducible refine below_after2 ?_ (by assumption) ?_) | omega | (simp; done) | (simp; omega))) hw10 cxx_1 (fun hp => by have q1 := FR4.ge _ hp; have q2 := UB4 _ hp; simp only at q1 q2; omega)
  replace cxx_2 : w10.cell? ⟨w4.heap.size, 2, none⟩ = some (.bool x.out) := cellw (by repeat' (first | (with_reducible exact Below.refl _ _) | (with_reducible assumption) | (with_reducible refine Below.setCell ?_ ?_ _) | (with_reducible refine Below.alloc ?_ ?_ _) | (with_reducible refine Below.drew ?_) | (with_reducible refine belowN ?_ _) | (with_reducible refine below_after2 ?_ (by assumption) ?_) | omega | (simp; done) | (simp; omega))) hw10 cxx_2 (fun hp => by have q1 := FR4.ge _ hp; have q2 := UB4 _ hp; simp only at q1 q2; omega)
  replace cxx_3 : w10.cell? ⟨w4.heap.size, 3, none⟩ = some (.slice a4_list x.list.length c4_list) := cellw (by repeat' (first | (with_reducible exact Below.refl _ _) | (with_reducible assumption) | (with_reducible refine Below.setCell ?_ ?_ _) | (with_reducible refine Below.alloc ?_ ?_ _) | (with_reducible refine Below.drew ?_) | (with_reducible refine belowN ?_ _) | (with_reducible refine below_after2 ?_ (by assumption) ?_) | omega | (simp; done) | (simp; omega))) hw10 cxx_3 (fun hp => by have q1 := FR4.ge _ hp; have q2 := UB4 _ hp; simp only at q1 q2; omega)
  replace cG0_0 : w10.cell? ⟨w5.heap.size, 0, none⟩ = some (.int .i64 y0.cap) := cellw (by repeat' (first | (with_reducible exact Below.refl _ _) | (with_reducible assumption) | (with_reducible refine Below.setCell ?_ ?_ _) | (with_reducible refine Below.alloc ?_ ?_ _) | (with_reducible refine Below.drew ?_) | (with_reducible refine belowN ?_ _) | (with_reducible refine below_after2 ?_ (by assumption) ?_) | omega | (simp; done) | (simp; omega))) hw10 cG0_0 (fun hp => by have q1 := FR4.ge _ hp; have q2 := UB4 _ hp; simp only at q1 q2; omega)
  replace cG0_1 : w10.cell? ⟨w5.heap.size, 1, none⟩ = some (.int .i64 y0.next) := cellw (by repeat' (first | (with_reducible exact Below.refl _ _) | (with_reducible assumption) | (with_reducible refine Below.setCell ?_ ?_ _) | (with_reducible refine Below.alloc ?_ ?_ _) | (with_reducible refine Below.drew ?_) | (with_reducible refine belowN ?_ _) | (with_reducible refine below_after2 ?_ (by assumption) ?_) | omega | (simp; done) | (simp; omega))) hw10 cG0_1 (fun hp => by have q1 := FR4.ge _ hp; have q2 := UB4 _ hp; simp only at q1 q2; omega)
  replace cG0_2 : w10.cell? ⟨w5.heap.size, 2, none⟩ = some (.bool y0.out) := cellw (by repeat' (first | (with_reducible exact Below.refl _ _) | (with_reducible assumption) | (with_reducible refine Below.setCell ?_ ?_ _) | (with_reducible refine Below.alloc ?_ ?_ _) | (with_reducible refine Below.drew ?_) | (with_reducible refine belowN ?_ _) | (with_reducible refine below_after2 ?_ (by assumption) ?_) | omega | (simp; done) | (simp; omega))) hw10 cG0_2 (fun hp => by have q1 := FR4.ge _ hp; have q2 := UB4 _ hp; simp only at q1 q2; omega)
  replace cG0_3 : w10.cell? ⟨w5.heap.size, 3, none⟩ = some (.slice a5_0_list y0.list.length c5_0_list) := cellw (by repeat' (first | (with_reducible exact Below.refl _ _) | (with_reducible assumption) | (with_reducible refine Below.setCell ?_ ?_ _) | (with_reducible refine Below.alloc ?_ ?_ _) | (with_reducible refine Below.drew ?_) | (with_reducible refine belowN ?_ _) | (with_reducible refine below_after2 ?_ (by assumption) ?_) | omega | (simp; done) | (simp; omega))) hw10 cG0_3 (fun hp => by have q1 := FR4.ge _ hp; have q2 := UB4 _ hp; simp only at q1 q2; omega)
  replace K3 : Kept (f3_0_list ++ f3_1) w3 w10 := K3.wr2 (by repeat' (first | (with_reducible exact Below.refl _ _) | (with_reducible assumption) | (with_reducible refine Below.setCell ?_ ?_ _) | (with_reducible refine Below.alloc ?_ ?_ _) | (with_reducible refine Below.drew ?_) | (with_reducible refine belowN ?_ _) | (with_reducible refine below_after2 ?_ (by assumption) ?_) | omega | (simp; done) | (simp; omega))) hw10 (fun p hp => Nat.lt_of_lt_of_le (UB3 p hp) (by omega)) (fun q hq hp => by have q1 := FR4.ge q hp; have q2 := UB4 q hp; first | (have q3 := UB3 q hq; omega) | (have q3 := FR3.ge q hq; omega))
  replace K5 : Kept (f5_0_list ++ f5_1) w5 w10 := K5.wr2 (by repeat' (first | (with_reducible exact Below.refl _ _) | (with_reducible assumption) | (with_reducible refine Below.setCell ?_ ?_ _) | (with_reducible refine Below.alloc ?_ ?_ _) | (with_reducible refine Below.drew ?_) | (with_reducible refine belowN ?_ _) | (with_reducible refine below_after2 ?_ (by assumption) ?_) | omega | (simp; done) | (simp; omega))) hw10 (fun p hp => Nat.lt_of_lt_of_le (UB5 p hp) (by omega)) (fun q hq hp => by have q1 := FR4.ge q hp; have q2 := UB4 q hp; first | (have q3 := UB5 q hq; omega) | (have q3 := FR5.ge q hq; omega))
  have B10 : Below (w3.heap.size + 1) w9 w10 := wrb hw10 (by repeat' (first | (with_reducible exact Below.refl _ _) | (with_reducible assumption) | (with_reducible refine Below.setCell ?_ ?_ _) | (with_reducible refine Below.alloc ?_ ?_ _) | (with_reducible refine Below.drew ?_) | (with_reducible refine belowN ?_ _) | (with_reducible refine below_after2 ?_ (by assumption) ?_) | omega | (simp; done) | (simp; omega))) (by omega) (fun p hp => FR4.ge p hp)
  replace FR4 : Fresh (w3.heap.size + 1) w10 f4_list := FR4.wr2 (by repeat' (first | (with_reducible exact Below.refl _ _) | (with_reducible assumption) | (with_reducible refine Below.setCell ?_ ?_ _) | (with_reducible refine Below.alloc ?_ ?_ _) | (with_reducible refine Below.drew ?_) | (with_reducible refine belowN ?_ _) | (with_reducible refine below_after2 ?_ (by assumption) ?_) | omega | (simp; done) | (simp; omega))) hw10 (fun p hp => Nat.lt_of_lt_of_le (UB4 p hp) (by omega))
  replace S4_list := T10_list
  have K4 : Kept f4_list w10 w10 := Kept.refl _ _
  have z10_p0 : w.heap.size < w10.heap.size := (by omega)
  have z10_W0 : w3.heap.size < w10.heap.size := (by omega)
  have z10_xx : w4.heap.size < w10.heap.size := (by omega)
  have z10_G0 : w5.heap.size < w10.heap.size := (by omega)
  obtain ⟨k1, hk1, hp1⟩ : ∃ k : Int, k = 1 + ((cntL x.list : Nat) : Int) ∧ 1 ≤ k := ⟨_, rfl, by omega⟩
  obtain rfl : e = .returned (.int .i64 k1) := he.trans (by rw [hk1])
  have hq1 : k1 ≤ 1 + 5242880 := by omega
  clear he hk1
  have hkn : decide (k1 < 0) = false := by simp; omega
  have hkm : ¬ k1 < 0 := by omega
  go_wp2_with fail
  refine (eqRing_c y0 _ _ _ ((⟨_, S5_0_list.kept (K5.below (show Below w10.heap.size w10 _ from (by repeat' (first | (with_reducible exact Below.refl _ _) | (with_reducible assumption) | (with_reducible refine Below.setCell ?_ ?_ _) | (with_reducible refine Below.alloc ?_ ?_ _) | (with_reducible refine Below.drew ?_) | (with_reducible refine belowN ?_ _) | (with_reducible refine below_after2 ?_ (by assumption) ?_) | omega | (simp; done) | (simp; omega)))) (fun p hp => Nat.lt_of_lt_of_le (UB5 p hp) (by omega))) (by intro p hp; simp only [List.mem_append]; simp [hp])⟩ : RdS _ _ _)) ((⟨_, S3_0_list.kept (K3.below (show Below w10.heap.size w10 _ from (by repeat' (first | (with_reducible exact Below.refl _ _) | (with_reducible assumption) | (with_reducible refine Below.setCell ?_ ?_ _) | (with_reducible refine Below.alloc ?_ ?_ _) | (with_reducible refine Below.drew ?_) | (with_reducible refine belowN ?_ _) | (with_reducible refine below_after2 ?_ (by assumption) ?_) | omega | (simp; done) | (simp; omega)))) (fun p hp => Nat.lt_of_lt_of_le (UB3 p hp) (by omega))) (by intro p hp; simp only [List.mem_append]; simp [hp])⟩ : RdS _ _ _))).mono ?_
  rintro e w11 ⟨rfl, hb11⟩
  have B11 : Below w10.heap.size w10 w11 := (by repeat' (first | (with_reducible exact Below.refl _ _) | (with_reducible assumption) | (with_reducible refine Below.setCell ?_ ?_ _) | (with_reducible refine Below.alloc ?_ ?_ _) | (with_reducible refine Below.drew ?_) | (with_reducible refine belowN ?_ _) | (with_reducible refine below_after2 ?_ (by assumption) ?_) | omega | (simp; done) | (simp; omega)))
  have s11 : w10.heap.size ≤ w11.heap.size := (by have := hb11.size; (try simp at this); omega)
  replace cp0_0 : w11.cell? ⟨w.heap.size, 0, none⟩ = some (.int .i64 x.cap) := cellb B11 cp0_0
  replace cp0_1 : w11.cell? ⟨w.heap.size, 1, none⟩ = some (.int .i64 x.next) := cellb B11 cp0_1
  replace cp0_2 : w11.cell? ⟨w.heap.size, 2, none⟩ = some (.bool x.out) := cellb B11 cp0_2
  replace cp0_3 : w11.cell? ⟨w.heap.size, 3, none⟩ = some (v_x_list) := cellb B11 cp0_3
  replace cW0_0 : w11.cell? ⟨w3.heap.size, 0, none⟩ = some (.int .i64 y0.cap) := cellb B11 cW0_0
  replace cW0_1 : w11.cell? ⟨w3.heap.size, 1, none⟩ = some (.int .i64 y0.next) := cellb B11 cW0_1
  replace cW0_2 : w11.cell? ⟨w3.heap.size, 2, none⟩ = some (.bool y0.out) := cellb B11 cW0_2
  replace cW0_3 : w11.cell? ⟨w3.heap.size, 3, none⟩ = some (.slice a3_0_list y0.list.length c3_0_list) := cellb B11 cW0_3
  replace cxx_0 : w11.cell? ⟨w4.heap.size, 0, none⟩ = some (.int .i64 x.cap) := cellb B11 cxx_0
  replace cxx_1 : w11.cell? ⟨w4.heap.size, 1, none⟩ = some (.int .i64 x.next) := cellb B11 cxx_1
  replace cxx_2 : w11.cell? ⟨w4.heap.size, 2, none⟩ = some (.bool x.out) := cellb B11 cxx_2
  replace cxx_3 : w11.cell? ⟨w4.heap.size, 3, none⟩ = some (.slice a4_list x.list.length c4_list) := cellb B11 cxx_3
  replace cG0_0 : w11.cell? ⟨w5.heap.size, 0, none⟩ = some (.int .i64 y0.cap) := cellb B11 cG0_0
  replace cG0_1 : w11.cell? ⟨w5.heap.size, 1, none⟩ = some (.int .i64 y0.next) := cellb B11 cG0_1
  replace cG0_2 : w11.cell? ⟨w5.heap.size, 2, none⟩ = some (.bool y0.out) := cellb B11 cG0_2
  replace cG0_3 : w11.cell? ⟨w5.heap.size, 3, none⟩ = some (.slice a5_0_list y0.list.length c5_0_list) := cellb B11 cG0_3
  replace K3 : Kept (f3_0_list ++ f3_1) w3 w11 := K3.below B11 (fun p hp => Nat.lt_of_lt_of_le (UB3 p hp) (by omega))
  replace K5 : Kept (f5_0_list ++ f5_1) w5 w11 := K5.below B11 (fun p hp => Nat.lt_of_lt_of_le (UB5 p hp) (by omega))
  have z11_p0 : w.heap.size < w11.heap.size := (by omega)
  have z11_W0 : w3.heap.size < w11.heap.size := (by omega)
  have z11_xx : w4.heap.size < w11.heap.size := (by omega)
  have z11_G0 : w5.heap.size < w11.heap.size := (by omega)
  clear hb11
  go_wp2_with fail
  refine (eqEntryS_c _ _ y1 _ ((⟨_, S5_1.kept (K5.below (show Below w11.heap.size w11 _ from (by repeat' (first | (with_reducible exact Below.refl _ _) | (with_reducible assumption) | (with_reducible refine Below.setCell ?_ ?_ _) | (with_reducible refine Below.alloc ?_ ?_ _) | (with_reducible refine Below.drew ?_) | (with_reducible refine belowN ?_ _) | (with_reducible refine below_after2 ?_ (by assumption) ?_) | omega | (simp; done) | (simp; omega)))) (fun p hp => Nat.lt_of_lt_of_le (UB5 p hp) (by omega))) (by intro p hp; simp only [List.mem_append]; simp [hp])⟩ : RdS _ _ _)) ((⟨_, S3_1.kept (K3.below (show Below w11.heap.size w11 _ from (by repeat' (first | (with_reducible exact Below.refl _ _) | (with_reducible assumption) | (with_reducible refine Below.setCell ?_ ?_ _) | (with_reducible refine Below.alloc ?_ ?_ _) | (with_reducible refine Below.drew ?_) | (with_reducible refine belowN ?_ _) | (with_reducible refine below_after2 ?_ (by assumption) ?_) | omega | (simp; done) | (simp; omega)))) (fun p hp => Nat.lt_of_lt_of_le (UB3 p hp) (by omega))) (by intro p hp; simp only [List.mem_append]; simp [hp])⟩ : RdS _ _ _))).mono ?_
  rintro e w12 ⟨rfl, hb12⟩
  have B12 : Below w11.heap.size w11 w12 := (by repeat' (first | (with_reducible exact Below.refl _ _) | (with_reducible assumption) | (with_reducible refine Below.setCell ?_ ?_ _) | (with_reducible refine Below.alloc ?_ ?_ _) | (with_reducible refine Below.drew ?_) | (with_reducible refine belowN ?_ _) | (with_reducible refine below_after2 ?_ (by assumption) ?_) | omega | (simp; done) | (simp; omega)))
  have s12 : w11.heap.size ≤ w12.heap.size := (by have := hb12.size; (try simp at this); omega)
  replace cp0_0 : w12.cell? ⟨w.heap.size, 0, none⟩ = some (.int .i64 x.cap) := cellb B12 cp0_0
  replace cp0_1 : w12.cell? ⟨w.heap.size, 1, none⟩ = some (.int .i64 x.next) := cellb B12 cp0_1
  replace cp0_2 : w12.cell? ⟨w.heap.size, 2, none⟩ = some (.bool x.out) := cellb B12 cp0_2
  replace cp0_3 : w12.cell? ⟨w.heap.size, 3, none⟩ = some (v_x_list) := cellb B12 cp0_3
  replace cW0_0 : w12.cell? ⟨w3.heap.size, 0, none⟩ = some (.int .i64 y0.cap) := cellb B12 cW0_0
  replace cW0_1 : w12.cell? ⟨w3.heap.size, 1, none⟩ = some (.int .i64 y0.next) := cellb B12 cW0_1
  replace cW0_2 : w12.cell? ⟨w3.heap.size, 2, none⟩ = some (.bool y0.out) := cellb B12 cW0_2
  replace cW0_3 : w12.cell? ⟨w3.heap.size, 3, none⟩ = some (.slice a3_0_list y0.list.length c3_0_list) := cellb B12 cW0_3
  replace cxx_0 : w12.cell? ⟨w4.heap.size, 0, none⟩ = some (.int .i64 x.cap) := cellb B12 cxx_0
  replace cxx_1 : w12.cell? ⟨w4.heap.size, 1, none⟩ = some (.int .i64 x.next) := cellb B12 cxx_1
  replace cxx_2 : w12.cell? ⟨w4.heap.size, 2, none⟩ = some (.bool x.out) := cellb B12 cxx_2
  replace cxx_3 : w12.cell? ⟨w4.heap.size, 3, none⟩ = some (.slice a4_list x.list.length c4_list) := cellb B12 cxx_3
  replace cG0_0 : w12.cell? ⟨w5.heap.size, 0, none⟩ = some (.int .i64 y0.cap) := cellb B12 cG0_0
  replace cG0_1 : w12.cell? ⟨w5.heap.size, 1, none⟩ = some (.int .i64 y0.next) := cellb B12 cG0_1
  replace cG0_2 : w12.cell? ⟨w5.heap.size, 2, none⟩ = some (.bool y0.out) := cellb B12 cG0_2
  replace cG0_3 : w12.cell? ⟨w5.heap.size, 3, none⟩ = some (.slice a5_0_list y0.list.length c5_0_list) := cellb B12 cG0_3
  replace K3 : Kept (f3_0_list ++ f3_1) w3 w12 := K3.below B12 (fun p hp => Nat.lt_of_lt_of_le (UB3 p hp) (by omega))
  replace K5 : Kept (f5_0_list ++ f5_1) w5 w12 := K5.below B12 (fun p hp => Nat.lt_of_lt_of_le (UB5 p hp) (by omega))
  have z12_p0 : w.heap.size < w12.heap.size := (by omega)
  have z12_W0 : w3.heap.size < w12.heap.size := (by omega)
  have z12_xx : w4.heap.size < w12.heap.size := (by omega)
  have z12_G0 : w5.heap.size < w12.heap.size := (by omega)
  clear hb12
  replace S5_0_list := S5_0_list.kept K5 (by intro p hp; simp only [List.mem_append]; simp [hp])
  replace S5_1 := S5_1.kept K5 (by intro p hp; simp only [List.mem_append]; simp [hp])
  replace FR5 := FR5.kept K5 (fun _ h => h)
  clear K5
  go_wp2_with fail
  refine (markRing_c (w4.heap.size + 1) y0.cap y0.next y0.out _ _ f5_0_list _ 1 (by omega) (by omega) (S5_0_list.belowW (by repeat' (first | (with_reducible exact Below.refl _ _) | (with_reducible assumption) | (with_reducible refine Below.setCell ?_ ?_ _) | (with_reducible refine Below.alloc ?_ ?_ _) | (with_reducible refine Below.drew ?_) | (with_reducible refine belowN ?_ _) | (with_reducible refine below_after2 ?_ (by assumption) ?_) | omega | (simp; done) | (simp; omega)))) (FR5.left.belowL (by repeat' (first | (with_reducible exact Below.refl _ _) | (with_reducible assumption) | (with_reducible refine Below.setCell ?_ ?_ _) | (with_reducible refine Below.alloc ?_ ?_ _) | (with_reducible refine Below.drew ?_) | (with_reducible refine belowN ?_ _) | (with_reducible refine below_after2 ?_ (by assumption) ?_) | omega | (simp; done) | (simp; omega))) (fun p hp => Nat.lt_of_lt_of_le (UB5 p (by first | exact hp | exact List.mem_append.2 (.inl hp) | exact List.mem_append.2 (.inr hp) | exact List.mem_append.2 (.inr (List.mem_append.2 (.inl hp))) | exact List.mem_append.2 (.inr (List.mem_append.2 (.inr hp))) | (simp only [List.mem_append] at hp ⊢; grind))) (by omega)))).mono ?_
  rintro e w13 ⟨he, T13_0_list, hw13⟩
  have s13 : w12.heap.size ≤ w13.heap.size := wrs hw13 (by repeat' (first | (with_reducible exact Below.refl _ _) | (with_reducible assumption) | (with_reducible refine Below.setCell ?_ ?_ _) | (with_reducible refine Below.alloc ?_ ?_ _) | (with_reducible refine Below.drew ?_) | (with_reducible refine belowN ?_ _) | (with_reducible refine below_after2 ?_ (by assumption) ?_) | omega | (simp; done) | (simp; omega)))
  replace cp0_0 : w13.cell? ⟨w.heap.size, 0, none⟩ = some (.int .i64 x.cap) := cellw (by repeat' (first | (with_reducible exact Below.refl _ _) | (with_reducible assumption) | (with_reducible refine Below.setCell ?_ ?_ _) | (with_reducible refine Below.alloc ?_ ?_ _) | (with_reducible refine Below.drew ?_) | (with_reducible refine belowN ?_ _) | (with_reducible refine below_after2 ?_ (by assumption) ?_) | omega | (simp; done) | (simp; omega))) hw13 cp0_0 (fun hp => by have q1 := FR5.ge _ (by first | exact hp | exact List.mem_append.2 (.inl hp) | exact List.mem_append.2 (.inr hp) | exact List.mem_append.2 (.inr (List.mem_append.2 (.inl hp))) | exact List.mem_append.2 (.inr (List.mem_append.2 (.inr hp))) | (simp only [List.mem_append] at hp ⊢; grind)); have q2 := UB5 _ (by first | exact hp | exact List.mem_append.2 (.inl hp) | exact List.mem_append.2 (.inr hp) | exact List.mem_append.2 (.inr (List.mem_append.2 (.inl hp))) | exact List.mem_append.2 (.inr (List.mem_append.2 (.inr hp))) | (simp only [List.mem_append] at hp ⊢; grind)); simp only at q1 q2; omega)
  replace cp0_1 : w13.cell? ⟨w.heap.size, 1, none⟩ = some (.int .i64 x.next) := cellw (by repeat' (first | (with_reducible exact Below.refl _ _) | (with_reducible assumption) | (with_reducible refine Below.setCell ?_ ?_ _) | (with_reducible refine Below.alloc ?_ ?_ _) | (with_reducible refine Below.drew ?_) | (with_reducible refine belowN ?_ _) | (with_reducible refine below_after2 ?_ (by assumption) ?_) | omega | (simp; done) | (simp; omega))) hw13 cp0_1 (fun hp => by have q1 := FR5.ge _ (by first | exact hp | exact List.mem_append.2 (.inl hp) | exact List.mem_append.2 (.inr hp) | exact List.mem_append.2 (.inr (List.mem_append.2 (.inl hp))) | exact List.mem_append.2 (.inr (List.mem_append.2 (.inr hp))) | (simp only [List.mem_append] at hp ⊢; grind)); have q2 := UB5 _ (by first | exact hp | exact List.mem_append.2 (.inl hp) | exact List.mem_append.2 (.inr hp) | exact List.mem_append.2 (.inr (List.mem_append.2 (.inl hp))) | exact List.mem_append.2 (.inr (List.mem_append.2 (.inr hp))) | (simp only [List.mem_append] at hp ⊢; grind)); simp only at q1 q2; omega)
  replace cp0_2 : w13.cell? ⟨w.heap.size, 2, none⟩ = some (.bool x.out) := cellw (by repeat' (first | (with_reducible exact Below.refl _ _) | (with_reducible assumption) | (with_reducible refine Below.setCell ?_ ?_ _) | (with_reducible refine Below.alloc ?_ ?_ _) | (with_reducible refine Below.drew ?_) | (with_reducible refine belowN ?_ _) | (with_reducible refine below_after2 ?_ (by assumption) ?_) | omega | (simp; done) | (simp; omega))) hw13 cp0_2 (fun hp => by have q1 := FR5.ge _ (by first | exact hp | exact List.mem_append.2 (.inl hp) | exact List.mem_append.2 (.inr hp) | exact List.mem_append.2 (.inr (List.mem_append.2 (.inl hp))) | exact List.mem_append.2 (.inr (List.mem_append.2 (.inr hp))) | (simp only [List.mem_append] at hp ⊢; grind)); have q2 := UB5 _ (by first | exact hp | exact List.mem_append.2 (.inl hp) | exact List.mem_append.2 (.inr hp) | exact List.mem_append.2 (.inr (List.mem_append.2 (.inl hp))) | exact List.mem_append.2 (.inr (List.mem_append.2 (.inr hp))) | (simp only [List.mem_append] at hp ⊢; grind)); simp only at q1 q2; omega)
  replace cp0_3 : w13.cell? ⟨w.heap.size, 3, none⟩ = some (v_x_list) := cellw (by repeat' (first | (with_reducible exact Below.refl _ _) | (with_reducible assumption) | (with_reducible refine Below.setCell ?_ ?_ _) | (with_reducible refine Below.alloc ?_ ?_ _) | (with_reducible refine Below.drew ?_) | (with_reducible refine belowN ?_ _) | (with_reducible refine below_after2 ?_ (by assumption) ?_) | omega | (simp; done) | (simp; omega))) hw13 cp0_3 (fun hp => by have q1 := FR5.ge _ (by first | exact hp | exact List.mem_append.2 (.inl hp) | exact List.mem_append.2 (.inr hp) | exact List.mem_append.2 (.inr (List.mem_append.2 (.inl hp))) | exact List.mem_append.2 (.inr (List.mem_append.2 (.inr hp))) | (simp only [List.mem_append] at hp ⊢; grind)); have q2 := UB5 _ (by first | exact hp | exact List.mem_append.2 (.inl hp) | exact List.mem_append.2 (.inr hp) | exact List.mem_append.2 (.inr (List.mem_append.2 (.inl hp))) | exact List.mem_append.2 (.inr (List.mem_append.2 (.inr hp))) | (simp only [List.mem_append] at hp ⊢; grind)); simp only at q1 q2; omega)
  replace cW0_0 : w13.cell? ⟨w3.heap.size, 0, none⟩ = some (.int .i64 y0.cap) := cellw (by repeat' (first | (with_reducible exact Below.refl _ _) | (with_reducible assumption) | (with_reducible refine Below.setCell ?_ ?_ _) | (with_reducible refine Below.alloc ?_ ?_ _) | (with_reducible refine Below.drew ?_) | (with_reducible refine belowN ?_ _) | (with_reducible refine below_after2 ?_ (by assumption) ?_) | omega | (simp; done) | (simp; omega))) hw13 cW0_0 (fun hp => by have q1 := FR5.ge _ (by first | exact hp | exact List.mem_append.2 (.inl hp) | exact List.mem_append.2 (.inr hp) | exact List.mem_append.2 (.inr (List.mem_append.2 (.inl hp))) | exact List.mem_append.2 (.inr (List.mem_append.2 (.inr hp))) | (simp only [List.mem_append] at hp ⊢; grind)); have q2 := UB5 _ (by first | exact hp | exact List.mem_append.2 (.inl hp) | exact List.mem_append.2 (.inr hp) | exact List.mem_append.2 (.inr (List.mem_append.2 (.inl hp))) | exact List.mem_append.2 (.inr (List.mem_append.2 (.inr hp))) | (simp only [List.mem_append] at hp ⊢; grind)); simp only at q1 q2; omega)
  replace cW0_1 : w13.cell? ⟨w3.heap.size, 1, none⟩ = some (.int .i64 y0.next) := cellw (by repeat' (first | (with_reducible exact Below.refl _ _) | (with_reducible assumption) | (with_reducible refine Below.setCell ?_ ?_ _) | (with_reducible refine Below.alloc ?_ ?_ _) | (with_reducible refine Below.drew ?_) | (with_reducible refine belowN ?_ _) | (with_reducible refine below_after2 ?_ (by assumption) ?_) | omega | (simp; done) | (simp; omega))) hw13 cW0_1 (fun hp => by have q1 := FR5.ge _ (by first | exact hp | exact List.mem_append.2 (.inl hp) | exact List.mem_append.2 (.inr hp) | exact List.mem_append.2 (.inr (List.mem_append.2 (.inl hp))) | exact List.mem_append.2 (.inr (List.mem_append.2 (.inr hp))) | (simp only [List.mem_append] at hp ⊢; grind)); have q2 := UB5 _ (by first | exact hp | exact List.mem_append.2 (.inl hp) | exact List.mem_append.2 (.inr hp) | exact List.mem_append.2 (.inr (List.mem_append.2 (.inl hp))) | exact List.mem_append.2 (.inr (List.mem_append.2 (.inr hp))) | (simp only [List.mem_append] at hp ⊢; grind)); simp only at q1 q2; omega)
  replace cW0_2 : w13.cell? ⟨w3.heap.size, 2, none⟩ = some (.bool y0.out) := cellw (by repeat' (first | (with_reducible exact Below.refl _ _) | (with_reducible assumption) | (with_reducible refine Below.setCell ?_ ?_ _) | (with_reducible refine Below.alloc ?_ ?_ _) | (with_reducible refine Below.drew ?_) | (with_reducible refine belowN ?_ _) | (with_reducible refine below_after2 ?_ (by assumption) ?_) | omega | (simp; done) | (simp; omega))) hw13 cW0_2 (fun hp => by have q1 := FR5.ge _ (by first | exact hp | exact List.mem_append.2 (.inl hp) | exact List.mem_append.2 (.inr hp) | exact List.mem_append.2 (.inr (List.mem_append.2 (.inl hp))) | exact List.mem_append.2 (.inr (List.mem_append.2 (.inr hp))) | (simp only [List.mem_append] at hp ⊢; grind)); have q2 := UB5 _ (by first | exact hp | exact List.mem_append.2 (.inl hp) | exact List.mem_append.2 (.inr hp) | exact List.mem_append.2 (.inr (List.mem_append.2 (.inl hp))) | exact List.mem_append.2 (.inr (List.mem_append.2 (.inr hp))) | (simp only [List.mem_append] at hp ⊢; grind)); simp only at q1 q2; omega)
  replace cW0_3 : w13.cell? ⟨w3.heap.size, 3, none⟩ = some (.slice a3_0_list y0.list.length c3_0_list) := cellw (by repeat' (first | (with_reducible exact Below.refl _ _) | (with_reducible assumption) | (with_reducible refine Below.setCell ?_ ?_ _) | (with_reducible refine Below.alloc ?_ ?_ _) | (with_reducible refine Below.drew ?_) | (with_reducible refine belowN ?_ _) | (with_reducible refine below_after2 ?_ (by assumption) ?_) | omega | (simp; done) | (simp; omega))) hw13 cW0_3 (fun hp => by have q1 := FR5.ge _ (by first | exact hp | exact List.mem_append.2 (.inl hp) | exact List.mem_append.2 (.inr hp) | exact List.mem_append.2 (.inr (List.mem_append.2 (.inl hp))) | exact List.mem_append.2 (.inr (List.mem_append.2 (.inr hp))) | (simp only [List.mem_append] at hp ⊢; grind)); have q2 := UB5 _ (by first | exact hp | exact List.mem_append.2 (.inl hp) | exact List.mem_append.2 (.inr hp) | exact List.mem_append.2 (.inr (List.mem_append.2 (.inl hp))) | exact List.mem_append.2 (.inr (List.mem_append.2 (.inr hp))) | (simp only [List.mem_append] at hp ⊢; grind)); simp only at q1 q2; omega)
  replace cxx_0 : w13.cell? ⟨w4.heap.size, 0, none⟩ = some (.int .i64 x.cap) := cellw (by repeat' (first | (with_reducible exact Below.refl _ _) | (with_reducible assumption) | (with_reducible refine Below.setCell ?_ ?_ _) | (with_reducible refine Below.alloc ?_ ?_ _) | (with_reducible refine Below.drew ?_) | (with_reducible refine belowN ?_ _) | (with_reducible refine below_after2 ?_ (by assumption) ?_) | omega | (simp; done) | (simp; omega))) hw13 cxx_0 (fun hp => by have q1 := FR5.ge _ (by first | exact hp | exact List.mem_append.2 (.inl hp) | exact List.mem_append.2 (.inr hp) | exact List.mem_append.2 (.inr (List.mem_append.2 (.inl hp))) | exact List.mem_append.2 (.inr (List.mem_append.2 (.inr hp))) | (simp only [List.mem_append] at hp ⊢; grind)); have q2 := UB5 _ (by first | exact hp | exact List.mem_append.2 (.inl hp) | exact List.mem_append.2 (.inr hp) | exact List.mem_append.2 (.inr (List.mem_append.2 (.inl hp))) | exact List.mem_append.2 (.inr (List.mem_append.2 (.inr hp))) | (simp only [List.mem_append] at hp ⊢; grind)); simp only at q1 q2; omega)
  replace cxx_1 : w13.cell? ⟨w4.heap.size, 1, none⟩ = some (.int .i64 x.next) := cellw (by repeat' (first | (with_reducible exact Below.refl _ _) | (with_reducible assumption) | (with_reducible refine Below.setCell ?_ ?_ _) | (with_reducible refine Below.alloc ?_ ?_ _) | (with_reducible refine Below.drew ?_) | (with_reducible refine belowN ?_ _) | (with_reducible refine below_after2 ?_ (by assumption) ?_) | omega | (simp; done) | (simp; omega))) hw13 cxx_1 (fun hp => by have q1 := FR5.ge _ (by first | exact hp | exact List.mem_append.2 (.inl hp) | exact List.mem_append.2 (.inr hp) | exact List.mem_append.2 (.inr (List.mem_append.2 (.inl hp))) | exact List.mem_append.2 (.inr (List.mem_append.2 (.inr hp))) | (simp only [List.mem_append] at hp ⊢; grind)); have q2 := UB5 _ (by first | exact hp | exact List.mem_append.2 (.inl hp) | exact List.mem_append.2 (.inr hp) | exact List.mem_append.2 (.inr (List.mem_append.2 (.inl hp))) | exact List.mem_append.2 (.inr (List.mem_append.2 (.inr hp))) | (simp only [List.mem_append] at hp ⊢; grind)); simp only at q1 q2; omega)
  replace cxx_2 : w13.cell? ⟨w4.heap.size, 2, none⟩ = some (.bool x.out) := cellw (by repeat' (first | (with_reducible exact Below.refl _ _) | (with_reducible assumption) | (with_reducible refine Below.setCell ?_ ?_ _) | (with_reducible refine Below.alloc ?_ ?_ _) | (with_reducible refine Below.drew ?_) | (with_reducible refine belowN ?_ _) | (with_reducible refine below_after2 ?_ (by assumption) ?_) | omega | (simp; done) | (simp; omega))) hw13 cxx_2 (fun hp => by have q1 := FR5.ge _ (by first | exact hp | exact List.mem_append.2 (.inl hp) | exact List.mem_append.2 (.inr hp) | exact List.mem_append.2 (.inr (List.mem_append.2 (.inl hp))) | exact List.mem_append.2 (.inr (List.mem_append.2 (.inr hp))) | (simp only [List.mem_append] at hp ⊢; grind)); have q2 := UB5 _ (by first | exact hp | exact List.mem_append.2 (.inl hp) | exact List.mem_append.2 (.inr hp) | exact List.mem_append.2 (.inr (List.mem_append.2 (.inl hp))) | exact List.mem_append.2 (.inr (List.mem_append.2 (.inr hp))) | (simp only [List.mem_append] at hp ⊢; grind)); simp only at q1 q2; omega)
  replace cxx_3 : w13.cell? ⟨w4.heap.size, 3, none⟩ = some (.slice a4_list x.list.length c4_list) := cellw (by repeat' (first | (with_reducible exact Below.refl _ _) | (with_reducible assumption) | (with_reducible refine Below.setCell ?_ ?_ _) | (with_reducible refine Below.alloc ?_ ?_ _) | (with_reducible refine Below.drew ?_) | (with_reducible refine belowN ?_ _) | (with_reducible refine below_after2 ?_ (by assumption) ?_) | omega | (simp; done) | (simp; omega))) hw13 cxx_3 (fun hp => by have q1 := FR5.ge _ (by first | exact hp | exact List.mem_append.2 (.inl hp) | exact List.mem_append.2 (.inr hp) | exact List.mem_append.2 (.inr (List.mem_append.2 (.inl hp))) | exact List.mem_append.2 (.inr (List.mem_append.2 (.inr hp))) | (simp only [List.mem_append] at hp ⊢; grind)); have q2 := UB5 _ (by first | exact hp | exact List.mem_append.2 (.inl hp) | exact List.mem_append.2 (.inr hp) | exact List.mem_append.2 (.inr (List.mem_append.2 (.inl hp))) | exact List.mem_append.2 (.inr (List.mem_append.2 (.inr hp))) | (simp only [List.mem_append] at hp ⊢; grind)); simp only at q1 q2; omega)
  replace cG0_0 : w13.cell? ⟨w5.heap.size, 0, none⟩ = some (.int .i64 y0.cap) := cellw (by repeat' (first | (with_reducible exact Below.refl _ _) | (with_reducible assumption) | (with_reducible refine Below.setCell ?_ ?_ _) | (with_reducible refine Below.alloc ?_ ?_ _) | (with_reducible refine Below.drew ?_) | (with_reducible refine belowN ?_ _) | (with_reducible refine below_after2 ?_ (by assumption) ?_) | omega | (simp; done) | (simp; omega))) hw13 cG0_0 (fun hp => by have q1 := FR5.ge _ (by first | exact hp | exact List.mem_append.2 (.inl hp) | exact List.mem_append.2 (.inr hp) | exact List.mem_append.2 (.inr (List.mem_append.2 (.inl hp))) | exact List.mem_append.2 (.inr (List.mem_append.2 (.inr hp))) | (simp only [List.mem_append] at hp ⊢; grind)); have q2 := UB5 _ (by first | exact hp | exact List.mem_append.2 (.inl hp) | exact List.mem_append.2 (.inr hp) | exact List.mem_append.2 (.inr (List.mem_append.2 (.inl hp))) | exact List.mem_append.2 (.inr (List.mem_append.2 (.inr hp))) | (simp only [List.mem_append] at hp ⊢; grind)); simp only at q1 q2; omega)
  replace cG0_1 : w13.cell? ⟨w5.heap.size, 1, none⟩ = some (.int .i64 y0.next) := cellw (by repeat' (first | (with_reducible exact Below.refl _ _) | (with_reducible assumption) | (with_reducible refine Below.setCell ?_ ?_ _) | (with_reducible refine Below.alloc ?_ ?_ _) | (with_reducible refine Below.drew ?_) | (with_reducible refine belowN ?_ _) | (with_reducible refine below_after2 ?_ (by assumption) ?_) | omega | (simp; done) | (simp; omega))) hw13 cG0_1 (fun hp => by have q1 := FR5.ge _ (by first | exact hp | exact List.mem_append.2 (.inl hp) | exact List.mem_append.2 (.inr hp) | exact List.mem_append.2 (.inr (List.mem_append.2 (.inl hp))) | exact List.mem_append.2 (.inr (List.mem_append.2 (.inr hp))) | (simp only [List.mem_append] at hp ⊢; grind)); have q2 := UB5 _ (by first | exact hp | exact List.mem_append.2 (.inl hp) | exact List.mem_append.2 (.inr hp) | exact List.mem_append.2 (.inr (List.mem_append.2 (.inl hp))) | exact List.mem_append.2 (.inr (List.mem_append.2 (.inr hp))) | (simp only [List.mem_append] at hp ⊢; grind)); simp only at q1 q2; omega)
  replace cG0_2 : w13.cell? ⟨w5.heap.size, 2, none⟩ = some (.bool y0.out) := cellw (by repeat' (first | (with_reducible exact Below.refl _ _) | (with_reducible assumption) | (with_reducible refine Below.setCell ?_ ?_ _) | (with_reducible refine Below.alloc ?_ ?_ _) | (with_reducible refine Below.drew ?_) | (with_reducible refine belowN ?_ _) | (with_reducible refine below_after2 ?_ (by assumption) ?_) | omega | (simp; done) | (simp; omega))) hw13 cG0_2 (fun hp => by have q1 := FR5.ge _ (by first | exact hp | exact List.mem_append.2 (.inl hp) | exact List.mem_append.2 (.inr hp) | exact List.mem_append.2 (.inr (List.mem_append.2 (.inl hp))) | exact List.mem_append.2 (.inr (List.mem_append.2 (.inr hp))) | (simp only [List.mem_append] at hp ⊢; grind)); have q2 := UB5 _ (by first | exact hp | exact List.mem_append.2 (.inl hp) | exact List.mem_append.2 (.inr hp) | exact List.mem_append.2 (.inr (List.mem_append.2 (.inl hp))) | exact List.mem_append.2 (.inr (List.mem_append.2 (.inr hp))) | (simp only [List.mem_append] at hp ⊢; grind)); simp only at q1 q2; omega)
  replace cG0_3 : w13.cell? ⟨w5.heap.size, 3, none⟩ = some (.slice a5_0_list y0.list.length c5_0_list) := cellw (by repeat' (first | (with_reducible exact Below.refl _ _) | (with_reducible assumption) | (with_reducible refine Below.setCell ?_ ?_ _) | (with_reducible refine Below.alloc ?_ ?_ _) | (with_reducible refine Below.drew ?_) | (with_reducible refine belowN ?_ _) | (with_reducible refine below_after2 ?_ (by assumption) ?_) | omega | (simp; done) | (simp; omega))) hw13 cG0_3 (fun hp => by have q1 := FR5.ge _ (by first | exact hp | exact List.mem_append.2 (.inl hp) | exact List.mem_append.2 (.inr hp) | exact List.mem_append.2 (.inr (List.mem_append.2 (.inl hp))) | exact List.mem_append.2 (.inr (List.mem_append.2 (.inr hp))) | (simp only [List.mem_append] at hp ⊢; grind)); have q2 := UB5 _ (by first | exact hp | exact List.mem_append.2 (.inl hp) | exact List.mem_append.2 (.inr hp) | exact List.mem_append.2 (.inr (List.mem_append.2 (.inl hp))) | exact List.mem_append.2 (.inr (List.mem_append.2 (.inr hp))) | (simp only [List.mem_append] at hp ⊢; grind)); simp only at q1 q2; omega)
  replace K3 : Kept (f3_0_list ++ f3_1) w3 w13 := K3.wr2 (by repeat' (first | (with_reducible exact Below.refl _ _) | (with_reducible assumption) | (with_reducible refine Below.setCell ?_ ?_ _) | (with_reducible refine Below.alloc ?_ ?_ _) | (with_reducible refine Below.drew ?_) | (with_reducible refine belowN ?_ _) | (with_reducible refine below_after2 ?_ (by assumption) ?_) | omega | (simp; done) | (simp; omega))) hw13 (fun p hp => Nat.lt_of_lt_of_le (UB3 p hp) (by omega)) (fun q hq hp => by have q1 := FR5.ge q (by first | exact hp | exact List.mem_append.2 (.inl hp) | exact List.mem_append.2 (.inr hp) | exact List.mem_append.2 (.inr (List.mem_append.2 (.inl hp))) | exact List.mem_append.2 (.inr (List.mem_append.2 (.inr hp))) | (simp only [List.mem_append] at hp ⊢; grind)); have q2 := UB5 q (by first | exact hp | exact List.mem_append.2 (.inl hp) | exact List.mem_append.2 (.inr hp) | exact List.mem_append.2 (.inr (List.mem_append.2 (.inl hp))) | exact List.mem_append.2 (.inr (List.mem_append.2 (.inr hp))) | (simp only [List.mem_append] at hp ⊢; grind)); first | (have q3 := UB3 q hq; omega) | (have q3 := FR3.ge q hq; omega))
  have B13 : Below (w4.heap.size + 1) w12 w13 := wrb hw13 (by repeat' (first | (with_reducible exact Below.refl _ _) | (with_reducible assumption) | (with_reducible refine Below.setCell ?_ ?_ _) | (with_reducible refine Below.alloc ?_ ?_ _) | (with_reducible refine Below.drew ?_) | (with_reducible refine belowN ?_ _) | (with_reducible refine below_after2 ?_ (by assumption) ?_) | omega | (simp; done) | (simp; omega))) (by omega) (fun p hp => FR5.ge p (by first | exact hp | exact List.mem_append.2 (.inl hp) | exact List.mem_append.2 (.inr hp) | exact List.mem_append.2 (.inr (List.mem_append.2 (.inl hp))) | exact List.mem_append.2 (.inr (List.mem_append.2 (.inr hp))) | (simp only [List.mem_append] at hp ⊢; grind)))
  replace FR5 : Fresh (w4.heap.size + 1) w13 (f5_0_list ++ f5_1) := FR5.wr2 (by repeat' (first | (with_reducible exact Below.refl _ _) | (with_reducible assumption) | (with_reducible refine Below.setCell ?_ ?_ _) | (with_reducible refine Below.alloc ?_ ?_ _) | (with_reducible refine Below.drew ?_) | (with_reducible refine belowN ?_ _) | (with_reducible refine below_after2 ?_ (by assumption) ?_) | omega | (simp; done) | (simp; omega))) hw13 (fun p hp => Nat.lt_of_lt_of_le (UB5 p hp) (by omega))
  replace S5_0_list := T13_0_list
  replace S5_1 := S5_1.wr2 (by repeat' (first | (with_reducible exact Below.refl _ _) | (with_reducible assumption) | (with_reducible refine Below.setCell ?_ ?_ _) | (with_reducible refine Below.alloc ?_ ?_ _) | (with_reducible refine Below.drew ?_) | (with_reducible refine belowN ?_ _) | (with_reducible refine below_after2 ?_ (by assumption) ?_) | omega | (simp; done) | (simp; omega))) hw13 (fun p hp hq => by have hh := FR5.nodup; (try simp only [List.nodup_append] at hh); (try simp only [List.mem_append] at hh hq); grind)
  have K5 : Kept (f5_0_list ++ f5_1) w13 w13 := Kept.refl _ _
  have z13_p0 : w.heap.size < w13.heap.size := (by omega)
  have z13_W0 : w3.heap.size < w13.heap.size := (by omega)
  have z13_xx : w4.heap.size < w13.heap.size := (by omega)
  have z13_G0 : w5.heap.size < w13.heap.size := (by omega)
  obtain ⟨m1, hm1, hn1⟩ : ∃ m : Int, m = 1 + ((cntL y0.list : Nat) : Int) ∧ 1 ≤ m := ⟨_, rfl, by omega⟩
  obtain rfl : e = .returned (.int .i64 m1) := he.trans (by rw [hm1])
  have ho1 : m1 ≤ 1 + 1099511627776 := by omega
  have HM1 : Hid (m1 = 1 + ((cntL y0.list : Nat) : Int)) := Lib.hid hm1
  clear he hm1
  replace S5_0_list := S5_0_list.kept K5 (by intro p hp; simp only [List.mem_append]; simp [hp])
  replace S5_1 := S5_1.kept K5 (by intro p hp; simp only [List.mem_append]; simp [hp])
  replace FR5 := FR5.kept K5 (fun _ h => h)
  clear K5
  go_wp2_with fail
  refine (markEntryS_c (w4.heap.size + 1) _ _ f5_1 _ m1 (by omega) (by omega) (S5_1.belowW (by repeat' (first | (with_reducible exact Below.refl _ _) | (with_reducible assumption) | (with_reducible refine Below.setCell ?_ ?_ _) | (with_reducible refine Below.alloc ?_ ?_ _) | (with_reducible refine Below.drew ?_) | (with_reducible refine belowN ?_ _) | (with_reducible refine below_after2 ?_ (by assumption) ?_) | omega | (simp; done) | (simp; omega)))) (FR5.right.belowL (by repeat' (first | (with_reducible exact Below.refl _ _) | (with_reducible assumption) | (with_reducible refine Below.setCell ?_ ?_ _) | (with_reducible refine Below.alloc ?_ ?_ _) | (with_reducible refine Below.drew ?_) | (with_reducible refine belowN ?_ _) | (with_reducible refine below_after2 ?_ (by assumption) ?_) | omega | (simp; done) | (simp; omega))) (fun p hp => Nat.lt_of_lt_of_le (UB5 p (by first | exact hp | exact List.mem_append.2 (.inl hp) | exact List.mem_append.2 (.inr hp) | exact List.mem_append.2 (.inr (List.mem_append.2 (.inl hp))) | exact List.mem_append.2 (.inr (List.mem_append.2 (.inr hp))) | (simp only [List.mem_append] at hp ⊢; grind))) (by omega)))).mono ?_
  rintro e w14 ⟨he, T14_1, hw14⟩
  have s14 : w13.heap.size ≤ w14.heap.size := wrs hw14 (by repeat' (first | (with_reducible exact Below.refl _ _) | (with_reducible assumption) | (with_reducible refine Below.setCell ?_ ?_ _) | (with_reducible refine Below.alloc ?_ ?_ _) | (with_reducible refine Below.drew ?_) | (with_reducible refine belowN ?_ _) | (with_reducible refine below_after2 ?_ (by assumption) ?_) | omega | (simp; done) | (simp; omega)))
  replace cp0_0 : w14.cell? ⟨w.heap.size, 0, none⟩ = some (.int .i64 x.cap) := cellw (by repeat' (first | (with_reducible exact Below.refl _ _) | (with_reducible assumption) | (with_reducible refine Below.setCell ?_ ?_ _) | (with_reducible refine Below.alloc ?_ ?_ _) | (with_reducible refine Below.drew ?_) | (with_reducible refine belowN ?_ _) | (with_reducible refine below_after2 ?_ (by assumption) ?_) | omega | (simp; done) | (simp; omega))) hw14 cp0_0 (fun hp => by have q1 := FR5.ge _ (by first | exact hp | exact List.mem_append.2 (.inl hp) | exact List.mem_append.2 (.inr hp) | exact List.mem_append.2 (.inr (List.mem_append.2 (.inl hp))) | exact List.mem_append.2 (.inr (List.mem_append.2 (.inr hp))) | (simp only [List.mem_append] at hp ⊢; grind)); have q2 := UB5 _ (by first | exact hp | exact List.mem_append.2 (.inl hp) | exact List.mem_append.2 (.inr hp) | exact List.mem_append.2 (.inr (List.mem_append.2 (.inl hp))) | exact List.mem_append.2 (.inr (List.mem_append.2 (.inr hp))) | (simp only [List.mem_append] at hp ⊢; grind)); simp only at q1 q2; omega)
  replace cp0_1 : w14.cell? ⟨w.heap.size, 1, none⟩ = some (.int .i64 x.next) := cellw (by repeat' (first | (with_reducible exact Below.refl _ _) | (with_reducible assumption) | (with_reducible refine Below.setCell ?_ ?_ _) | (with_reducible refine Below.alloc ?_ ?_ _) | (with_reducible refine Below.drew ?_) | (with_reducible refine belowN ?_ _) | (with_reducible refine below_after2 ?_ (by assumption) ?_) | omega | (simp; done) | (simp; omega))) hw14 cp0_1 (fun hp => by have q1 := FR5.ge _ (by first | exact hp | exact List.mem_append.2 (.inl hp) | exact List.mem_append.2 (.inr hp) | exact List.mem_append.2 (.inr (List.mem_append.2 (.inl hp))) | exact List.mem_append.2 (.inr (List.mem_append.2 (.inr hp))) | (simp only [List.mem_append] at hp ⊢; grind)); have q2 := UB5 _ (by first | exact hp | exact List.mem_append.2 (.inl hp) | exact List.mem_append.2 (.inr hp) | exact List.mem_append.2 (.inr (List.mem_append.2 (.inl hp))) | exact List.mem_append.2 (.inr (List.mem_append.2 (.inr hp))) | (simp only [List.mem_append] at hp ⊢; grind)); simp only at q1 q2; omega)
  replace cp0_2 : w14.cell? ⟨w.heap.size, 2, none⟩ = some (.bool x.out) := cellw (by repeat' (first | (with_reducible exact Below.refl _ _) | (with_reducible assumption) | (with_reducible refine Below.setCell ?_ ?_ _) | (with_reducible refine Below.alloc ?_ ?_ _) | (with_reducible refine Below.drew ?_) | (with_reducible refine belowN ?_ _) | (with_reducible refine below_after2 ?_ (by assumption) ?_) | omega | (simp; done) | (simp; omega))) hw14 cp0_2 (fun hp => by have q1 := FR5.ge _ (by first | exact hp | exact List.mem_append.2 (.inl hp) | exact List.mem_append.2 (.inr hp) | exact List.mem_append.2 (.inr (List.mem_append.2 (.inl hp))) | exact List.mem_append.2 (.inr (List.mem_append.2 (.inr hp))) | (simp only [List.mem_append] at hp ⊢; grind)); have q2 := UB5 _ (by first | exact hp | exact List.mem_append.2 (.inl hp) | exact List.mem_append.2 (.inr hp) | exact List.mem_append.2 (.inr (List.mem_append.2 (.inl hp))) | exact List.mem_append.2 (.inr (List.mem_append.2 (.inr hp))) | (simp only [List.mem_append] at hp ⊢; grind)); simp only at q1 q2; omega)
  replace cp0_3 : w14.cell? ⟨w.heap.size, 3, none⟩ = some (v_x_list) := cellw (by repeat' (first | (with_reducible exact Below.refl _ _) | (with_reducible assumption) | (with_reducible refine Below.setCell ?_ ?_ _) | (with_reducible refine Below.alloc ?_ ?_ _) | (with_reducible refine Below.drew ?_) | (with_reducible refine belowN ?_ _) | (with_reducible refine below_after2 ?_ (by assumption) ?_) | omega | (simp; done) | (simp; omega))) hw14 cp0_3 (fun hp => by have q1 := FR5.ge _ (by first | exact hp | exact List.mem_append.2 (.inl hp) | exact List.mem_append.2 (.inr hp) | exact List.mem_append.2 (.inr (List.mem_append.2 (.inl hp))) | exact List.mem_append.2 (.inr (List.mem_append.2 (.inr hp))) | (simp only [List.mem_append] at hp ⊢; grind)); have q2 := UB5 _ (by first | exact hp | exact List.mem_append.2 (.inl hp) | exact List.mem_append.2 (.inr hp) | exact List.mem_append.2 (.inr (List.mem_append.2 (.inl hp))) | exact List.mem_append.2 (.inr (List.mem_append.2 (.inr hp))) | (simp only [List.mem_append] at hp ⊢; grind)); simp only at q1 q2; omega)
  replace cW0_0 : w14.cell? ⟨w3.heap.size, 0, none⟩ = some (.int .i64 y0.cap) := cellw (by repeat' (first | (with_reducible exact Below.refl _ _) | (with_reducible assumption) | (with_reducible refine Below.setCell ?_ ?_ _) | (with_reducible refine Below.alloc ?_ ?_ _) | (with_reducible refine Below.drew ?_) | (with_reducible refine belowN ?_ _) | (with_reducible refine below_after2 ?_ (by assumption) ?_) | omega | (simp; done) | (simp; omega))) hw14 cW0_0 (fun hp => by have q1 := FR5.ge _ (by first | exact hp | exact List.mem_append.2 (.inl hp) | exact List.mem_append.2 (.inr hp) | exact List.mem_append.2 (.inr (List.mem_append.2 (.inl hp))) | exact List.mem_append.2 (.inr (List.mem_append.2 (.inr hp))) | (simp only [List.mem_append] at hp ⊢; grind)); have q2 := UB5 _ (by first | exact hp | exact List.mem_append.2 (.inl hp) | exact List.mem_append.2 (.inr hp) | exact List.mem_append.2 (.inr (List.mem_append.2 (.inl hp))) | exact List.mem_append.2 (.inr (List.mem_append.2 (.inr hp))) | (simp only [List.mem_append] at hp ⊢; grind)); simp only at q1 q2; omega)
  replace cW0_1 : w14.cell? ⟨w3.heap.size, 1, none⟩ = some (.int .i64 y0.next) := cellw (by repeat' (first | (with_reducible exact Below.refl _ _) | (with_reducible assumption) | (with_reducible refine Below.setCell ?_ ?_ _) | (with_reducible refine Below.alloc ?_ ?_ _) | (with_reducible refine Below.drew ?_) | (with_reducible refine belowN ?_ _) | (with_reducible refine below_after2 ?_ (by assumption) ?_) | omega | (simp; done) | (simp; omega))) hw14 cW0_1 (fun hp => by have q1 := FR5.ge _ (by first | exact hp | exact List.mem_append.2 (.inl hp) | exact List.mem_append.2 (.inr hp) | exact List.mem_append.2 (.inr (List.mem_append.2 (.inl hp))) | exact List.mem_append.2 (.inr (List.mem_append.2 (.inr hp))) | (simp only [List.mem_append] at hp ⊢; grind)); have q2 := UB5 _ (by first | exact hp | exact List.mem_append.2 (.inl hp) | exact List.mem_append.2 (.inr hp) | exact List.mem_append.2 (.inr (List.mem_append.2 (.inl hp))) | exact List.mem_append.2 (.inr (List.mem_append.2 (.inr hp))) | (simp only [List.mem_append] at hp ⊢; grind)); simp only at q1 q2; omega)
  replace cW0_2 : w14.cell? ⟨w3.heap.size, 2, none⟩ = some (.bool y0.out) := cellw (by repeat' (first | (with_reducible exact Below.refl _ _) | (with_reducible assumption) | (with_reducible refine Below.setCell ?_ ?_ _) | (with_reducible refine Below.alloc ?_ ?_ _) | (with_reducible refine Below.drew ?_) | (with_reducible refine belowN ?_ _) | (with_reducible refine below_after2 ?_ (by assumption) ?_) | omega | (simp; done) | (simp; omega))) hw14 cW0_2 (fun hp => by have q1 := FR5.ge _ (by first | exact hp | exact List.mem_append.2 (.inl hp) | exact List.mem_append.2 (.inr hp) | exact List.mem_append.2 (.inr (List.mem_append.2 (.inl hp))) | exact List.mem_append.2 (.inr (List.mem_append.2 (.inr hp))) | (simp only [List.mem_append] at hp ⊢; grind)); have q2 := UB5 _ (by first | exact hp | exact List.mem_append.2 (.inl hp) | exact List.mem_append.2 (.inr hp) | exact List.mem_append.2 (.inr (List.mem_append.2 (.inl hp))) | exact List.mem_append.2 (.inr (List.mem_append.2 (.inr hp))) | (simp only [List.mem_append] at hp ⊢; grind)); simp only at q1 q2; omega)
  replace cW0_3 : w14.cell? ⟨w3.heap.size, 3, none⟩ = some (.slice a3_0_list y0.list.length c3_0_list) := cellw (by repeat' (first | (with_reducible exact Below.refl _ _) | (with_reducible assumption) | (with_reducible refine Below.setCell ?_ ?_ _) | (with_reducible refine Below.alloc ?_ ?_ _) | (with_reducible refine Below.drew ?_) | (with_reducible refine belowN ?_ _) | (with_reducible refine below_after2 ?_ (by assumption) ?_) | omega | (simp; done) | (simp; omega))) hw14 cW0_3 (fun hp => by have q1 := FR5.ge _ (by first | exact hp | exact List.mem_append.2 (.inl hp) | exact List.mem_append.2 (.inr hp) | exact List.mem_append.2 (.inr (List.mem_append.2 (.inl hp))) | exact List.mem_append.2 (.inr (List.mem_append.2 (.inr hp))) | (simp only [List.mem_append] at hp ⊢; grind)); have q2 := UB5 _ (by first | exact hp | exact List.mem_append.2 (.inl hp) | exact List.mem_append.2 (.inr hp) | exact List.mem_append.2 (.inr (List.mem_append.2 (.inl hp))) | exact List.mem_append.2 (.inr (List.mem_append.2 (.inr hp))) | (simp only [List.mem_append] at hp ⊢; grind)); simp only at q1 q2; omega)
  replace cxx_0 : w14.cell? ⟨w4.heap.size, 0, none⟩ = some (.int .i64 x.cap) := cellw (by repeat' (first | (with_reducible exact Below.refl _ _) | (with_reducible assumption) | (with_reducible refine Below.setCell ?_ ?_ _) | (with_reducible refine Below.alloc ?_ ?_ _) | (with_reducible refine Below.drew ?_) | (with_reducible refine belowN ?_ _) | (with_reducible refine below_after2 ?_ (by assumption) ?_) | omega | (simp; done) | (simp; omega))) hw14 cxx_0 (fun hp => by have q1 := FR5.ge _ (by first | exact hp | exact List.mem_append.2 (.inl hp) | exact List.mem_append.2 (.inr hp) | exact List.mem_append.2 (.inr (List.mem_append.2 (.inl hp))) | exact List.mem_append.2 (.inr (List.mem_append.2 (.inr hp))) | (simp only [List.mem_append] at hp ⊢; grind)); have q2 := UB5 _ (by first | exact hp | exact List.mem_append.2 (.inl hp) | exact List.mem_append.2 (.inr hp) | exact List.mem_append.2 (.inr (List.mem_append.2 (.inl hp))) | exact List.mem_append.2 (.inr (List.mem_append.2 (.inr hp))) | (simp only [List.mem_append] at hp ⊢; grind)); simp only at q1 q2; omega)
  replace cxx_1 : w14.cell? ⟨w4.heap.size, 1, none⟩ = some (.int .i64 x.next) := cellw (by repeat' (first | (with_reducible exact Below.refl _ _) | (with_reducible assumption) | (with_reducible refine Below.setCell ?_ ?_ _) | (with_reducible refine Below.alloc ?_ ?_ _) | (with_reducible refine Below.drew ?_) | (with_reducible refine belowN ?_ _) | (with_reducible refine below_after2 ?_ (by assumption) ?_) | omega | (simp; done) | (simp; omega))) hw14 cxx_1 (fun hp => by have q1 := FR5.ge _ (by first | exact hp | exact List.mem_append.2 (.inl hp) | exact List.mem_append.2 (.inr hp) | exact List.mem_append.2 (.inr (List.mem_append.2 (.inl hp))) | exact List.mem_append.2 (.inr (List.mem_append.2 (.inr hp))) | (simp only [List.mem_append] at hp ⊢; grind)); have q2 := UB5 _ (by first | exact hp | exact List.mem_append.2 (.inl hp) | exact List.mem_append.2 (.inr hp) | exact List.mem_append.2 (.inr (List.mem_append.2 (.inl hp))) | exact List.mem_append.2 (.inr (List.mem_append.2 (.inr hp))) | (simp only [List.mem_append] at hp ⊢; grind)); simp only at q1 q2; omega)
  replace cxx_2 : w14.cell? ⟨w4.heap.size, 2, none⟩ = some (.bool x.out) := cellw (by repeat' (first | (with_reducible exact Below.refl _ _) | (with_reducible assumption) | (with_reducible refine Below.setCell ?_ ?_ _) | (with_reducible refine Below.alloc ?_ ?_ _) | (with_reducible refine Below.drew ?_) | (with_reducible refine belowN ?_ _) | (with_reducible refine below_after2 ?_ (by assumption) ?_) | omega | (simp; done) | (simp; omega))) hw14 cxx_2 (fun hp => by have q1 := FR5.ge _ (by first | exact hp | exact List.mem_append.2 (.inl hp) | exact List.mem_append.2 (.inr hp) | exact List.mem_append.2 (.inr (List.mem_append.2 (.inl hp))) | exact List.mem_append.2 (.inr (List.mem_append.2 (.inr hp))) | (simp only [List.mem_append] at hp ⊢; grind)); have q2 := UB5 _ (by first | exact hp | exact List.mem_append.2 (.inl hp) | exact List.mem_append.2 (.inr hp) | exact List.mem_append.2 (.inr (List.mem_append.2 (.inl hp))) | exact List.mem_append.2 (.inr (List.mem_append.2 (.inr hp))) | (simp only [List.mem_append] at hp ⊢; grind)); simp only at q1 q2; omega)
  replace cxx_3 : w14.cell? ⟨w4.heap.size, 3, none⟩ = some (.slice a4_list x.list.length c4_list) := cellw (by repeat' (first | (with_reducible exact Below.refl _ _) | (with_reducible assumption) | (with_reducible refine Below.setCell ?_ ?_ _) | (with_reducible refine Below.alloc ?_ ?_ _) | (with_reducible refine Below.drew ?_) | (with_reducible refine belowN ?_ _) | (with_reducible refine below_after2 ?_ (by assumption) ?_) | omega | (simp; done) | (simp; omega))) hw14 cxx_3 (fun hp => by have q1 := FR5.ge _ (by first | exact hp | exact List.mem_append.2 (.inl hp) | exact List.mem_append.2 (.inr hp) | exact List.mem_append.2 (.inr (List.mem_append.2 (.inl hp))) | exact List.mem_append.2 (.inr (List.mem_append.2 (.inr hp))) | (simp only [List.mem_append] at hp ⊢; grind)); have q2 := UB5 _ (by first | exact hp | exact List.mem_append.2 (.inl hp) | exact List.mem_append.2 (.inr hp) | exact List.mem_append.2 (.inr (List.mem_append.2 (.inl hp))) | exact List.mem_append.2 (.inr (List.mem_append.2 (.inr hp))) | (simp only [List.mem_append] at hp ⊢; grind)); simp only at q1 q2; omega)
  replace cG0_0 : w14.cell? ⟨w5.heap.size, 0, none⟩ = some (.int .i64 y0.cap) := cellw (by repeat' (first | (with_reducible exact Below.refl _ _) | (with_reducible assumption) | (with_reducible refine Below.setCell ?_ ?_ _) | (with_reducible refine Below.alloc ?_ ?_ _) | (with_reducible refine Below.drew ?_) | (with_reducible refine belowN ?_ _) | (with_reducible refine below_after2 ?_ (by assumption) ?_) | omega | (simp; done) | (simp; omega))) hw14 cG0_0 (fun hp => by have q1 := FR5.ge _ (by first | exact hp | exact List.mem_append.2 (.inl hp) | exact List.mem_append.2 (.inr hp) | exact List.mem_append.2 (.inr (List.mem_append.2 (.inl hp))) | exact List.mem_append.2 (.inr (List.mem_append.2 (.inr hp))) | (simp only [List.mem_append] at hp ⊢; grind)); have q2 := UB5 _ (by first | exact hp | exact List.mem_append.2 (.inl hp) | exact List.mem_append.2 (.inr hp) | exact List.mem_append.2 (.inr (List.mem_append.2 (.inl hp))) | exact List.mem_append.2 (.inr (List.mem_append.2 (.inr hp))) | (simp only [List.mem_append] at hp ⊢; grind)); simp only at q1 q2; omega)
  replace cG0_1 : w14.cell? ⟨w5.heap.size, 1, none⟩ = some (.int .i64 y0.next) := cellw (by repeat' (first | (with_reducible exact Below.refl _ _) | (with_reducible assumption) | (with_reducible refine Below.setCell ?_ ?_ _) | (with_reducible refine Below.alloc ?_ ?_ _) | (with_reducible refine Below.drew ?_) | (with_reducible refine belowN ?_ _) | (with_reducible refine below_after2 ?_ (by assumption) ?_) | omega | (simp; done) | (simp; omega))) hw14 cG0_1 (fun hp => by have q1 := FR5.ge _ (by first | exact hp | exact List.mem_append.2 (.inl hp) | exact List.mem_append.2 (.inr hp) | exact List.mem_append.2 (.inr (List.mem_append.2 (.inl hp))) | exact List.mem_append.2 (.inr (List.mem_append.2 (.inr hp))) | (simp only [List.mem_append] at hp ⊢; grind)); have q2 := UB5 _ (by first | exact hp | exact List.mem_append.2 (.inl hp) | exact List.mem_append.2 (.inr hp) | exact List.mem_append.2 (.inr (List.mem_append.2 (.inl hp))) | exact List.mem_append.2 (.inr (List.mem_append.2 (.inr hp))) | (simp only [List.mem_append] at hp ⊢; grind)); simp only at q1 q2; omega)
  replace cG0_2 : w14.cell? ⟨w5.heap.size, 2, none⟩ = some (.bool y0.out) := cellw (by repeat' (first | (with_reducible exact Below.refl _ _) | (with_reducible assumption) | (with_reducible refine Below.setCell ?_ ?_ _) | (with_reducible refine Below.alloc ?_ ?_ _) | (with_reducible refine Below.drew ?_) | (with_reducible refine belowN ?_ _) | (with_reducible refine below_after2 ?_ (by assumption) ?_) | omega | (simp; done) | (simp; omega))) hw14 cG0_2 (fun hp => by have q1 := FR5.ge _ (by first | exact hp | exact List.mem_append.2 (.inl hp) | exact List.mem_append.2 (.inr hp) | exact List.mem_append.2 (.inr (List.mem_append.2 (.inl hp))) | exact List.mem_append.2 (.inr (List.mem_append.2 (.inr hp))) | (simp only [List.mem_append] at hp ⊢; grind)); have q2 := UB5 _ (by first | exact hp | exact List.mem_append.2 (.inl hp) | exact List.mem_append.2 (.inr hp) | exact List.mem_append.2 (.inr (List.mem_append.2 (.inl hp))) | exact List.mem_append.2 (.inr (List.mem_append.2 (.inr hp))) | (simp only [List.mem_append] at hp ⊢; grind)); simp only at q1 q2; omega)
  replace cG0_3 : w14.cell? ⟨w5.heap.size, 3, none⟩ = some (.slice a5_0_list y0.list.length c5_0_list) := cellw (by repeat' (first | (with_reducible exact Below.refl _ _) | (with_reducible assumption) | (with_reducible refine Below.setCell ?_ ?_ _) | (with_reducible refine Below.alloc ?_ ?_ _) | (with_reducible refine Below.drew ?_) | (with_reducible refine belowN ?_ _) | (with_reducible refine below_after2 ?_ (by assumption) ?_) | omega | (simp; done) | (simp; omega))) hw14 cG0_3 (fun hp => by have q1 := FR5.ge _ (by first | exact hp | exact List.mem_append.2 (.inl hp) | exact List.mem_append.2 (.inr hp) | exact List.mem_append.2 (.inr (List.mem_append.2 (.inl hp))) | exact List.mem_append.2 (.inr (List.mem_append.2 (.inr hp))) | (simp only [List.mem_append] at hp ⊢; grind)); have q2 := UB5 _ (by first | exact hp | exact List.mem_append.2 (.inl hp) | exact List.mem_append.2 (.inr hp) | exact List.mem_append.2 (.inr (List.mem_append.2 (.inl hp))) | exact List.mem_append.2 (.inr (List.mem_append.2 (.inr hp))) | (simp only [List.mem_append] at hp ⊢; grind)); simp only at q1 q2; omega)
  replace K3 : Kept (f3_0_list ++ f3_1) w3 w14 := K3.wr2 (by repeat' (first | (with_reducible exact Below.refl _ _) | (with_reducible assumption) | (with_reducible refine Below.setCell ?_ ?_ _) | (with_reducible refine Below.alloc ?_ ?_ _) | (with_reducible refine Below.drew ?_) | (with_reducible refine belowN ?_ _) | (with_reducible refine below_after2 ?_ (by assumption) ?_) | omega | (simp; done) | (simp; omega))) hw14 (fun p hp => Nat.lt_of_lt_of_le (UB3 p hp) (by omega)) (fun q hq hp => by have q1 := FR5.ge q (by first | exact hp | exact List.mem_append.2 (.inl hp) | exact List.mem_append.2 (.inr hp) | exact List.mem_append.2 (.inr (List.mem_append.2 (.inl hp))) | exact List.mem_append.2 (.inr (List.mem_append.2 (.inr hp))) | (simp only [List.mem_append] at hp ⊢; grind)); have q2 := UB5 q (by first | exact hp | exact List.mem_append.2 (.inl hp) | exact List.mem_append.2 (.inr hp) | exact List.mem_append.2 (.inr (List.mem_append.2 (.inl hp))) | exact List.mem_append.2 (.inr (List.mem_append.2 (.inr hp))) | (simp only [List.mem_append] at hp ⊢; grind)); first | (have q3 := UB3 q hq; omega) | (have q3 := FR3.ge q hq; omega))
  have B14 : Below (w4.heap.size + 1) w13 w14 := wrb hw14 (by repeat' (first | (with_reducible exact Below.refl _ _) | (with_reducible assumption) | (with_reducible refine Below.setCell ?_ ?_ _) | (with_reducible refine Below.alloc ?_ ?_ _) | (with_reducible refine Below.drew ?_) | (with_reducible refine belowN ?_ _) | (with_reducible refine below_after2 ?_ (by assumption) ?_) | omega | (simp; done) | (simp; omega))) (by omega) (fun p hp => FR5.ge p (by first | exact hp | exact List.mem_append.2 (.inl hp) | exact List.mem_append.2 (.inr hp) | exact List.mem_append.2 (.inr (List.mem_append.2 (.inl hp))) | exact List.mem_append.2 (.inr (List.mem_append.2 (.inr hp))) | (simp only [List.mem_append] at hp ⊢; grind)))
  replace FR5 : Fresh (w4.heap.size + 1) w14 (f5_0_list ++ f5_1) := FR5.wr2 (by repeat' (first | (with_reducible exact Below.refl _ _) | (with_reducible assumption) | (with_reducible refine Below.setCell ?_ ?_ _) | (with_reducible refine Below.alloc ?_ ?_ _) | (with_reducible refine Below.drew ?_) | (with_reducible refine belowN ?_ _) | (with_reducible refine below_after2 ?_ (by assumption) ?_) | omega | (simp; done) | (simp; omega))) hw14 (fun p hp => Nat.lt_of_lt_of_le (UB5 p hp) (by omega))
  replace S5_0_list := S5_0_list.wr2 (by repeat' (first | (with_reducible exact Below.refl _ _) | (with_reducible assumption) | (with_reducible refine Below.setCell ?_ ?_ _) | (with_reducible refine Below.alloc ?_ ?_ _) | (with_reducible refine Below.drew ?_) | (with_reducible refine belowN ?_ _) | (with_reducible refine below_after2 ?_ (by assumption) ?_) | omega | (simp; done) | (simp; omega))) hw14 (fun p hp hq => by have hh := FR5.nodup; (try simp only [List.nodup_append] at hh); (try simp only [List.mem_append] at hh hq); grind)
  replace S5_1 := T14_1
  have K5 : Kept (f5_0_list ++ f5_1) w14 w14 := Kept.refl _ _
  have z14_p0 : w.heap.size < w14.heap.size := (by omega)
  have z14_W0 : w3.heap.size < w14.heap.size := (by omega)
  have z14_xx : w4.heap.size < w14.heap.size := (by omega)
  have z14_G0 : w5.heap.size < w14.heap.size := (by omega)
  obtain ⟨m2, hm2, hn2⟩ : ∃ m : Int, m = m1 + ((cntL y1 : Nat) : Int) ∧ m1 ≤ m := ⟨_, rfl, by omega⟩
  obtain rfl : e = .returned (.int .i64 m2) := he.trans (by rw [hm2])
  have ho2 : m2 ≤ m1 + 1099511627776 := by omega
  have HM2 : Hid (m2 = m1 + ((cntL y1 : Nat) : Int)) := Lib.hid hm2
  clear he hm2
  have hx1 : decide (m1 < 0) = false := by simp; omega
  have hy1 : ¬ m1 < 0 := by omega
  have hx2 : decide (m2 < 0) = false := by simp; omega
  have hy2 : ¬ m2 < 0 := by omega
  have hz : (m2 != m2) = false := by simp
  go_wp2_with fail
  refine (heldRing_c y0.cap y0.next y0.out _ _ _ 1 (by omega) (by (try simp only [cntL_mkL]); omega) ((⟨_, S5_0_list.kept (K5.below (show Below w14.heap.size w14 _ from (by repeat' (first | (with_reducible exact Below.refl _ _) | (with_reducible assumption) | (with_reducible refine Below.setCell ?_ ?_ _) | (with_reducible refine Below.alloc ?_ ?_ _) | (with_reducible refine Below.drew ?_) | (with_reducible refine belowN ?_ _) | (with_reducible refine below_after2 ?_ (by assumption) ?_) | omega | (simp; done) | (simp; omega)))) (fun p hp => Nat.lt_of_lt_of_le (UB5 p hp) (by omega))) (by intro p hp; simp only [List.mem_append]; simp [hp])⟩ : RdS _ _ _)) (by (try simp only [cntL_mkL]); exact mkL_mkL _ _)).mono ?_
  rintro e w15 ⟨he, hb15⟩
  obtain rfl : e = .returned (.int .i64 m1) := he.trans (by (try simp only [cntL_mkL]); rw [HM1.out])
  clear he
  have B15 : Below w14.heap.size w14 w15 := (by repeat' (first | (with_reducible exact Below.refl _ _) | (with_reducible assumption) | (with_reducible refine Below.setCell ?_ ?_ _) | (with_reducible refine Below.alloc ?_ ?_ _) | (with_reducible refine Below.drew ?_) | (with_reducible refine belowN ?_ _) | (with_reducible refine below_after2 ?_ (by assumption) ?_) | omega | (simp; done) | (simp; omega)))
  have s15 : w14.heap.size ≤ w15.heap.size := (by have := hb15.size; (try simp at this); omega)
  replace cp0_0 : w15.cell? ⟨w.heap.size, 0, none⟩ = some (.int .i64 x.cap) := cellb B15 cp0_0
  replace cp0_1 : w15.cell? ⟨w.heap.size, 1, none⟩ = some (.int .i64 x.next) := cellb B15 cp0_1
  replace cp0_2 : w15.cell? ⟨w.heap.size, 2, none⟩ = some (.bool x.out) := cellb B15 cp0_2
  replace cp0_3 : w15.cell? ⟨w.heap.size, 3, none⟩ = some (v_x_list) := cellb B15 cp0_3
  replace cW0_0 : w15.cell? ⟨w3.heap.size, 0, none⟩ = some (.int .i64 y0.cap) := cellb B15 cW0_0
  replace cW0_1 : w15.cell? ⟨w3.heap.size, 1, none⟩ = some (.int .i64 y0.next) := cellb B15 cW0_1
  replace cW0_2 : w15.cell? ⟨w3.heap.size, 2, none⟩ = some (.bool y0.out) := cellb B15 cW0_2
  replace cW0_3 : w15.cell? ⟨w3.heap.size, 3, none⟩ = some (.slice a3_0_list y0.list.length c3_0_list) := cellb B15 cW0_3
  replace cxx_0 : w15.cell? ⟨w4.heap.size, 0, none⟩ = some (.int .i64 x.cap) := cellb B15 cxx_0
  replace cxx_1 : w15.cell? ⟨w4.heap.size, 1, none⟩ = some (.int .i64 x.next) := cellb B15 cxx_1
  replace cxx_2 : w15.cell? ⟨w4.heap.size, 2, none⟩ = some (.bool x.out) := cellb B15 cxx_2
  replace cxx_3 : w15.cell? ⟨w4.heap.size, 3, none⟩ = some (.slice a4_list x.list.length c4_list) := cellb B15 cxx_3
  replace cG0_0 : w15.cell? ⟨w5.heap.size, 0, none⟩ = some (.int .i64 y0.cap) := cellb B15 cG0_0
  replace cG0_1 : w15.cell? ⟨w5.heap.size, 1, none⟩ = some (.int .i64 y0.next) := cellb B15 cG0_1
  replace cG0_2 : w15.cell? ⟨w5.heap.size, 2, none⟩ = some (.bool y0.out) := cellb B15 cG0_2
  replace cG0_3 : w15.cell? ⟨w5.heap.size, 3, none⟩ = some (.slice a5_0_list y0.list.length c5_0_list) := cellb B15 cG0_3
  replace K3 : Kept (f3_0_list ++ f3_1) w3 w15 := K3.below B15 (fun p hp => Nat.lt_of_lt_of_le (UB3 p hp) (by omega))
  replace K5 : Kept (f5_0_list ++ f5_1) w14 w15 := K5.below B15 (fun p hp => Nat.lt_of_lt_of_le (UB5 p hp) (by omega))
  have z15_p0 : w.heap.size < w15.heap.size := (by omega)
  have z15_W0 : w3.heap.size < w15.heap.size := (by omega)
  have z15_xx : w4.heap.size < w15.heap.size := (by omega)
  have z15_G0 : w5.heap.size < w15.heap.size := (by omega)
  clear hb15
  go_wp2_with fail
  refine (heldEntryS_c _ _ _ m1 (by omega) (by rw [cntL_mkL]; omega) ((⟨_, S5_1.kept (K5.below (show Below w15.heap.size w15 _ from (by repeat' (first | (with_reducible exact Below.refl _ _) | (with_reducible assumption) | (with_reducible refine Below.setCell ?_ ?_ _) | (with_reducible refine Below.alloc ?_ ?_ _) | (with_reducible refine Below.drew ?_) | (with_reducible refine belowN ?_ _) | (with_reducible refine below_after2 ?_ (by assumption) ?_) | omega | (simp; done) | (simp; omega)))) (fun p hp => Nat.lt_of_lt_of_le (UB5 p hp) (by omega))) (by intro p hp; simp only [List.mem_append]; simp [hp])⟩ : RdS _ _ _)) (mkL_mkL _ _)).mono ?_
  rintro e w16 ⟨he, hb16⟩
  obtain rfl : e = .returned (.int .i64 m2) := he.trans (by (try simp only [cntL_mkL]); rw [HM2.out])
  clear he
  have B16 : Below w15.heap.size w15 w16 := (by repeat' (first | (with_reducible exact Below.refl _ _) | (with_reducible assumption) | (with_reducible refine Below.setCell ?_ ?_ _) | (with_reducible refine Below.alloc ?_ ?_ _) | (with_reducible refine Below.drew ?_) | (with_reducible refine belowN ?_ _) | (with_reducible refine below_after2 ?_ (by assumption) ?_) | omega | (simp; done) | (simp; omega)))
  have s16 : w15.heap.size ≤ w16.heap.size := (by have := hb16.size; (try simp at this); omega)
  replace cp0_0 : w16.cell? ⟨w.heap.size, 0, none⟩ = some (.int .i64 x.cap) := cellb B16 cp0_0
  replace cp0_1 : w16.cell? ⟨w.heap.size, 1, none⟩ = some (.int .i64 x.next) := cellb B16 cp0_1
  replace cp0_2 : w16.cell? ⟨w.heap.size, 2, none⟩ = some (.bool x.out) := cellb B16 cp0_2
  replace cp0_3 : w16.cell? ⟨w.heap.size, 3, none⟩ = some (v_x_list) := cellb B16 cp0_3
  replace cW0_0 : w16.cell? ⟨w3.heap.size, 0, none⟩ = some (.int .i64 y0.cap) := cellb B16 cW0_0
  replace cW0_1 : w16.cell? ⟨w3.heap.size, 1, none⟩ = some (.int .i64 y0.next) := cellb B16 cW0_1
  replace cW0_2 : w16.cell? ⟨w3.heap.size, 2, none⟩ = some (.bool y0.out) := cellb B16 cW0_2
  replace cW0_3 : w16.cell? ⟨w3.heap.size, 3, none⟩ = some (.slice a3_0_list y0.list.length c3_0_list) := cellb B16 cW0_3
  replace cxx_0 : w16.cell? ⟨w4.heap.size, 0, none⟩ = some (.int .i64 x.cap) := cellb B16 cxx_0
  replace cxx_1 : w16.cell? ⟨w4.heap.size, 1, none⟩ = some (.int .i64 x.next) := cellb B16 cxx_1
  replace cxx_2 : w16.cell? ⟨w4.heap.size, 2, none⟩ = some (.bool x.out) := cellb B16 cxx_2
  replace cxx_3 : w16.cell? ⟨w4.heap.size, 3, none⟩ = some (.slice a4_list x.list.length c4_list) := cellb B16 cxx_3
  replace cG0_0 : w16.cell? ⟨w5.heap.size, 0, none⟩ = some (.int .i64 y0.cap) := cellb B16 cG0_0
  replace cG0_1 : w16.cell? ⟨w5.heap.size, 1, none⟩ = some (.int .i64 y0.next) := cellb B16 cG0_1
  replace cG0_2 : w16.cell? ⟨w5.heap.size, 2, none⟩ = some (.bool y0.out) := cellb B16 cG0_2
  replace cG0_3 : w16.cell? ⟨w5.heap.size, 3, none⟩ = some (.slice a5_0_list y0.list.length c5_0_list) := cellb B16 cG0_3
  replace K3 : Kept (f3_0_list ++ f3_1) w3 w16 := K3.below B16 (fun p hp => Nat.lt_of_lt_of_le (UB3 p hp) (by omega))
  replace K5 : Kept (f5_0_list ++ f5_1) w14 w16 := K5.below B16 (fun p hp => Nat.lt_of_lt_of_le (UB5 p hp) (by omega))
  have z16_p0 : w.heap.size < w16.heap.size := (by omega)
  have z16_W0 : w3.heap.size < w16.heap.size := (by omega)
  have z16_xx : w4.heap.size < w16.heap.size := (by omega)
  have z16_G0 : w5.heap.size < w16.heap.size := (by omega)
  clear hb16
  go_wp2_with fail
  refine (toRing_c x _ _  (hr_x_list.below (by repeat' (first | (with_reducible exact Below.refl _ _) | (with_reducible assumption) | (with_reducible refine Below.setCell ?_ ?_ _) | (with_reducible refine Below.alloc ?_ ?_ _) | (with_reducible refine Below.drew ?_) | (with_reducible refine belowN ?_ _) | (with_reducible refine below_after2 ?_ (by assumption) ?_) | omega | (simp; done) | (simp; omega))))).mono ?_
  rintro e w17 ⟨_, rfl, ⟨f17_list, ho17, FR17⟩, hb17⟩
  obtain ⟨v17_list, f17_list', rfl, S17_list, rfl⟩ := ho17
  obtain ⟨a17_list, c17_list, rfl⟩ := RdS.isSlice ⟨_, S17_list⟩
  have UB17 : ∀ p ∈ f17_list, p.1 < w17.heap.size := Live.lt (S17_list.live)
  replace FR17 : Fresh (w16.heap.size) w17 f17_list := FR17.mono (by first | exact Nat.le_refl _ | (simp; done) | (simp; omega))
  have K17 : Kept f17_list w17 w17 := Kept.refl _ _
  have B17 : Below w16.heap.size w16 w17 := (by repeat' (first | (with_reducible exact Below.refl _ _) | (with_reducible assumption) | (with_reducible refine Below.setCell ?_ ?_ _) | (with_reducible refine Below.alloc ?_ ?_ _) | (with_reducible refine Below.drew ?_) | (with_reducible refine belowN ?_ _) | (with_reducible refine below_after2 ?_ (by assumption) ?_) | omega | (simp; done) | (simp; omega)))
  have s17 : w16.heap.size ≤ w17.heap.size := (by have := hb17.size; (try simp at this); omega)
  replace cp0_0 : w17.cell? ⟨w.heap.size, 0, none⟩ = some (.int .i64 x.cap) := cellb B17 cp0_0
  replace cp0_1 : w17.cell? ⟨w.heap.size, 1, none⟩ = some (.int .i64 x.next) := cellb B17 cp0_1
  replace cp0_2 : w17.cell? ⟨w.heap.size, 2, none⟩ = some (.bool x.out) := cellb B17 cp0_2
  replace cp0_3 : w17.cell? ⟨w.heap.size, 3, none⟩ = some (v_x_list) := cellb B17 cp0_3
  replace cW0_0 : w17.cell? ⟨w3.heap.size, 0, none⟩ = some (.int .i64 y0.cap) := cellb B17 cW0_0
  replace cW0_1 : w17.cell? ⟨w3.heap.size, 1, none⟩ = some (.int .i64 y0.next) := cellb B17 cW0_1
  replace cW0_2 : w17.cell? ⟨w3.heap.size, 2, none⟩ = some (.bool y0.out) := cellb B17 cW0_2
  replace cW0_3 : w17.cell? ⟨w3.heap.size, 3, none⟩ = some (.slice a3_0_list y0.list.length c3_0_list) := cellb B17 cW0_3
  replace cxx_0 : w17.cell? ⟨w4.heap.size, 0, none⟩ = some (.int .i64 x.cap) := cellb B17 cxx_0
  replace cxx_1 : w17.cell? ⟨w4.heap.size, 1, none⟩ = some (.int .i64 x.next) := cellb B17 cxx_1
  replace cxx_2 : w17.cell? ⟨w4.heap.size, 2, none⟩ = some (.bool x.out) := cellb B17 cxx_2
  replace cxx_3 : w17.cell? ⟨w4.heap.size, 3, none⟩ = some (.slice a4_list x.list.length c4_list) := cellb B17 cxx_3
  replace cG0_0 : w17.cell? ⟨w5.heap.size, 0, none⟩ = some (.int .i64 y0.cap) := cellb B17 cG0_0
  replace cG0_1 : w17.cell? ⟨w5.heap.size, 1, none⟩ = some (.int .i64 y0.next) := cellb B17 cG0_1
  replace cG0_2 : w17.cell? ⟨w5.heap.size, 2, none⟩ = some (.bool y0.out) := cellb B17 cG0_2
  replace cG0_3 : w17.cell? ⟨w5.heap.size, 3, none⟩ = some (.slice a5_0_list y0.list.length c5_0_list) := cellb B17 cG0_3
  replace K3 : Kept (f3_0_list ++ f3_1) w3 w17 := K3.below B17 (fun p hp => Nat.lt_of_lt_of_le (UB3 p hp) (by omega))
  replace K5 : Kept (f5_0_list ++ f5_1) w14 w17 := K5.below B17 (fun p hp => Nat.lt_of_lt_of_le (UB5 p hp) (by omega))
  have z17_p0 : w.heap.size < w17.heap.size := (by omega)
  have z17_W0 : w3.heap.size < w17.heap.size := (by omega)
  have z17_xx : w4.heap.size < w17.heap.size := (by omega)
  have z17_G0 : w5.heap.size < w17.heap.size := (by omega)
  clear hb17
  go_wp2_with fail
  refine (HI.out _ _ ((⟨_, S17_list.kept (K17.below (show Below w17.heap.size w17 _ from (by repeat' (first | (with_reducible exact Below.refl _ _) | (with_reducible assumption) | (with_reducible refine Below.setCell ?_ ?_ _) | (with_reducible refine Below.alloc ?_ ?_ _) | (with_reducible refine Below.drew ?_) | (with_reducible refine belowN ?_ _) | (with_reducible refine below_after2 ?_ (by assumption) ?_) | omega | (simp; done) | (simp; omega)))) (fun p hp => Nat.lt_of_lt_of_le (UB17 p hp) (by omega))) (fun _ h => h)⟩ : RdS _ _ _))).mono ?_
  rintro e w18 ⟨v18_0_list, v18_1, f18_0_list, f18_1, rfl, S18_0_list, S18_1, FR18, hb18⟩
  obtain ⟨a18_0_list, c18_0_list, rfl⟩ := RdS.isSlice ⟨_, S18_0_list⟩
  have UB18 : ∀ p ∈ (f18_0_list ++ f18_1), p.1 < w18.heap.size := Live.lt (Live.append.2 ⟨S18_0_list.live, S18_1.live⟩)
  replace FR18 : Fresh (w17.heap.size) w18 (f18_0_list ++ f18_1) := FR18.mono (by first | exact Nat.le_refl _ | (simp; done) | (simp; omega))
  have K18 : Kept (f18_0_list ++ f18_1) w18 w18 := Kept.refl _ _
  have B18 : Below w17.heap.size w17 w18 := (by repeat' (first | (with_reducible exact Below.refl _ _) | (with_reducible assumption) | (with_reducible refine Below.setCell ?_ ?_ _) | (with_reducible refine Below.alloc ?_ ?_ _) | (with_reducible refine Below.drew ?_) | (with_reducible refine belowN ?_ _) | (with_reducible refine below_after2 ?_ (by assumption) ?_) | omega | (simp; done) | (simp; omega)))
  have s18 : w17.heap.size ≤ w18.heap.size := (by have := hb18.size; (try simp at this); omega)
  replace cp0_0 : w18.cell? ⟨w.heap.size, 0, none⟩ = some (.int .i64 x.cap) := cellb B18 cp0_0
  replace cp0_1 : w18.cell? ⟨w.heap.size, 1, none⟩ = some (.int .i64 x.next) := cellb B18 cp0_1
  replace cp0_2 : w18.cell? ⟨w.heap.size, 2, none⟩ = some (.bool x.out) := cellb B18 cp0_2
  replace cp0_3 : w18.cell? ⟨w.heap.size, 3, none⟩ = some (v_x_list) := cellb B18 cp0_3
  replace cW0_0 : w18.cell? ⟨w3.heap.size, 0, none⟩ = some (.int .i64 y0.cap) := cellb B18 cW0_0
  replace cW0_1 : w18.cell? ⟨w3.heap.size, 1, none⟩ = some (.int .i64 y0.next) := cellb B18 cW0_1
  replace cW0_2 : w18.cell? ⟨w3.heap.size, 2, none⟩ = some (.bool y0.out) := cellb B18 cW0_2
  replace cW0_3 : w18.cell? ⟨w3.heap.size, 3, none⟩ = some (.slice a3_0_list y0.list.length c3_0_list) := cellb B18 cW0_3
  replace cxx_0 : w18.cell? ⟨w4.heap.size, 0, none⟩ = some (.int .i64 x.cap) := cellb B18 cxx_0
  replace cxx_1 : w18.cell? ⟨w4.heap.size, 1, none⟩ = some (.int .i64 x.next) := cellb B18 cxx_1
  replace cxx_2 : w18.cell? ⟨w4.heap.size, 2, none⟩ = some (.bool x.out) := cellb B18 cxx_2
  replace cxx_3 : w18.cell? ⟨w4.heap.size, 3, none⟩ = some (.slice a4_list x.list.length c4_list) := cellb B18 cxx_3
  replace cG0_0 : w18.cell? ⟨w5.heap.size, 0, none⟩ = some (.int .i64 y0.cap) := cellb B18 cG0_0
  replace cG0_1 : w18.cell? ⟨w5.heap.size, 1, none⟩ = some (.int .i64 y0.next) := cellb B18 cG0_1
  replace cG0_2 : w18.cell? ⟨w5.heap.size, 2, none⟩ = some (.bool y0.out) := cellb B18 cG0_2
  replace cG0_3 : w18.cell? ⟨w5.heap.size, 3, none⟩ = some (.slice a5_0_list y0.list.length c5_0_list) := cellb B18 cG0_3
  replace K3 : Kept (f3_0_list ++ f3_1) w3 w18 := K3.below B18 (fun p hp => Nat.lt_of_lt_of_le (UB3 p hp) (by omega))
  replace K5 : Kept (f5_0_list ++ f5_1) w14 w18 := K5.below B18 (fun p hp => Nat.lt_of_lt_of_le (UB5 p hp) (by omega))
  replace K17 : Kept f17_list w17 w18 := K17.below B18 (fun p hp => Nat.lt_of_lt_of_le (UB17 p hp) (by omega))
  have z18_p0 : w.heap.size < w18.heap.size := (by omega)
  have z18_W0 : w3.heap.size < w18.heap.size := (by omega)
  have z18_xx : w4.heap.size < w18.heap.size := (by omega)
  have z18_G0 : w5.heap.size < w18.heap.size := (by omega)
  clear hb18
  go_wp2_with fail
  refine (eqRing_c y0 _ _ _ ((⟨_, S18_0_list.kept (K18.below (show Below w18.heap.size w18 _ from (by repeat' (first | (with_reducible exact Below.refl _ _) | (with_reducible assumption) | (with_reducible refine Below.setCell ?_ ?_ _) | (with_reducible refine Below.alloc ?_ ?_ _) | (with_reducible refine Below.drew ?_) | (with_reducible refine belowN ?_ _) | (with_reducible refine below_after2 ?_ (by assumption) ?_) | omega | (simp; done) | (simp; omega)))) (fun p hp => Nat.lt_of_lt_of_le (UB18 p hp) (by omega))) (by intro p hp; simp only [List.mem_append]; simp [hp])⟩ : RdS _ _ _)) ((⟨_, S3_0_list.kept (K3.below (show Below w18.heap.size w18 _ from (by repeat' (first | (with_reducible exact Below.refl _ _) | (with_reducible assumption) | (with_reducible refine Below.setCell ?_ ?_ _) | (with_reducible refine Below.alloc ?_ ?_ _) | (with_reducible refine Below.drew ?_) | (with_reducible refine belowN ?_ _) | (with_reducible refine below_after2 ?_ (by assumption) ?_) | omega | (simp; done) | (simp; omega)))) (fun p hp => Nat.lt_of_lt_of_le (UB3 p hp) (by omega))) (by intro p hp; simp only [List.mem_append]; simp [hp])⟩ : RdS _ _ _))).mono ?_
  rintro e w19 ⟨rfl, hb19⟩
  have hN : Below (w18.heap.size + 1) (w18.alloc (.cells #[.int .i64 y0.cap, .int .i64 y0.next, .bool y0.out, .slice a18_0_list y0.list.length c18_0_list] 40)) w19 := (by repeat' (first | (with_reducible exact Below.refl _ _) | (with_reducible assumption) | (with_reducible refine Below.setCell ?_ ?_ _) | (with_reducible refine Below.alloc ?_ ?_ _) | (with_reducible refine Below.drew ?_) | (with_reducible refine belowN ?_ _) | (with_reducible refine below_after2 ?_ (by assumption) ?_) | omega | (simp; done) | (simp; omega)))
  have B19 : Below w18.heap.size w18 w19 := (by repeat' (first | (with_reducible exact Below.refl _ _) | (with_reducible assumption) | (with_reducible refine Below.setCell ?_ ?_ _) | (with_reducible refine Below.alloc ?_ ?_ _) | (with_reducible refine Below.drew ?_) | (with_reducible refine belowN ?_ _) | (with_reducible refine below_after2 ?_ (by assumption) ?_) | omega | (simp; done) | (simp; omega)))
  have s19 : w18.heap.size + 1 ≤ w19.heap.size := (by have := hb19.size; (try simp at this); omega)
  replace cp0_0 : w19.cell? ⟨w.heap.size, 0, none⟩ = some (.int .i64 x.cap) := cellb B19 cp0_0
  replace cp0_1 : w19.cell? ⟨w.heap.size, 1, none⟩ = some (.int .i64 x.next) := cellb B19 cp0_1
  replace cp0_2 : w19.cell? ⟨w.heap.size, 2, none⟩ = some (.bool x.out) := cellb B19 cp0_2
  replace cp0_3 : w19.cell? ⟨w.heap.size, 3, none⟩ = some (v_x_list) := cellb B19 cp0_3
  replace cW0_0 : w19.cell? ⟨w3.heap.size, 0, none⟩ = some (.int .i64 y0.cap) := cellb B19 cW0_0
  replace cW0_1 : w19.cell? ⟨w3.heap.size, 1, none⟩ = some (.int .i64 y0.next) := cellb B19 cW0_1
  replace cW0_2 : w19.cell? ⟨w3.heap.size, 2, none⟩ = some (.bool y0.out) := cellb B19 cW0_2
  replace cW0_3 : w19.cell? ⟨w3.heap.size, 3, none⟩ = some (.slice a3_0_list y0.list.length c3_0_list) := cellb B19 cW0_3
  replace cxx_0 : w19.cell? ⟨w4.heap.size, 0, none⟩ = some (.int .i64 x.cap) := cellb B19 cxx_0
  replace cxx_1 : w19.cell? ⟨w4.heap.size, 1, none⟩ = some (.int .i64 x.next) := cellb B19 cxx_1
  replace cxx_2 : w19.cell? ⟨w4.heap.size, 2, none⟩ = some (.bool x.out) := cellb B19 cxx_2
  replace cxx_3 : w19.cell? ⟨w4.heap.size, 3, none⟩ = some (.slice a4_list x.list.length c4_list) := cellb B19 cxx_3
  replace cG0_0 : w19.cell? ⟨w5.heap.size, 0, none⟩ = some (.int .i64 y0.cap) := cellb B19 cG0_0
  replace cG0_1 : w19.cell? ⟨w5.heap.size, 1, none⟩ = some (.int .i64 y0.next) := cellb B19 cG0_1
  replace cG0_2 : w19.cell? ⟨w5.heap.size, 2, none⟩ = some (.bool y0.out) := cellb B19 cG0_2
  replace cG0_3 : w19.cell? ⟨w5.heap.size, 3, none⟩ = some (.slice a5_0_list y0.list.length c5_0_list) := cellb B19 cG0_3
  have cH0_0 : w19.cell? ⟨w18.heap.size, 0, none⟩ = some (.int .i64 y0.cap) := by rw [hN.cell (by simp; try omega)]; simp
  have cH0_1 : w19.cell? ⟨w18.heap.size, 1, none⟩ = some (.int .i64 y0.next) := by rw [hN.cell (by simp; try omega)]; simp
  have cH0_2 : w19.cell? ⟨w18.heap.size, 2, none⟩ = some (.bool y0.out) := by rw [hN.cell (by simp; try omega)]; simp
  have cH0_3 : w19.cell? ⟨w18.heap.size, 3, none⟩ = some (.slice a18_0_list y0.list.length c18_0_list) := by rw [hN.cell (by simp; try omega)]; simp
  clear hN
  replace K3 : Kept (f3_0_list ++ f3_1) w3 w19 := K3.below B19 (fun p hp => Nat.lt_of_lt_of_le (UB3 p hp) (by omega))
  replace K5 : Kept (f5_0_list ++ f5_1) w14 w19 := K5.below B19 (fun p hp => Nat.lt_of_lt_of_le (UB5 p hp) (by omega))
  replace K18 : Kept (f18_0_list ++ f18_1) w18 w19 := K18.below B19 (fun p hp => Nat.lt_of_lt_of_le (UB18 p hp) (by omega))
  have z19_p0 : w.heap.size < w19.heap.size := (by omega)
  have z19_W0 : w3.heap.size < w19.heap.size := (by omega)
  have z19_xx : w4.heap.size < w19.heap.size := (by omega)
  have z19_G0 : w5.heap.size < w19.heap.size := (by omega)
  have z19_H0 : w18.heap.size < w19.heap.size := (by omega)
  clear hb19
  go_wp2_with fail
  refine (eqEntryS_c _ _ y1 _ ((⟨_, S18_1.kept (K18.below (show Below w19.heap.size w19 _ from (by repeat' (first | (with_reducible exact Below.refl _ _) | (with_reducible assumption) | (with_reducible refine Below.setCell ?_ ?_ _) | (with_reducible refine Below.alloc ?_ ?_ _) | (with_reducible refine Below.drew ?_) | (with_reducible refine belowN ?_ _) | (with_reducible refine below_after2 ?_ (by assumption) ?_) | omega | (simp; done) | (simp; omega)))) (fun p hp => Nat.lt_of_lt_of_le (UB18 p hp) (by omega))) (by intro p hp; simp only [List.mem_append]; simp [hp])⟩ : RdS _ _ _)) ((⟨_, S3_1.kept (K3.below (show Below w19.heap.size w19 _ from (by repeat' (first | (with_reducible exact Below.refl _ _) | (with_reducible assumption) | (with_reducible refine Below.setCell ?_ ?_ _) | (with_reducible refine Below.alloc ?_ ?_ _) | (with_reducible refine Below.drew ?_) | (with_reducible refine belowN ?_ _) | (with_reducible refine below_after2 ?_ (by assumption) ?_) | omega | (simp; done) | (simp; omega)))) (fun p hp => Nat.lt_of_lt_of_le (UB3 p hp) (by omega))) (by intro p hp; simp only [List.mem_append]; simp [hp])⟩ : RdS _ _ _))).mono ?_
  rintro e w20 ⟨rfl, hb20⟩
  have B20 : Below w19.heap.size w19 w20 := (by repeat' (first | (with_reducible exact Below.refl _ _) | (with_reducible assumption) | (with_reducible refine Below.setCell ?_ ?_ _) | (with_reducible refine Below.alloc ?_ ?_ _) | (with_reducible refine Below.drew ?_) | (with_reducible refine belowN ?_ _) | (with_reducible refine below_after2 ?_ (by assumption) ?_) | omega | (simp; done) | (simp; omega)))
  have s20 : w19.heap.size ≤ w20.heap.size := (by have := hb20.size; (try simp at this); omega)
  replace cp0_0 : w20.cell? ⟨w.heap.size, 0, none⟩ = some (.int .i64 x.cap) := cellb B20 cp0_0
  replace cp0_1 : w20.cell? ⟨w.heap.size, 1, none⟩ = some (.int .i64 x.next) := cellb B20 cp0_1
  replace cp0_2 : w20.cell? ⟨w.heap.size, 2, none⟩ = some (.bool x.out) := cellb B20 cp0_2
  replace cp0_3 : w20.cell? ⟨w.heap.size, 3, none⟩ = some (v_x_list) := cellb B20 cp0_3
  replace cW0_0 : w20.cell? ⟨w3.heap.size, 0, none⟩ = some (.int .i64 y0.cap) := cellb B20 cW0_0
  replace cW0_1 : w20.cell? ⟨w3.heap.size, 1, none⟩ = some (.int .i64 y0.next) := cellb B20 cW0_1
  replace cW0_2 : w20.cell? ⟨w3.heap.size, 2, none⟩ = some (.bool y0.out) := cellb B20 cW0_2
  replace cW0_3 : w20.cell? ⟨w3.heap.size, 3, none⟩ = some (.slice a3_0_list y0.list.length c3_0_list) := cellb B20 cW0_3
  replace cxx_0 : w20.cell? ⟨w4.heap.size, 0, none⟩ = some (.int .i64 x.cap) := cellb B20 cxx_0
  replace cxx_1 : w20.cell? ⟨w4.heap.size, 1, none⟩ = some (.int .i64 x.next) := cellb B20 cxx_1
  replace cxx_2 : w20.cell? ⟨w4.heap.size, 2, none⟩ = some (.bool x.out) := cellb B20 cxx_2
  replace cxx_3 : w20.cell? ⟨w4.heap.size, 3, none⟩ = some (.slice a4_list x.list.length c4_list) := cellb B20 cxx_3
  replace cG0_0 : w20.cell? ⟨w5.heap.size, 0, none⟩ = some (.int .i64 y0.cap) := cellb B20 cG0_0
  replace cG0_1 : w20.cell? ⟨w5.heap.size, 1, none⟩ = some (.int .i64 y0.next) := cellb B20 cG0_1
  replace cG0_2 : w20.cell? ⟨w5.heap.size, 2, none⟩ = some (.bool y0.out) := cellb B20 cG0_2
  replace cG0_3 : w20.cell? ⟨w5.heap.size, 3, none⟩ = some (.slice a5_0_list y0.list.length c5_0_list) := cellb B20 cG0_3
  replace cH0_0 : w20.cell? ⟨w18.heap.size, 0, none⟩ = some (.int .i64 y0.cap) := cellb B20 cH0_0
  replace cH0_1 : w20.cell? ⟨w18.heap.size, 1, none⟩ = some (.int .i64 y0.next) := cellb B20 cH0_1
  replace cH0_2 : w20.cell? ⟨w18.heap.size, 2, none⟩ = some (.bool y0.out) := cellb B20 cH0_2
  replace cH0_3 : w20.cell? ⟨w18.heap.size, 3, none⟩ = some (.slice a18_0_list y0.list.length c18_0_list) := cellb B20 cH0_3
  replace K3 : Kept (f3_0_list ++ f3_1) w3 w20 := K3.below B20 (fun p hp => Nat.lt_of_lt_of_le (UB3 p hp) (by omega))
  replace K5 : Kept (f5_0_list ++ f5_1) w14 w20 := K5.below B20 (fun p hp => Nat.lt_of_lt_of_le (UB5 p hp) (by omega))
  replace K18 : Kept (f18_0_list ++ f18_1) w18 w20 := K18.below B20 (fun p hp => Nat.lt_of_lt_of_le (UB18 p hp) (by omega))
  have z20_p0 : w.heap.size < w20.heap.size := (by omega)
  have z20_W0 : w3.heap.size < w20.heap.size := (by omega)
  have z20_xx : w4.heap.size < w20.heap.size := (by omega)
  have z20_G0 : w5.heap.size < w20.heap.size := (by omega)
  have z20_H0 : w18.heap.size < w20.heap.size := (by omega)
  clear hb20
  go_wp2_with fail
  refine (heldRing_c y0.cap y0.next y0.out _ _ _ 1 (by omega) (by (try simp only [cntL_mkL]); omega) ((⟨_, S5_0_list.kept (K5.below (show Below w20.heap.size w20 _ from (by repeat' (first | (with_reducible exact Below.refl _ _) | (with_reducible assumption) | (with_reducible refine Below.setCell ?_ ?_ _) | (with_reducible refine Below.alloc ?_ ?_ _) | (with_reducible refine Below.drew ?_) | (with_reducible refine belowN ?_ _) | (with_reducible refine below_after2 ?_ (by assumption) ?_) | omega | (simp; done) | (simp; omega)))) (fun p hp => Nat.lt_of_lt_of_le (UB5 p hp) (by omega))) (by intro p hp; simp only [List.mem_append]; simp [hp])⟩ : RdS _ _ _)) (by (try simp only [cntL_mkL]); exact mkL_mkL _ _)).mono ?_
  rintro e w21 ⟨he, hb21⟩
  obtain rfl : e = .returned (.int .i64 m1) := he.trans (by (try simp only [cntL_mkL]); rw [HM1.out])
  clear he
  have B21 : Below w20.heap.size w20 w21 := (by repeat' (first | (with_reducible exact Below.refl _ _) | (with_reducible assumption) | (with_reducible refine Below.setCell ?_ ?_ _) | (with_reducible refine Below.alloc ?_ ?_ _) | (with_reducible refine Below.drew ?_) | (with_reducible refine belowN ?_ _) | (with_reducible refine below_after2 ?_ (by assumption) ?_) | omega | (simp; done) | (simp; omega)))
  have s21 : w20.heap.size ≤ w21.heap.size := (by have := hb21.size; (try simp at this); omega)
  replace cp0_0 : w21.cell? ⟨w.heap.size, 0, none⟩ = some (.int .i64 x.cap) := cellb B21 cp0_0
  replace cp0_1 : w21.cell? ⟨w.heap.size, 1, none⟩ = some (.int .i64 x.next) := cellb B21 cp0_1
  replace cp0_2 : w21.cell? ⟨w.heap.size, 2, none⟩ = some (.bool x.out) := cellb B21 cp0_2
  replace cp0_3 : w21.cell? ⟨w.heap.size, 3, none⟩ = some (v_x_list) := cellb B21 cp0_3
  replace cW0_0 : w21.cell? ⟨w3.heap.size, 0, none⟩ = some (.int .i64 y0.cap) := cellb B21 cW0_0
  replace cW0_1 : w21.cell? ⟨w3.heap.size, 1, none⟩ = some (.int .i64 y0.next) := cellb B21 cW0_1
  replace cW0_2 : w21.cell? ⟨w3.heap.size, 2, none⟩ = some (.bool y0.out) := cellb B21 cW0_2
  replace cW0_3 : w21.cell? ⟨w3.heap.size, 3, none⟩ = some (.slice a3_0_list y0.list.length c3_0_list) := cellb B21 cW0_3
  replace cxx_0 : w21.cell? ⟨w4.heap.size, 0, none⟩ = some (.int .i64 x.cap) := cellb B21 cxx_0
  replace cxx_1 : w21.cell? ⟨w4.heap.size, 1, none⟩ = some (.int .i64 x.next) := cellb B21 cxx_1
  replace cxx_2 : w21.cell? ⟨w4.heap.size, 2, none⟩ = some (.bool x.out) := cellb B21 cxx_2
  replace cxx_3 : w21.cell? ⟨w4.heap.size, 3, none⟩ = some (.slice a4_list x.list.length c4_list) := cellb B21 cxx_3
  replace cG0_0 : w21.cell? ⟨w5.heap.size, 0, none⟩ = some (.int .i64 y0.cap) := cellb B21 cG0_0
  replace cG0_1 : w21.cell? ⟨w5.heap.size, 1, none⟩ = some (.int .i64 y0.next) := cellb B21 cG0_1
  replace cG0_2 : w21.cell? ⟨w5.heap.size, 2, none⟩ = some (.bool y0.out) := cellb B21 cG0_2
  replace cG0_3 : w21.cell? ⟨w5.heap.size, 3, none⟩ = some (.slice a5_0_list y0.list.length c5_0_list) := cellb B21 cG0_3
  replace cH0_0 : w21.cell? ⟨w18.heap.size, 0, none⟩ = some (.int .i64 y0.cap) := cellb B21 cH0_0
  replace cH0_1 : w21.cell? ⟨w18.heap.size, 1, none⟩ = some (.int .i64 y0.next) := cellb B21 cH0_1
  replace cH0_2 : w21.cell? ⟨w18.heap.size, 2, none⟩ = some (.bool y0.out) := cellb B21 cH0_2
  replace cH0_3 : w21.cell? ⟨w18.heap.size, 3, none⟩ = some (.slice a18_0_list y0.list.length c18_0_list) := cellb B21 cH0_3
  replace K3 : Kept (f3_0_list ++ f3_1) w3 w21 := K3.below B21 (fun p hp => Nat.lt_of_lt_of_le (UB3 p hp) (by omega))
  replace K5 : Kept (f5_0_list ++ f5_1) w14 w21 := K5.below B21 (fun p hp => Nat.lt_of_lt_of_le (UB5 p hp) (by omega))
  have z21_p0 : w.heap.size < w21.heap.size := (by omega)
  have z21_W0 : w3.heap.size < w21.heap.size := (by omega)
  have z21_xx : w4.heap.size < w21.heap.size := (by omega)
  have z21_G0 : w5.heap.size < w21.heap.size := (by omega)
  have z21_H0 : w18.heap.size < w21.heap.size := (by omega)
  clear hb21
  go_wp2_with fail
  refine (heldEntryS_c _ _ _ m1 (by omega) (by rw [cntL_mkL]; omega) ((⟨_, S5_1.kept (K5.below (show Below w21.heap.size w21 _ from (by repeat' (first | (with_reducible exact Below.refl _ _) | (with_reducible assumption) | (with_reducible refine Below.setCell ?_ ?_ _) | (with_reducible refine Below.alloc ?_ ?_ _) | (with_reducible refine Below.drew ?_) | (with_reducible refine belowN ?_ _) | (with_reducible refine below_after2 ?_ (by assumption) ?_) | omega | (simp; done) | (simp; omega)))) (fun p hp => Nat.lt_of_lt_of_le (UB5 p hp) (by omega))) (by intro p hp; simp only [List.mem_append]; simp [hp])⟩ : RdS _ _ _)) (mkL_mkL _ _)).mono ?_
  rintro e w22 ⟨he, hb22⟩
  obtain rfl : e = .returned (.int .i64 m2) := he.trans (by (try simp only [cntL_mkL]); rw [HM2.out])
  clear he
  have B22 : Below w21.heap.size w21 w22 := (by repeat' (first | (with_reducible exact Below.refl _ _) | (with_reducible assumption) | (with_reducible refine Below.setCell ?_ ?_ _) | (with_reducible refine Below.alloc ?_ ?_ _) | (with_reducible refine Below.drew ?_) | (with_reducible refine belowN ?_ _) | (with_reducible refine below_after2 ?_ (by assumption) ?_) | omega | (simp; done) | (simp; omega)))
  have s22 : w21.heap.size ≤ w22.heap.size := (by have := hb22.size; (try simp at this); omega)
  replace cp0_0 : w22.cell? ⟨w.heap.size, 0, none⟩ = some (.int .i64 x.cap) := cellb B22 cp0_0
  replace cp0_1 : w22.cell? ⟨w.heap.size, 1, none⟩ = some (.int .i64 x.next) := cellb B22 cp0_1
  replace cp0_2 : w22.cell? ⟨w.heap.size, 2, none⟩ = some (.bool x.out) := cellb B22 cp0_2
  replace cp0_3 : w22.cell? ⟨w.heap.size, 3, none⟩ = some (v_x_list) := cellb B22 cp0_3
  replace cW0_0 : w22.cell? ⟨w3.heap.size, 0, none⟩ = some (.int .i64 y0.cap) := cellb B22 cW0_0
  replace cW0_1 : w22.cell? ⟨w3.heap.size, 1, none⟩ = some (.int .i64 y0.next) := cellb B22 cW0_1
  replace cW0_2 : w22.cell? ⟨w3.heap.size, 2, none⟩ = some (.bool y0.out) := cellb B22 cW0_2
  replace cW0_3 : w22.cell? ⟨w3.heap.size, 3, none⟩ = some (.slice a3_0_list y0.list.length c3_0_list) := cellb B22 cW0_3
  replace cxx_0 : w22.cell? ⟨w4.heap.size, 0, none⟩ = some (.int .i64 x.cap) := cellb B22 cxx_0
  replace cxx_1 : w22.cell? ⟨w4.heap.size, 1, none⟩ = some (.int .i64 x.next) := cellb B22 cxx_1
  replace cxx_2 : w22.cell? ⟨w4.heap.size, 2, none⟩ = some (.bool x.out) := cellb B22 cxx_2
  replace cxx_3 : w22.cell? ⟨w4.heap.size, 3, none⟩ = some (.slice a4_list x.list.length c4_list) := cellb B22 cxx_3
  replace cG0_0 : w22.cell? ⟨w5.heap.size, 0, none⟩ = some (.int .i64 y0.cap) := cellb B22 cG0_0
  replace cG0_1 : w22.cell? ⟨w5.heap.size, 1, none⟩ = some (.int .i64 y0.next) := cellb B22 cG0_1
  replace cG0_2 : w22.cell? ⟨w5.heap.size, 2, none⟩ = some (.bool y0.out) := cellb B22 cG0_2
  replace cG0_3 : w22.cell? ⟨w5.heap.size, 3, none⟩ = some (.slice a5_0_list y0.list.length c5_0_list) := cellb B22 cG0_3
  replace cH0_0 : w22.cell? ⟨w18.heap.size, 0, none⟩ = some (.int .i64 y0.cap) := cellb B22 cH0_0
  replace cH0_1 : w22.cell? ⟨w18.heap.size, 1, none⟩ = some (.int .i64 y0.next) := cellb B22 cH0_1
  replace cH0_2 : w22.cell? ⟨w18.heap.size, 2, none⟩ = some (.bool y0.out) := cellb B22 cH0_2
  replace cH0_3 : w22.cell? ⟨w18.heap.size, 3, none⟩ = some (.slice a18_0_list y0.list.length c18_0_list) := cellb B22 cH0_3
  replace K3 : Kept (f3_0_list ++ f3_1) w3 w22 := K3.below B22 (fun p hp => Nat.lt_of_lt_of_le (UB3 p hp) (by omega))
  replace K5 : Kept (f5_0_list ++ f5_1) w14 w22 := K5.below B22 (fun p hp => Nat.lt_of_lt_of_le (UB5 p hp) (by omega))
  have z22_p0 : w.heap.size < w22.heap.size := (by omega)
  have z22_W0 : w3.heap.size < w22.heap.size := (by omega)
  have z22_xx : w4.heap.size < w22.heap.size := (by omega)
  have z22_G0 : w5.heap.size < w22.heap.size := (by omega)
  have z22_H0 : w18.heap.size < w22.heap.size := (by omega)
  clear hb22
  go_wp2
  go_ret
  exact ⟨rfl, (by repeat' (first | (with_reducible exact Below.refl _ _) | (with_reducible assumption) | (with_reducible refine Below.setCell ?_ ?_ _) | (with_reducible refine Below.alloc ?_ ?_ _) | (with_reducible refine Below.drew ?_) | (with_reducible refine belowN ?_ _) | (with_reducible refine below_after2 ?_ (by assumption) ?_) | omega | (simp; done) | (simp; omega)))⟩
theorem walkc_FnExactRingPoll (x : DRing) (v_x_list : Value) (n : Int) (w : World) (h_x_list : RdSM maxLen w v_x_list x.list) (b1_n : -9223372036854775808 ≤ n) (b2_n : n ≤ 9223372036854775807) :
    Calls Try.prog 8 #[.agg #[.int .i64 x.cap, .int .i64 x.next, .bool x.out, v_x_list], .int .i64 n] w (Tells w (.bool true)) :=
  walk_FnExactRingPoll x v_x_list n w h_x_list b1_n b2_n ((ringPoll x n).1) ((ringPoll x n).2.1) ((ringPoll x n).2.2) (fun hz _ _ _ W h => spec_RingPoll_c x n _ W h (by have : GoS.sz x = szL x.list := rfl; omega)) (fun hz _ _ _ W h => impl_RingPoll_c x n _ W h (by have : GoS.sz x = szL x.list := rfl; omega)) (fun hz => by have := ringPoll_cnt x n; have : GoS.sz x = szL x.list := rfl; omega)
namespace fnExactRingPoll
theorem own : ownKnob Try.prog.godebug = none := by kernel_rfl
theorem laidOut : laidOutB Try.prog = true := by kernel_rfl
set_option maxRecDepth 100000 in
theorem lifted (os : Os) (started : os.Started) (H : Type) (enc : TypeId × Value → H) :
    ReturnsInHanded {} Try.checked os 8 .any (Rows.fnExactRingPollSpec.pre6 enc Try.prog Try.f8 Rows.fnExactRingPollRow.domain false) (Rows.fnExactRingPollSpec.post enc Try.prog Try.f8 false true false false) := by
  refine returnsInHanded_of_change (C := Try.checked) own started (by kernel_rfl) Try.func8
    (ChangeSpec.witness6 (enc := enc) (C := Try.checked) false ⟨#[], #[.agg #[.int .i64 0, .int .i64 0, .bool false, .slice none 0 0], .int .i64 0], []⟩ 8 (by kernel_rfl) (by kernel_rfl) (by kernel_rfl) (by kernel_rfl)) ?_
  intro W base args ds gs before hval0 hW hcnd _
  have hval : ∀ (j : Nat) t v, Try.f8.params[j]? = some t → args[j]? = some v → Value.okWide Try.prog W .any base t v := hval0
  have hW' := hW
  obtain ⟨p, q, hA0, hV, rfl, hfz, hnd⟩ := hW
  have hA : DataW.TrodAll enc Try.prog W 0 (fun _ => true) true Try.f8.params.toList args.toList ds p := hA0
  rw [Try.params8] at hA hval
  obtain ⟨v0, vs0, d0, ds0, p0, q0, hargs, rfl, rfl, h0, r0⟩ := trodAll_cons hA
  obtain ⟨v1, vs1, d1, ds1, p1, q1, rfl, rfl, rfl, h1, r1⟩ := trodAll_cons r0
  obtain ⟨rfl, rfl, rfl⟩ := trodAll_nil r1
  obtain rfl : args = #[v0, v1] := by cases args; simp_all
  obtain ⟨rfl, rfl⟩ := trodVars_none hV
  obtain ⟨cs0, rfl, _⟩ := okWide_struct Try.underlying35 (hval 0 35 v0 rfl rfl)
  have k0 := h0
  have lt0 : ∀ x ∈ p0, x.block < W.heap.size := by obtain ⟨m, hm⟩ := k0; exact DataW.trod_lt m _ _ _ hm
  obtain ⟨x0, m0⟩ : ∃ x : DRing, RdM maxLen W cs0.toList x := by
    obtain ⟨fuel, hf⟩ := h0
    exact opens_DRing _ _ _ _ _ _ _ _ hf
  obtain ⟨v_list0, hc0, m_list0⟩ := invM_DRing m0
  obtain ⟨cs0⟩ := cs0
  simp only at hc0
  subst hc0
  obtain ⟨a1, rfl, rfl, rfl, w1⟩ := open_int Try.underlying3 (hval 1 3 v1 rfl rfl) h1
  have b1 := i64_bounds w1
  clear hA0 hval0
  refine (walkc_FnExactRingPoll x0 _ a1 W m_list0 b1.1 b1.2).mono fun e W' ⟨he, bel⟩ => ?_
  subst he
  exact ⟨_, rfl, _, _, _, [], _, [], hW', trodAll_mk1 (shut_bool Try.underlying4 _), (trodAll_cons_mk (Below.trod laidOut (by kernel_rfl) (of_decide_eq_true (by kernel_rfl)) k0 bel lt0) (trodAll_cons_mk (shut_int Try.underlying3 w1) trodAll_mk0)), rfl, bel.frame _, fun h => by cases h⟩
theorem over : Rows.fnExactRingPollRow.holds Try.pinned (OpenSpec.ofChange Rows.fnExactRingPollSpec) :=
  OpenClaim.holds_of_wide 8 Try.f8 rfl rfl rfl rfl rfl rfl rfl ⟨rfl, rfl, rfl, rfl, rfl⟩ rfl rfl rfl rfl rfl (by kernel_rfl) Try.func8 (by kernel_rfl)
    (of_decide_eq_true (by kernel_rfl)) (by unfold Func.isWrapper; first | (rw [if_pos (by decide +kernel)]; kernel_rfl) | (rw [if_neg (by decide +kernel)]; exact ⟨rfl, rfl⟩))
    (fun os started H enc _ => lifted os started H enc)
theorem proved : Rows.FnExactRingPollSaid := over
end fnExactRingPoll
#print axioms fnExactRingPoll.proved
end Go.Proofs.Ytihbmefidbmmdaa
