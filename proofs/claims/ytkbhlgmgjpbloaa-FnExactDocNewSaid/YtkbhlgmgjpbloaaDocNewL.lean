/- 'laws.FnExactDocNew' answers true for every input, and each argument reads afterwards as before. No conditions. -/
import Derived.Test.YtkbhlgmgjpbloaaEz
import Derived.Test.YtkbhlgmgjpbloaaMk
import Derived.Test.YtkbhlgmgjpbloaaRo
import Derived.Test.YtkbhlgmgjpbloaaCdr
import Derived.Test.YtkbhlgmgjpbloaaRows
import Derived.Test.YtkbhlgmgjpbloaaDfo
import Derived.ProofKit
import Derived.OpenShut
import Derived.ChangeMaps5
import Derived.Deep.RegionHeld3
namespace Go.Proofs.Ytkbhlgmgjpbloaa
open Go.ChangeShapes Go.WideShapes Go.ChangeAt Go.RowKit
open Go.ChangeMaps (open_string shut_string)
set_option maxHeartbeats 16000000 in
theorem walk_FnExactDocNew (x : ByteArray) (t : List Int) (v_t : Value) (w : World) (n_x : x.size ≤ maxLen) (h_t : RdSM maxLen w v_t t) (y0 : DDoc) (y1 : Bool)
    (HS0 : x.size ≤ 1048576 → (t.length : Nat) ≤ 1048576 → ∀ (v_t : Value) (W : World), RdS W v_t t → Calls Try.prog 17 #[.string x, v_t] W (Out_Doc_b W y0 y1))
    (HI0 : x.size ≤ 1048576 → (t.length : Nat) ≤ 1048576 → ∀ (v_t : Value) (W : World), RdS W v_t t → Calls Try.prog 19 #[.string x, v_t] W (Out_Doc_b W y0 y1))
    (HC0 : t.length ≤ 1048576 → cntL y0.text + cntL y0.list + cntL y0.seen ≤ 1099511627776) :
    Calls Try.prog 4 #[.string x, v_t] w (Tells w (.bool true)) := by
  have HS1 := Lib.hid HS0
  have HI1 := Lib.hid HI0
  clear HS0 HI0
  unfold maxLen at n_x
  have hl_t := fun w1 ty => h_t.len Try.underlying22 w1 ty
  have hle_t := h_t.le
  by_cases cl_x : x.size ≤ 1048576
  rotate_left
  · go_enter Try.func4, Try.ntmps4
    go_wp2
    go_ret
    exact ⟨rfl, (by repeat' (first | (with_reducible exact Below.refl _ _) | (with_reducible assumption) | (with_reducible refine Below.setCell ?_ ?_ _) | (with_reducible refine Below.alloc ?_ ?_ _) | (with_reducible refine Below.drew ?_) | (with_reducible refine belowN ?_ _) | (with_reducible refine below_after2 ?_ (by assumption) ?_) | omega | (simp; done) | (simp; omega)))⟩
  by_cases cl_t : t.length ≤ 1048576
  rotate_left
  · go_enter Try.func4, Try.ntmps4
    go_wp2
    go_ret
    exact ⟨rfl, (by repeat' (first | (with_reducible exact Below.refl _ _) | (with_reducible assumption) | (with_reducible refine Below.setCell ?_ ?_ _) | (with_reducible refine Below.alloc ?_ ?_ _) | (with_reducible refine Below.drew ?_) | (with_reducible refine belowN ?_ _) | (with_reducible refine below_after2 ?_ (by assumption) ?_) | omega | (simp; done) | (simp; omega)))⟩
  have hr_t : RdS w v_t t := let ⟨fp, s⟩ := h_t; ⟨fp, s.up (by rw [szL_int]; exact le_BIG (by omega))⟩
  have HS := Lib.hid (HS1.out (by omega) (by omega))
  have HI := Lib.hid (HI1.out (by omega) (by omega))
  clear HS1 HI1
  have hcnt : cntL y0.text + cntL y0.list + cntL y0.seen ≤ 1099511627776 := HC0 (by omega)
  clear HC0
  have cx_t : cntL t ≤ 5 * 1048576 := by have := cntL_le t; rw [szL_int] at this; omega
  go_enter Try.func4, Try.ntmps4
  go_wp2_with fail
  refine (toIntS_c _ t _ (hr_t.below (by repeat' (first | (with_reducible exact Below.refl _ _) | (with_reducible assumption) | (with_reducible refine Below.setCell ?_ ?_ _) | (with_reducible refine Below.alloc ?_ ?_ _) | (with_reducible refine Below.drew ?_) | (with_reducible refine belowN ?_ _) | (with_reducible refine below_after2 ?_ (by assumption) ?_) | omega | (simp; done) | (simp; omega))))).mono ?_
  rintro e w1 ⟨v1_t, rfl, ⟨f1_t, S1_t, FR1⟩, hb1⟩
  have UB1 : ∀ p ∈ f1_t, p.1 < w1.heap.size := Live.lt (S1_t.live)
  replace FR1 : Fresh (w.heap.size) w1 f1_t := FR1.mono (by first | exact Nat.le_refl _ | (simp; done) | (simp; omega))
  have K1 : Kept f1_t w1 w1 := Kept.refl _ _
  have B1 : Below w.heap.size w w1 := (by repeat' (first | (with_reducible exact Below.refl _ _) | (with_reducible assumption) | (with_reducible refine Below.setCell ?_ ?_ _) | (with_reducible refine Below.alloc ?_ ?_ _) | (with_reducible refine Below.drew ?_) | (with_reducible refine belowN ?_ _) | (with_reducible refine below_after2 ?_ (by assumption) ?_) | omega | (simp; done) | (simp; omega)))
  have s1 : w.heap.size ≤ w1.heap.size := (by have := hb1.size; (try simp at this); omega)
  clear hb1
  go_wp2_with fail
  refine (HS.out _ _ ((⟨_, S1_t.kept (K1.below (show Below w1.heap.size w1 _ from (by repeat' (first | (with_reducible exact Below.refl _ _) | (with_reducible assumption) | (with_reducible refine Below.setCell ?_ ?_ _) | (with_reducible refine Below.alloc ?_ ?_ _) | (with_reducible refine Below.drew ?_) | (with_reducible refine belowN ?_ _) | (with_reducible refine below_after2 ?_ (by assumption) ?_) | omega | (simp; done) | (simp; omega)))) (fun p hp => Nat.lt_of_lt_of_le (UB1 p hp) (by omega))) (fun _ h => h)⟩ : RdS _ _ _))).mono ?_
  rintro e w2 ⟨v2_0_text, v2_0_list, v2_0_seen, f2_0_text, f2_0_list, f2_0_seen, rfl, S2_0_text, S2_0_list, S2_0_seen, n2_0_name, FR2, hb2⟩
  obtain ⟨a2_0_text, c2_0_text, rfl⟩ := RdS.isSlice ⟨_, S2_0_text⟩
  obtain ⟨a2_0_list, c2_0_list, rfl⟩ := RdS.isSlice ⟨_, S2_0_list⟩
  obtain ⟨a2_0_seen, c2_0_seen, rfl⟩ := RdS.isSlice ⟨_, S2_0_seen⟩
  have UB2 : ∀ p ∈ (f2_0_text ++ (f2_0_list ++ f2_0_seen)), p.1 < w2.heap.size := Live.lt (Live.append.2 ⟨S2_0_text.live, Live.append.2 ⟨S2_0_list.live, S2_0_seen.live⟩⟩)
  replace FR2 : Fresh (w1.heap.size) w2 (f2_0_text ++ (f2_0_list ++ f2_0_seen)) := FR2.mono (by first | exact Nat.le_refl _ | (simp; done) | (simp; omega))
  have K2 : Kept (f2_0_text ++ (f2_0_list ++ f2_0_seen)) w2 w2 := Kept.refl _ _
  have B2 : Below w1.heap.size w1 w2 := (by repeat' (first | (with_reducible exact Below.refl _ _) | (with_reducible assumption) | (with_reducible refine Below.setCell ?_ ?_ _) | (with_reducible refine Below.alloc ?_ ?_ _) | (with_reducible refine Below.drew ?_) | (with_reducible refine belowN ?_ _) | (with_reducible refine below_after2 ?_ (by assumption) ?_) | omega | (simp; done) | (simp; omega)))
  have s2 : w1.heap.size ≤ w2.heap.size := (by have := hb2.size; (try simp at this); omega)
  replace K1 : Kept f1_t w1 w2 := K1.below B2 (fun p hp => Nat.lt_of_lt_of_le (UB1 p hp) (by omega))
  clear hb2
  go_wp2_with fail
  refine (toIntS_c _ t _ (hr_t.below (by repeat' (first | (with_reducible exact Below.refl _ _) | (with_reducible assumption) | (with_reducible refine Below.setCell ?_ ?_ _) | (with_reducible refine Below.alloc ?_ ?_ _) | (with_reducible refine Below.drew ?_) | (with_reducible refine belowN ?_ _) | (with_reducible refine below_after2 ?_ (by assumption) ?_) | omega | (simp; done) | (simp; omega))))).mono ?_
  rintro e w3 ⟨v3_t, rfl, ⟨f3_t, S3_t, FR3⟩, hb3⟩
  have UB3 : ∀ p ∈ f3_t, p.1 < w3.heap.size := Live.lt (S3_t.live)
  replace FR3 : Fresh (w2.heap.size + 1) w3 f3_t := FR3.mono (by first | exact Nat.le_refl _ | (simp; done) | (simp; omega))
  have K3 : Kept f3_t w3 w3 := Kept.refl _ _
  have hN : Below (w2.heap.size + 1) (w2.alloc (.cells #[.string y0.name, .int .i64 y0.from_, .slice a2_0_text y0.text.length c2_0_text, .slice a2_0_list y0.list.length c2_0_list, .slice a2_0_seen y0.seen.length c2_0_seen] 32)) w3 := (by repeat' (first | (with_reducible exact Below.refl _ _) | (with_reducible assumption) | (with_reducible refine Below.setCell ?_ ?_ _) | (with_reducible refine Below.alloc ?_ ?_ _) | (with_reducible refine Below.drew ?_) | (with_reducible refine belowN ?_ _) | (with_reducible refine below_after2 ?_ (by assumption) ?_) | omega | (simp; done) | (simp; omega)))
  have B3 : Below w2.heap.size w2 w3 := (by repeat' (first | (with_reducible exact Below.refl _ _) | (with_reducible assumption) | (with_reducible refine Below.setCell ?_ ?_ _) | (with_reducible refine Below.alloc ?_ ?_ _) | (with_reducible refine Below.drew ?_) | (with_reducible refine belowN ?_ _) | (with_reducible refine below_after2 ?_ (by assumption) ?_) | omega | (simp; done) | (simp; omega)))
  have s3 : w2.heap.size + 1 ≤ w3.heap.size := (by have := hb3.size; (try simp at this); omega)
  have cW0_0 : w3.cell? ⟨w2.heap.size, 0, none⟩ = some (.string y0.name) := by rw [hN.cell (by simp; try omega)]; simp
  have cW0_1 : w3.cell? ⟨w2.heap.size, 1, none⟩ = some (.int .i64 y0.from_) := by rw [hN.cell (by simp; try omega)]; simp
  have cW0_2 : w3.cell? ⟨w2.heap.size, 2, none⟩ = some (.slice a2_0_text y0.text.length c2_0_text) := by rw [hN.cell (by simp; try omega)]; simp
  have cW0_3 : w3.cell? ⟨w2.heap.size, 3, none⟩ = some (.slice a2_0_list y0.list.length c2_0_list) := by rw [hN.cell (by simp; try omega)]; simp
  have cW0_4 : w3.cell? ⟨w2.heap.size, 4, none⟩ = some (.slice a2_0_seen y0.seen.length c2_0_seen) := by rw [hN.cell (by simp; try omega)]; simp
  clear hN
  replace K2 : Kept (f2_0_text ++ (f2_0_list ++ f2_0_seen)) w2 w3 := K2.below B3 (fun p hp => Nat.lt_of_lt_of_le (UB2 p hp) (by omega))
  have z3_W0 : w2.heap.size < w3.heap.size := (by omega)
  clear hb3
  go_wp2_with fail
  refine (HI.out _ _ ((⟨_, S3_t.kept (K3.below (show Below w3.heap.size w3 _ from (by repeat' (first | (with_reducible exact Below.refl _ _) | (with_reducible assumption) | (with_reducible refine Below.setCell ?_ ?_ _) | (with_reducible refine Below.alloc ?_ ?_ _) | (with_reducible refine Below.drew ?_) | (with_reducible refine belowN ?_ _) | (with_reducible refine below_after2 ?_ (by assumption) ?_) | omega | (simp; done) | (simp; omega)))) (fun p hp => Nat.lt_of_lt_of_le (UB3 p hp) (by omega))) (fun _ h => h)⟩ : RdS _ _ _))).mono ?_
  rintro e w4 ⟨v4_0_text, v4_0_list, v4_0_seen, f4_0_text, f4_0_list, f4_0_seen, rfl, S4_0_text, S4_0_list, S4_0_seen, n4_0_name, FR4, hb4⟩
  obtain ⟨a4_0_text, c4_0_text, rfl⟩ := RdS.isSlice ⟨_, S4_0_text⟩
  obtain ⟨a4_0_list, c4_0_list, rfl⟩ := RdS.isSlice ⟨_, S4_0_list⟩
  obtain ⟨a4_0_seen, c4_0_seen, rfl⟩ := RdS.isSlice ⟨_, S4_0_seen⟩
  have UB4 : ∀ p ∈ (f4_0_text ++ (f4_0_list ++ f4_0_seen)), p.1 < w4.heap.size := Live.lt (Live.append.2 ⟨S4_0_text.live, Live.append.2 ⟨S4_0_list.live, S4_0_seen.live⟩⟩)
  replace FR4 : Fresh (w3.heap.size) w4 (f4_0_text ++ (f4_0_list ++ f4_0_seen)) := FR4.mono (by first | exact Nat.le_refl _ | (simp; done) | (simp; omega))
  have K4 : Kept (f4_0_text ++ (f4_0_list ++ f4_0_seen)) w4 w4 := Kept.refl _ _
  have B4 : Below w3.heap.size w3 w4 := (by repeat' (first | (with_reducible exact Below.refl _ _) | (with_reducible assumption) | (with_reducible refine Below.setCell ?_ ?_ _) | (with_reducible refine Below.alloc ?_ ?_ _) | (with_reducible refine Below.drew ?_) | (with_reducible refine belowN ?_ _) | (with_reducible refine below_after2 ?_ (by assumption) ?_) | omega | (simp; done) | (simp; omega)))
  have s4 : w3.heap.size ≤ w4.heap.size := (by have := hb4.size; (try simp at this); omega)
  replace cW0_0 : w4.cell? ⟨w2.heap.size, 0, none⟩ = some (.string y0.name) := cellb B4 cW0_0
  replace cW0_1 : w4.cell? ⟨w2.heap.size, 1, none⟩ = some (.int .i64 y0.from_) := cellb B4 cW0_1
  replace cW0_2 : w4.cell? ⟨w2.heap.size, 2, none⟩ = some (.slice a2_0_text y0.text.length c2_0_text) := cellb B4 cW0_2
  replace cW0_3 : w4.cell? ⟨w2.heap.size, 3, none⟩ = some (.slice a2_0_list y0.list.length c2_0_list) := cellb B4 cW0_3
  replace cW0_4 : w4.cell? ⟨w2.heap.size, 4, none⟩ = some (.slice a2_0_seen y0.seen.length c2_0_seen) := cellb B4 cW0_4
  replace K2 : Kept (f2_0_text ++ (f2_0_list ++ f2_0_seen)) w2 w4 := K2.below B4 (fun p hp => Nat.lt_of_lt_of_le (UB2 p hp) (by omega))
  replace K3 : Kept f3_t w3 w4 := K3.below B4 (fun p hp => Nat.lt_of_lt_of_le (UB3 p hp) (by omega))
  have z4_W0 : w2.heap.size < w4.heap.size := (by omega)
  clear hb4
  go_wp2_with fail
  refine (eqDoc_c y0 _ _ _ _ _ _ _ ((⟨_, S4_0_text.kept (K4.below (show Below w4.heap.size w4 _ from (by repeat' (first | (with_reducible exact Below.refl _ _) | (with_reducible assumption) | (with_reducible refine Below.setCell ?_ ?_ _) | (with_reducible refine Below.alloc ?_ ?_ _) | (with_reducible refine Below.drew ?_) | (with_reducible refine belowN ?_ _) | (with_reducible refine below_after2 ?_ (by assumption) ?_) | omega | (simp; done) | (simp; omega)))) (fun p hp => Nat.lt_of_lt_of_le (UB4 p hp) (by omega))) (by intro p hp; simp only [List.mem_append]; simp [hp])⟩ : RdS _ _ _)) ((⟨_, S2_0_text.kept (K2.below (show Below w4.heap.size w4 _ from (by repeat' (first | (with_reducible exact Below.refl _ _) | (with_reducible assumption) | (with_reducible refine Below.setCell ?_ ?_ _) | (with_reducible refine Below.alloc ?_ ?_ _) | (with_reducible refine Below.drew ?_) | (with_reducible refine belowN ?_ _) | (with_reducible refine below_after2 ?_ (by assumption) ?_) | omega | (simp; done) | (simp; omega)))) (fun p hp => Nat.lt_of_lt_of_le (UB2 p hp) (by omega))) (by intro p hp; simp only [List.mem_append]; simp [hp])⟩ : RdS _ _ _)) ((⟨_, S4_0_list.kept (K4.below (show Below w4.heap.size w4 _ from (by repeat' (first | (with_reducible exact Below.refl _ _) | (with_reducible assumption) | (with_reducible refine Below.setCell ?_ ?_ _) | (with_reducible refine Below.alloc ?_ ?_ _) | (with_reducible refine Below.drew ?_) | (with_reducible refine belowN ?_ _) | (with_reducible refine below_after2 ?_ (by assumption) ?_) | omega | (simp; done) | (simp; omega)))) (fun p hp => Nat.lt_of_lt_of_le (UB4 p hp) (by omega))) (by intro p hp; simp only [List.mem_append]; simp [hp])⟩ : RdS _ _ _)) ((⟨_, S2_0_list.kept (K2.below (show Below w4.heap.size w4 _ from (by repeat' (first | (with_reducible exact Below.refl _ _) | (with_reducible assumption) | (with_reducible refine Below.setCell ?_ ?_ _) | (with_reducible refine Below.alloc ?_ ?_ _) | (with_reducible refine Below.drew ?_) | (with_reducible refine belowN ?_ _) | (with_reducible refine below_after2 ?_ (by assumption) ?_) | omega | (simp; done) | (simp; omega)))) (fun p hp => Nat.lt_of_lt_of_le (UB2 p hp) (by omega))) (by intro p hp; simp only [List.mem_append]; simp [hp])⟩ : RdS _ _ _)) ((⟨_, S4_0_seen.kept (K4.below (show Below w4.heap.size w4 _ from (by repeat' (first | (with_reducible exact Below.refl _ _) | (with_reducible assumption) | (with_reducible refine Below.setCell ?_ ?_ _) | (with_reducible refine Below.alloc ?_ ?_ _) | (with_reducible refine Below.drew ?_) | (with_reducible refine belowN ?_ _) | (with_reducible refine below_after2 ?_ (by assumption) ?_) | omega | (simp; done) | (simp; omega)))) (fun p hp => Nat.lt_of_lt_of_le (UB4 p hp) (by omega))) (by intro p hp; simp only [List.mem_append]; simp [hp])⟩ : RdS _ _ _)) ((⟨_, S2_0_seen.kept (K2.below (show Below w4.heap.size w4 _ from (by repeat' (first | (with_reducible exact Below.refl _ _) | (with_reducible assumption) | (with_reducible refine Below.setCell ?_ ?_ _) | (with_reducible refine Below.alloc ?_ ?_ _) | (with_reducible refine Below.drew ?_) | (with_reducible refine belowN ?_ _) | (with_reducible refine below_after2 ?_ (by assumption) ?_) | omega | (simp; done) | (simp; omega)))) (fun p hp => Nat.lt_of_lt_of_le (UB2 p hp) (by omega))) (by intro p hp; simp only [List.mem_append]; simp [hp])⟩ : RdS _ _ _))).mono ?_
  rintro e w5 ⟨rfl, hb5⟩
  have hN : Below (w4.heap.size + 1) (w4.alloc (.cells #[.string y0.name, .int .i64 y0.from_, .slice a4_0_text y0.text.length c4_0_text, .slice a4_0_list y0.list.length c4_0_list, .slice a4_0_seen y0.seen.length c4_0_seen] 32)) w5 := (by repeat' (first | (with_reducible exact Below.refl _ _) | (with_reducible assumption) | (with_reducible refine Below.setCell ?_ ?_ _) | (with_reducible refine Below.alloc ?_ ?_ _) | (with_reducible refine Below.drew ?_) | (with_reducible refine belowN ?_ _) | (with_reducible refine below_after2 ?_ (by assumption) ?_) | omega | (simp; done) | (simp; omega)))
  have B5 : Below w4.heap.size w4 w5 := (by repeat' (first | (with_reducible exact Below.refl _ _) | (with_reducible assumption) | (with_reducible refine Below.setCell ?_ ?_ _) | (with_reducible refine Below.alloc ?_ ?_ _) | (with_reducible refine Below.drew ?_) | (with_reducible refine belowN ?_ _) | (with_reducible refine below_after2 ?_ (by assumption) ?_) | omega | (simp; done) | (simp; omega)))
  have s5 : w4.heap.size + 1 ≤ w5.heap.size := (by have := hb5.size; (try simp at this); omega)
  replace cW0_0 : w5.cell? ⟨w2.heap.size, 0, none⟩ = some (.string y0.name) := cellb B5 cW0_0
  replace cW0_1 : w5.cell? ⟨w2.heap.size, 1, none⟩ = some (.int .i64 y0.from_) := cellb B5 cW0_1
  replace cW0_2 : w5.cell? ⟨w2.heap.size, 2, none⟩ = some (.slice a2_0_text y0.text.length c2_0_text) := cellb B5 cW0_2
  replace cW0_3 : w5.cell? ⟨w2.heap.size, 3, none⟩ = some (.slice a2_0_list y0.list.length c2_0_list) := cellb B5 cW0_3
  replace cW0_4 : w5.cell? ⟨w2.heap.size, 4, none⟩ = some (.slice a2_0_seen y0.seen.length c2_0_seen) := cellb B5 cW0_4
  have cG0_0 : w5.cell? ⟨w4.heap.size, 0, none⟩ = some (.string y0.name) := by rw [hN.cell (by simp; try omega)]; simp
  have cG0_1 : w5.cell? ⟨w4.heap.size, 1, none⟩ = some (.int .i64 y0.from_) := by rw [hN.cell (by simp; try omega)]; simp
  have cG0_2 : w5.cell? ⟨w4.heap.size, 2, none⟩ = some (.slice a4_0_text y0.text.length c4_0_text) := by rw [hN.cell (by simp; try omega)]; simp
  have cG0_3 : w5.cell? ⟨w4.heap.size, 3, none⟩ = some (.slice a4_0_list y0.list.length c4_0_list) := by rw [hN.cell (by simp; try omega)]; simp
  have cG0_4 : w5.cell? ⟨w4.heap.size, 4, none⟩ = some (.slice a4_0_seen y0.seen.length c4_0_seen) := by rw [hN.cell (by simp; try omega)]; simp
  clear hN
  replace K2 : Kept (f2_0_text ++ (f2_0_list ++ f2_0_seen)) w2 w5 := K2.below B5 (fun p hp => Nat.lt_of_lt_of_le (UB2 p hp) (by omega))
  replace K3 : Kept f3_t w3 w5 := K3.below B5 (fun p hp => Nat.lt_of_lt_of_le (UB3 p hp) (by omega))
  replace K4 : Kept (f4_0_text ++ (f4_0_list ++ f4_0_seen)) w4 w5 := K4.below B5 (fun p hp => Nat.lt_of_lt_of_le (UB4 p hp) (by omega))
  have z5_W0 : w2.heap.size < w5.heap.size := (by omega)
  have z5_G0 : w4.heap.size < w5.heap.size := (by omega)
  clear hb5
  go_wp2_with fail
  refine (toIntS_c _ t _ (hr_t.below (by repeat' (first | (with_reducible exact Below.refl _ _) | (with_reducible assumption) | (with_reducible refine Below.setCell ?_ ?_ _) | (with_reducible refine Below.alloc ?_ ?_ _) | (with_reducible refine Below.drew ?_) | (with_reducible refine belowN ?_ _) | (with_reducible refine below_after2 ?_ (by assumption) ?_) | omega | (simp; done) | (simp; omega))))).mono ?_
  rintro e w6 ⟨v6_t, rfl, ⟨f6_t, S6_t, FR6⟩, hb6⟩
  have UB6 : ∀ p ∈ f6_t, p.1 < w6.heap.size := Live.lt (S6_t.live)
  replace FR6 : Fresh (w5.heap.size) w6 f6_t := FR6.mono (by first | exact Nat.le_refl _ | (simp; done) | (simp; omega))
  have K6 : Kept f6_t w6 w6 := Kept.refl _ _
  have B6 : Below w5.heap.size w5 w6 := (by repeat' (first | (with_reducible exact Below.refl _ _) | (with_reducible assumption) | (with_reducible refine Below.setCell ?_ ?_ _) | (with_reducible refine Below.alloc ?_ ?_ _) | (with_reducible refine Below.drew ?_) | (with_reducible refine belowN ?_ _) | (with_reducible refine below_after2 ?_ (by assumption) ?_) | omega | (simp; done) | (simp; omega)))
  have s6 : w5.heap.size ≤ w6.heap.size := (by have := hb6.size; (try simp at this); omega)
  replace cW0_0 : w6.cell? ⟨w2.heap.size, 0, none⟩ = some (.string y0.name) := cellb B6 cW0_0
  replace cW0_1 : w6.cell? ⟨w2.heap.size, 1, none⟩ = some (.int .i64 y0.from_) := cellb B6 cW0_1
  replace cW0_2 : w6.cell? ⟨w2.heap.size, 2, none⟩ = some (.slice a2_0_text y0.text.length c2_0_text) := cellb B6 cW0_2
  replace cW0_3 : w6.cell? ⟨w2.heap.size, 3, none⟩ = some (.slice a2_0_list y0.list.length c2_0_list) := cellb B6 cW0_3
  replace cW0_4 : w6.cell? ⟨w2.heap.size, 4, none⟩ = some (.slice a2_0_seen y0.seen.length c2_0_seen) := cellb B6 cW0_4
  replace cG0_0 : w6.cell? ⟨w4.heap.size, 0, none⟩ = some (.string y0.name) := cellb B6 cG0_0
  replace cG0_1 : w6.cell? ⟨w4.heap.size, 1, none⟩ = some (.int .i64 y0.from_) := cellb B6 cG0_1
  replace cG0_2 : w6.cell? ⟨w4.heap.size, 2, none⟩ = some (.slice a4_0_text y0.text.length c4_0_text) := cellb B6 cG0_2
  replace cG0_3 : w6.cell? ⟨w4.heap.size, 3, none⟩ = some (.slice a4_0_list y0.list.length c4_0_list) := cellb B6 cG0_3
  replace cG0_4 : w6.cell? ⟨w4.heap.size, 4, none⟩ = some (.slice a4_0_seen y0.seen.length c4_0_seen) := cellb B6 cG0_4
  replace K2 : Kept (f2_0_text ++ (f2_0_list ++ f2_0_seen)) w2 w6 := K2.below B6 (fun p hp => Nat.lt_of_lt_of_le (UB2 p hp) (by omega))
  replace K3 : Kept f3_t w3 w6 := K3.below B6 (fun p hp => Nat.lt_of_lt_of_le (UB3 p hp) (by omega))
  replace K4 : Kept (f4_0_text ++ (f4_0_list ++ f4_0_seen)) w4 w6 := K4.below B6 (fun p hp => Nat.lt_of_lt_of_le (UB4 p hp) (by omega))
  have z6_W0 : w2.heap.size < w6.heap.size := (by omega)
  have z6_G0 : w4.heap.size < w6.heap.size := (by omega)
  clear hb6
  go_wp2_with fail
  refine (eqIntS_c _ _ t _ ((⟨_, S3_t.kept (K3.below (show Below w6.heap.size w6 _ from (by repeat' (first | (with_reducible exact Below.refl _ _) | (with_reducible assumption) | (with_reducible refine Below.setCell ?_ ?_ _) | (with_reducible refine Below.alloc ?_ ?_ _) | (with_reducible refine Below.drew ?_) | (with_reducible refine belowN ?_ _) | (with_reducible refine below_after2 ?_ (by assumption) ?_) | omega | (simp; done) | (simp; omega)))) (fun p hp => Nat.lt_of_lt_of_le (UB3 p hp) (by omega))) (fun _ h => h)⟩ : RdS _ _ _)) ((⟨_, S6_t.kept (K6.below (show Below w6.heap.size w6 _ from (by repeat' (first | (with_reducible exact Below.refl _ _) | (with_reducible assumption) | (with_reducible refine Below.setCell ?_ ?_ _) | (with_reducible refine Below.alloc ?_ ?_ _) | (with_reducible refine Below.drew ?_) | (with_reducible refine belowN ?_ _) | (with_reducible refine below_after2 ?_ (by assumption) ?_) | omega | (simp; done) | (simp; omega)))) (fun p hp => Nat.lt_of_lt_of_le (UB6 p hp) (by omega))) (fun _ h => h)⟩ : RdS _ _ _))).mono ?_
  rintro e w7 ⟨rfl, hb7⟩
  have B7 : Below w6.heap.size w6 w7 := (by repeat' (first | (with_reducible exact Below.refl _ _) | (with_reducible assumption) | (with_reducible refine Below.setCell ?_ ?_ _) | (with_reducible refine Below.alloc ?_ ?_ _) | (with_reducible refine Below.drew ?_) | (with_reducible refine belowN ?_ _) | (with_reducible refine below_after2 ?_ (by assumption) ?_) | omega | (simp; done) | (simp; omega)))
  have s7 : w6.heap.size ≤ w7.heap.size := (by have := hb7.size; (try simp at this); omega)
  replace cW0_0 : w7.cell? ⟨w2.heap.size, 0, none⟩ = some (.string y0.name) := cellb B7 cW0_0
  replace cW0_1 : w7.cell? ⟨w2.heap.size, 1, none⟩ = some (.int .i64 y0.from_) := cellb B7 cW0_1
  replace cW0_2 : w7.cell? ⟨w2.heap.size, 2, none⟩ = some (.slice a2_0_text y0.text.length c2_0_text) := cellb B7 cW0_2
  replace cW0_3 : w7.cell? ⟨w2.heap.size, 3, none⟩ = some (.slice a2_0_list y0.list.length c2_0_list) := cellb B7 cW0_3
  replace cW0_4 : w7.cell? ⟨w2.heap.size, 4, none⟩ = some (.slice a2_0_seen y0.seen.length c2_0_seen) := cellb B7 cW0_4
  replace cG0_0 : w7.cell? ⟨w4.heap.size, 0, none⟩ = some (.string y0.name) := cellb B7 cG0_0
  replace cG0_1 : w7.cell? ⟨w4.heap.size, 1, none⟩ = some (.int .i64 y0.from_) := cellb B7 cG0_1
  replace cG0_2 : w7.cell? ⟨w4.heap.size, 2, none⟩ = some (.slice a4_0_text y0.text.length c4_0_text) := cellb B7 cG0_2
  replace cG0_3 : w7.cell? ⟨w4.heap.size, 3, none⟩ = some (.slice a4_0_list y0.list.length c4_0_list) := cellb B7 cG0_3
  replace cG0_4 : w7.cell? ⟨w4.heap.size, 4, none⟩ = some (.slice a4_0_seen y0.seen.length c4_0_seen) := cellb B7 cG0_4
  replace K2 : Kept (f2_0_text ++ (f2_0_list ++ f2_0_seen)) w2 w7 := K2.below B7 (fun p hp => Nat.lt_of_lt_of_le (UB2 p hp) (by omega))
  replace K3 : Kept f3_t w3 w7 := K3.below B7 (fun p hp => Nat.lt_of_lt_of_le (UB3 p hp) (by omega))
  replace K4 : Kept (f4_0_text ++ (f4_0_list ++ f4_0_seen)) w4 w7 := K4.below B7 (fun p hp => Nat.lt_of_lt_of_le (UB4 p hp) (by omega))
  replace K6 : Kept f6_t w6 w7 := K6.below B7 (fun p hp => Nat.lt_of_lt_of_le (UB6 p hp) (by omega))
  have z7_W0 : w2.heap.size < w7.heap.size := (by omega)
  have z7_G0 : w4.heap.size < w7.heap.size := (by omega)
  clear hb7
  replace S3_t := S3_t.kept K3 (fun _ h => h)
  replace FR3 := FR3.kept K3 (fun _ h => h)
  clear K3
  go_wp2_with fail
  refine (markIntS_c (w2.heap.size + 1) _ _ f3_t _ 1 (by omega) (by omega) (S3_t.belowW (by repeat' (first | (with_reducible exact Below.refl _ _) | (with_reducible assumption) | (with_reducible refine Below.setCell ?_ ?_ _) | (with_reducible refine Below.alloc ?_ ?_ _) | (with_reducible refine Below.drew ?_) | (with_reducible refine belowN ?_ _) | (with_reducible refine below_after2 ?_ (by assumption) ?_) | omega | (simp; done) | (simp; omega)))) (FR3.belowL (by repeat' (first | (with_reducible exact Below.refl _ _) | (with_reducible assumption) | (with_reducible refine Below.setCell ?_ ?_ _) | (with_reducible refine Below.alloc ?_ ?_ _) | (with_reducible refine Below.drew ?_) | (with_reducible refine belowN ?_ _) | (with_reducible refine below_after2 ?_ (by assumption) ?_) | omega | (simp; done) | (simp; omega))) (fun p hp => Nat.lt_of_lt_of_le (UB3 p hp) (by omega)))).mono ?_
  rintro e w8 ⟨he, T8_t, hw8⟩
  have s8 : w7.heap.size ≤ w8.heap.size := wrs hw8 (by repeat' (first | (with_reducible exact Below.refl _ _) | (with_reducible assumption) | (with_reducible refine Below.setCell ?_ ?_ _) | (with_reducible refine Below.alloc ?_ ?_ _) | (with_reducible refine Below.drew ?_) | (with_reducible refine belowN ?_ _) | (with_reducible refine below_after2 ?_ (by assumption) ?_) | omega | (simp; done) | (simp; omega)))
  replace cW0_0 : w8.cell? ⟨w2.heap.size, 0, none⟩ = some (.string y0.name) := cellw (by repeat' (first | (with_reducible exact Below.refl _ _) | (with_reducible assumption) | (with_reducible refine Below.setCell ?_ ?_ _) | (with_reducible refine Below.alloc ?_ ?_ _) | (with_reducible refine Below.drew ?_) | (with_reducible refine belowN ?_ _) | (with_reducible refine below_after2 ?_ (by assumption) ?_) | omega | (simp; done) | (simp; omega))) hw8 cW0_0 (fun hp => by have q1 := FR3.ge _ hp; have q2 := UB3 _ hp; simp only at q1 q2; omega)
  replace cW0_1 : w8.cell? ⟨w2.heap.size, 1, none⟩ = some (.int .i64 y0.from_) := cellw (by repeat' (first | (with_reducible exact Below.refl _ _) | (with_reducible assumption) | (with_reducible refine Below.setCell ?_ ?_ _) | (with_reducible refine Below.alloc ?_ ?_ _) | (with_reducible refine Below.drew ?_) | (with_reducible refine belowN ?_ _) | (with_reducible refine below_after2 ?_ (by assumption) ?_) | omega | (simp; done) | (simp; omega))) hw8 cW0_1 (fun hp => by have q1 := FR3.ge _ hp; have q2 := UB3 _ hp; simp only at q1 q2; omega)
  replace cW0_2 : w8.cell? ⟨w2.heap.size, 2, none⟩ = some (.slice a2_0_text y0.text.length c2_0_text) := cellw (by repeat' (first | (with_reducible exact Below.refl _ _) | (with_reducible assumption) | (with_reducible refine Below.setCell ?_ ?_ _) | (with_reducible refine Below.alloc ?_ ?_ _) | (with_reducible refine Below.drew ?_) | (with_reducible refine belowN ?_ _) | (with_reducible refine below_after2 ?_ (by assumption) ?_) | omega | (simp; done) | (simp; omega))) hw8 cW0_2 (fun hp => by have q1 := FR3.ge _ hp; have q2 := UB3 _ hp; simp only at q1 q2; omega)
  replace cW0_3 : w8.cell? ⟨w2.heap.size, 3, none⟩ = some (.slice a2_0_list y0.list.length c2_0_list) := cellw (by repeat' (first | (with_reducible exact Below.refl _ _) | (with_reducible assumption) | (with_reducible refine Below.setCell ?_ ?_ _) | (with_reducible refine Below.alloc ?_ ?_ _) | (with_reducible refine Below.drew ?_) | (with_reducible refine belowN ?_ _) | (with_reducible refine below_after2 ?_ (by assumption) ?_) | omega | (simp; done) | (simp; omega))) hw8 cW0_3 (fun hp => by have q1 := FR3.ge _ hp; have q2 := UB3 _ hp; simp only at q1 q2; omega)
  replace cW0_4 : w8.cell? ⟨w2.heap.size, 4, none⟩ = some (.slice a2_0_seen y0.seen.length c2_0_seen) := cellw (by repeat' (first | (with_reducible exact Below.refl _ _) | (with_reducible assumption) | (with_reducible refine Below.setCell ?_ ?_ _) | (with_reducible refine Below.alloc ?_ ?_ _) | (with_reducible refine Below.drew ?_) | (with_reducible refine belowN ?_ _) | (with_reducible refine below_after2 ?_ (by assumption) ?_) | omega | (simp; done) | (simp; omega))) hw8 cW0_4 (fun hp => by have q1 := FR3.ge _ hp; have q2 := UB3 _ hp; simp only at q1 q2; omega)
  replace cG0_0 : w8.cell? ⟨w4.heap.size, 0, none⟩ = some (.string y0.name) := cellw (by repeat' (first | (with_reducible exact Below.refl _ _) | (with_reducible assumption) | (with_reducible refine Below.setCell ?_ ?_ _) | (with_reducible refine Below.alloc ?_ ?_ _) | (with_reducible refine Below.drew ?_) | (with_reducible refine belowN ?_ _) | (with_reducible refine below_after2 ?_ (by assumption) ?_) | omega | (simp; done) | (simp; omega))) hw8 cG0_0 (fun hp => by have q1 := FR3.ge _ hp; have q2 := UB3 _ hp; simp only at q1 q2; omega)
  replace cG0_1 : w8.cell? ⟨w4.heap.size, 1, none⟩ = some (.int .i64 y0.from_) := cellw (by repeat' (first | (with_reducible exact Below.refl _ _) | (with_reducible assumption) | (with_reducible refine Below.setCell ?_ ?_ _) | (with_reducible refine Below.alloc ?_ ?_ _) | (with_reducible refine Below.drew ?_) | (with_reducible refine belowN ?_ _) | (with_reducible refine below_after2 ?_ (by assumption) ?_) | omega | (simp; done) | (simp; omega))) hw8 cG0_1 (fun hp => by have q1 := FR3.ge _ hp; have q2 := UB3 _ hp; simp only at q1 q2; omega)
  replace cG0_2 : w8.cell? ⟨w4.heap.size, 2, none⟩ = some (.slice a4_0_text y0.text.length c4_0_text) := cellw (by repeat' (first | (with_reducible exact Below.refl _ _) | (with_reducible assumption) | (with_reducible refine Below.setCell ?_ ?_ _) | (with_reducible refine Below.alloc ?_ ?_ _) | (with_reducible refine Below.drew ?_) | (with_reducible refine belowN ?_ _) | (with_reducible refine below_after2 ?_ (by assumption) ?_) | omega | (simp; done) | (simp; omega))) hw8 cG0_2 (fun hp => by have q1 := FR3.ge _ hp; have q2 := UB3 _ hp; simp only at q1 q2; omega)
  replace cG0_3 : w8.cell? ⟨w4.heap.size, 3, none⟩ = some (.slice a4_0_list y0.list.length c4_0_list) := cellw (by repeat' (first | (with_reducible exact Below.refl _ _) | (with_reducible assumption) | (with_reducible refine Below.setCell ?_ ?_ _) | (with_reducible refine Below.alloc ?_ ?_ _) | (with_reducible refine Below.drew ?_) | (with_reducible refine belowN ?_ _) | (with_reducible refine below_after2 ?_ (by assumption) ?_) | omega | (simp; done) | (simp; omega))) hw8 cG0_3 (fun hp => by have q1 := FR3.ge _ hp; have q2 := UB3 _ hp; simp only at q1 q2; omega)
  replace cG0_4 : w8.cell? ⟨w4.heap.size, 4, none⟩ = some (.slice a4_0_seen y0.seen.length c4_0_seen) := cellw (by repeat' (first | (with_reducible exact Below.refl _ _) | (with_reducible assumption) | (with_reducible refine Below.setCell ?_ ?_ _) | (with_reducible refine Below.alloc ?_ ?_ _) | (with_reducible refine Below.drew ?_) | (with_reducible refine belowN ?_ _) | (with_reducible refine below_after2 ?_ (by assumption) ?_) | omega | (simp; done) | (simp; omega))) hw8 cG0_4 (fun hp => by have q1 := FR3.ge _ hp; have q2 := UB3 _ hp; simp only at q1 q2; omega)
  replace K2 : Kept (f2_0_text ++ (f2_0_list ++ f2_0_seen)) w2 w8 := K2.wr2 (by repeat' (first | (with_reducible exact Below.refl _ _) | (with_reducible assumption) | (with_reducible refine Below.setCell ?_ ?_ _) | (with_reducible refine Below.alloc ?_ ?_ _) | (with_reducible refine Below.drew ?_) | (with_reducible refine belowN ?_ _) | (with_reducible refine below_after2 ?_ (by assumption) ?_) | omega | (simp; done) | (simp; omega))) hw8 (fun p hp => Nat.lt_of_lt_of_le (UB2 p hp) (by omega)) (fun q hq hp => by have q1 := FR3.ge q hp; have q2 := UB3 q hp; first | (have q3 := UB2 q hq; omega) | (have q3 := FR2.ge q hq; omega))
  replace K4 : Kept (f4_0_text ++ (f4_0_list ++ f4_0_seen)) w4 w8 := K4.wr2 (by repeat' (first | (with_reducible exact Below.refl _ _) | (with_reducible assumption) | (with_reducible refine Below.setCell ?_ ?_ _) | (with_reducible refine Below.alloc ?_ ?_ _) | (with_reducible refine Below.drew ?_) | (with_reducible refine belowN ?_ _) | (with_reducible refine below_after2 ?_ (by assumption) ?_) | omega | (simp; done) | (simp; omega))) hw8 (fun p hp => Nat.lt_of_lt_of_le (UB4 p hp) (by omega)) (fun q hq hp => by have q1 := FR3.ge q hp; have q2 := UB3 q hp; first | (have q3 := UB4 q hq; omega) | (have q3 := FR4.ge q hq; omega))
  have B8 : Below (w2.heap.size + 1) w7 w8 := wrb hw8 (by repeat' (first | (with_reducible exact Below.refl _ _) | (with_reducible assumption) | (with_reducible refine Below.setCell ?_ ?_ _) | (with_reducible refine Below.alloc ?_ ?_ _) | (with_reducible refine Below.drew ?_) | (with_reducible refine belowN ?_ _) | (with_reducible refine below_after2 ?_ (by assumption) ?_) | omega | (simp; done) | (simp; omega))) (by omega) (fun p hp => FR3.ge p hp)
  replace FR3 : Fresh (w2.heap.size + 1) w8 f3_t := FR3.wr2 (by repeat' (first | (with_reducible exact Below.refl _ _) | (with_reducible assumption) | (with_reducible refine Below.setCell ?_ ?_ _) | (with_reducible refine Below.alloc ?_ ?_ _) | (with_reducible refine Below.drew ?_) | (with_reducible refine belowN ?_ _) | (with_reducible refine below_after2 ?_ (by assumption) ?_) | omega | (simp; done) | (simp; omega))) hw8 (fun p hp => Nat.lt_of_lt_of_le (UB3 p hp) (by omega))
  replace S3_t := T8_t
  have K3 : Kept f3_t w8 w8 := Kept.refl _ _
  have z8_W0 : w2.heap.size < w8.heap.size := (by omega)
  have z8_G0 : w4.heap.size < w8.heap.size := (by omega)
  obtain ⟨k1, hk1, hp1⟩ : ∃ k : Int, k = 1 + ((cntL t : Nat) : Int) ∧ 1 ≤ k := ⟨_, rfl, by omega⟩
  obtain rfl : e = .returned (.int .i64 k1) := he.trans (by rw [hk1])
  have hq1 : k1 ≤ 1 + 5242880 := by omega
  clear he hk1
  have hkn : decide (k1 < 0) = false := by simp; omega
  have hkm : ¬ k1 < 0 := by omega
  go_wp2_with fail
  refine (eqDoc_c y0 _ _ _ _ _ _ _ ((⟨_, S4_0_text.kept (K4.below (show Below w8.heap.size w8 _ from (by repeat' (first | (with_reducible exact Below.refl _ _) | (with_reducible assumption) | (with_reducible refine Below.setCell ?_ ?_ _) | (with_reducible refine Below.alloc ?_ ?_ _) | (with_reducible refine Below.drew ?_) | (with_reducible refine belowN ?_ _) | (with_reducible refine below_after2 ?_ (by assumption) ?_) | omega | (simp; done) | (simp; omega)))) (fun p hp => Nat.lt_of_lt_of_le (UB4 p hp) (by omega))) (by intro p hp; simp only [List.mem_append]; simp [hp])⟩ : RdS _ _ _)) ((⟨_, S2_0_text.kept (K2.below (show Below w8.heap.size w8 _ from (by repeat' (first | (with_reducible exact Below.refl _ _) | (with_reducible assumption) | (with_reducible refine Below.setCell ?_ ?_ _) | (with_reducible refine Below.alloc ?_ ?_ _) | (with_reducible refine Below.drew ?_) | (with_reducible refine belowN ?_ _) | (with_reducible refine below_after2 ?_ (by assumption) ?_) | omega | (simp; done) | (simp; omega)))) (fun p hp => Nat.lt_of_lt_of_le (UB2 p hp) (by omega))) (by intro p hp; simp only [List.mem_append]; simp [hp])⟩ : RdS _ _ _)) ((⟨_, S4_0_list.kept (K4.below (show Below w8.heap.size w8 _ from (by repeat' (first | (with_reducible exact Below.refl _ _) | (with_reducible assumption) | (with_reducible refine Below.setCell ?_ ?_ _) | (with_reducible refine Below.alloc ?_ ?_ _) | (with_reducible refine Below.drew ?_) | (with_reducible refine belowN ?_ _) | (with_reducible refine below_after2 ?_ (by assumption) ?_) | omega | (simp; done) | (simp; omega)))) (fun p hp => Nat.lt_of_lt_of_le (UB4 p hp) (by omega))) (by intro p hp; simp only [List.mem_append]; simp [hp])⟩ : RdS _ _ _)) ((⟨_, S2_0_list.kept (K2.below (show Below w8.heap.size w8 _ from (by repeat' (first | (with_reducible exact Below.refl _ _) | (with_reducible assumption) | (with_reducible refine Below.setCell ?_ ?_ _) | (with_reducible refine Below.alloc ?_ ?_ _) | (with_reducible refine Below.drew ?_) | (with_reducible refine belowN ?_ _) | (with_reducible refine below_after2 ?_ (by assumption) ?_) | omega | (simp; done) | (simp; omega)))) (fun p hp => Nat.lt_of_lt_of_le (UB2 p hp) (by omega))) (by intro p hp; simp only [List.mem_append]; simp [hp])⟩ : RdS _ _ _)) ((⟨_, S4_0_seen.kept (K4.below (show Below w8.heap.size w8 _ from (by repeat' (first | (with_reducible exact Below.refl _ _) | (with_reducible assumption) | (with_reducible refine Below.setCell ?_ ?_ _) | (with_reducible refine Below.alloc ?_ ?_ _) | (with_reducible refine Below.drew ?_) | (with_reducible refine belowN ?_ _) | (with_reducible refine below_after2 ?_ (by assumption) ?_) | omega | (simp; done) | (simp; omega)))) (fun p hp => Nat.lt_of_lt_of_le (UB4 p hp) (by omega))) (by intro p hp; simp only [List.mem_append]; simp [hp])⟩ : RdS _ _ _)) ((⟨_, S2_0_seen.kept (K2.below (show Below w8.heap.size w8 _ from (by repeat' (first | (with_reducible exact Below.refl _ _) | (with_reducible assumption) | (with_reducible refine Below.setCell ?_ ?_ _) | (with_reducible refine Below.alloc ?_ ?_ _) | (with_reducible refine Below.drew ?_) | (with_reducible refine belowN ?_ _) | (with_reducible refine below_after2 ?_ (by assumption) ?_) | omega | (simp; done) | (simp; omega)))) (fun p hp => Nat.lt_of_lt_of_le (UB2 p hp) (by omega))) (by intro p hp; simp only [List.mem_append]; simp [hp])⟩ : RdS _ _ _))).mono ?_
  rintro e w9 ⟨rfl, hb9⟩
  have B9 : Below w8.heap.size w8 w9 := (by repeat' (first | (with_reducible exact Below.refl _ _) | (with_reducible assumption) | (with_reducible refine Below.setCell ?_ ?_ _) | (with_reducible refine Below.alloc ?_ ?_ _) | (with_reducible refine Below.drew ?_) | (with_reducible refine belowN ?_ _) | (with_reducible refine below_after2 ?_ (by assumption) ?_) | omega | (simp; done) | (simp; omega)))
  have s9 : w8.heap.size ≤ w9.heap.size := (by have := hb9.size; (try simp at this); omega)
  replace cW0_0 : w9.cell? ⟨w2.heap.size, 0, none⟩ = some (.string y0.name) := cellb B9 cW0_0
  replace cW0_1 : w9.cell? ⟨w2.heap.size, 1, none⟩ = some (.int .i64 y0.from_) := cellb B9 cW0_1
  replace cW0_2 : w9.cell? ⟨w2.heap.size, 2, none⟩ = some (.slice a2_0_text y0.text.length c2_0_text) := cellb B9 cW0_2
  replace cW0_3 : w9.cell? ⟨w2.heap.size, 3, none⟩ = some (.slice a2_0_list y0.list.length c2_0_list) := cellb B9 cW0_3
  replace cW0_4 : w9.cell? ⟨w2.heap.size, 4, none⟩ = some (.slice a2_0_seen y0.seen.length c2_0_seen) := cellb B9 cW0_4
  replace cG0_0 : w9.cell? ⟨w4.heap.size, 0, none⟩ = some (.string y0.name) := cellb B9 cG0_0
  replace cG0_1 : w9.cell? ⟨w4.heap.size, 1, none⟩ = some (.int .i64 y0.from_) := cellb B9 cG0_1
  replace cG0_2 : w9.cell? ⟨w4.heap.size, 2, none⟩ = some (.slice a4_0_text y0.text.length c4_0_text) := cellb B9 cG0_2
  replace cG0_3 : w9.cell? ⟨w4.heap.size, 3, none⟩ = some (.slice a4_0_list y0.list.length c4_0_list) := cellb B9 cG0_3
  replace cG0_4 : w9.cell? ⟨w4.heap.size, 4, none⟩ = some (.slice a4_0_seen y0.seen.length c4_0_seen) := cellb B9 cG0_4
  replace K2 : Kept (f2_0_text ++ (f2_0_list ++ f2_0_seen)) w2 w9 := K2.below B9 (fun p hp => Nat.lt_of_lt_of_le (UB2 p hp) (by omega))
  replace K4 : Kept (f4_0_text ++ (f4_0_list ++ f4_0_seen)) w4 w9 := K4.below B9 (fun p hp => Nat.lt_of_lt_of_le (UB4 p hp) (by omega))
  have z9_W0 : w2.heap.size < w9.heap.size := (by omega)
  have z9_G0 : w4.heap.size < w9.heap.size := (by omega)
  clear hb9
  replace S4_0_text := S4_0_text.kept K4 (by intro p hp; simp only [List.mem_append]; simp [hp])
  replace S4_0_list := S4_0_list.kept K4 (by intro p hp; simp only [List.mem_append]; simp [hp])
  replace S4_0_seen := S4_0_seen.kept K4 (by intro p hp; simp only [List.mem_append]; simp [hp])
  replace FR4 := FR4.kept K4 (fun _ h => h)
  clear K4
  go_wp2_with fail
  refine (markDoc_c (w3.heap.size) y0.name y0.from_ _ _ _ _ _ _ f4_0_text f4_0_list f4_0_seen _ 1 (by omega) (by omega) (S4_0_text.belowW (by repeat' (first | (with_reducible exact Below.refl _ _) | (with_reducible assumption) | (with_reducible refine Below.setCell ?_ ?_ _) | (with_reducible refine Below.alloc ?_ ?_ _) | (with_reducible refine Below.drew ?_) | (with_reducible refine belowN ?_ _) | (with_reducible refine below_after2 ?_ (by assumption) ?_) | omega | (simp; done) | (simp; omega)))) (S4_0_list.belowW (by repeat' (first | (with_reducible exact Below.refl _ _) | (with_reducible assumption) | (with_reducible refine Below.setCell ?_ ?_ _) | (with_reducible refine Below.alloc ?_ ?_ _) | (with_reducible refine Below.drew ?_) | (with_reducible refine belowN ?_ _) | (with_reducible refine below_after2 ?_ (by assumption) ?_) | omega | (simp; done) | (simp; omega)))) (S4_0_seen.belowW (by repeat' (first | (with_reducible exact Below.refl _ _) | (with_reducible assumption) | (with_reducible refine Below.setCell ?_ ?_ _) | (with_reducible refine Below.alloc ?_ ?_ _) | (with_reducible refine Below.drew ?_) | (with_reducible refine belowN ?_ _) | (with_reducible refine below_after2 ?_ (by assumption) ?_) | omega | (simp; done) | (simp; omega)))) (FR4.belowL (by repeat' (first | (with_reducible exact Below.refl _ _) | (with_reducible assumption) | (with_reducible refine Below.setCell ?_ ?_ _) | (with_reducible refine Below.alloc ?_ ?_ _) | (with_reducible refine Below.drew ?_) | (with_reducible refine belowN ?_ _) | (with_reducible refine below_after2 ?_ (by assumption) ?_) | omega | (simp; done) | (simp; omega))) (fun p hp => Nat.lt_of_lt_of_le (UB4 p hp) (by omega)))).mono ?_
  rintro e w10 ⟨he, T10_0_text, T10_0_list, T10_0_seen, hw10⟩
  have s10 : w9.heap.size ≤ w10.heap.size := wrs hw10 (by repeat' (first | (with_reducible exact Below.refl _ _) | (with_reducible assumption) | (with_reducible refine Below.setCell ?_ ?_ _) | (with_reducible refine Below.alloc ?_ ?_ _) | (with_reducible refine Below.drew ?_) | (with_reducible refine belowN ?_ _) | (with_reducible refine below_after2 ?_ (by assumption) ?_) | omega | (simp; done) | (simp; omega)))
  replace cW0_0 : w10.cell? ⟨w2.heap.size, 0, none⟩ = some (.string y0.name) := cellw (by repeat' (first | (with_reducible exact Below.refl _ _) | (with_reducible assumption) | (with_reducible refine Below.setCell ?_ ?_ _) | (with_reducible refine Below.alloc ?_ ?_ _) | (with_reducible refine Below.drew ?_) | (with_reducible refine belowN ?_ _) | (with_reducible refine below_after2 ?_ (by assumption) ?_) | omega | (simp; done) | (simp; omega))) hw10 cW0_0 (fun hp => by have q1 := FR4.ge _ hp; have q2 := UB4 _ hp; simp only at q1 q2; omega)
  replace cW0_1 : w10.cell? ⟨w2.heap.size, 1, none⟩ = some (.int .i64 y0.from_) := cellw (by repeat' (first | (with_reducible exact Below.refl _ _) | (with_reducible assumption) | (with_reducible refine Below.setCell ?_ ?_ _) | (with_reducible refine Below.alloc ?_ ?_ _) | (with_reducible refine Below.drew ?_) | (with_reducible refine belowN ?_ _) | (with_reducible refine below_after2 ?_ (by assumption) ?_) | omega | (simp; done) | (simp; omega))) hw10 cW0_1 (fun hp => by have q1 := FR4.ge _ hp; have q2 := UB4 _ hp; simp only at q1 q2; omega)
  replace cW0_2 : w10.cell? ⟨w2.heap.size, 2, none⟩ = some (.slice a2_0_text y0.text.length c2_0_text) := cellw (by repeat' (first | (with_reducible exact Below.refl _ _) | (with_reducible assumption) | (with_reducible refine Below.setCell ?_ ?_ _) | (with_reducible refine Below.alloc ?_ ?_ _) | (with_reducible refine Below.drew ?_) | (with_reducible refine belowN ?_ _) | (with_reducible refine below_after2 ?_ (by assumption) ?_) | omega | (simp; done) | (simp; omega))) hw10 cW0_2 (fun hp => by have q1 := FR4.ge _ hp; have q2 := UB4 _ hp; simp only at q1 q2; omega)
  replace cW0_3 : w10.cell? ⟨w2.heap.size, 3, none⟩ = some (.slice a2_0_list y0.list.length c2_0_list) := cellw (by repeat' (first | (with_reducible exact Below.refl _ _) | (with_reducible assumption) | (with_reducible refine Below.setCell ?_ ?_ _) | (with_reducible refine Below.alloc ?_ ?_ _) | (with_reducible refine Below.drew ?_) | (with_reducible refine belowN ?_ _) | (with_reducible refine below_after2 ?_ (by assumption) ?_) | omega | (simp; done) | (simp; omega))) hw10 cW0_3 (fun hp => by have q1 := FR4.ge _ hp; have q2 := UB4 _ hp; simp only at q1 q2; omega)
  replace cW0_4 : w10.cell? ⟨w2.heap.size, 4, none⟩ = some (.slice a2_0_seen y0.seen.length c2_0_seen) := cellw (by repeat' (first | (with_reducible exact Below.refl _ _) | (with_reducible assumption) | (with_reducible refine Below.setCell ?_ ?_ _) | (with_reducible refine Below.alloc ?_ ?_ _) | (with_reducible refine Below.drew ?_) | (with_reducible refine belowN ?_ _) | (with_reducible refine below_after2 ?_ (by assumption) ?_) | omega | (simp; done) | (simp; omega))) hw10 cW0_4 (fun hp => by have q1 := FR4.ge _ hp; have q2 := UB4 _ hp; simp only at q1 q2; omega)
  replace cG0_0 : w10.cell? ⟨w4.heap.size, 0, none⟩ = some (.string y0.name) := cellw (by repeat' (first | (with_reducible exact Below.refl _ _) | (with_reducible assumption) | (with_reducible refine Below.setCell ?_ ?_ _) | (with_reducible refine Below.alloc ?_ ?_ _) | (with_reducible refine Below.drew ?_) | (with_reducible refine belowN ?_ _) | (with_reducible refine below_after2 ?_ (by assumption) ?_) | omega | (simp; done) | (simp; omega))) hw10 cG0_0 (fun hp => by have q1 := FR4.ge _ hp; have q2 := UB4 _ hp; simp only at q1 q2; omega)
  replace cG0_1 : w10.cell? ⟨w4.heap.size, 1, none⟩ = some (.int .i64 y0.from_) := cellw (by repeat' (first | (with_reducible exact Below.refl _ _) | (with_reducible assumption) | (with_reducible refine Below.setCell ?_ ?_ _) | (with_reducible refine Below.alloc ?_ ?_ _) | (with_reducible refine Below.drew ?_) | (with_reducible refine belowN ?_ _) | (with_reducible refine below_after2 ?_ (by assumption) ?_) | omega | (simp; done) | (simp; omega))) hw10 cG0_1 (fun hp => by have q1 := FR4.ge _ hp; have q2 := UB4 _ hp; simp only at q1 q2; omega)
  replace cG0_2 : w10.cell? ⟨w4.heap.size, 2, none⟩ = some (.slice a4_0_text y0.text.length c4_0_text) := cellw (by repeat' (first | (with_reducible exact Below.refl _ _) | (with_reducible assumption) | (with_reducible refine Below.setCell ?_ ?_ _) | (with_reducible refine Below.alloc ?_ ?_ _) | (with_reducible refine Below.drew ?_) | (with_reducible refine belowN ?_ _) | (with_reducible refine below_after2 ?_ (by assumption) ?_) | omega | (simp; done) | (simp; omega))) hw10 cG0_2 (fun hp => by have q1 := FR4.ge _ hp; have q2 := UB4 _ hp; simp only at q1 q2; omega)
  replace cG0_3 : w10.cell? ⟨w4.heap.size, 3, none⟩ = some (.slice a4_0_list y0.list.length c4_0_list) := cellw (by repeat' (first | (with_reducible exact Below.refl _ _) | (with_reducible assumption) | (with_reducible refine Below.setCell ?_ ?_ _) | (with_reducible refine Below.alloc ?_ ?_ _) | (with_reducible refine Below.drew ?_) | (with_reducible refine belowN ?_ _) | (with_reducible refine below_after2 ?_ (by assumption) ?_) | omega | (simp; done) | (simp; omega))) hw10 cG0_3 (fun hp => by have q1 := FR4.ge _ hp; have q2 := UB4 _ hp; simp only at q1 q2; omega)
  replace cG0_4 : w10.cell? ⟨w4.heap.size, 4, none⟩ = some (.slice a4_0_seen y0.seen.length c4_0_seen) := cellw (by repeat' (first | (with_reducible exact Below.refl _ _) | (with_reducible assumption) | (with_reducible refine Below.setCell ?_ ?_ _) | (with_reducible refine Below.alloc ?_ ?_ _) | (with_reducible refine Below.drew ?_) | (with_reducible refine belowN ?_ _) | (with_reducible refine below_after2 ?_ (by assumption) ?_) | omega | (simp; done) | (simp; omega))) hw10 cG0_4 (fun hp => by have q1 := FR4.ge _ hp; have q2 := UB4 _ hp; simp only at q1 q2; omega)
  replace K2 : Kept (f2_0_text ++ (f2_0_list ++ f2_0_seen)) w2 w10 := K2.wr2 (by repeat' (first | (with_reducible exact Below.refl _ _) | (with_reducible assumption) | (with_reducible refine Below.setCell ?_ ?_ _) | (with_reducible refine Below.alloc ?_ ?_ _) | (with_reducible refine Below.drew ?_) | (with_reducible refine belowN ?_ _) | (with_reducible refine below_after2 ?_ (by assumption) ?_) | omega | (simp; done) | (simp; omega))) hw10 (fun p hp => Nat.lt_of_lt_of_le (UB2 p hp) (by omega)) (fun q hq hp => by have q1 := FR4.ge q hp; have q2 := UB4 q hp; first | (have q3 := UB2 q hq; omega) | (have q3 := FR2.ge q hq; omega))
  have B10 : Below (w3.heap.size) w9 w10 := wrb hw10 (by repeat' (first | (with_reducible exact Below.refl _ _) | (with_reducible assumption) | (with_reducible refine Below.setCell ?_ ?_ _) | (with_reducible refine Below.alloc ?_ ?_ _) | (with_reducible refine Below.drew ?_) | (with_reducible refine belowN ?_ _) | (with_reducible refine below_after2 ?_ (by assumption) ?_) | omega | (simp; done) | (simp; omega))) (by omega) (fun p hp => FR4.ge p hp)
  replace FR4 : Fresh (w3.heap.size) w10 (f4_0_text ++ (f4_0_list ++ f4_0_seen)) := FR4.wr2 (by repeat' (first | (with_reducible exact Below.refl _ _) | (with_reducible assumption) | (with_reducible refine Below.setCell ?_ ?_ _) | (with_reducible refine Below.alloc ?_ ?_ _) | (with_reducible refine Below.drew ?_) | (with_reducible refine belowN ?_ _) | (with_reducible refine below_after2 ?_ (by assumption) ?_) | omega | (simp; done) | (simp; omega))) hw10 (fun p hp => Nat.lt_of_lt_of_le (UB4 p hp) (by omega))
  replace S4_0_text := T10_0_text
  replace S4_0_list := T10_0_list
  replace S4_0_seen := T10_0_seen
  have K4 : Kept (f4_0_text ++ (f4_0_list ++ f4_0_seen)) w10 w10 := Kept.refl _ _
  have z10_W0 : w2.heap.size < w10.heap.size := (by omega)
  have z10_G0 : w4.heap.size < w10.heap.size := (by omega)
  obtain ⟨m1, hm1, hn1⟩ : ∃ m : Int, m = 1 + ((cntL y0.text + cntL y0.list + cntL y0.seen : Nat) : Int) ∧ 1 ≤ m := ⟨_, rfl, by omega⟩
  obtain rfl : e = .returned (.int .i64 m1) := he.trans (by rw [hm1])
  have ho1 : m1 ≤ 1 + 1099511627776 := by omega
  have HM1 : Hid (m1 = 1 + ((cntL y0.text + cntL y0.list + cntL y0.seen : Nat) : Int)) := Lib.hid hm1
  clear he hm1
  have hx1 : decide (m1 < 0) = false := by simp; omega
  have hy1 : ¬ m1 < 0 := by omega
  have hz : (m1 != m1) = false := by simp
  go_wp2_with fail
  refine (heldDoc_c y0.name y0.from_ _ _ _ _ _ _ _ 1 (by omega) (by (try simp only [cntL_mkL]); omega) ((⟨_, S4_0_text.kept (K4.below (show Below w10.heap.size w10 _ from (by repeat' (first | (with_reducible exact Below.refl _ _) | (with_reducible assumption) | (with_reducible refine Below.setCell ?_ ?_ _) | (with_reducible refine Below.alloc ?_ ?_ _) | (with_reducible refine Below.drew ?_) | (with_reducible refine belowN ?_ _) | (with_reducible refine below_after2 ?_ (by assumption) ?_) | omega | (simp; done) | (simp; omega)))) (fun p hp => Nat.lt_of_lt_of_le (UB4 p hp) (by omega))) (by intro p hp; simp only [List.mem_append]; simp [hp])⟩ : RdS _ _ _)) ((⟨_, S4_0_list.kept (K4.below (show Below w10.heap.size w10 _ from (by repeat' (first | (with_reducible exact Below.refl _ _) | (with_reducible assumption) | (with_reducible refine Below.setCell ?_ ?_ _) | (with_reducible refine Below.alloc ?_ ?_ _) | (with_reducible refine Below.drew ?_) | (with_reducible refine belowN ?_ _) | (with_reducible refine below_after2 ?_ (by assumption) ?_) | omega | (simp; done) | (simp; omega)))) (fun p hp => Nat.lt_of_lt_of_le (UB4 p hp) (by omega))) (by intro p hp; simp only [List.mem_append]; simp [hp])⟩ : RdS _ _ _)) ((⟨_, S4_0_seen.kept (K4.below (show Below w10.heap.size w10 _ from (by repeat' (first | (with_reducible exact Below.refl _ _) | (with_reducible assumption) | (with_reducible refine Below.setCell ?_ ?_ _) | (with_reducible refine Below.alloc ?_ ?_ _) | (with_reducible refine Below.drew ?_) | (with_reducible refine belowN ?_ _) | (with_reducible refine below_after2 ?_ (by assumption) ?_) | omega | (simp; done) | (simp; omega)))) (fun p hp => Nat.lt_of_lt_of_le (UB4 p hp) (by omega))) (by intro p hp; simp only [List.mem_append]; simp [hp])⟩ : RdS _ _ _)) (by (try simp only [cntL_mkL]); exact mkL_mkL _ _) (by (try simp only [cntL_mkL]); exact mkL_mkL _ _) (by (try simp only [cntL_mkL]); exact mkL_mkL _ _)).mono ?_
  rintro e w11 ⟨he, hb11⟩
  obtain rfl : e = .returned (.int .i64 m1) := he.trans (by (try simp only [cntL_mkL]); rw [HM1.out])
  clear he
  have B11 : Below w10.heap.size w10 w11 := (by repeat' (first | (with_reducible exact Below.refl _ _) | (with_reducible assumption) | (with_reducible refine Below.setCell ?_ ?_ _) | (with_reducible refine Below.alloc ?_ ?_ _) | (with_reducible refine Below.drew ?_) | (with_reducible refine belowN ?_ _) | (with_reducible refine below_after2 ?_ (by assumption) ?_) | omega | (simp; done) | (simp; omega)))
  have s11 : w10.heap.size ≤ w11.heap.size := (by have := hb11.size; (try simp at this); omega)
  replace cW0_0 : w11.cell? ⟨w2.heap.size, 0, none⟩ = some (.string y0.name) := cellb B11 cW0_0
  replace cW0_1 : w11.cell? ⟨w2.heap.size, 1, none⟩ = some (.int .i64 y0.from_) := cellb B11 cW0_1
  replace cW0_2 : w11.cell? ⟨w2.heap.size, 2, none⟩ = some (.slice a2_0_text y0.text.length c2_0_text) := cellb B11 cW0_2
  replace cW0_3 : w11.cell? ⟨w2.heap.size, 3, none⟩ = some (.slice a2_0_list y0.list.length c2_0_list) := cellb B11 cW0_3
  replace cW0_4 : w11.cell? ⟨w2.heap.size, 4, none⟩ = some (.slice a2_0_seen y0.seen.length c2_0_seen) := cellb B11 cW0_4
  replace cG0_0 : w11.cell? ⟨w4.heap.size, 0, none⟩ = some (.string y0.name) := cellb B11 cG0_0
  replace cG0_1 : w11.cell? ⟨w4.heap.size, 1, none⟩ = some (.int .i64 y0.from_) := cellb B11 cG0_1
  replace cG0_2 : w11.cell? ⟨w4.heap.size, 2, none⟩ = some (.slice a4_0_text y0.text.length c4_0_text) := cellb B11 cG0_2
  replace cG0_3 : w11.cell? ⟨w4.heap.size, 3, none⟩ = some (.slice a4_0_list y0.list.length c4_0_list) := cellb B11 cG0_3
  replace cG0_4 : w11.cell? ⟨w4.heap.size, 4, none⟩ = some (.slice a4_0_seen y0.seen.length c4_0_seen) := cellb B11 cG0_4
  replace K2 : Kept (f2_0_text ++ (f2_0_list ++ f2_0_seen)) w2 w11 := K2.below B11 (fun p hp => Nat.lt_of_lt_of_le (UB2 p hp) (by omega))
  replace K4 : Kept (f4_0_text ++ (f4_0_list ++ f4_0_seen)) w10 w11 := K4.below B11 (fun p hp => Nat.lt_of_lt_of_le (UB4 p hp) (by omega))
  have z11_W0 : w2.heap.size < w11.heap.size := (by omega)
  have z11_G0 : w4.heap.size < w11.heap.size := (by omega)
  clear hb11
  go_wp2_with fail
  refine (toIntS_c _ t _ (hr_t.below (by repeat' (first | (with_reducible exact Below.refl _ _) | (with_reducible assumption) | (with_reducible refine Below.setCell ?_ ?_ _) | (with_reducible refine Below.alloc ?_ ?_ _) | (with_reducible refine Below.drew ?_) | (with_reducible refine belowN ?_ _) | (with_reducible refine below_after2 ?_ (by assumption) ?_) | omega | (simp; done) | (simp; omega))))).mono ?_
  rintro e w12 ⟨v12_t, rfl, ⟨f12_t, S12_t, FR12⟩, hb12⟩
  have UB12 : ∀ p ∈ f12_t, p.1 < w12.heap.size := Live.lt (S12_t.live)
  replace FR12 : Fresh (w11.heap.size) w12 f12_t := FR12.mono (by first | exact Nat.le_refl _ | (simp; done) | (simp; omega))
  have K12 : Kept f12_t w12 w12 := Kept.refl _ _
  have B12 : Below w11.heap.size w11 w12 := (by repeat' (first | (with_reducible exact Below.refl _ _) | (with_reducible assumption) | (with_reducible refine Below.setCell ?_ ?_ _) | (with_reducible refine Below.alloc ?_ ?_ _) | (with_reducible refine Below.drew ?_) | (with_reducible refine belowN ?_ _) | (with_reducible refine below_after2 ?_ (by assumption) ?_) | omega | (simp; done) | (simp; omega)))
  have s12 : w11.heap.size ≤ w12.heap.size := (by have := hb12.size; (try simp at this); omega)
  replace cW0_0 : w12.cell? ⟨w2.heap.size, 0, none⟩ = some (.string y0.name) := cellb B12 cW0_0
  replace cW0_1 : w12.cell? ⟨w2.heap.size, 1, none⟩ = some (.int .i64 y0.from_) := cellb B12 cW0_1
  replace cW0_2 : w12.cell? ⟨w2.heap.size, 2, none⟩ = some (.slice a2_0_text y0.text.length c2_0_text) := cellb B12 cW0_2
  replace cW0_3 : w12.cell? ⟨w2.heap.size, 3, none⟩ = some (.slice a2_0_list y0.list.length c2_0_list) := cellb B12 cW0_3
  replace cW0_4 : w12.cell? ⟨w2.heap.size, 4, none⟩ = some (.slice a2_0_seen y0.seen.length c2_0_seen) := cellb B12 cW0_4
  replace cG0_0 : w12.cell? ⟨w4.heap.size, 0, none⟩ = some (.string y0.name) := cellb B12 cG0_0
  replace cG0_1 : w12.cell? ⟨w4.heap.size, 1, none⟩ = some (.int .i64 y0.from_) := cellb B12 cG0_1
  replace cG0_2 : w12.cell? ⟨w4.heap.size, 2, none⟩ = some (.slice a4_0_text y0.text.length c4_0_text) := cellb B12 cG0_2
  replace cG0_3 : w12.cell? ⟨w4.heap.size, 3, none⟩ = some (.slice a4_0_list y0.list.length c4_0_list) := cellb B12 cG0_3
  replace cG0_4 : w12.cell? ⟨w4.heap.size, 4, none⟩ = some (.slice a4_0_seen y0.seen.length c4_0_seen) := cellb B12 cG0_4
  replace K2 : Kept (f2_0_text ++ (f2_0_list ++ f2_0_seen)) w2 w12 := K2.below B12 (fun p hp => Nat.lt_of_lt_of_le (UB2 p hp) (by omega))
  replace K4 : Kept (f4_0_text ++ (f4_0_list ++ f4_0_seen)) w10 w12 := K4.below B12 (fun p hp => Nat.lt_of_lt_of_le (UB4 p hp) (by omega))
  have z12_W0 : w2.heap.size < w12.heap.size := (by omega)
  have z12_G0 : w4.heap.size < w12.heap.size := (by omega)
  clear hb12
  go_wp2_with fail
  refine (HI.out _ _ ((⟨_, S12_t.kept (K12.below (show Below w12.heap.size w12 _ from (by repeat' (first | (with_reducible exact Below.refl _ _) | (with_reducible assumption) | (with_reducible refine Below.setCell ?_ ?_ _) | (with_reducible refine Below.alloc ?_ ?_ _) | (with_reducible refine Below.drew ?_) | (with_reducible refine belowN ?_ _) | (with_reducible refine below_after2 ?_ (by assumption) ?_) | omega | (simp; done) | (simp; omega)))) (fun p hp => Nat.lt_of_lt_of_le (UB12 p hp) (by omega))) (fun _ h => h)⟩ : RdS _ _ _))).mono ?_
  rintro e w13 ⟨v13_0_text, v13_0_list, v13_0_seen, f13_0_text, f13_0_list, f13_0_seen, rfl, S13_0_text, S13_0_list, S13_0_seen, n13_0_name, FR13, hb13⟩
  obtain ⟨a13_0_text, c13_0_text, rfl⟩ := RdS.isSlice ⟨_, S13_0_text⟩
  obtain ⟨a13_0_list, c13_0_list, rfl⟩ := RdS.isSlice ⟨_, S13_0_list⟩
  obtain ⟨a13_0_seen, c13_0_seen, rfl⟩ := RdS.isSlice ⟨_, S13_0_seen⟩
  have UB13 : ∀ p ∈ (f13_0_text ++ (f13_0_list ++ f13_0_seen)), p.1 < w13.heap.size := Live.lt (Live.append.2 ⟨S13_0_text.live, Live.append.2 ⟨S13_0_list.live, S13_0_seen.live⟩⟩)
  replace FR13 : Fresh (w12.heap.size) w13 (f13_0_text ++ (f13_0_list ++ f13_0_seen)) := FR13.mono (by first | exact Nat.le_refl _ | (simp; done) | (simp; omega))
  have K13 : Kept (f13_0_text ++ (f13_0_list ++ f13_0_seen)) w13 w13 := Kept.refl _ _
  have B13 : Below w12.heap.size w12 w13 := (by repeat' (first | (with_reducible exact Below.refl _ _) | (with_reducible assumption) | (with_reducible refine Below.setCell ?_ ?_ _) | (with_reducible refine Below.alloc ?_ ?_ _) | (with_reducible refine Below.drew ?_) | (with_reducible refine belowN ?_ _) | (with_reducible refine below_after2 ?_ (by assumption) ?_) | omega | (simp; done) | (simp; omega)))
  have s13 : w12.heap.size ≤ w13.heap.size := (by have := hb13.size; (try simp at this); omega)
  replace cW0_0 : w13.cell? ⟨w2.heap.size, 0, none⟩ = some (.string y0.name) := cellb B13 cW0_0
  replace cW0_1 : w13.cell? ⟨w2.heap.size, 1, none⟩ = some (.int .i64 y0.from_) := cellb B13 cW0_1
  replace cW0_2 : w13.cell? ⟨w2.heap.size, 2, none⟩ = some (.slice a2_0_text y0.text.length c2_0_text) := cellb B13 cW0_2
  replace cW0_3 : w13.cell? ⟨w2.heap.size, 3, none⟩ = some (.slice a2_0_list y0.list.length c2_0_list) := cellb B13 cW0_3
  replace cW0_4 : w13.cell? ⟨w2.heap.size, 4, none⟩ = some (.slice a2_0_seen y0.seen.length c2_0_seen) := cellb B13 cW0_4
  replace cG0_0 : w13.cell? ⟨w4.heap.size, 0, none⟩ = some (.string y0.name) := cellb B13 cG0_0
  replace cG0_1 : w13.cell? ⟨w4.heap.size, 1, none⟩ = some (.int .i64 y0.from_) := cellb B13 cG0_1
  replace cG0_2 : w13.cell? ⟨w4.heap.size, 2, none⟩ = some (.slice a4_0_text y0.text.length c4_0_text) := cellb B13 cG0_2
  replace cG0_3 : w13.cell? ⟨w4.heap.size, 3, none⟩ = some (.slice a4_0_list y0.list.length c4_0_list) := cellb B13 cG0_3
  replace cG0_4 : w13.cell? ⟨w4.heap.size, 4, none⟩ = some (.slice a4_0_seen y0.seen.length c4_0_seen) := cellb B13 cG0_4
  replace K2 : Kept (f2_0_text ++ (f2_0_list ++ f2_0_seen)) w2 w13 := K2.below B13 (fun p hp => Nat.lt_of_lt_of_le (UB2 p hp) (by omega))
  replace K4 : Kept (f4_0_text ++ (f4_0_list ++ f4_0_seen)) w10 w13 := K4.below B13 (fun p hp => Nat.lt_of_lt_of_le (UB4 p hp) (by omega))
  replace K12 : Kept f12_t w12 w13 := K12.below B13 (fun p hp => Nat.lt_of_lt_of_le (UB12 p hp) (by omega))
  have z13_W0 : w2.heap.size < w13.heap.size := (by omega)
  have z13_G0 : w4.heap.size < w13.heap.size := (by omega)
  clear hb13
  go_wp2_with fail
  refine (eqDoc_c y0 _ _ _ _ _ _ _ ((⟨_, S13_0_text.kept (K13.below (show Below w13.heap.size w13 _ from (by repeat' (first | (with_reducible exact Below.refl _ _) | (with_reducible assumption) | (with_reducible refine Below.setCell ?_ ?_ _) | (with_reducible refine Below.alloc ?_ ?_ _) | (with_reducible refine Below.drew ?_) | (with_reducible refine belowN ?_ _) | (with_reducible refine below_after2 ?_ (by assumption) ?_) | omega | (simp; done) | (simp; omega)))) (fun p hp => Nat.lt_of_lt_of_le (UB13 p hp) (by omega))) (by intro p hp; simp only [List.mem_append]; simp [hp])⟩ : RdS _ _ _)) ((⟨_, S2_0_text.kept (K2.below (show Below w13.heap.size w13 _ from (by repeat' (first | (with_reducible exact Below.refl _ _) | (with_reducible assumption) | (with_reducible refine Below.setCell ?_ ?_ _) | (with_reducible refine Below.alloc ?_ ?_ _) | (with_reducible refine Below.drew ?_) | (with_reducible refine belowN ?_ _) | (with_reducible refine below_after2 ?_ (by assumption) ?_) | omega | (simp; done) | (simp; omega)))) (fun p hp => Nat.lt_of_lt_of_le (UB2 p hp) (by omega))) (by intro p hp; simp only [List.mem_append]; simp [hp])⟩ : RdS _ _ _)) ((⟨_, S13_0_list.kept (K13.below (show Below w13.heap.size w13 _ from (by repeat' (first | (with_reducible exact Below.refl _ _) | (with_reducible assumption) | (with_reducible refine Below.setCell ?_ ?_ _) | (with_reducible refine Below.alloc ?_ ?_ _) | (with_reducible refine Below.drew ?_) | (with_reducible refine belowN ?_ _) | (with_reducible refine below_after2 ?_ (by assumption) ?_) | omega | (simp; done) | (simp; omega)))) (fun p hp => Nat.lt_of_lt_of_le (UB13 p hp) (by omega))) (by intro p hp; simp only [List.mem_append]; simp [hp])⟩ : RdS _ _ _)) ((⟨_, S2_0_list.kept (K2.below (show Below w13.heap.size w13 _ from (by repeat' (first | (with_reducible exact Below.refl _ _) | (with_reducible assumption) | (with_reducible refine Below.setCell ?_ ?_ _) | (with_reducible refine Below.alloc ?_ ?_ _) | (with_reducible refine Below.drew ?_) | (with_reducible refine belowN ?_ _) | (with_reducible refine below_after2 ?_ (by assumption) ?_) | omega | (simp; done) | (simp; omega)))) (fun p hp => Nat.lt_of_lt_of_le (UB2 p hp) (by omega))) (by intro p hp; simp only [List.mem_append]; simp [hp])⟩ : RdS _ _ _)) ((⟨_, S13_0_seen.kept (K13.below (show Below w13.heap.size w13 _ from (by repeat' (first | (with_reducible exact Below.refl _ _) | (with_reducible assumption) | (with_reducible refine Below.setCell ?_ ?_ _) | (with_reducible refine Below.alloc ?_ ?_ _) | (with_reducible refine Below.drew ?_) | (with_reducible refine belowN ?_ _) | (with_reducible refine below_after2 ?_ (by assumption) ?_) | omega | (simp; done) | (simp; omega)))) (fun p hp => Nat.lt_of_lt_of_le (UB13 p hp) (by omega))) (by intro p hp; simp only [List.mem_append]; simp [hp])⟩ : RdS _ _ _)) ((⟨_, S2_0_seen.kept (K2.below (show Below w13.heap.size w13 _ from (by repeat' (first | (with_reducible exact Below.refl _ _) | (with_reducible assumption) | (with_reducible refine Below.setCell ?_ ?_ _) | (with_reducible refine Below.alloc ?_ ?_ _) | (with_reducible refine Below.drew ?_) | (with_reducible refine belowN ?_ _) | (with_reducible refine below_after2 ?_ (by assumption) ?_) | omega | (simp; done) | (simp; omega)))) (fun p hp => Nat.lt_of_lt_of_le (UB2 p hp) (by omega))) (by intro p hp; simp only [List.mem_append]; simp [hp])⟩ : RdS _ _ _))).mono ?_
  rintro e w14 ⟨rfl, hb14⟩
  have hN : Below (w13.heap.size + 1) (w13.alloc (.cells #[.string y0.name, .int .i64 y0.from_, .slice a13_0_text y0.text.length c13_0_text, .slice a13_0_list y0.list.length c13_0_list, .slice a13_0_seen y0.seen.length c13_0_seen] 32)) w14 := (by repeat' (first | (with_reducible exact Below.refl _ _) | (with_reducible assumption) | (with_reducible refine Below.setCell ?_ ?_ _) | (with_reducible refine Below.alloc ?_ ?_ _) | (with_reducible refine Below.drew ?_) | (with_reducible refine belowN ?_ _) | (with_reducible refine below_after2 ?_ (by assumption) ?_) | omega | (simp; done) | (simp; omega)))
  have B14 : Below w13.heap.size w13 w14 := (by repeat' (first | (with_reducible exact Below.refl _ _) | (with_reducible assumption) | (with_reducible refine Below.setCell ?_ ?_ _) | (with_reducible refine Below.alloc ?_ ?_ _) | (with_reducible refine Below.drew ?_) | (with_reducible refine belowN ?_ _) | (with_reducible refine below_after2 ?_ (by assumption) ?_) | omega | (simp; done) | (simp; omega)))
  have s14 : w13.heap.size + 1 ≤ w14.heap.size := (by have := hb14.size; (try simp at this); omega)
  replace cW0_0 : w14.cell? ⟨w2.heap.size, 0, none⟩ = some (.string y0.name) := cellb B14 cW0_0
  replace cW0_1 : w14.cell? ⟨w2.heap.size, 1, none⟩ = some (.int .i64 y0.from_) := cellb B14 cW0_1
  replace cW0_2 : w14.cell? ⟨w2.heap.size, 2, none⟩ = some (.slice a2_0_text y0.text.length c2_0_text) := cellb B14 cW0_2
  replace cW0_3 : w14.cell? ⟨w2.heap.size, 3, none⟩ = some (.slice a2_0_list y0.list.length c2_0_list) := cellb B14 cW0_3
  replace cW0_4 : w14.cell? ⟨w2.heap.size, 4, none⟩ = some (.slice a2_0_seen y0.seen.length c2_0_seen) := cellb B14 cW0_4
  replace cG0_0 : w14.cell? ⟨w4.heap.size, 0, none⟩ = some (.string y0.name) := cellb B14 cG0_0
  replace cG0_1 : w14.cell? ⟨w4.heap.size, 1, none⟩ = some (.int .i64 y0.from_) := cellb B14 cG0_1
  replace cG0_2 : w14.cell? ⟨w4.heap.size, 2, none⟩ = some (.slice a4_0_text y0.text.length c4_0_text) := cellb B14 cG0_2
  replace cG0_3 : w14.cell? ⟨w4.heap.size, 3, none⟩ = some (.slice a4_0_list y0.list.length c4_0_list) := cellb B14 cG0_3
  replace cG0_4 : w14.cell? ⟨w4.heap.size, 4, none⟩ = some (.slice a4_0_seen y0.seen.length c4_0_seen) := cellb B14 cG0_4
  have cH0_0 : w14.cell? ⟨w13.heap.size, 0, none⟩ = some (.string y0.name) := by rw [hN.cell (by simp; try omega)]; simp
  have cH0_1 : w14.cell? ⟨w13.heap.size, 1, none⟩ = some (.int .i64 y0.from_) := by rw [hN.cell (by simp; try omega)]; simp
  have cH0_2 : w14.cell? ⟨w13.heap.size, 2, none⟩ = some (.slice a13_0_text y0.text.length c13_0_text) := by rw [hN.cell (by simp; try omega)]; simp
  have cH0_3 : w14.cell? ⟨w13.heap.size, 3, none⟩ = some (.slice a13_0_list y0.list.length c13_0_list) := by rw [hN.cell (by simp; try omega)]; simp
  have cH0_4 : w14.cell? ⟨w13.heap.size, 4, none⟩ = some (.slice a13_0_seen y0.seen.length c13_0_seen) := by rw [hN.cell (by simp; try omega)]; simp
  clear hN
  replace K2 : Kept (f2_0_text ++ (f2_0_list ++ f2_0_seen)) w2 w14 := K2.below B14 (fun p hp => Nat.lt_of_lt_of_le (UB2 p hp) (by omega))
  replace K4 : Kept (f4_0_text ++ (f4_0_list ++ f4_0_seen)) w10 w14 := K4.below B14 (fun p hp => Nat.lt_of_lt_of_le (UB4 p hp) (by omega))
  replace K13 : Kept (f13_0_text ++ (f13_0_list ++ f13_0_seen)) w13 w14 := K13.below B14 (fun p hp => Nat.lt_of_lt_of_le (UB13 p hp) (by omega))
  have z14_W0 : w2.heap.size < w14.heap.size := (by omega)
  have z14_G0 : w4.heap.size < w14.heap.size := (by omega)
  have z14_H0 : w13.heap.size < w14.heap.size := (by omega)
  clear hb14
  go_wp2_with fail
  refine (heldDoc_c y0.name y0.from_ _ _ _ _ _ _ _ 1 (by omega) (by (try simp only [cntL_mkL]); omega) ((⟨_, S4_0_text.kept (K4.below (show Below w14.heap.size w14 _ from (by repeat' (first | (with_reducible exact Below.refl _ _) | (with_reducible assumption) | (with_reducible refine Below.setCell ?_ ?_ _) | (with_reducible refine Below.alloc ?_ ?_ _) | (with_reducible refine Below.drew ?_) | (with_reducible refine belowN ?_ _) | (with_reducible refine below_after2 ?_ (by assumption) ?_) | omega | (simp; done) | (simp; omega)))) (fun p hp => Nat.lt_of_lt_of_le (UB4 p hp) (by omega))) (by intro p hp; simp only [List.mem_append]; simp [hp])⟩ : RdS _ _ _)) ((⟨_, S4_0_list.kept (K4.below (show Below w14.heap.size w14 _ from (by repeat' (first | (with_reducible exact Below.refl _ _) | (with_reducible assumption) | (with_reducible refine Below.setCell ?_ ?_ _) | (with_reducible refine Below.alloc ?_ ?_ _) | (with_reducible refine Below.drew ?_) | (with_reducible refine belowN ?_ _) | (with_reducible refine below_after2 ?_ (by assumption) ?_) | omega | (simp; done) | (simp; omega)))) (fun p hp => Nat.lt_of_lt_of_le (UB4 p hp) (by omega))) (by intro p hp; simp only [List.mem_append]; simp [hp])⟩ : RdS _ _ _)) ((⟨_, S4_0_seen.kept (K4.below (show Below w14.heap.size w14 _ from (by repeat' (first | (with_reducible exact Below.refl _ _) | (with_reducible assumption) | (with_reducible refine Below.setCell ?_ ?_ _) | (with_reducible refine Below.alloc ?_ ?_ _) | (with_reducible refine Below.drew ?_) | (with_reducible refine belowN ?_ _) | (with_reducible refine below_after2 ?_ (by assumption) ?_) | omega | (simp; done) | (simp; omega)))) (fun p hp => Nat.lt_of_lt_of_le (UB4 p hp) (by omega))) (by intro p hp; simp only [List.mem_append]; simp [hp])⟩ : RdS _ _ _)) (by (try simp only [cntL_mkL]); exact mkL_mkL _ _) (by (try simp only [cntL_mkL]); exact mkL_mkL _ _) (by (try simp only [cntL_mkL]); exact mkL_mkL _ _)).mono ?_
  rintro e w15 ⟨he, hb15⟩
  obtain rfl : e = .returned (.int .i64 m1) := he.trans (by (try simp only [cntL_mkL]); rw [HM1.out])
  clear he
  have B15 : Below w14.heap.size w14 w15 := (by repeat' (first | (with_reducible exact Below.refl _ _) | (with_reducible assumption) | (with_reducible refine Below.setCell ?_ ?_ _) | (with_reducible refine Below.alloc ?_ ?_ _) | (with_reducible refine Below.drew ?_) | (with_reducible refine belowN ?_ _) | (with_reducible refine below_after2 ?_ (by assumption) ?_) | omega | (simp; done) | (simp; omega)))
  have s15 : w14.heap.size ≤ w15.heap.size := (by have := hb15.size; (try simp at this); omega)
  replace cW0_0 : w15.cell? ⟨w2.heap.size, 0, none⟩ = some (.string y0.name) := cellb B15 cW0_0
  replace cW0_1 : w15.cell? ⟨w2.heap.size, 1, none⟩ = some (.int .i64 y0.from_) := cellb B15 cW0_1
  replace cW0_2 : w15.cell? ⟨w2.heap.size, 2, none⟩ = some (.slice a2_0_text y0.text.length c2_0_text) := cellb B15 cW0_2
  replace cW0_3 : w15.cell? ⟨w2.heap.size, 3, none⟩ = some (.slice a2_0_list y0.list.length c2_0_list) := cellb B15 cW0_3
  replace cW0_4 : w15.cell? ⟨w2.heap.size, 4, none⟩ = some (.slice a2_0_seen y0.seen.length c2_0_seen) := cellb B15 cW0_4
  replace cG0_0 : w15.cell? ⟨w4.heap.size, 0, none⟩ = some (.string y0.name) := cellb B15 cG0_0
  replace cG0_1 : w15.cell? ⟨w4.heap.size, 1, none⟩ = some (.int .i64 y0.from_) := cellb B15 cG0_1
  replace cG0_2 : w15.cell? ⟨w4.heap.size, 2, none⟩ = some (.slice a4_0_text y0.text.length c4_0_text) := cellb B15 cG0_2
  replace cG0_3 : w15.cell? ⟨w4.heap.size, 3, none⟩ = some (.slice a4_0_list y0.list.length c4_0_list) := cellb B15 cG0_3
  replace cG0_4 : w15.cell? ⟨w4.heap.size, 4, none⟩ = some (.slice a4_0_seen y0.seen.length c4_0_seen) := cellb B15 cG0_4
  replace cH0_0 : w15.cell? ⟨w13.heap.size, 0, none⟩ = some (.string y0.name) := cellb B15 cH0_0
  replace cH0_1 : w15.cell? ⟨w13.heap.size, 1, none⟩ = some (.int .i64 y0.from_) := cellb B15 cH0_1
  replace cH0_2 : w15.cell? ⟨w13.heap.size, 2, none⟩ = some (.slice a13_0_text y0.text.length c13_0_text) := cellb B15 cH0_2
  replace cH0_3 : w15.cell? ⟨w13.heap.size, 3, none⟩ = some (.slice a13_0_list y0.list.length c13_0_list) := cellb B15 cH0_3
  replace cH0_4 : w15.cell? ⟨w13.heap.size, 4, none⟩ = some (.slice a13_0_seen y0.seen.length c13_0_seen) := cellb B15 cH0_4
  replace K2 : Kept (f2_0_text ++ (f2_0_list ++ f2_0_seen)) w2 w15 := K2.below B15 (fun p hp => Nat.lt_of_lt_of_le (UB2 p hp) (by omega))
  replace K4 : Kept (f4_0_text ++ (f4_0_list ++ f4_0_seen)) w10 w15 := K4.below B15 (fun p hp => Nat.lt_of_lt_of_le (UB4 p hp) (by omega))
  have z15_W0 : w2.heap.size < w15.heap.size := (by omega)
  have z15_G0 : w4.heap.size < w15.heap.size := (by omega)
  have z15_H0 : w13.heap.size < w15.heap.size := (by omega)
  clear hb15
  go_wp2
  go_ret
  exact ⟨rfl, (by repeat' (first | (with_reducible exact Below.refl _ _) | (with_reducible assumption) | (with_reducible refine Below.setCell ?_ ?_ _) | (with_reducible refine Below.alloc ?_ ?_ _) | (with_reducible refine Below.drew ?_) | (with_reducible refine belowN ?_ _) | (with_reducible refine below_after2 ?_ (by assumption) ?_) | omega | (simp; done) | (simp; omega)))⟩
theorem walkc_FnExactDocNew (x : ByteArray) (t : List Int) (v_t : Value) (w : World) (n_x : x.size ≤ maxLen) (h_t : RdSM maxLen w v_t t) :
    Calls Try.prog 4 #[.string x, v_t] w (Tells w (.bool true)) :=
  walk_FnExactDocNew x t v_t w n_x h_t ((docNew x t).1) ((docNew x t).2) (fun ns hz _ W h => spec_DocNew_c x t _ W (le_BIG (by omega)) h (by omega)) (fun ns hz _ W h => impl_DocNew_c x t _ W (le_BIG (by omega)) h (by omega)) (fun hz => by have := docNew_cnt x t; rw [szL_int] at *; omega)
namespace fnExactDocNew
theorem own : ownKnob Try.prog.godebug = none := by kernel_rfl
theorem laidOut : laidOutB Try.prog = true := by kernel_rfl
set_option maxRecDepth 100000 in
theorem lifted (os : Os) (started : os.Started) (H : Type) (enc : TypeId × Value → H) :
    ReturnsInHanded {} Try.checked os 4 .any (Rows.fnExactDocNewSpec.pre6 enc Try.prog Try.f4 Rows.fnExactDocNewRow.domain false) (Rows.fnExactDocNewSpec.post enc Try.prog Try.f4 false true false false) := by
  refine returnsInHanded_of_change (C := Try.checked) own started (by kernel_rfl) Try.func4
    (ChangeSpec.witness6 (enc := enc) (C := Try.checked) false ⟨#[], #[.string ByteArray.empty, .slice none 0 0], []⟩ 8 (by kernel_rfl) (by kernel_rfl) (by kernel_rfl) (by kernel_rfl)) ?_
  intro W base args ds gs before hval0 hW hcnd _
  have hval : ∀ (j : Nat) t v, Try.f4.params[j]? = some t → args[j]? = some v → Value.okWide Try.prog W .any base t v := hval0
  have hW' := hW
  obtain ⟨p, q, hA0, hV, rfl, hfz, hnd⟩ := hW
  have hA : DataW.TrodAll enc Try.prog W 0 (fun _ => true) true Try.f4.params.toList args.toList ds p := hA0
  rw [Try.params4] at hA hval
  obtain ⟨v0, vs0, d0, ds0, p0, q0, hargs, rfl, rfl, h0, r0⟩ := trodAll_cons hA
  obtain ⟨v1, vs1, d1, ds1, p1, q1, rfl, rfl, rfl, h1, r1⟩ := trodAll_cons r0
  obtain ⟨rfl, rfl, rfl⟩ := trodAll_nil r1
  obtain rfl : args = #[v0, v1] := by cases args; simp_all
  obtain ⟨rfl, rfl⟩ := trodVars_none hV
  obtain ⟨a0, rfl, rfl, rfl, w0⟩ := open_string Try.underlying9 (hval 0 9 v0 rfl rfl) h0
  obtain ⟨a1, len1, cap1, rfl⟩ := okWide_slice Try.underlying22 (hval 1 22 v1 rfl rfl)
  have k1 := h1
  have lt1 : ∀ x ∈ p1, x.block < W.heap.size := by obtain ⟨m, hm⟩ := k1; exact DataW.trod_lt m _ _ _ hm
  obtain ⟨x1, m1⟩ : ∃ l : List Int, RdSM maxLen W (.slice a1 len1 cap1) l := by
    obtain ⟨fuel, hf⟩ := h1
    obtain ⟨l, fp, v, hv, hs⟩ := opens_slice Try.underlying22 (by kernel_rfl) (opens_int Try.underlying3) _ _ _ _ _ _ _ _ hf
    simp only [Value.cells, List.cons.injEq, and_true] at hv
    subst hv
    exact ⟨l, fp, hs⟩
  clear hA0 hval0
  refine (walkc_FnExactDocNew a0 x1 _ W w0 m1).mono fun e W' ⟨he, bel⟩ => ?_
  subst he
  exact ⟨_, rfl, _, _, _, [], _, [], hW', trodAll_mk1 (shut_bool Try.underlying4 _), (trodAll_cons_mk (shut_string Try.underlying9 w0) (trodAll_cons_mk (Below.trod laidOut (by kernel_rfl) (of_decide_eq_true (by kernel_rfl)) k1 bel lt1) trodAll_mk0)), rfl, bel.frame _, fun h => by cases h⟩
theorem over : Rows.fnExactDocNewRow.holds Try.pinned (OpenSpec.ofChange Rows.fnExactDocNewSpec) :=
  OpenClaim.holds_of_wide 4 Try.f4 rfl rfl rfl rfl rfl rfl rfl ⟨rfl, rfl, rfl, rfl, rfl⟩ rfl rfl rfl rfl rfl (by kernel_rfl) Try.func4 (by kernel_rfl)
    (of_decide_eq_true (by kernel_rfl)) (by unfold Func.isWrapper; first | (rw [if_pos (by decide +kernel)]; kernel_rfl) | (rw [if_neg (by decide +kernel)]; exact ⟨rfl, rfl⟩))
    (fun os started H enc _ => lifted os started H enc)
theorem proved : Rows.FnExactDocNewSaid := over
end fnExactDocNew
#print axioms fnExactDocNew.proved
end Go.Proofs.Ytkbhlgmgjpbloaa
