/- 'laws.FnExactSeenOf' answers true for every input, and each argument reads afterwards as before. No conditions. -/
import Derived.Test.YtdbfgolabnomgaaEq3
import Derived.Test.YtdbfgolabnomgaaSz3
import Derived.Test.YtdbfgolabnomgaaConv
import Derived.Test.YtdbfgolabnomgaaSeen
import Derived.Test.YtdbfgolabnomgaaOut
import Derived.Test.YtdbfgolabnomgaaRows
import Derived.ProofKit
import Derived.OpenShut
import Derived.ChangeMaps5
import Derived.Deep.RegionHeld3
namespace Go.Proofs.Ytdbfgolabnomgaa
open Go.ChangeShapes Go.WideShapes Go.ChangeAt Go.RowKit
set_option maxHeartbeats 16000000 in
theorem walk_FnExactSeenOf (x : DDoc) (v_x_text : Value) (v_x_list : Value) (v_x_seen : Value) (client : Int) (w : World) (n_x_name : x.name.size ≤ maxLen) (h_x_text : RdSM maxLen w v_x_text x.text) (h_x_list : RdSM maxLen w v_x_list x.list) (h_x_seen : RdSM maxLen w v_x_seen x.seen) (_b1_client : -9223372036854775808 ≤ client) (_b2_client : client ≤ 9223372036854775807) (y0 : DSeen) (y1 : Bool)
    (HS0 : x.name.size ≤ BIG → -9223372036854775808 ≤ client → client ≤ 9223372036854775807 → ∀ (v_x_text v_x_list v_x_seen : Value) (W : World), RdS W v_x_text x.text → RdS W v_x_list x.list → RdS W v_x_seen x.seen → Calls Try.prog 41 #[.agg #[.string x.name, .int .i64 x.from_, v_x_text, v_x_list, v_x_seen], .int .i64 client] W (Out_Seen_b W y0 y1))
    (HI0 : x.name.size ≤ BIG → -9223372036854775808 ≤ client → client ≤ 9223372036854775807 → ∀ (v_x_text v_x_list v_x_seen : Value) (W : World), RdS W v_x_text x.text → RdS W v_x_list x.list → RdS W v_x_seen x.seen → Calls Try.prog 43 #[.agg #[.string x.name, .int .i64 x.from_, v_x_text, v_x_list, v_x_seen], .int .i64 client] W (Out_Seen_b W y0 y1)) :
    Calls Try.prog 8 #[.agg #[.string x.name, .int .i64 x.from_, v_x_text, v_x_list, v_x_seen], .int .i64 client] w (Tells w (.bool true)) := by
  have HS1 := Lib.hid HS0
  have HI1 := Lib.hid HI0
  clear HS0 HI0
  by_cases cz_x : ((GoS.sz x : Nat) : Int) ≤ 1048576
  rotate_left
  · go_enter Try.func8, Try.ntmps8
    go_wp2_with fail
    refine (szDoc_c x _ _ _ _ _ (by omega) (by omega) n_x_name (h_x_text.below (by repeat' (first | (with_reducible exact Below.refl _ _) | (with_reducible assumption) | (with_reducible refine Below.setCell ?_ ?_ _) | (with_reducible refine Below.alloc ?_ ?_ _) | (with_reducible refine Below.drew ?_) | (with_reducible refine belowN ?_ _) | (with_reducible refine below_after2 ?_ (by assumption) ?_) | omega | (simp; done) | (simp; omega)))) (h_x_list.below (by repeat' (first | (with_reducible exact Below.refl _ _) | (with_reducible assumption) | (with_reducible refine Below.setCell ?_ ?_ _) | (with_reducible refine Below.alloc ?_ ?_ _) | (with_reducible refine Below.drew ?_) | (with_reducible refine belowN ?_ _) | (with_reducible refine below_after2 ?_ (by assumption) ?_) | omega | (simp; done) | (simp; omega)))) (h_x_seen.below (by repeat' (first | (with_reducible exact Below.refl _ _) | (with_reducible assumption) | (with_reducible refine Below.setCell ?_ ?_ _) | (with_reducible refine Below.alloc ?_ ?_ _) | (with_reducible refine Below.drew ?_) | (with_reducible refine belowN ?_ _) | (with_reducible refine below_after2 ?_ (by assumption) ?_) | omega | (simp; done) | (simp; omega))))).mono ?_
    rintro e w1 ⟨rfl, hb1⟩
    have hN : Below (w.heap.size + 1) (w.alloc (.cells #[.string x.name, .int .i64 x.from_, v_x_text, v_x_list, v_x_seen] 63)) w1 := (by repeat' (first | (with_reducible exact Below.refl _ _) | (with_reducible assumption) | (with_reducible refine Below.setCell ?_ ?_ _) | (with_reducible refine Below.alloc ?_ ?_ _) | (with_reducible refine Below.drew ?_) | (with_reducible refine belowN ?_ _) | (with_reducible refine below_after2 ?_ (by assumption) ?_) | omega | (simp; done) | (simp; omega)))
    have B1 : Below w.heap.size w w1 := (by repeat' (first | (with_reducible exact Below.refl _ _) | (with_reducible assumption) | (with_reducible refine Below.setCell ?_ ?_ _) | (with_reducible refine Below.alloc ?_ ?_ _) | (with_reducible refine Below.drew ?_) | (with_reducible refine belowN ?_ _) | (with_reducible refine below_after2 ?_ (by assumption) ?_) | omega | (simp; done) | (simp; omega)))
    have s1 : w.heap.size + 1 ≤ w1.heap.size := (by have := hb1.size; (try simp at this); omega)
    have cp0_0 : w1.cell? ⟨w.heap.size, 0, none⟩ = some (.string x.name) := by rw [hN.cell (by simp; try omega)]; simp
    have cp0_1 : w1.cell? ⟨w.heap.size, 1, none⟩ = some (.int .i64 x.from_) := by rw [hN.cell (by simp; try omega)]; simp
    have cp0_2 : w1.cell? ⟨w.heap.size, 2, none⟩ = some (v_x_text) := by rw [hN.cell (by simp; try omega)]; simp
    have cp0_3 : w1.cell? ⟨w.heap.size, 3, none⟩ = some (v_x_list) := by rw [hN.cell (by simp; try omega)]; simp
    have cp0_4 : w1.cell? ⟨w.heap.size, 4, none⟩ = some (v_x_seen) := by rw [hN.cell (by simp; try omega)]; simp
    clear hN
    have z1_p0 : w.heap.size < w1.heap.size := (by omega)
    clear hb1
    rw [less_neg (by omega)]
    go_wp2
    go_ret
    exact ⟨rfl, (by repeat' (first | (with_reducible exact Below.refl _ _) | (with_reducible assumption) | (with_reducible refine Below.setCell ?_ ?_ _) | (with_reducible refine Below.alloc ?_ ?_ _) | (with_reducible refine Below.drew ?_) | (with_reducible refine belowN ?_ _) | (with_reducible refine below_after2 ?_ (by assumption) ?_) | omega | (simp; done) | (simp; omega)))⟩
  have hr_x_text : RdS w v_x_text x.text := let ⟨fp, s⟩ := h_x_text; ⟨fp, s.up (by have : GoS.sz x = x.name.size + szL x.text + szL x.list + szL x.seen := rfl; exact le_BIG (by omega))⟩
  have hr_x_list : RdS w v_x_list x.list := let ⟨fp, s⟩ := h_x_list; ⟨fp, s.up (by have : GoS.sz x = x.name.size + szL x.text + szL x.list + szL x.seen := rfl; exact le_BIG (by omega))⟩
  have hr_x_seen : RdS w v_x_seen x.seen := let ⟨fp, s⟩ := h_x_seen; ⟨fp, s.up (by have : GoS.sz x = x.name.size + szL x.text + szL x.list + szL x.seen := rfl; exact le_BIG (by omega))⟩
  have nr_x_name : x.name.size ≤ BIG := by have : GoS.sz x = x.name.size + szL x.text + szL x.list + szL x.seen := rfl; exact le_BIG (by omega)
  have HS := Lib.hid (HS1.out nr_x_name _b1_client _b2_client)
  have HI := Lib.hid (HI1.out nr_x_name _b1_client _b2_client)
  clear HS1 HI1
  go_enter Try.func8, Try.ntmps8
  go_wp2_with fail
  refine (szDoc_c x _ _ _ _ _ (by omega) (by omega) n_x_name (h_x_text.below (by repeat' (first | (with_reducible exact Below.refl _ _) | (with_reducible assumption) | (with_reducible refine Below.setCell ?_ ?_ _) | (with_reducible refine Below.alloc ?_ ?_ _) | (with_reducible refine Below.drew ?_) | (with_reducible refine belowN ?_ _) | (with_reducible refine below_after2 ?_ (by assumption) ?_) | omega | (simp; done) | (simp; omega)))) (h_x_list.below (by repeat' (first | (with_reducible exact Below.refl _ _) | (with_reducible assumption) | (with_reducible refine Below.setCell ?_ ?_ _) | (with_reducible refine Below.alloc ?_ ?_ _) | (with_reducible refine Below.drew ?_) | (with_reducible refine belowN ?_ _) | (with_reducible refine below_after2 ?_ (by assumption) ?_) | omega | (simp; done) | (simp; omega)))) (h_x_seen.below (by repeat' (first | (with_reducible exact Below.refl _ _) | (with_reducible assumption) | (with_reducible refine Below.setCell ?_ ?_ _) | (with_reducible refine Below.alloc ?_ ?_ _) | (with_reducible refine Below.drew ?_) | (with_reducible refine belowN ?_ _) | (with_reducible refine below_after2 ?_ (by assumption) ?_) | omega | (simp; done) | (simp; omega))))).mono ?_
  rintro e w1 ⟨rfl, hb1⟩
  have hN : Below (w.heap.size + 1) (w.alloc (.cells #[.string x.name, .int .i64 x.from_, v_x_text, v_x_list, v_x_seen] 63)) w1 := (by repeat' (first | (with_reducible exact Below.refl _ _) | (with_reducible assumption) | (with_reducible refine Below.setCell ?_ ?_ _) | (with_reducible refine Below.alloc ?_ ?_ _) | (with_reducible refine Below.drew ?_) | (with_reducible refine belowN ?_ _) | (with_reducible refine below_after2 ?_ (by assumption) ?_) | omega | (simp; done) | (simp; omega)))
  have B1 : Below w.heap.size w w1 := (by repeat' (first | (with_reducible exact Below.refl _ _) | (with_reducible assumption) | (with_reducible refine Below.setCell ?_ ?_ _) | (with_reducible refine Below.alloc ?_ ?_ _) | (with_reducible refine Below.drew ?_) | (with_reducible refine belowN ?_ _) | (with_reducible refine below_after2 ?_ (by assumption) ?_) | omega | (simp; done) | (simp; omega)))
  have s1 : w.heap.size + 1 ≤ w1.heap.size := (by have := hb1.size; (try simp at this); omega)
  have cp0_0 : w1.cell? ⟨w.heap.size, 0, none⟩ = some (.string x.name) := by rw [hN.cell (by simp; try omega)]; simp
  have cp0_1 : w1.cell? ⟨w.heap.size, 1, none⟩ = some (.int .i64 x.from_) := by rw [hN.cell (by simp; try omega)]; simp
  have cp0_2 : w1.cell? ⟨w.heap.size, 2, none⟩ = some (v_x_text) := by rw [hN.cell (by simp; try omega)]; simp
  have cp0_3 : w1.cell? ⟨w.heap.size, 3, none⟩ = some (v_x_list) := by rw [hN.cell (by simp; try omega)]; simp
  have cp0_4 : w1.cell? ⟨w.heap.size, 4, none⟩ = some (v_x_seen) := by rw [hN.cell (by simp; try omega)]; simp
  clear hN
  have z1_p0 : w.heap.size < w1.heap.size := (by omega)
  clear hb1
  rw [less_pos (by omega)]
  go_wp2_with fail
  refine (toDoc_c x _ _ _ _ nr_x_name (hr_x_text.below (by repeat' (first | (with_reducible exact Below.refl _ _) | (with_reducible assumption) | (with_reducible refine Below.setCell ?_ ?_ _) | (with_reducible refine Below.alloc ?_ ?_ _) | (with_reducible refine Below.drew ?_) | (with_reducible refine belowN ?_ _) | (with_reducible refine below_after2 ?_ (by assumption) ?_) | omega | (simp; done) | (simp; omega)))) (hr_x_list.below (by repeat' (first | (with_reducible exact Below.refl _ _) | (with_reducible assumption) | (with_reducible refine Below.setCell ?_ ?_ _) | (with_reducible refine Below.alloc ?_ ?_ _) | (with_reducible refine Below.drew ?_) | (with_reducible refine belowN ?_ _) | (with_reducible refine below_after2 ?_ (by assumption) ?_) | omega | (simp; done) | (simp; omega)))) (hr_x_seen.below (by repeat' (first | (with_reducible exact Below.refl _ _) | (with_reducible assumption) | (with_reducible refine Below.setCell ?_ ?_ _) | (with_reducible refine Below.alloc ?_ ?_ _) | (with_reducible refine Below.drew ?_) | (with_reducible refine belowN ?_ _) | (with_reducible refine below_after2 ?_ (by assumption) ?_) | omega | (simp; done) | (simp; omega))))).mono ?_
  rintro e w2 ⟨_, rfl, ⟨fp2, ho2, FR2⟩, hb2⟩
  obtain ⟨v2_text, v2_list, v2_seen, f2_text, f2_list, f2_seen, rfl, n2_name, S2_text, S2_list, S2_seen, rfl⟩ := ho2
  obtain ⟨a2_text, c2_text, rfl⟩ := RdS.isSlice ⟨_, S2_text⟩
  obtain ⟨a2_list, c2_list, rfl⟩ := RdS.isSlice ⟨_, S2_list⟩
  obtain ⟨a2_seen, c2_seen, rfl⟩ := RdS.isSlice ⟨_, S2_seen⟩
  have UB2 : ∀ p ∈ (f2_text ++ (f2_list ++ f2_seen)), p.1 < w2.heap.size := Live.lt (Live.append.2 ⟨S2_text.live, Live.append.2 ⟨S2_list.live, S2_seen.live⟩⟩)
  replace FR2 : Fresh (w1.heap.size) w2 (f2_text ++ (f2_list ++ f2_seen)) := FR2.mono (by first | exact Nat.le_refl _ | (simp; done) | (simp; omega))
  have K2 : Kept (f2_text ++ (f2_list ++ f2_seen)) w2 w2 := Kept.refl _ _
  have B2 : Below w1.heap.size w1 w2 := (by repeat' (first | (with_reducible exact Below.refl _ _) | (with_reducible assumption) | (with_reducible refine Below.setCell ?_ ?_ _) | (with_reducible refine Below.alloc ?_ ?_ _) | (with_reducible refine Below.drew ?_) | (with_reducible refine belowN ?_ _) | (with_reducible refine below_after2 ?_ (by assumption) ?_) | omega | (simp; done) | (simp; omega)))
  have s2 : w1.heap.size ≤ w2.heap.size := (by have := hb2.size; (try simp at this); omega)
  replace cp0_0 : w2.cell? ⟨w.heap.size, 0, none⟩ = some (.string x.name) := cellb B2 cp0_0
  replace cp0_1 : w2.cell? ⟨w.heap.size, 1, none⟩ = some (.int .i64 x.from_) := cellb B2 cp0_1
  replace cp0_2 : w2.cell? ⟨w.heap.size, 2, none⟩ = some (v_x_text) := cellb B2 cp0_2
  replace cp0_3 : w2.cell? ⟨w.heap.size, 3, none⟩ = some (v_x_list) := cellb B2 cp0_3
  replace cp0_4 : w2.cell? ⟨w.heap.size, 4, none⟩ = some (v_x_seen) := cellb B2 cp0_4
  have z2_p0 : w.heap.size < w2.heap.size := (by omega)
  clear hb2
  go_wp2_with fail
  refine (HS.out _ _ _ _ ((⟨_, S2_text.kept (K2.below (show Below w2.heap.size w2 _ from (by repeat' (first | (with_reducible exact Below.refl _ _) | (with_reducible assumption) | (with_reducible refine Below.setCell ?_ ?_ _) | (with_reducible refine Below.alloc ?_ ?_ _) | (with_reducible refine Below.drew ?_) | (with_reducible refine belowN ?_ _) | (with_reducible refine below_after2 ?_ (by assumption) ?_) | omega | (simp; done) | (simp; omega)))) (fun p hp => Nat.lt_of_lt_of_le (UB2 p hp) (by omega))) (by intro p hp; simp only [List.mem_append]; simp [hp])⟩ : RdS _ _ _)) ((⟨_, S2_list.kept (K2.below (show Below w2.heap.size w2 _ from (by repeat' (first | (with_reducible exact Below.refl _ _) | (with_reducible assumption) | (with_reducible refine Below.setCell ?_ ?_ _) | (with_reducible refine Below.alloc ?_ ?_ _) | (with_reducible refine Below.drew ?_) | (with_reducible refine belowN ?_ _) | (with_reducible refine below_after2 ?_ (by assumption) ?_) | omega | (simp; done) | (simp; omega)))) (fun p hp => Nat.lt_of_lt_of_le (UB2 p hp) (by omega))) (by intro p hp; simp only [List.mem_append]; simp [hp])⟩ : RdS _ _ _)) ((⟨_, S2_seen.kept (K2.below (show Below w2.heap.size w2 _ from (by repeat' (first | (with_reducible exact Below.refl _ _) | (with_reducible assumption) | (with_reducible refine Below.setCell ?_ ?_ _) | (with_reducible refine Below.alloc ?_ ?_ _) | (with_reducible refine Below.drew ?_) | (with_reducible refine belowN ?_ _) | (with_reducible refine below_after2 ?_ (by assumption) ?_) | omega | (simp; done) | (simp; omega)))) (fun p hp => Nat.lt_of_lt_of_le (UB2 p hp) (by omega))) (by intro p hp; simp only [List.mem_append]; simp [hp])⟩ : RdS _ _ _))).mono ?_
  rintro e w3 ⟨rfl, hb3⟩
  have B3 : Below w2.heap.size w2 w3 := (by repeat' (first | (with_reducible exact Below.refl _ _) | (with_reducible assumption) | (with_reducible refine Below.setCell ?_ ?_ _) | (with_reducible refine Below.alloc ?_ ?_ _) | (with_reducible refine Below.drew ?_) | (with_reducible refine belowN ?_ _) | (with_reducible refine below_after2 ?_ (by assumption) ?_) | omega | (simp; done) | (simp; omega)))
  have s3 : w2.heap.size ≤ w3.heap.size := (by have := hb3.size; (try simp at this); omega)
  replace cp0_0 : w3.cell? ⟨w.heap.size, 0, none⟩ = some (.string x.name) := cellb B3 cp0_0
  replace cp0_1 : w3.cell? ⟨w.heap.size, 1, none⟩ = some (.int .i64 x.from_) := cellb B3 cp0_1
  replace cp0_2 : w3.cell? ⟨w.heap.size, 2, none⟩ = some (v_x_text) := cellb B3 cp0_2
  replace cp0_3 : w3.cell? ⟨w.heap.size, 3, none⟩ = some (v_x_list) := cellb B3 cp0_3
  replace cp0_4 : w3.cell? ⟨w.heap.size, 4, none⟩ = some (v_x_seen) := cellb B3 cp0_4
  replace K2 : Kept (f2_text ++ (f2_list ++ f2_seen)) w2 w3 := K2.below B3 (fun p hp => Nat.lt_of_lt_of_le (UB2 p hp) (by omega))
  have z3_p0 : w.heap.size < w3.heap.size := (by omega)
  clear hb3
  go_wp2_with fail
  refine (toDoc_c x _ _ _ _ nr_x_name (hr_x_text.below (by repeat' (first | (with_reducible exact Below.refl _ _) | (with_reducible assumption) | (with_reducible refine Below.setCell ?_ ?_ _) | (with_reducible refine Below.alloc ?_ ?_ _) | (with_reducible refine Below.drew ?_) | (with_reducible refine belowN ?_ _) | (with_reducible refine below_after2 ?_ (by assumption) ?_) | omega | (simp; done) | (simp; omega)))) (hr_x_list.below (by repeat' (first | (with_reducible exact Below.refl _ _) | (with_reducible assumption) | (with_reducible refine Below.setCell ?_ ?_ _) | (with_reducible refine Below.alloc ?_ ?_ _) | (with_reducible refine Below.drew ?_) | (with_reducible refine belowN ?_ _) | (with_reducible refine below_after2 ?_ (by assumption) ?_) | omega | (simp; done) | (simp; omega)))) (hr_x_seen.below (by repeat' (first | (with_reducible exact Below.refl _ _) | (with_reducible assumption) | (with_reducible refine Below.setCell ?_ ?_ _) | (with_reducible refine Below.alloc ?_ ?_ _) | (with_reducible refine Below.drew ?_) | (with_reducible refine belowN ?_ _) | (with_reducible refine below_after2 ?_ (by assumption) ?_) | omega | (simp; done) | (simp; omega))))).mono ?_
  rintro e w4 ⟨_, rfl, ⟨fp4, ho4, FR4⟩, hb4⟩
  obtain ⟨v4_text, v4_list, v4_seen, f4_text, f4_list, f4_seen, rfl, n4_name, S4_text, S4_list, S4_seen, rfl⟩ := ho4
  obtain ⟨a4_text, c4_text, rfl⟩ := RdS.isSlice ⟨_, S4_text⟩
  obtain ⟨a4_list, c4_list, rfl⟩ := RdS.isSlice ⟨_, S4_list⟩
  obtain ⟨a4_seen, c4_seen, rfl⟩ := RdS.isSlice ⟨_, S4_seen⟩
  have UB4 : ∀ p ∈ (f4_text ++ (f4_list ++ f4_seen)), p.1 < w4.heap.size := Live.lt (Live.append.2 ⟨S4_text.live, Live.append.2 ⟨S4_list.live, S4_seen.live⟩⟩)
  replace FR4 : Fresh (w3.heap.size + 1) w4 (f4_text ++ (f4_list ++ f4_seen)) := FR4.mono (by first | exact Nat.le_refl _ | (simp; done) | (simp; omega))
  have K4 : Kept (f4_text ++ (f4_list ++ f4_seen)) w4 w4 := Kept.refl _ _
  have hN : Below (w3.heap.size + 1) (w3.alloc (.cells #[.int .i64 y0.client, .int .i64 y0.seq, .int .i64 y0.rev] 66)) w4 := (by repeat' (first | (with_reducible exact Below.refl _ _) | (with_reducible assumption) | (with_reducible refine Below.setCell ?_ ?_ _) | (with_reducible refine Below.alloc ?_ ?_ _) | (with_reducible refine Below.drew ?_) | (with_reducible refine belowN ?_ _) | (with_reducible refine below_after2 ?_ (by assumption) ?_) | omega | (simp; done) | (simp; omega)))
  have B4 : Below w3.heap.size w3 w4 := (by repeat' (first | (with_reducible exact Below.refl _ _) | (with_reducible assumption) | (with_reducible refine Below.setCell ?_ ?_ _) | (with_reducible refine Below.alloc ?_ ?_ _) | (with_reducible refine Below.drew ?_) | (with_reducible refine belowN ?_ _) | (with_reducible refine below_after2 ?_ (by assumption) ?_) | omega | (simp; done) | (simp; omega)))
  have s4 : w3.heap.size + 1 ≤ w4.heap.size := (by have := hb4.size; (try simp at this); omega)
  replace cp0_0 : w4.cell? ⟨w.heap.size, 0, none⟩ = some (.string x.name) := cellb B4 cp0_0
  replace cp0_1 : w4.cell? ⟨w.heap.size, 1, none⟩ = some (.int .i64 x.from_) := cellb B4 cp0_1
  replace cp0_2 : w4.cell? ⟨w.heap.size, 2, none⟩ = some (v_x_text) := cellb B4 cp0_2
  replace cp0_3 : w4.cell? ⟨w.heap.size, 3, none⟩ = some (v_x_list) := cellb B4 cp0_3
  replace cp0_4 : w4.cell? ⟨w.heap.size, 4, none⟩ = some (v_x_seen) := cellb B4 cp0_4
  have cW0_0 : w4.cell? ⟨w3.heap.size, 0, none⟩ = some (.int .i64 y0.client) := by rw [hN.cell (by simp; try omega)]; simp
  have cW0_1 : w4.cell? ⟨w3.heap.size, 1, none⟩ = some (.int .i64 y0.seq) := by rw [hN.cell (by simp; try omega)]; simp
  have cW0_2 : w4.cell? ⟨w3.heap.size, 2, none⟩ = some (.int .i64 y0.rev) := by rw [hN.cell (by simp; try omega)]; simp
  clear hN
  have z4_p0 : w.heap.size < w4.heap.size := (by omega)
  have z4_W0 : w3.heap.size < w4.heap.size := (by omega)
  clear hb4
  go_wp2_with fail
  refine (HI.out _ _ _ _ ((⟨_, S4_text.kept (K4.below (show Below w4.heap.size w4 _ from (by repeat' (first | (with_reducible exact Below.refl _ _) | (with_reducible assumption) | (with_reducible refine Below.setCell ?_ ?_ _) | (with_reducible refine Below.alloc ?_ ?_ _) | (with_reducible refine Below.drew ?_) | (with_reducible refine belowN ?_ _) | (with_reducible refine below_after2 ?_ (by assumption) ?_) | omega | (simp; done) | (simp; omega)))) (fun p hp => Nat.lt_of_lt_of_le (UB4 p hp) (by omega))) (by intro p hp; simp only [List.mem_append]; simp [hp])⟩ : RdS _ _ _)) ((⟨_, S4_list.kept (K4.below (show Below w4.heap.size w4 _ from (by repeat' (first | (with_reducible exact Below.refl _ _) | (with_reducible assumption) | (with_reducible refine Below.setCell ?_ ?_ _) | (with_reducible refine Below.alloc ?_ ?_ _) | (with_reducible refine Below.drew ?_) | (with_reducible refine belowN ?_ _) | (with_reducible refine below_after2 ?_ (by assumption) ?_) | omega | (simp; done) | (simp; omega)))) (fun p hp => Nat.lt_of_lt_of_le (UB4 p hp) (by omega))) (by intro p hp; simp only [List.mem_append]; simp [hp])⟩ : RdS _ _ _)) ((⟨_, S4_seen.kept (K4.below (show Below w4.heap.size w4 _ from (by repeat' (first | (with_reducible exact Below.refl _ _) | (with_reducible assumption) | (with_reducible refine Below.setCell ?_ ?_ _) | (with_reducible refine Below.alloc ?_ ?_ _) | (with_reducible refine Below.drew ?_) | (with_reducible refine belowN ?_ _) | (with_reducible refine below_after2 ?_ (by assumption) ?_) | omega | (simp; done) | (simp; omega)))) (fun p hp => Nat.lt_of_lt_of_le (UB4 p hp) (by omega))) (by intro p hp; simp only [List.mem_append]; simp [hp])⟩ : RdS _ _ _))).mono ?_
  rintro e w5 ⟨rfl, hb5⟩
  have hN : Below (w4.heap.size + 1) (w4.alloc (.cells #[.string x.name, .int .i64 x.from_, .slice a4_text x.text.length c4_text, .slice a4_list x.list.length c4_list, .slice a4_seen x.seen.length c4_seen] 71)) w5 := (by repeat' (first | (with_reducible exact Below.refl _ _) | (with_reducible assumption) | (with_reducible refine Below.setCell ?_ ?_ _) | (with_reducible refine Below.alloc ?_ ?_ _) | (with_reducible refine Below.drew ?_) | (with_reducible refine belowN ?_ _) | (with_reducible refine below_after2 ?_ (by assumption) ?_) | omega | (simp; done) | (simp; omega)))
  have B5 : Below w4.heap.size w4 w5 := (by repeat' (first | (with_reducible exact Below.refl _ _) | (with_reducible assumption) | (with_reducible refine Below.setCell ?_ ?_ _) | (with_reducible refine Below.alloc ?_ ?_ _) | (with_reducible refine Below.drew ?_) | (with_reducible refine belowN ?_ _) | (with_reducible refine below_after2 ?_ (by assumption) ?_) | omega | (simp; done) | (simp; omega)))
  have s5 : w4.heap.size + 1 ≤ w5.heap.size := (by have := hb5.size; (try simp at this); omega)
  replace cp0_0 : w5.cell? ⟨w.heap.size, 0, none⟩ = some (.string x.name) := cellb B5 cp0_0
  replace cp0_1 : w5.cell? ⟨w.heap.size, 1, none⟩ = some (.int .i64 x.from_) := cellb B5 cp0_1
  replace cp0_2 : w5.cell? ⟨w.heap.size, 2, none⟩ = some (v_x_text) := cellb B5 cp0_2
  replace cp0_3 : w5.cell? ⟨w.heap.size, 3, none⟩ = some (v_x_list) := cellb B5 cp0_3
  replace cp0_4 : w5.cell? ⟨w.heap.size, 4, none⟩ = some (v_x_seen) := cellb B5 cp0_4
  replace cW0_0 : w5.cell? ⟨w3.heap.size, 0, none⟩ = some (.int .i64 y0.client) := cellb B5 cW0_0
  replace cW0_1 : w5.cell? ⟨w3.heap.size, 1, none⟩ = some (.int .i64 y0.seq) := cellb B5 cW0_1
  replace cW0_2 : w5.cell? ⟨w3.heap.size, 2, none⟩ = some (.int .i64 y0.rev) := cellb B5 cW0_2
  have cxx_0 : w5.cell? ⟨w4.heap.size, 0, none⟩ = some (.string x.name) := by rw [hN.cell (by simp; try omega)]; simp
  have cxx_1 : w5.cell? ⟨w4.heap.size, 1, none⟩ = some (.int .i64 x.from_) := by rw [hN.cell (by simp; try omega)]; simp
  have cxx_2 : w5.cell? ⟨w4.heap.size, 2, none⟩ = some (.slice a4_text x.text.length c4_text) := by rw [hN.cell (by simp; try omega)]; simp
  have cxx_3 : w5.cell? ⟨w4.heap.size, 3, none⟩ = some (.slice a4_list x.list.length c4_list) := by rw [hN.cell (by simp; try omega)]; simp
  have cxx_4 : w5.cell? ⟨w4.heap.size, 4, none⟩ = some (.slice a4_seen x.seen.length c4_seen) := by rw [hN.cell (by simp; try omega)]; simp
  clear hN
  replace K4 : Kept (f4_text ++ (f4_list ++ f4_seen)) w4 w5 := K4.below B5 (fun p hp => Nat.lt_of_lt_of_le (UB4 p hp) (by omega))
  have z5_p0 : w.heap.size < w5.heap.size := (by omega)
  have z5_W0 : w3.heap.size < w5.heap.size := (by omega)
  have z5_xx : w4.heap.size < w5.heap.size := (by omega)
  clear hb5
  go_wp2_with fail
  refine (eqSeen_c y0  _ ).mono ?_
  rintro e w6 ⟨rfl, hb6⟩
  have hN : Below (w5.heap.size + 1) (w5.alloc (.cells #[.int .i64 y0.client, .int .i64 y0.seq, .int .i64 y0.rev] 66)) w6 := (by repeat' (first | (with_reducible exact Below.refl _ _) | (with_reducible assumption) | (with_reducible refine Below.setCell ?_ ?_ _) | (with_reducible refine Below.alloc ?_ ?_ _) | (with_reducible refine Below.drew ?_) | (with_reducible refine belowN ?_ _) | (with_reducible refine below_after2 ?_ (by assumption) ?_) | omega | (simp; done) | (simp; omega)))
  have B6 : Below w5.heap.size w5 w6 := (by repeat' (first | (with_reducible exact Below.refl _ _) | (with_reducible assumption) | (with_reducible refine Below.setCell ?_ ?_ _) | (with_reducible refine Below.alloc ?_ ?_ _) | (with_reducible refine Below.drew ?_) | (with_reducible refine belowN ?_ _) | (with_reducible refine below_after2 ?_ (by assumption) ?_) | omega | (simp; done) | (simp; omega)))
  have s6 : w5.heap.size + 1 ≤ w6.heap.size := (by have := hb6.size; (try simp at this); omega)
  replace cp0_0 : w6.cell? ⟨w.heap.size, 0, none⟩ = some (.string x.name) := cellb B6 cp0_0
  replace cp0_1 : w6.cell? ⟨w.heap.size, 1, none⟩ = some (.int .i64 x.from_) := cellb B6 cp0_1
  replace cp0_2 : w6.cell? ⟨w.heap.size, 2, none⟩ = some (v_x_text) := cellb B6 cp0_2
  replace cp0_3 : w6.cell? ⟨w.heap.size, 3, none⟩ = some (v_x_list) := cellb B6 cp0_3
  replace cp0_4 : w6.cell? ⟨w.heap.size, 4, none⟩ = some (v_x_seen) := cellb B6 cp0_4
  replace cW0_0 : w6.cell? ⟨w3.heap.size, 0, none⟩ = some (.int .i64 y0.client) := cellb B6 cW0_0
  replace cW0_1 : w6.cell? ⟨w3.heap.size, 1, none⟩ = some (.int .i64 y0.seq) := cellb B6 cW0_1
  replace cW0_2 : w6.cell? ⟨w3.heap.size, 2, none⟩ = some (.int .i64 y0.rev) := cellb B6 cW0_2
  replace cxx_0 : w6.cell? ⟨w4.heap.size, 0, none⟩ = some (.string x.name) := cellb B6 cxx_0
  replace cxx_1 : w6.cell? ⟨w4.heap.size, 1, none⟩ = some (.int .i64 x.from_) := cellb B6 cxx_1
  replace cxx_2 : w6.cell? ⟨w4.heap.size, 2, none⟩ = some (.slice a4_text x.text.length c4_text) := cellb B6 cxx_2
  replace cxx_3 : w6.cell? ⟨w4.heap.size, 3, none⟩ = some (.slice a4_list x.list.length c4_list) := cellb B6 cxx_3
  replace cxx_4 : w6.cell? ⟨w4.heap.size, 4, none⟩ = some (.slice a4_seen x.seen.length c4_seen) := cellb B6 cxx_4
  have cG0_0 : w6.cell? ⟨w5.heap.size, 0, none⟩ = some (.int .i64 y0.client) := by rw [hN.cell (by simp; try omega)]; simp
  have cG0_1 : w6.cell? ⟨w5.heap.size, 1, none⟩ = some (.int .i64 y0.seq) := by rw [hN.cell (by simp; try omega)]; simp
  have cG0_2 : w6.cell? ⟨w5.heap.size, 2, none⟩ = some (.int .i64 y0.rev) := by rw [hN.cell (by simp; try omega)]; simp
  clear hN
  replace K4 : Kept (f4_text ++ (f4_list ++ f4_seen)) w4 w6 := K4.below B6 (fun p hp => Nat.lt_of_lt_of_le (UB4 p hp) (by omega))
  have z6_p0 : w.heap.size < w6.heap.size := (by omega)
  have z6_W0 : w3.heap.size < w6.heap.size := (by omega)
  have z6_xx : w4.heap.size < w6.heap.size := (by omega)
  have z6_G0 : w5.heap.size < w6.heap.size := (by omega)
  clear hb6
  go_wp2_with fail
  go_region_held3 (fun w' => w'.cell? ⟨w.heap.size, 0, none⟩ = some (.string x.name) ∧ w'.cell? ⟨w.heap.size, 1, none⟩ = some (.int .i64 x.from_) ∧ w'.cell? ⟨w.heap.size, 2, none⟩ = some (v_x_text) ∧ w'.cell? ⟨w.heap.size, 3, none⟩ = some (v_x_list) ∧ w'.cell? ⟨w.heap.size, 4, none⟩ = some (v_x_seen) ∧ w'.cell? ⟨w4.heap.size, 0, none⟩ = some (.string x.name) ∧ w'.cell? ⟨w4.heap.size, 1, none⟩ = some (.int .i64 x.from_) ∧ w'.cell? ⟨w4.heap.size, 2, none⟩ = some (.slice a4_text x.text.length c4_text) ∧ w'.cell? ⟨w4.heap.size, 3, none⟩ = some (.slice a4_list x.list.length c4_list) ∧ w'.cell? ⟨w4.heap.size, 4, none⟩ = some (.slice a4_seen x.seen.length c4_seen)) (go_keep)
    (first | (go_at_call 42; refine (toDoc_c x _ _ _ _ nr_x_name (hr_x_text.below (by repeat' (first | (with_reducible exact Below.refl _ _) | (with_reducible assumption) | (with_reducible refine Below.setCell ?_ ?_ _) | (with_reducible refine Below.alloc ?_ ?_ _) | (with_reducible refine Below.drew ?_) | (with_reducible refine belowN ?_ _) | (with_reducible refine below_after2 ?_ (by assumption) ?_) | omega | (simp; done) | (simp; omega)))) (hr_x_list.below (by repeat' (first | (with_reducible exact Below.refl _ _) | (with_reducible assumption) | (with_reducible refine Below.setCell ?_ ?_ _) | (with_reducible refine Below.alloc ?_ ?_ _) | (with_reducible refine Below.drew ?_) | (with_reducible refine belowN ?_ _) | (with_reducible refine below_after2 ?_ (by assumption) ?_) | omega | (simp; done) | (simp; omega)))) (hr_x_seen.below (by repeat' (first | (with_reducible exact Below.refl _ _) | (with_reducible assumption) | (with_reducible refine Below.setCell ?_ ?_ _) | (with_reducible refine Below.alloc ?_ ?_ _) | (with_reducible refine Below.drew ?_) | (with_reducible refine belowN ?_ _) | (with_reducible refine below_after2 ?_ (by assumption) ?_) | omega | (simp; done) | (simp; omega))))).mono ?_; rintro e w7 ⟨_, rfl, ⟨fp7, ho7, FR7⟩, hb7⟩; obtain ⟨v7_text, v7_list, v7_seen, f7_text, f7_list, f7_seen, rfl, n7_name, S7_text, S7_list, S7_seen, rfl⟩ := ho7; obtain ⟨a7_text, c7_text, rfl⟩ := RdS.isSlice ⟨_, S7_text⟩; obtain ⟨a7_list, c7_list, rfl⟩ := RdS.isSlice ⟨_, S7_list⟩; obtain ⟨a7_seen, c7_seen, rfl⟩ := RdS.isSlice ⟨_, S7_seen⟩; have UB7 : ∀ p ∈ (f7_text ++ (f7_list ++ f7_seen)), p.1 < w7.heap.size := Live.lt (Live.append.2 ⟨S7_text.live, Live.append.2 ⟨S7_list.live, S7_seen.live⟩⟩); replace FR7 : Fresh (w6.heap.size) w7 (f7_text ++ (f7_list ++ f7_seen)) := FR7.mono (by first | exact Nat.le_refl _ | (simp; done) | (simp; omega)); have K7 : Kept (f7_text ++ (f7_list ++ f7_seen)) w7 w7 := Kept.refl _ _; have B7 : Below w6.heap.size w6 w7 := (by repeat' (first | (with_reducible exact Below.refl _ _) | (with_reducible assumption) | (with_reducible refine Below.setCell ?_ ?_ _) | (with_reducible refine Below.alloc ?_ ?_ _) | (with_reducible refine Below.drew ?_) | (with_reducible refine belowN ?_ _) | (with_reducible refine below_after2 ?_ (by assumption) ?_) | omega | (simp; done) | (simp; omega))); have s7 : w6.heap.size ≤ w7.heap.size := (by have := hb7.size; (try simp at this); omega); replace cp0_0 : w7.cell? ⟨w.heap.size, 0, none⟩ = some (.string x.name) := cellb B7 cp0_0; replace cp0_1 : w7.cell? ⟨w.heap.size, 1, none⟩ = some (.int .i64 x.from_) := cellb B7 cp0_1; replace cp0_2 : w7.cell? ⟨w.heap.size, 2, none⟩ = some (v_x_text) := cellb B7 cp0_2; replace cp0_3 : w7.cell? ⟨w.heap.size, 3, none⟩ = some (v_x_list) := cellb B7 cp0_3; replace cp0_4 : w7.cell? ⟨w.heap.size, 4, none⟩ = some (v_x_seen) := cellb B7 cp0_4; replace cW0_0 : w7.cell? ⟨w3.heap.size, 0, none⟩ = some (.int .i64 y0.client) := cellb B7 cW0_0; replace cW0_1 : w7.cell? ⟨w3.heap.size, 1, none⟩ = some (.int .i64 y0.seq) := cellb B7 cW0_1; replace cW0_2 : w7.cell? ⟨w3.heap.size, 2, none⟩ = some (.int .i64 y0.rev) := cellb B7 cW0_2; replace cxx_0 : w7.cell? ⟨w4.heap.size, 0, none⟩ = some (.string x.name) := cellb B7 cxx_0; replace cxx_1 : w7.cell? ⟨w4.heap.size, 1, none⟩ = some (.int .i64 x.from_) := cellb B7 cxx_1; replace cxx_2 : w7.cell? ⟨w4.heap.size, 2, none⟩ = some (.slice a4_text x.text.length c4_text) := cellb B7 cxx_2; replace cxx_3 : w7.cell? ⟨w4.heap.size, 3, none⟩ = some (.slice a4_list x.list.length c4_list) := cellb B7 cxx_3; replace cxx_4 : w7.cell? ⟨w4.heap.size, 4, none⟩ = some (.slice a4_seen x.seen.length c4_seen) := cellb B7 cxx_4; replace cG0_0 : w7.cell? ⟨w5.heap.size, 0, none⟩ = some (.int .i64 y0.client) := cellb B7 cG0_0; replace cG0_1 : w7.cell? ⟨w5.heap.size, 1, none⟩ = some (.int .i64 y0.seq) := cellb B7 cG0_1; replace cG0_2 : w7.cell? ⟨w5.heap.size, 2, none⟩ = some (.int .i64 y0.rev) := cellb B7 cG0_2; replace K4 : Kept (f4_text ++ (f4_list ++ f4_seen)) w4 w7 := K4.below B7 (fun p hp => Nat.lt_of_lt_of_le (UB4 p hp) (by omega)); have z7_p0 : w.heap.size < w7.heap.size := (by omega); have z7_W0 : w3.heap.size < w7.heap.size := (by omega); have z7_xx : w4.heap.size < w7.heap.size := (by omega); have z7_G0 : w5.heap.size < w7.heap.size := (by omega); clear hb7) | (go_at_call 45; refine (eqDoc_c x _ _ _ _ _ _ _ ((⟨_, S4_text.kept (K4.below (show Below w7.heap.size w7 _ from (by repeat' (first | (with_reducible exact Below.refl _ _) | (with_reducible assumption) | (with_reducible refine Below.setCell ?_ ?_ _) | (with_reducible refine Below.alloc ?_ ?_ _) | (with_reducible refine Below.drew ?_) | (with_reducible refine belowN ?_ _) | (with_reducible refine below_after2 ?_ (by assumption) ?_) | omega | (simp; done) | (simp; omega)))) (fun p hp => Nat.lt_of_lt_of_le (UB4 p hp) (by omega))) (by intro p hp; simp only [List.mem_append]; simp [hp])⟩ : RdS _ _ _)) ((⟨_, S7_text.kept (K7.below (show Below w7.heap.size w7 _ from (by repeat' (first | (with_reducible exact Below.refl _ _) | (with_reducible assumption) | (with_reducible refine Below.setCell ?_ ?_ _) | (with_reducible refine Below.alloc ?_ ?_ _) | (with_reducible refine Below.drew ?_) | (with_reducible refine belowN ?_ _) | (with_reducible refine below_after2 ?_ (by assumption) ?_) | omega | (simp; done) | (simp; omega)))) (fun p hp => Nat.lt_of_lt_of_le (UB7 p hp) (by omega))) (by intro p hp; simp only [List.mem_append]; simp [hp])⟩ : RdS _ _ _)) ((⟨_, S4_list.kept (K4.below (show Below w7.heap.size w7 _ from (by repeat' (first | (with_reducible exact Below.refl _ _) | (with_reducible assumption) | (with_reducible refine Below.setCell ?_ ?_ _) | (with_reducible refine Below.alloc ?_ ?_ _) | (with_reducible refine Below.drew ?_) | (with_reducible refine belowN ?_ _) | (with_reducible refine below_after2 ?_ (by assumption) ?_) | omega | (simp; done) | (simp; omega)))) (fun p hp => Nat.lt_of_lt_of_le (UB4 p hp) (by omega))) (by intro p hp; simp only [List.mem_append]; simp [hp])⟩ : RdS _ _ _)) ((⟨_, S7_list.kept (K7.below (show Below w7.heap.size w7 _ from (by repeat' (first | (with_reducible exact Below.refl _ _) | (with_reducible assumption) | (with_reducible refine Below.setCell ?_ ?_ _) | (with_reducible refine Below.alloc ?_ ?_ _) | (with_reducible refine Below.drew ?_) | (with_reducible refine belowN ?_ _) | (with_reducible refine below_after2 ?_ (by assumption) ?_) | omega | (simp; done) | (simp; omega)))) (fun p hp => Nat.lt_of_lt_of_le (UB7 p hp) (by omega))) (by intro p hp; simp only [List.mem_append]; simp [hp])⟩ : RdS _ _ _)) ((⟨_, S4_seen.kept (K4.below (show Below w7.heap.size w7 _ from (by repeat' (first | (with_reducible exact Below.refl _ _) | (with_reducible assumption) | (with_reducible refine Below.setCell ?_ ?_ _) | (with_reducible refine Below.alloc ?_ ?_ _) | (with_reducible refine Below.drew ?_) | (with_reducible refine belowN ?_ _) | (with_reducible refine below_after2 ?_ (by assumption) ?_) | omega | (simp; done) | (simp; omega)))) (fun p hp => Nat.lt_of_lt_of_le (UB4 p hp) (by omega))) (by intro p hp; simp only [List.mem_append]; simp [hp])⟩ : RdS _ _ _)) ((⟨_, S7_seen.kept (K7.below (show Below w7.heap.size w7 _ from (by repeat' (first | (with_reducible exact Below.refl _ _) | (with_reducible assumption) | (with_reducible refine Below.setCell ?_ ?_ _) | (with_reducible refine Below.alloc ?_ ?_ _) | (with_reducible refine Below.drew ?_) | (with_reducible refine belowN ?_ _) | (with_reducible refine below_after2 ?_ (by assumption) ?_) | omega | (simp; done) | (simp; omega)))) (fun p hp => Nat.lt_of_lt_of_le (UB7 p hp) (by omega))) (by intro p hp; simp only [List.mem_append]; simp [hp])⟩ : RdS _ _ _))).mono ?_; rintro e w8 ⟨rfl, hb8⟩; have B8 : Below w7.heap.size w7 w8 := (by repeat' (first | (with_reducible exact Below.refl _ _) | (with_reducible assumption) | (with_reducible refine Below.setCell ?_ ?_ _) | (with_reducible refine Below.alloc ?_ ?_ _) | (with_reducible refine Below.drew ?_) | (with_reducible refine belowN ?_ _) | (with_reducible refine below_after2 ?_ (by assumption) ?_) | omega | (simp; done) | (simp; omega))); have s8 : w7.heap.size ≤ w8.heap.size := (by have := hb8.size; (try simp at this); omega); replace cp0_0 : w8.cell? ⟨w.heap.size, 0, none⟩ = some (.string x.name) := cellb B8 cp0_0; replace cp0_1 : w8.cell? ⟨w.heap.size, 1, none⟩ = some (.int .i64 x.from_) := cellb B8 cp0_1; replace cp0_2 : w8.cell? ⟨w.heap.size, 2, none⟩ = some (v_x_text) := cellb B8 cp0_2; replace cp0_3 : w8.cell? ⟨w.heap.size, 3, none⟩ = some (v_x_list) := cellb B8 cp0_3; replace cp0_4 : w8.cell? ⟨w.heap.size, 4, none⟩ = some (v_x_seen) := cellb B8 cp0_4; replace cW0_0 : w8.cell? ⟨w3.heap.size, 0, none⟩ = some (.int .i64 y0.client) := cellb B8 cW0_0; replace cW0_1 : w8.cell? ⟨w3.heap.size, 1, none⟩ = some (.int .i64 y0.seq) := cellb B8 cW0_1; replace cW0_2 : w8.cell? ⟨w3.heap.size, 2, none⟩ = some (.int .i64 y0.rev) := cellb B8 cW0_2; replace cxx_0 : w8.cell? ⟨w4.heap.size, 0, none⟩ = some (.string x.name) := cellb B8 cxx_0; replace cxx_1 : w8.cell? ⟨w4.heap.size, 1, none⟩ = some (.int .i64 x.from_) := cellb B8 cxx_1; replace cxx_2 : w8.cell? ⟨w4.heap.size, 2, none⟩ = some (.slice a4_text x.text.length c4_text) := cellb B8 cxx_2; replace cxx_3 : w8.cell? ⟨w4.heap.size, 3, none⟩ = some (.slice a4_list x.list.length c4_list) := cellb B8 cxx_3; replace cxx_4 : w8.cell? ⟨w4.heap.size, 4, none⟩ = some (.slice a4_seen x.seen.length c4_seen) := cellb B8 cxx_4; replace cG0_0 : w8.cell? ⟨w5.heap.size, 0, none⟩ = some (.int .i64 y0.client) := cellb B8 cG0_0; replace cG0_1 : w8.cell? ⟨w5.heap.size, 1, none⟩ = some (.int .i64 y0.seq) := cellb B8 cG0_1; replace cG0_2 : w8.cell? ⟨w5.heap.size, 2, none⟩ = some (.int .i64 y0.rev) := cellb B8 cG0_2; replace K4 : Kept (f4_text ++ (f4_list ++ f4_seen)) w4 w8 := K4.below B8 (fun p hp => Nat.lt_of_lt_of_le (UB4 p hp) (by omega)); replace K7 : Kept (f7_text ++ (f7_list ++ f7_seen)) w7 w8 := K7.below B8 (fun p hp => Nat.lt_of_lt_of_le (UB7 p hp) (by omega)); have z8_p0 : w.heap.size < w8.heap.size := (by omega); have z8_W0 : w3.heap.size < w8.heap.size := (by omega); have z8_xx : w4.heap.size < w8.heap.size := (by omega); have z8_G0 : w5.heap.size < w8.heap.size := (by omega); clear hb8))
  go_wp2
  go_ret
  exact ⟨rfl, (by repeat' (first | (with_reducible exact Below.refl _ _) | (with_reducible assumption) | (with_reducible refine Below.setCell ?_ ?_ _) | (with_reducible refine Below.alloc ?_ ?_ _) | (with_reducible refine Below.drew ?_) | (with_reducible refine belowN ?_ _) | (with_reducible refine below_after2 ?_ (by assumption) ?_) | omega | (simp; done) | (simp; omega)))⟩
theorem walkc_FnExactSeenOf (x : DDoc) (v_x_text : Value) (v_x_list : Value) (v_x_seen : Value) (client : Int) (w : World) (n_x_name : x.name.size ≤ maxLen) (h_x_text : RdSM maxLen w v_x_text x.text) (h_x_list : RdSM maxLen w v_x_list x.list) (h_x_seen : RdSM maxLen w v_x_seen x.seen) (b1_client : -9223372036854775808 ≤ client) (b2_client : client ≤ 9223372036854775807) :
    Calls Try.prog 8 #[.agg #[.string x.name, .int .i64 x.from_, v_x_text, v_x_list, v_x_seen], .int .i64 client] w (Tells w (.bool true)) :=
  walk_FnExactSeenOf x v_x_text v_x_list v_x_seen client w n_x_name h_x_text h_x_list h_x_seen b1_client b2_client ((seenOf x client).1) ((seenOf x client).2) (fun _ _ _ _ _ _ W _ _ h => spec_SeenOf_c x _ _ _ client W h) (fun _ _ _ _ _ _ W _ _ h => impl_SeenOf_c x _ _ _ client W h)
namespace fnExactSeenOf
theorem own : ownKnob Try.prog.godebug = none := by kernel_rfl
theorem laidOut : laidOutB Try.prog = true := by kernel_rfl
set_option maxRecDepth 100000 in
theorem lifted (os : Os) (started : os.Started) (H : Type) (enc : TypeId × Value → H) :
    ReturnsInHanded {} Try.checked os 8 .any (Rows.fnExactSeenOfSpec.pre6 enc Try.prog Try.f8 Rows.fnExactSeenOfRow.domain false) (Rows.fnExactSeenOfSpec.post enc Try.prog Try.f8 false true false false) := by
  refine returnsInHanded_of_change (C := Try.checked) own started (by kernel_rfl) Try.func8
    (ChangeSpec.witness6 (enc := enc) (C := Try.checked) false ⟨#[], #[.agg #[.string ByteArray.empty, .int .i64 0, .slice none 0 0, .slice none 0 0, .slice none 0 0], .int .i64 0], []⟩ 8 (by kernel_rfl) (by kernel_rfl) (by kernel_rfl) (by kernel_rfl)) ?_
  intro W base args ds gs before hval0 hW hcnd _
  have hval : ∀ (j : Nat) t v, Try.f8.params[j]? = some t → args[j]? = some v → Value.okWide Try.prog W .any base t v := hval0
  have hW' := hW
  obtain ⟨p, q, hA0, hV, rfl, hfz, hnd⟩ := hW
  have hA : DataW.TrodAll enc Try.prog W 0 (fun _ => true) true Try.f8.params.toList args.toList ds p := hA0
  rw [Try.params8] at hA hval
  obtain ⟨v0, vs0, d0, ds0, p0, q0, hargs, rfl, rfl, h0, r0⟩ := trodAll_cons hA
  obtain ⟨v1, vs1, d1, ds1, p1, q1, rfl, rfl, rfl, h1, r1⟩ := trodAll_cons r0
  obtain ⟨rfl, rfl, rfl⟩ := trodAll_nil r1
  obtain rfl : args = #[v0, v1] := by cases args; simp_all
  obtain ⟨rfl, rfl⟩ := trodVars_none hV
  obtain ⟨cs0, rfl, _⟩ := okWide_struct Try.underlying63 (hval 0 63 v0 rfl rfl)
  have k0 := h0
  have lt0 : ∀ x ∈ p0, x.block < W.heap.size := by obtain ⟨m, hm⟩ := k0; exact DataW.trod_lt m _ _ _ hm
  obtain ⟨x0, m0⟩ : ∃ x : DDoc, RdM maxLen W cs0.toList x := by
    obtain ⟨fuel, hf⟩ := h0
    exact opens_DDoc _ _ _ _ _ _ _ _ hf
  obtain ⟨v_text0, v_list0, v_seen0, hc0, n_name0, m_text0, m_list0, m_seen0⟩ := invM_DDoc m0
  obtain ⟨cs0⟩ := cs0
  simp only at hc0
  subst hc0
  obtain ⟨a1, rfl, rfl, rfl, w1⟩ := open_int Try.underlying3 (hval 1 3 v1 rfl rfl) h1
  have b1 := i64_bounds w1
  clear hA0 hval0
  refine (walkc_FnExactSeenOf x0 _ _ _ a1 W n_name0 m_text0 m_list0 m_seen0 b1.1 b1.2).mono fun e W' ⟨he, bel⟩ => ?_
  subst he
  exact ⟨_, rfl, _, _, _, [], _, [], hW', trodAll_mk1 (shut_bool Try.underlying4 _), (trodAll_cons_mk (Below.trod laidOut (by kernel_rfl) (of_decide_eq_true (by kernel_rfl)) k0 bel lt0) (trodAll_cons_mk (shut_int Try.underlying3 w1) trodAll_mk0)), rfl, bel.frame _, fun h => by cases h⟩
theorem over : Rows.fnExactSeenOfRow.holds Try.pinned (OpenSpec.ofChange Rows.fnExactSeenOfSpec) :=
  OpenClaim.holds_of_wide 8 Try.f8 rfl rfl rfl rfl rfl rfl rfl ⟨rfl, rfl, rfl, rfl, rfl⟩ rfl rfl rfl rfl rfl (by kernel_rfl) Try.func8 (by kernel_rfl)
    (of_decide_eq_true (by kernel_rfl)) (by unfold Func.isWrapper; first | (rw [if_pos (by decide +kernel)]; kernel_rfl) | (rw [if_neg (by decide +kernel)]; exact ⟨rfl, rfl⟩))
    (fun os started H enc _ => lifted os started H enc)
theorem proved : Rows.FnExactSeenOfSaid := over
end fnExactSeenOf
#print axioms fnExactSeenOf.proved
end Go.Proofs.Ytdbfgolabnomgaa
