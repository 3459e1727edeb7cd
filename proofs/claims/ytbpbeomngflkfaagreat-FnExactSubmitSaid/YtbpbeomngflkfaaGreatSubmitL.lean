/- 'laws.FnExactSubmit' answers true for every input, and each argument reads afterwards as before. No conditions. -/
import Derived.Test.YtbpbeomngflkfaaGreatEz
import Derived.Test.YtbpbeomngflkfaaGreatMk
import Derived.Test.YtbpbeomngflkfaaGreatRo
import Derived.Test.YtbpbeomngflkfaaGreatCdr
import Derived.Test.YtbpbeomngflkfaaGreatRows
import Derived.Test.YtbpbeomngflkfaaGreatSus
import Derived.Test.YtbpbeomngflkfaaGreatSub
import Derived.ProofKit
import Derived.OpenShut
import Derived.ChangeMaps5
import Derived.Deep.RegionHeld3
namespace Go.Proofs.YtbpbeomngflkfaaGreat
open Go.ChangeShapes Go.WideShapes Go.ChangeAt Go.RowKit
theorem mem_pre {α : Type} {p : α} {a b c : List α} (h : p ∈ a ++ b) : p ∈ a ++ (b ++ c) := by
 simp only [List.mem_append] at *
 rcases h with h | h <;> simp [h]
theorem mem_pre3 {α : Type} {p : α} {a b c d : List α} (h : p ∈ a ++ (b ++ c)) : p ∈ a ++ (b ++ (c ++ d)) := by
 simp only [List.mem_append] at *
 rcases h with h | h | h <;> simp [h]
set_option maxHeartbeats 16000000 in
theorem walk_FnExactSubmit (x : DDoc) (xt : Value) (xl : Value) (xz : Value) (client : Int) (seq : Int) (base : Int) (o : List DPart) (v_o : Value) (w : World) (n_x_name : x.name.size ≤ maxLen) (h_x_text : RdSM maxLen w xt x.text) (h_x_list : RdSM maxLen w xl x.list) (h_x_seen : RdSM maxLen w xz x.seen) (_b1_client : -9223372036854775808 ≤ client) (_b2_client : client ≤ 9223372036854775807) (_b1_seq : -9223372036854775808 ≤ seq) (_b2_seq : seq ≤ 9223372036854775807) (_b1_base : -9223372036854775808 ≤ base) (_b2_base : base ≤ 9223372036854775807) (h_o : RdSM maxLen w v_o o) (y0 : DDoc) (y1 : Int) (y2 : Int)
 (HS0 : x.name.size ≤ BIG → -9223372036854775808 ≤ client → client ≤ 9223372036854775807 → -9223372036854775808 ≤ seq → seq ≤ 9223372036854775807 → -9223372036854775808 ≤ base → base ≤ 9223372036854775807 → ∀ (xt xl xz v_o : Value) (W : World), RdS W xt x.text → RdS W xl x.list → RdS W xz x.seen → RdS W v_o o → Calls Tryz.prog 9 #[.agg #[.string x.name, .int .i64 x.from_, xt, xl, xz], .int .i64 client, .int .i64 seq, .int .i64 base, v_o] W (Out_Doc_i_i W y0 y1 y2))
 (HI0 : x.name.size ≤ BIG → -9223372036854775808 ≤ client → client ≤ 9223372036854775807 → -9223372036854775808 ≤ seq → seq ≤ 9223372036854775807 → -9223372036854775808 ≤ base → base ≤ 9223372036854775807 → ∀ (xt xl xz v_o : Value) (W : World), RdS W xt x.text → RdS W xl x.list → RdS W xz x.seen → RdS W v_o o → Calls Tryz.prog 12 #[.agg #[.string x.name, .int .i64 x.from_, xt, xl, xz], .int .i64 client, .int .i64 seq, .int .i64 base, v_o] W (Out_Doc_i_i W y0 y1 y2))
 (HC0 : (GoS.sz x : Nat) ≤ 1048576 → (szL o : Nat) ≤ 1048576 → cntL y0.text + cntL y0.list + cntL y0.seen ≤ 1099511627776) :
 Calls Tryz.prog 3 #[.agg #[.string x.name, .int .i64 x.from_, xt, xl, xz], .int .i64 client, .int .i64 seq, .int .i64 base, v_o] w (Tells w (.bool true)) := by
 have HS1 := Lib.hid HS0
 have HI1 := Lib.hid HI0
 clear HS0 HI0
 by_cases cz_x : ((GoS.sz x : Nat) : Int) ≤ 1048576
 rotate_left
 · go_enter Tryz.func3, Tryz.ntmps3
   go_wp2_with fail
   refine (szDoc_c x _ _ _ _ _ (by omega) (by omega) n_x_name (h_x_text.below blw2) (h_x_list.below blw2) (h_x_seen.below blw2)).mono ?_
   rintro e w1 ⟨rfl, hb1⟩
   have hN : Below (w.heap.size + 1) (w.alloc (.cells #[.string x.name, .int .i64 x.from_, xt, xl, xz] 26)) w1 := blw2
   have B1 : Below w.heap.size w w1 := blw2
   have s1 : w.heap.size + 1 ≤ w1.heap.size := (by have := hb1.size; (try simp at this); omega)
   have cp0_0 : w1.cell? ⟨w.heap.size, 0, none⟩ = some (.string x.name) := by rw [hN.cell (by simp; try omega)]; simp
   have cp0_1 : w1.cell? ⟨w.heap.size, 1, none⟩ = some (.int .i64 x.from_) := by rw [hN.cell (by simp; try omega)]; simp
   have cp0_2 : w1.cell? ⟨w.heap.size, 2, none⟩ = some (xt) := by rw [hN.cell (by simp; try omega)]; simp
   have cp0_3 : w1.cell? ⟨w.heap.size, 3, none⟩ = some (xl) := by rw [hN.cell (by simp; try omega)]; simp
   have cp0_4 : w1.cell? ⟨w.heap.size, 4, none⟩ = some (xz) := by rw [hN.cell (by simp; try omega)]; simp
   clear hN
   have z1_p0 : w.heap.size < w1.heap.size := (by omega)
   clear hb1
   rw [less_neg (by omega)]
   go_wp2
   go_ret
   exact ⟨rfl, blw2⟩
 by_cases cz_o : ((szL o : Nat) : Int) ≤ 1048576 - ((GoS.sz x : Nat) : Int)
 rotate_left
 · go_enter Tryz.func3, Tryz.ntmps3
   go_wp2_with fail
   refine (szDoc_c x _ _ _ _ _ (by omega) (by omega) n_x_name (h_x_text.below blw2) (h_x_list.below blw2) (h_x_seen.below blw2)).mono ?_
   rintro e w1 ⟨rfl, hb1⟩
   have hN : Below (w.heap.size + 1) (w.alloc (.cells #[.string x.name, .int .i64 x.from_, xt, xl, xz] 26)) w1 := blw2
   have B1 : Below w.heap.size w w1 := blw2
   have s1 : w.heap.size + 1 ≤ w1.heap.size := (by have := hb1.size; (try simp at this); omega)
   have cp0_0 : w1.cell? ⟨w.heap.size, 0, none⟩ = some (.string x.name) := by rw [hN.cell (by simp; try omega)]; simp
   have cp0_1 : w1.cell? ⟨w.heap.size, 1, none⟩ = some (.int .i64 x.from_) := by rw [hN.cell (by simp; try omega)]; simp
   have cp0_2 : w1.cell? ⟨w.heap.size, 2, none⟩ = some (xt) := by rw [hN.cell (by simp; try omega)]; simp
   have cp0_3 : w1.cell? ⟨w.heap.size, 3, none⟩ = some (xl) := by rw [hN.cell (by simp; try omega)]; simp
   have cp0_4 : w1.cell? ⟨w.heap.size, 4, none⟩ = some (xz) := by rw [hN.cell (by simp; try omega)]; simp
   clear hN
   have z1_p0 : w.heap.size < w1.heap.size := (by omega)
   clear hb1
   rw [less_pos (by omega)]
   go_wp2_with fail
   refine (szPartS_c _ o  _ _ (by omega) (by omega)  (h_o.below blw2)).mono ?_
   rintro e w2 ⟨rfl, hb2⟩
   have B2 : Below w1.heap.size w1 w2 := blw2
   have s2 : w1.heap.size ≤ w2.heap.size := (by have := hb2.size; (try simp at this); omega)
   have hh := mc5 B2 cp0_0 cp0_1 cp0_2 cp0_3 cp0_4
   clear cp0_0 cp0_1 cp0_2 cp0_3 cp0_4
   obtain ⟨cp0_0, cp0_1, cp0_2, cp0_3, cp0_4⟩ := hh
   have z2_p0 : w.heap.size < w2.heap.size := (by omega)
   clear hb2
   rw [less_neg (by omega)]
   go_wp2
   go_ret
   exact ⟨rfl, blw2⟩
 have hr_x_text : RdS w xt x.text := let ⟨fp, s⟩ := h_x_text; ⟨fp, s.up (by have : GoS.sz x = x.name.size + szL x.text + szL x.list + szL x.seen := rfl; exact le_BIG (by omega))⟩
 have hr_x_list : RdS w xl x.list := let ⟨fp, s⟩ := h_x_list; ⟨fp, s.up (by have : GoS.sz x = x.name.size + szL x.text + szL x.list + szL x.seen := rfl; exact le_BIG (by omega))⟩
 have hr_x_seen : RdS w xz x.seen := let ⟨fp, s⟩ := h_x_seen; ⟨fp, s.up (by have : GoS.sz x = x.name.size + szL x.text + szL x.list + szL x.seen := rfl; exact le_BIG (by omega))⟩
 have nr_x_name : x.name.size ≤ BIG := by have : GoS.sz x = x.name.size + szL x.text + szL x.list + szL x.seen := rfl; exact le_BIG (by omega)
 have cx_x : cntL x.text + cntL x.list + cntL x.seen ≤ 5 * 1048576 := by have : GoS.sz x = x.name.size + szL x.text + szL x.list + szL x.seen := rfl; have := cntL_le x.text; have := cntL_le x.list; have := cntL_le x.seen; omega
 have hr_o : RdS w v_o o := let ⟨fp, s⟩ := h_o; ⟨fp, s.up (by exact le_BIG (by omega))⟩
 have HS := Lib.hid (HS1.out nr_x_name _b1_client _b2_client _b1_seq _b2_seq _b1_base _b2_base)
 have HI := Lib.hid (HI1.out nr_x_name _b1_client _b2_client _b1_seq _b2_seq _b1_base _b2_base)
 clear HS1 HI1
 have hcnt : cntL y0.text + cntL y0.list + cntL y0.seen ≤ 1099511627776 := HC0 (by omega) (by omega)
 clear HC0
 have cx_o : cntL o ≤ 5 * 1048576 := by have := cntL_le o; omega
 go_enter Tryz.func3, Tryz.ntmps3
 go_wp2_with fail
 refine (szDoc_c x _ _ _ _ _ (by omega) (by omega) n_x_name (h_x_text.below blw2) (h_x_list.below blw2) (h_x_seen.below blw2)).mono ?_
 rintro e w1 ⟨rfl, hb1⟩
 have hN : Below (w.heap.size + 1) (w.alloc (.cells #[.string x.name, .int .i64 x.from_, xt, xl, xz] 26)) w1 := blw2
 have B1 : Below w.heap.size w w1 := blw2
 have s1 : w.heap.size + 1 ≤ w1.heap.size := (by have := hb1.size; (try simp at this); omega)
 have cp0_0 : w1.cell? ⟨w.heap.size, 0, none⟩ = some (.string x.name) := by rw [hN.cell (by simp; try omega)]; simp
 have cp0_1 : w1.cell? ⟨w.heap.size, 1, none⟩ = some (.int .i64 x.from_) := by rw [hN.cell (by simp; try omega)]; simp
 have cp0_2 : w1.cell? ⟨w.heap.size, 2, none⟩ = some (xt) := by rw [hN.cell (by simp; try omega)]; simp
 have cp0_3 : w1.cell? ⟨w.heap.size, 3, none⟩ = some (xl) := by rw [hN.cell (by simp; try omega)]; simp
 have cp0_4 : w1.cell? ⟨w.heap.size, 4, none⟩ = some (xz) := by rw [hN.cell (by simp; try omega)]; simp
 clear hN
 have z1_p0 : w.heap.size < w1.heap.size := (by omega)
 clear hb1
 rw [less_pos (by omega)]
 go_wp2_with fail
 refine (szPartS_c _ o  _ _ (by omega) (by omega)  (h_o.below blw2)).mono ?_
 rintro e w2 ⟨rfl, hb2⟩
 have B2 : Below w1.heap.size w1 w2 := blw2
 have s2 : w1.heap.size ≤ w2.heap.size := (by have := hb2.size; (try simp at this); omega)
 have hh := mc5 B2 cp0_0 cp0_1 cp0_2 cp0_3 cp0_4
 clear cp0_0 cp0_1 cp0_2 cp0_3 cp0_4
 obtain ⟨cp0_0, cp0_1, cp0_2, cp0_3, cp0_4⟩ := hh
 have z2_p0 : w.heap.size < w2.heap.size := (by omega)
 clear hb2
 rw [less_pos (by omega)]
 go_wp2_with fail
 refine (toDoc_c x _ _ _ _ nr_x_name (hr_x_text.below blw2) (hr_x_list.below blw2) (hr_x_seen.below blw2)).mono ?_
 rintro e w3 ⟨_, rfl, ⟨fp3, ho3, FR3⟩, hb3⟩
 obtain ⟨v3_text, v3_list, v3_seen, f3_text, f3_list, f3_seen, rfl, n3_name, S3_text, S3_list, S3_seen, rfl⟩ := ho3
 obtain ⟨a3_text, c3_text, rfl⟩ := RdS.isSlice ⟨_, S3_text⟩
 obtain ⟨a3_list, c3_list, rfl⟩ := RdS.isSlice ⟨_, S3_list⟩
 obtain ⟨a3_seen, c3_seen, rfl⟩ := RdS.isSlice ⟨_, S3_seen⟩
 have UB3 : ∀ p ∈ (f3_text ++ (f3_list ++ f3_seen)), p.1 < w3.heap.size := Live.lt (Live.append.2 ⟨S3_text.live, Live.append.2 ⟨S3_list.live, S3_seen.live⟩⟩)
 replace FR3 : Fresh (w2.heap.size) w3 (f3_text ++ (f3_list ++ f3_seen)) := FR3.mono (by first | exact Nat.le_refl _ | (simp; done) | (simp; omega))
 have K3 : Kept (f3_text ++ (f3_list ++ f3_seen)) w3 w3 := Kept.refl _ _
 have B3 : Below w2.heap.size w2 w3 := blw2
 have s3 : w2.heap.size ≤ w3.heap.size := (by have := hb3.size; (try simp at this); omega)
 have hh := mc5 B3 cp0_0 cp0_1 cp0_2 cp0_3 cp0_4
 clear cp0_0 cp0_1 cp0_2 cp0_3 cp0_4
 obtain ⟨cp0_0, cp0_1, cp0_2, cp0_3, cp0_4⟩ := hh
 have z3_p0 : w.heap.size < w3.heap.size := (by omega)
 clear hb3
 go_wp2_with fail
 refine (toPartS_c _ o _ (hr_o.below blw2)).mono ?_
 rintro e w4 ⟨v4_o, rfl, ⟨f4_o, S4_o, FR4⟩, hb4⟩
 have UB4 : ∀ p ∈ f4_o, p.1 < w4.heap.size := Live.lt (S4_o.live)
 replace FR4 : Fresh (w3.heap.size) w4 f4_o := FR4.mono (by first | exact Nat.le_refl _ | (simp; done) | (simp; omega))
 have K4 : Kept f4_o w4 w4 := Kept.refl _ _
 have B4 : Below w3.heap.size w3 w4 := blw2
 have s4 : w3.heap.size ≤ w4.heap.size := (by have := hb4.size; (try simp at this); omega)
 have hh := mc5 B4 cp0_0 cp0_1 cp0_2 cp0_3 cp0_4
 clear cp0_0 cp0_1 cp0_2 cp0_3 cp0_4
 obtain ⟨cp0_0, cp0_1, cp0_2, cp0_3, cp0_4⟩ := hh
 replace K3 : Kept (f3_text ++ (f3_list ++ f3_seen)) w3 w4 := K3.below B4 (fun p hp => Nat.lt_of_lt_of_le (UB3 p hp) (by omega))
 have z4_p0 : w.heap.size < w4.heap.size := (by omega)
 clear hb4
 go_wp2_with fail
 refine (HS.out _ _ _ _ _ ((⟨_, S3_text.kept (K3.below (show Below w4.heap.size w4 _ from blw2) (fun p hp => Nat.lt_of_lt_of_le (UB3 p hp) (by omega))) (by intro p hp; simp only [List.mem_append]; simp [hp])⟩ : RdS _ _ _)) ((⟨_, S3_list.kept (K3.below (show Below w4.heap.size w4 _ from blw2) (fun p hp => Nat.lt_of_lt_of_le (UB3 p hp) (by omega))) (by intro p hp; simp only [List.mem_append]; simp [hp])⟩ : RdS _ _ _)) ((⟨_, S3_seen.kept (K3.below (show Below w4.heap.size w4 _ from blw2) (fun p hp => Nat.lt_of_lt_of_le (UB3 p hp) (by omega))) (by intro p hp; simp only [List.mem_append]; simp [hp])⟩ : RdS _ _ _)) ((⟨_, S4_o.kept (K4.below (show Below w4.heap.size w4 _ from blw2) (fun p hp => Nat.lt_of_lt_of_le (UB4 p hp) (by omega))) (fun _ h => h)⟩ : RdS _ _ _))).mono ?_
 rintro e w5 ⟨v5_0_text, v5_0_list, v5_0_seen, f5_0_text, f5_0_list, f5_0_seen, rfl, S5_0_text, S5_0_list, S5_0_seen, n5_0_name, FR5, hb5⟩
 obtain ⟨a5_0_text, c5_0_text, rfl⟩ := RdS.isSlice ⟨_, S5_0_text⟩
 obtain ⟨a5_0_list, c5_0_list, rfl⟩ := RdS.isSlice ⟨_, S5_0_list⟩
 obtain ⟨a5_0_seen, c5_0_seen, rfl⟩ := RdS.isSlice ⟨_, S5_0_seen⟩
 have UB5 : ∀ p ∈ (f5_0_text ++ (f5_0_list ++ f5_0_seen)), p.1 < w5.heap.size := Live.lt (Live.append.2 ⟨S5_0_text.live, Live.append.2 ⟨S5_0_list.live, S5_0_seen.live⟩⟩)
 replace FR5 : Fresh (w4.heap.size) w5 (f5_0_text ++ (f5_0_list ++ f5_0_seen)) := FR5.mono (by first | exact Nat.le_refl _ | (simp; done) | (simp; omega))
 have K5 : Kept (f5_0_text ++ (f5_0_list ++ f5_0_seen)) w5 w5 := Kept.refl _ _
 have B5 : Below w4.heap.size w4 w5 := blw2
 have s5 : w4.heap.size ≤ w5.heap.size := (by have := hb5.size; (try simp at this); omega)
 have hh := mc5 B5 cp0_0 cp0_1 cp0_2 cp0_3 cp0_4
 clear cp0_0 cp0_1 cp0_2 cp0_3 cp0_4
 obtain ⟨cp0_0, cp0_1, cp0_2, cp0_3, cp0_4⟩ := hh
 replace K3 : Kept (f3_text ++ (f3_list ++ f3_seen)) w3 w5 := K3.below B5 (fun p hp => Nat.lt_of_lt_of_le (UB3 p hp) (by omega))
 replace K4 : Kept f4_o w4 w5 := K4.below B5 (fun p hp => Nat.lt_of_lt_of_le (UB4 p hp) (by omega))
 have z5_p0 : w.heap.size < w5.heap.size := (by omega)
 clear hb5
 go_wp2_with fail
 refine (toDoc_c x _ _ _ _ nr_x_name (hr_x_text.below blw2) (hr_x_list.below blw2) (hr_x_seen.below blw2)).mono ?_
 rintro e w6 ⟨_, rfl, ⟨fp6, ho6, FR6⟩, hb6⟩
 obtain ⟨v6_text, v6_list, v6_seen, f6_text, f6_list, f6_seen, rfl, n6_name, S6_text, S6_list, S6_seen, rfl⟩ := ho6
 obtain ⟨a6_text, c6_text, rfl⟩ := RdS.isSlice ⟨_, S6_text⟩
 obtain ⟨a6_list, c6_list, rfl⟩ := RdS.isSlice ⟨_, S6_list⟩
 obtain ⟨a6_seen, c6_seen, rfl⟩ := RdS.isSlice ⟨_, S6_seen⟩
 have UB6 : ∀ p ∈ (f6_text ++ (f6_list ++ f6_seen)), p.1 < w6.heap.size := Live.lt (Live.append.2 ⟨S6_text.live, Live.append.2 ⟨S6_list.live, S6_seen.live⟩⟩)
 replace FR6 : Fresh (w5.heap.size + 1) w6 (f6_text ++ (f6_list ++ f6_seen)) := FR6.mono (by first | exact Nat.le_refl _ | (simp; done) | (simp; omega))
 have K6 : Kept (f6_text ++ (f6_list ++ f6_seen)) w6 w6 := Kept.refl _ _
 have hN : Below (w5.heap.size + 1) (w5.alloc (.cells #[.string y0.name, .int .i64 y0.from_, .slice a5_0_text y0.text.length c5_0_text, .slice a5_0_list y0.list.length c5_0_list, .slice a5_0_seen y0.seen.length c5_0_seen] 33)) w6 := blw2
 have B6 : Below w5.heap.size w5 w6 := blw2
 have s6 : w5.heap.size + 1 ≤ w6.heap.size := (by have := hb6.size; (try simp at this); omega)
 have hh := mc5 B6 cp0_0 cp0_1 cp0_2 cp0_3 cp0_4
 clear cp0_0 cp0_1 cp0_2 cp0_3 cp0_4
 obtain ⟨cp0_0, cp0_1, cp0_2, cp0_3, cp0_4⟩ := hh
 have cW0_0 : w6.cell? ⟨w5.heap.size, 0, none⟩ = some (.string y0.name) := by rw [hN.cell (by simp; try omega)]; simp
 have cW0_1 : w6.cell? ⟨w5.heap.size, 1, none⟩ = some (.int .i64 y0.from_) := by rw [hN.cell (by simp; try omega)]; simp
 have cW0_2 : w6.cell? ⟨w5.heap.size, 2, none⟩ = some (.slice a5_0_text y0.text.length c5_0_text) := by rw [hN.cell (by simp; try omega)]; simp
 have cW0_3 : w6.cell? ⟨w5.heap.size, 3, none⟩ = some (.slice a5_0_list y0.list.length c5_0_list) := by rw [hN.cell (by simp; try omega)]; simp
 have cW0_4 : w6.cell? ⟨w5.heap.size, 4, none⟩ = some (.slice a5_0_seen y0.seen.length c5_0_seen) := by rw [hN.cell (by simp; try omega)]; simp
 clear hN
 replace K5 : Kept (f5_0_text ++ (f5_0_list ++ f5_0_seen)) w5 w6 := K5.below B6 (fun p hp => Nat.lt_of_lt_of_le (UB5 p hp) (by omega))
 have z6_p0 : w.heap.size < w6.heap.size := (by omega)
 have z6_W0 : w5.heap.size < w6.heap.size := (by omega)
 clear hb6
 go_wp2_with fail
 refine (toPartS_c _ o _ (hr_o.below blw2)).mono ?_
 rintro e w7 ⟨v7_o, rfl, ⟨f7_o, S7_o, FR7⟩, hb7⟩
 have UB7 : ∀ p ∈ f7_o, p.1 < w7.heap.size := Live.lt (S7_o.live)
 replace FR7 : Fresh (w6.heap.size + 1) w7 f7_o := FR7.mono (by first | exact Nat.le_refl _ | (simp; done) | (simp; omega))
 have K7 : Kept f7_o w7 w7 := Kept.refl _ _
 have hN : Below (w6.heap.size + 1) (w6.alloc (.cells #[.string x.name, .int .i64 x.from_, .slice a6_text x.text.length c6_text, .slice a6_list x.list.length c6_list, .slice a6_seen x.seen.length c6_seen] 33)) w7 := blw2
 have B7 : Below w6.heap.size w6 w7 := blw2
 have s7 : w6.heap.size + 1 ≤ w7.heap.size := (by have := hb7.size; (try simp at this); omega)
 have hh := mc8 B7 cp0_0 cp0_1 cp0_2 cp0_3 cp0_4 cW0_0 cW0_1 cW0_2
 clear cp0_0 cp0_1 cp0_2 cp0_3 cp0_4 cW0_0 cW0_1 cW0_2
 obtain ⟨cp0_0, cp0_1, cp0_2, cp0_3, cp0_4, cW0_0, cW0_1, cW0_2⟩ := hh
 have hh := mc2 B7 cW0_3 cW0_4
 clear cW0_3 cW0_4
 obtain ⟨cW0_3, cW0_4⟩ := hh
 have cxx_0 : w7.cell? ⟨w6.heap.size, 0, none⟩ = some (.string x.name) := by rw [hN.cell (by simp; try omega)]; simp
 have cxx_1 : w7.cell? ⟨w6.heap.size, 1, none⟩ = some (.int .i64 x.from_) := by rw [hN.cell (by simp; try omega)]; simp
 have cxx_2 : w7.cell? ⟨w6.heap.size, 2, none⟩ = some (.slice a6_text x.text.length c6_text) := by rw [hN.cell (by simp; try omega)]; simp
 have cxx_3 : w7.cell? ⟨w6.heap.size, 3, none⟩ = some (.slice a6_list x.list.length c6_list) := by rw [hN.cell (by simp; try omega)]; simp
 have cxx_4 : w7.cell? ⟨w6.heap.size, 4, none⟩ = some (.slice a6_seen x.seen.length c6_seen) := by rw [hN.cell (by simp; try omega)]; simp
 clear hN
 replace K5 : Kept (f5_0_text ++ (f5_0_list ++ f5_0_seen)) w5 w7 := K5.below B7 (fun p hp => Nat.lt_of_lt_of_le (UB5 p hp) (by omega))
 replace K6 : Kept (f6_text ++ (f6_list ++ f6_seen)) w6 w7 := K6.below B7 (fun p hp => Nat.lt_of_lt_of_le (UB6 p hp) (by omega))
 have z7_p0 : w.heap.size < w7.heap.size := (by omega)
 have z7_W0 : w5.heap.size < w7.heap.size := (by omega)
 have z7_xx : w6.heap.size < w7.heap.size := (by omega)
 clear hb7
 go_wp2_with fail
 refine (HI.out _ _ _ _ _ ((⟨_, S6_text.kept (K6.below (show Below w7.heap.size w7 _ from blw2) (fun p hp => Nat.lt_of_lt_of_le (UB6 p hp) (by omega))) (by intro p hp; simp only [List.mem_append]; simp [hp])⟩ : RdS _ _ _)) ((⟨_, S6_list.kept (K6.below (show Below w7.heap.size w7 _ from blw2) (fun p hp => Nat.lt_of_lt_of_le (UB6 p hp) (by omega))) (by intro p hp; simp only [List.mem_append]; simp [hp])⟩ : RdS _ _ _)) ((⟨_, S6_seen.kept (K6.below (show Below w7.heap.size w7 _ from blw2) (fun p hp => Nat.lt_of_lt_of_le (UB6 p hp) (by omega))) (by intro p hp; simp only [List.mem_append]; simp [hp])⟩ : RdS _ _ _)) ((⟨_, S7_o.kept (K7.below (show Below w7.heap.size w7 _ from blw2) (fun p hp => Nat.lt_of_lt_of_le (UB7 p hp) (by omega))) (fun _ h => h)⟩ : RdS _ _ _))).mono ?_
 rintro e w8 ⟨v8_0_text, v8_0_list, v8_0_seen, f8_0_text, f8_0_list, f8_0_seen, rfl, S8_0_text, S8_0_list, S8_0_seen, n8_0_name, FR8, hb8⟩
 obtain ⟨a8_0_text, c8_0_text, rfl⟩ := RdS.isSlice ⟨_, S8_0_text⟩
 obtain ⟨a8_0_list, c8_0_list, rfl⟩ := RdS.isSlice ⟨_, S8_0_list⟩
 obtain ⟨a8_0_seen, c8_0_seen, rfl⟩ := RdS.isSlice ⟨_, S8_0_seen⟩
 have UB8 : ∀ p ∈ (f8_0_text ++ (f8_0_list ++ f8_0_seen)), p.1 < w8.heap.size := Live.lt (Live.append.2 ⟨S8_0_text.live, Live.append.2 ⟨S8_0_list.live, S8_0_seen.live⟩⟩)
 replace FR8 : Fresh (w7.heap.size) w8 (f8_0_text ++ (f8_0_list ++ f8_0_seen)) := FR8.mono (by first | exact Nat.le_refl _ | (simp; done) | (simp; omega))
 have K8 : Kept (f8_0_text ++ (f8_0_list ++ f8_0_seen)) w8 w8 := Kept.refl _ _
 have B8 : Below w7.heap.size w7 w8 := blw2
 have s8 : w7.heap.size ≤ w8.heap.size := (by have := hb8.size; (try simp at this); omega)
 have hh := mc8 B8 cp0_0 cp0_1 cp0_2 cp0_3 cp0_4 cW0_0 cW0_1 cW0_2
 clear cp0_0 cp0_1 cp0_2 cp0_3 cp0_4 cW0_0 cW0_1 cW0_2
 obtain ⟨cp0_0, cp0_1, cp0_2, cp0_3, cp0_4, cW0_0, cW0_1, cW0_2⟩ := hh
 have hh := mc7 B8 cW0_3 cW0_4 cxx_0 cxx_1 cxx_2 cxx_3 cxx_4
 clear cW0_3 cW0_4 cxx_0 cxx_1 cxx_2 cxx_3 cxx_4
 obtain ⟨cW0_3, cW0_4, cxx_0, cxx_1, cxx_2, cxx_3, cxx_4⟩ := hh
 replace K5 : Kept (f5_0_text ++ (f5_0_list ++ f5_0_seen)) w5 w8 := K5.below B8 (fun p hp => Nat.lt_of_lt_of_le (UB5 p hp) (by omega))
 replace K6 : Kept (f6_text ++ (f6_list ++ f6_seen)) w6 w8 := K6.below B8 (fun p hp => Nat.lt_of_lt_of_le (UB6 p hp) (by omega))
 replace K7 : Kept f7_o w7 w8 := K7.below B8 (fun p hp => Nat.lt_of_lt_of_le (UB7 p hp) (by omega))
 have z8_p0 : w.heap.size < w8.heap.size := (by omega)
 have z8_W0 : w5.heap.size < w8.heap.size := (by omega)
 have z8_xx : w6.heap.size < w8.heap.size := (by omega)
 clear hb8
 go_wp2_with fail
 refine (eqDoc_c y0 _ _ _ _ _ _ _ ((⟨_, S8_0_text.kept (K8.below (show Below w8.heap.size w8 _ from blw2) (fun p hp => Nat.lt_of_lt_of_le (UB8 p hp) (by omega))) (by intro p hp; simp only [List.mem_append]; simp [hp])⟩ : RdS _ _ _)) ((⟨_, S5_0_text.kept (K5.below (show Below w8.heap.size w8 _ from blw2) (fun p hp => Nat.lt_of_lt_of_le (UB5 p hp) (by omega))) (by intro p hp; simp only [List.mem_append]; simp [hp])⟩ : RdS _ _ _)) ((⟨_, S8_0_list.kept (K8.below (show Below w8.heap.size w8 _ from blw2) (fun p hp => Nat.lt_of_lt_of_le (UB8 p hp) (by omega))) (by intro p hp; simp only [List.mem_append]; simp [hp])⟩ : RdS _ _ _)) ((⟨_, S5_0_list.kept (K5.below (show Below w8.heap.size w8 _ from blw2) (fun p hp => Nat.lt_of_lt_of_le (UB5 p hp) (by omega))) (by intro p hp; simp only [List.mem_append]; simp [hp])⟩ : RdS _ _ _)) ((⟨_, S8_0_seen.kept (K8.below (show Below w8.heap.size w8 _ from blw2) (fun p hp => Nat.lt_of_lt_of_le (UB8 p hp) (by omega))) (by intro p hp; simp only [List.mem_append]; simp [hp])⟩ : RdS _ _ _)) ((⟨_, S5_0_seen.kept (K5.below (show Below w8.heap.size w8 _ from blw2) (fun p hp => Nat.lt_of_lt_of_le (UB5 p hp) (by omega))) (by intro p hp; simp only [List.mem_append]; simp [hp])⟩ : RdS _ _ _))).mono ?_
 rintro e w9 ⟨rfl, hb9⟩
 have hN : Below (w8.heap.size + 1) (w8.alloc (.cells #[.string y0.name, .int .i64 y0.from_, .slice a8_0_text y0.text.length c8_0_text, .slice a8_0_list y0.list.length c8_0_list, .slice a8_0_seen y0.seen.length c8_0_seen] 33)) w9 := blw2
 have B9 : Below w8.heap.size w8 w9 := blw2
 have s9 : w8.heap.size + 1 ≤ w9.heap.size := (by have := hb9.size; (try simp at this); omega)
 have hh := mc8 B9 cp0_0 cp0_1 cp0_2 cp0_3 cp0_4 cW0_0 cW0_1 cW0_2
 clear cp0_0 cp0_1 cp0_2 cp0_3 cp0_4 cW0_0 cW0_1 cW0_2
 obtain ⟨cp0_0, cp0_1, cp0_2, cp0_3, cp0_4, cW0_0, cW0_1, cW0_2⟩ := hh
 have hh := mc7 B9 cW0_3 cW0_4 cxx_0 cxx_1 cxx_2 cxx_3 cxx_4
 clear cW0_3 cW0_4 cxx_0 cxx_1 cxx_2 cxx_3 cxx_4
 obtain ⟨cW0_3, cW0_4, cxx_0, cxx_1, cxx_2, cxx_3, cxx_4⟩ := hh
 have cG0_0 : w9.cell? ⟨w8.heap.size, 0, none⟩ = some (.string y0.name) := by rw [hN.cell (by simp; try omega)]; simp
 have cG0_1 : w9.cell? ⟨w8.heap.size, 1, none⟩ = some (.int .i64 y0.from_) := by rw [hN.cell (by simp; try omega)]; simp
 have cG0_2 : w9.cell? ⟨w8.heap.size, 2, none⟩ = some (.slice a8_0_text y0.text.length c8_0_text) := by rw [hN.cell (by simp; try omega)]; simp
 have cG0_3 : w9.cell? ⟨w8.heap.size, 3, none⟩ = some (.slice a8_0_list y0.list.length c8_0_list) := by rw [hN.cell (by simp; try omega)]; simp
 have cG0_4 : w9.cell? ⟨w8.heap.size, 4, none⟩ = some (.slice a8_0_seen y0.seen.length c8_0_seen) := by rw [hN.cell (by simp; try omega)]; simp
 clear hN
 replace K5 : Kept (f5_0_text ++ (f5_0_list ++ f5_0_seen)) w5 w9 := K5.below B9 (fun p hp => Nat.lt_of_lt_of_le (UB5 p hp) (by omega))
 replace K6 : Kept (f6_text ++ (f6_list ++ f6_seen)) w6 w9 := K6.below B9 (fun p hp => Nat.lt_of_lt_of_le (UB6 p hp) (by omega))
 replace K7 : Kept f7_o w7 w9 := K7.below B9 (fun p hp => Nat.lt_of_lt_of_le (UB7 p hp) (by omega))
 replace K8 : Kept (f8_0_text ++ (f8_0_list ++ f8_0_seen)) w8 w9 := K8.below B9 (fun p hp => Nat.lt_of_lt_of_le (UB8 p hp) (by omega))
 have z9_p0 : w.heap.size < w9.heap.size := (by omega)
 have z9_W0 : w5.heap.size < w9.heap.size := (by omega)
 have z9_xx : w6.heap.size < w9.heap.size := (by omega)
 have z9_G0 : w8.heap.size < w9.heap.size := (by omega)
 clear hb9
 go_wp2_with fail
 go_region_held3 (fun w' => w'.cell? ⟨w.heap.size, 0, none⟩ = some (.string x.name) ∧ w'.cell? ⟨w.heap.size, 1, none⟩ = some (.int .i64 x.from_) ∧ w'.cell? ⟨w.heap.size, 2, none⟩ = some (xt) ∧ w'.cell? ⟨w.heap.size, 3, none⟩ = some (xl) ∧ w'.cell? ⟨w.heap.size, 4, none⟩ = some (xz) ∧ w'.cell? ⟨w6.heap.size, 0, none⟩ = some (.string x.name) ∧ w'.cell? ⟨w6.heap.size, 1, none⟩ = some (.int .i64 x.from_) ∧ w'.cell? ⟨w6.heap.size, 2, none⟩ = some (.slice a6_text x.text.length c6_text) ∧ w'.cell? ⟨w6.heap.size, 3, none⟩ = some (.slice a6_list x.list.length c6_list) ∧ w'.cell? ⟨w6.heap.size, 4, none⟩ = some (.slice a6_seen x.seen.length c6_seen)) (go_keep)
  (first | (go_at_call 10; refine (toDoc_c x _ _ _ _ nr_x_name (hr_x_text.below blw2) (hr_x_list.below blw2) (hr_x_seen.below blw2)).mono ?_; rintro e w10 ⟨_, rfl, ⟨fp10, ho10, FR10⟩, hb10⟩; obtain ⟨v10_text, v10_list, v10_seen, f10_text, f10_list, f10_seen, rfl, n10_name, S10_text, S10_list, S10_seen, rfl⟩ := ho10; obtain ⟨a10_text, c10_text, rfl⟩ := RdS.isSlice ⟨_, S10_text⟩; obtain ⟨a10_list, c10_list, rfl⟩ := RdS.isSlice ⟨_, S10_list⟩; obtain ⟨a10_seen, c10_seen, rfl⟩ := RdS.isSlice ⟨_, S10_seen⟩; have UB10 : ∀ p ∈ (f10_text ++ (f10_list ++ f10_seen)), p.1 < w10.heap.size := Live.lt (Live.append.2 ⟨S10_text.live, Live.append.2 ⟨S10_list.live, S10_seen.live⟩⟩); replace FR10 : Fresh (w9.heap.size) w10 (f10_text ++ (f10_list ++ f10_seen)) := FR10.mono (by first | exact Nat.le_refl _ | (simp; done) | (simp; omega)); have K10 : Kept (f10_text ++ (f10_list ++ f10_seen)) w10 w10 := Kept.refl _ _; have B10 : Below w9.heap.size w9 w10 := blw2; have s10 : w9.heap.size ≤ w10.heap.size := (by have := hb10.size; (try simp at this); omega); replace cp0_0 : w10.cell? ⟨w.heap.size, 0, none⟩ = some (.string x.name) := cellb B10 cp0_0; replace cp0_1 : w10.cell? ⟨w.heap.size, 1, none⟩ = some (.int .i64 x.from_) := cellb B10 cp0_1; replace cp0_2 : w10.cell? ⟨w.heap.size, 2, none⟩ = some (xt) := cellb B10 cp0_2; replace cp0_3 : w10.cell? ⟨w.heap.size, 3, none⟩ = some (xl) := cellb B10 cp0_3; replace cp0_4 : w10.cell? ⟨w.heap.size, 4, none⟩ = some (xz) := cellb B10 cp0_4; replace cW0_0 : w10.cell? ⟨w5.heap.size, 0, none⟩ = some (.string y0.name) := cellb B10 cW0_0; replace cW0_1 : w10.cell? ⟨w5.heap.size, 1, none⟩ = some (.int .i64 y0.from_) := cellb B10 cW0_1; replace cW0_2 : w10.cell? ⟨w5.heap.size, 2, none⟩ = some (.slice a5_0_text y0.text.length c5_0_text) := cellb B10 cW0_2; replace cW0_3 : w10.cell? ⟨w5.heap.size, 3, none⟩ = some (.slice a5_0_list y0.list.length c5_0_list) := cellb B10 cW0_3; replace cW0_4 : w10.cell? ⟨w5.heap.size, 4, none⟩ = some (.slice a5_0_seen y0.seen.length c5_0_seen) := cellb B10 cW0_4; replace cxx_0 : w10.cell? ⟨w6.heap.size, 0, none⟩ = some (.string x.name) := cellb B10 cxx_0; replace cxx_1 : w10.cell? ⟨w6.heap.size, 1, none⟩ = some (.int .i64 x.from_) := cellb B10 cxx_1; replace cxx_2 : w10.cell? ⟨w6.heap.size, 2, none⟩ = some (.slice a6_text x.text.length c6_text) := cellb B10 cxx_2; replace cxx_3 : w10.cell? ⟨w6.heap.size, 3, none⟩ = some (.slice a6_list x.list.length c6_list) := cellb B10 cxx_3; replace cxx_4 : w10.cell? ⟨w6.heap.size, 4, none⟩ = some (.slice a6_seen x.seen.length c6_seen) := cellb B10 cxx_4; replace cG0_0 : w10.cell? ⟨w8.heap.size, 0, none⟩ = some (.string y0.name) := cellb B10 cG0_0; replace cG0_1 : w10.cell? ⟨w8.heap.size, 1, none⟩ = some (.int .i64 y0.from_) := cellb B10 cG0_1; replace cG0_2 : w10.cell? ⟨w8.heap.size, 2, none⟩ = some (.slice a8_0_text y0.text.length c8_0_text) := cellb B10 cG0_2; replace cG0_3 : w10.cell? ⟨w8.heap.size, 3, none⟩ = some (.slice a8_0_list y0.list.length c8_0_list) := cellb B10 cG0_3; replace cG0_4 : w10.cell? ⟨w8.heap.size, 4, none⟩ = some (.slice a8_0_seen y0.seen.length c8_0_seen) := cellb B10 cG0_4; replace K5 : Kept (f5_0_text ++ (f5_0_list ++ f5_0_seen)) w5 w10 := K5.below B10 (fun p hp => Nat.lt_of_lt_of_le (UB5 p hp) (by omega)); replace K6 : Kept (f6_text ++ (f6_list ++ f6_seen)) w6 w10 := K6.below B10 (fun p hp => Nat.lt_of_lt_of_le (UB6 p hp) (by omega)); replace K7 : Kept f7_o w7 w10 := K7.below B10 (fun p hp => Nat.lt_of_lt_of_le (UB7 p hp) (by omega)); replace K8 : Kept (f8_0_text ++ (f8_0_list ++ f8_0_seen)) w8 w10 := K8.below B10 (fun p hp => Nat.lt_of_lt_of_le (UB8 p hp) (by omega)); have z10_p0 : w.heap.size < w10.heap.size := (by omega); have z10_W0 : w5.heap.size < w10.heap.size := (by omega); have z10_xx : w6.heap.size < w10.heap.size := (by omega); have z10_G0 : w8.heap.size < w10.heap.size := (by omega); clear hb10) | (go_at_call 13; refine (eqDoc_c x _ _ _ _ _ _ _ ((⟨_, S6_text.kept (K6.below (show Below w10.heap.size w10 _ from blw2) (fun p hp => Nat.lt_of_lt_of_le (UB6 p hp) (by omega))) (by intro p hp; simp only [List.mem_append]; simp [hp])⟩ : RdS _ _ _)) ((⟨_, S10_text.kept (K10.below (show Below w10.heap.size w10 _ from blw2) (fun p hp => Nat.lt_of_lt_of_le (UB10 p hp) (by omega))) (by intro p hp; simp only [List.mem_append]; simp [hp])⟩ : RdS _ _ _)) ((⟨_, S6_list.kept (K6.below (show Below w10.heap.size w10 _ from blw2) (fun p hp => Nat.lt_of_lt_of_le (UB6 p hp) (by omega))) (by intro p hp; simp only [List.mem_append]; simp [hp])⟩ : RdS _ _ _)) ((⟨_, S10_list.kept (K10.below (show Below w10.heap.size w10 _ from blw2) (fun p hp => Nat.lt_of_lt_of_le (UB10 p hp) (by omega))) (by intro p hp; simp only [List.mem_append]; simp [hp])⟩ : RdS _ _ _)) ((⟨_, S6_seen.kept (K6.below (show Below w10.heap.size w10 _ from blw2) (fun p hp => Nat.lt_of_lt_of_le (UB6 p hp) (by omega))) (by intro p hp; simp only [List.mem_append]; simp [hp])⟩ : RdS _ _ _)) ((⟨_, S10_seen.kept (K10.below (show Below w10.heap.size w10 _ from blw2) (fun p hp => Nat.lt_of_lt_of_le (UB10 p hp) (by omega))) (by intro p hp; simp only [List.mem_append]; simp [hp])⟩ : RdS _ _ _))).mono ?_; rintro e w11 ⟨rfl, hb11⟩; have B11 : Below w10.heap.size w10 w11 := blw2; have s11 : w10.heap.size ≤ w11.heap.size := (by have := hb11.size; (try simp at this); omega); replace cp0_0 : w11.cell? ⟨w.heap.size, 0, none⟩ = some (.string x.name) := cellb B11 cp0_0; replace cp0_1 : w11.cell? ⟨w.heap.size, 1, none⟩ = some (.int .i64 x.from_) := cellb B11 cp0_1; replace cp0_2 : w11.cell? ⟨w.heap.size, 2, none⟩ = some (xt) := cellb B11 cp0_2; replace cp0_3 : w11.cell? ⟨w.heap.size, 3, none⟩ = some (xl) := cellb B11 cp0_3; replace cp0_4 : w11.cell? ⟨w.heap.size, 4, none⟩ = some (xz) := cellb B11 cp0_4; replace cW0_0 : w11.cell? ⟨w5.heap.size, 0, none⟩ = some (.string y0.name) := cellb B11 cW0_0; replace cW0_1 : w11.cell? ⟨w5.heap.size, 1, none⟩ = some (.int .i64 y0.from_) := cellb B11 cW0_1; replace cW0_2 : w11.cell? ⟨w5.heap.size, 2, none⟩ = some (.slice a5_0_text y0.text.length c5_0_text) := cellb B11 cW0_2; replace cW0_3 : w11.cell? ⟨w5.heap.size, 3, none⟩ = some (.slice a5_0_list y0.list.length c5_0_list) := cellb B11 cW0_3; replace cW0_4 : w11.cell? ⟨w5.heap.size, 4, none⟩ = some (.slice a5_0_seen y0.seen.length c5_0_seen) := cellb B11 cW0_4; replace cxx_0 : w11.cell? ⟨w6.heap.size, 0, none⟩ = some (.string x.name) := cellb B11 cxx_0; replace cxx_1 : w11.cell? ⟨w6.heap.size, 1, none⟩ = some (.int .i64 x.from_) := cellb B11 cxx_1; replace cxx_2 : w11.cell? ⟨w6.heap.size, 2, none⟩ = some (.slice a6_text x.text.length c6_text) := cellb B11 cxx_2; replace cxx_3 : w11.cell? ⟨w6.heap.size, 3, none⟩ = some (.slice a6_list x.list.length c6_list) := cellb B11 cxx_3; replace cxx_4 : w11.cell? ⟨w6.heap.size, 4, none⟩ = some (.slice a6_seen x.seen.length c6_seen) := cellb B11 cxx_4; replace cG0_0 : w11.cell? ⟨w8.heap.size, 0, none⟩ = some (.string y0.name) := cellb B11 cG0_0; replace cG0_1 : w11.cell? ⟨w8.heap.size, 1, none⟩ = some (.int .i64 y0.from_) := cellb B11 cG0_1; replace cG0_2 : w11.cell? ⟨w8.heap.size, 2, none⟩ = some (.slice a8_0_text y0.text.length c8_0_text) := cellb B11 cG0_2; replace cG0_3 : w11.cell? ⟨w8.heap.size, 3, none⟩ = some (.slice a8_0_list y0.list.length c8_0_list) := cellb B11 cG0_3; replace cG0_4 : w11.cell? ⟨w8.heap.size, 4, none⟩ = some (.slice a8_0_seen y0.seen.length c8_0_seen) := cellb B11 cG0_4; replace K5 : Kept (f5_0_text ++ (f5_0_list ++ f5_0_seen)) w5 w11 := K5.below B11 (fun p hp => Nat.lt_of_lt_of_le (UB5 p hp) (by omega)); replace K6 : Kept (f6_text ++ (f6_list ++ f6_seen)) w6 w11 := K6.below B11 (fun p hp => Nat.lt_of_lt_of_le (UB6 p hp) (by omega)); replace K7 : Kept f7_o w7 w11 := K7.below B11 (fun p hp => Nat.lt_of_lt_of_le (UB7 p hp) (by omega)); replace K8 : Kept (f8_0_text ++ (f8_0_list ++ f8_0_seen)) w8 w11 := K8.below B11 (fun p hp => Nat.lt_of_lt_of_le (UB8 p hp) (by omega)); replace K10 : Kept (f10_text ++ (f10_list ++ f10_seen)) w10 w11 := K10.below B11 (fun p hp => Nat.lt_of_lt_of_le (UB10 p hp) (by omega)); have z11_p0 : w.heap.size < w11.heap.size := (by omega); have z11_W0 : w5.heap.size < w11.heap.size := (by omega); have z11_xx : w6.heap.size < w11.heap.size := (by omega); have z11_G0 : w8.heap.size < w11.heap.size := (by omega); clear hb11))
 go_wp2_with fail
 refine (toPartS_c _ o _ (hr_o.below blw2)).mono ?_
 rintro e w12 ⟨v12_o, rfl, ⟨f12_o, S12_o, FR12⟩, hb12⟩
 have UB12 : ∀ p ∈ f12_o, p.1 < w12.heap.size := Live.lt (S12_o.live)
 replace FR12 : Fresh (w11.heap.size) w12 f12_o := FR12.mono (by first | exact Nat.le_refl _ | (simp; done) | (simp; omega))
 have K12 : Kept f12_o w12 w12 := Kept.refl _ _
 have B12 : Below w11.heap.size w11 w12 := blw2
 have s12 : w11.heap.size ≤ w12.heap.size := (by have := hb12.size; (try simp at this); omega)
 have hh := mc8 B12 cp0_0 cp0_1 cp0_2 cp0_3 cp0_4 cW0_0 cW0_1 cW0_2
 clear cp0_0 cp0_1 cp0_2 cp0_3 cp0_4 cW0_0 cW0_1 cW0_2
 obtain ⟨cp0_0, cp0_1, cp0_2, cp0_3, cp0_4, cW0_0, cW0_1, cW0_2⟩ := hh
 have hh := mc8 B12 cW0_3 cW0_4 cxx_0 cxx_1 cxx_2 cxx_3 cxx_4 cG0_0
 clear cW0_3 cW0_4 cxx_0 cxx_1 cxx_2 cxx_3 cxx_4 cG0_0
 obtain ⟨cW0_3, cW0_4, cxx_0, cxx_1, cxx_2, cxx_3, cxx_4, cG0_0⟩ := hh
 have hh := mc4 B12 cG0_1 cG0_2 cG0_3 cG0_4
 clear cG0_1 cG0_2 cG0_3 cG0_4
 obtain ⟨cG0_1, cG0_2, cG0_3, cG0_4⟩ := hh
 replace K5 : Kept (f5_0_text ++ (f5_0_list ++ f5_0_seen)) w5 w12 := K5.below B12 (fun p hp => Nat.lt_of_lt_of_le (UB5 p hp) (by omega))
 replace K6 : Kept (f6_text ++ (f6_list ++ f6_seen)) w6 w12 := K6.below B12 (fun p hp => Nat.lt_of_lt_of_le (UB6 p hp) (by omega))
 replace K7 : Kept f7_o w7 w12 := K7.below B12 (fun p hp => Nat.lt_of_lt_of_le (UB7 p hp) (by omega))
 replace K8 : Kept (f8_0_text ++ (f8_0_list ++ f8_0_seen)) w8 w12 := K8.below B12 (fun p hp => Nat.lt_of_lt_of_le (UB8 p hp) (by omega))
 have z12_p0 : w.heap.size < w12.heap.size := (by omega)
 have z12_W0 : w5.heap.size < w12.heap.size := (by omega)
 have z12_xx : w6.heap.size < w12.heap.size := (by omega)
 have z12_G0 : w8.heap.size < w12.heap.size := (by omega)
 clear hb12
 go_wp2_with fail
 refine (eqPartS_c _ _ o _ ((⟨_, S7_o.kept (K7.below (show Below w12.heap.size w12 _ from blw2) (fun p hp => Nat.lt_of_lt_of_le (UB7 p hp) (by omega))) (fun _ h => h)⟩ : RdS _ _ _)) ((⟨_, S12_o.kept (K12.below (show Below w12.heap.size w12 _ from blw2) (fun p hp => Nat.lt_of_lt_of_le (UB12 p hp) (by omega))) (fun _ h => h)⟩ : RdS _ _ _))).mono ?_
 rintro e w13 ⟨rfl, hb13⟩
 have B13 : Below w12.heap.size w12 w13 := blw2
 have s13 : w12.heap.size ≤ w13.heap.size := (by have := hb13.size; (try simp at this); omega)
 have hh := mc8 B13 cp0_0 cp0_1 cp0_2 cp0_3 cp0_4 cW0_0 cW0_1 cW0_2
 clear cp0_0 cp0_1 cp0_2 cp0_3 cp0_4 cW0_0 cW0_1 cW0_2
 obtain ⟨cp0_0, cp0_1, cp0_2, cp0_3, cp0_4, cW0_0, cW0_1, cW0_2⟩ := hh
 have hh := mc8 B13 cW0_3 cW0_4 cxx_0 cxx_1 cxx_2 cxx_3 cxx_4 cG0_0
 clear cW0_3 cW0_4 cxx_0 cxx_1 cxx_2 cxx_3 cxx_4 cG0_0
 obtain ⟨cW0_3, cW0_4, cxx_0, cxx_1, cxx_2, cxx_3, cxx_4, cG0_0⟩ := hh
 have hh := mc4 B13 cG0_1 cG0_2 cG0_3 cG0_4
 clear cG0_1 cG0_2 cG0_3 cG0_4
 obtain ⟨cG0_1, cG0_2, cG0_3, cG0_4⟩ := hh
 replace K5 : Kept (f5_0_text ++ (f5_0_list ++ f5_0_seen)) w5 w13 := K5.below B13 (fun p hp => Nat.lt_of_lt_of_le (UB5 p hp) (by omega))
 replace K6 : Kept (f6_text ++ (f6_list ++ f6_seen)) w6 w13 := K6.below B13 (fun p hp => Nat.lt_of_lt_of_le (UB6 p hp) (by omega))
 replace K7 : Kept f7_o w7 w13 := K7.below B13 (fun p hp => Nat.lt_of_lt_of_le (UB7 p hp) (by omega))
 replace K8 : Kept (f8_0_text ++ (f8_0_list ++ f8_0_seen)) w8 w13 := K8.below B13 (fun p hp => Nat.lt_of_lt_of_le (UB8 p hp) (by omega))
 replace K12 : Kept f12_o w12 w13 := K12.below B13 (fun p hp => Nat.lt_of_lt_of_le (UB12 p hp) (by omega))
 have z13_p0 : w.heap.size < w13.heap.size := (by omega)
 have z13_W0 : w5.heap.size < w13.heap.size := (by omega)
 have z13_xx : w6.heap.size < w13.heap.size := (by omega)
 have z13_G0 : w8.heap.size < w13.heap.size := (by omega)
 clear hb13
 replace S6_text := S6_text.kept K6 (by intro p hp; simp only [List.mem_append]; simp [hp])
 replace S6_list := S6_list.kept K6 (by intro p hp; simp only [List.mem_append]; simp [hp])
 replace S6_seen := S6_seen.kept K6 (by intro p hp; simp only [List.mem_append]; simp [hp])
 replace FR6 := FR6.kept K6 (fun _ h => h)
 clear K6
 go_wp2_with fail
 refine (markDoc_c (w5.heap.size + 1) x.name x.from_ _ _ _ _ _ _ f6_text f6_list f6_seen _ 1 (by omega) (by omega) (S6_text.belowW blw2) (S6_list.belowW blw2) (S6_seen.belowW blw2) (FR6.belowL blw2 (fun p hp => Nat.lt_of_lt_of_le (UB6 p hp) (by omega)))).mono ?_
 rintro e w14 ⟨he, T14_text, T14_list, T14_seen, hw14⟩
 have s14 : w13.heap.size ≤ w14.heap.size := wrs hw14 blw2
 replace cp0_0 : w14.cell? ⟨w.heap.size, 0, none⟩ = some (.string x.name) := cellw blw2 hw14 cp0_0 (fun hp => by have q1 := FR6.ge _ hp; have q2 := UB6 _ hp; simp only at q1 q2; omega)
 replace cp0_1 : w14.cell? ⟨w.heap.size, 1, none⟩ = some (.int .i64 x.from_) := cellw blw2 hw14 cp0_1 (fun hp => by have q1 := FR6.ge _ hp; have q2 := UB6 _ hp; simp only at q1 q2; omega)
 replace cp0_2 : w14.cell? ⟨w.heap.size, 2, none⟩ = some (xt) := cellw blw2 hw14 cp0_2 (fun hp => by have q1 := FR6.ge _ hp; have q2 := UB6 _ hp; simp only at q1 q2; omega)
 replace cp0_3 : w14.cell? ⟨w.heap.size, 3, none⟩ = some (xl) := cellw blw2 hw14 cp0_3 (fun hp => by have q1 := FR6.ge _ hp; have q2 := UB6 _ hp; simp only at q1 q2; omega)
 replace cp0_4 : w14.cell? ⟨w.heap.size, 4, none⟩ = some (xz) := cellw blw2 hw14 cp0_4 (fun hp => by have q1 := FR6.ge _ hp; have q2 := UB6 _ hp; simp only at q1 q2; omega)
 replace cW0_0 : w14.cell? ⟨w5.heap.size, 0, none⟩ = some (.string y0.name) := cellw blw2 hw14 cW0_0 (fun hp => by have q1 := FR6.ge _ hp; have q2 := UB6 _ hp; simp only at q1 q2; omega)
 replace cW0_1 : w14.cell? ⟨w5.heap.size, 1, none⟩ = some (.int .i64 y0.from_) := cellw blw2 hw14 cW0_1 (fun hp => by have q1 := FR6.ge _ hp; have q2 := UB6 _ hp; simp only at q1 q2; omega)
 replace cW0_2 : w14.cell? ⟨w5.heap.size, 2, none⟩ = some (.slice a5_0_text y0.text.length c5_0_text) := cellw blw2 hw14 cW0_2 (fun hp => by have q1 := FR6.ge _ hp; have q2 := UB6 _ hp; simp only at q1 q2; omega)
 replace cW0_3 : w14.cell? ⟨w5.heap.size, 3, none⟩ = some (.slice a5_0_list y0.list.length c5_0_list) := cellw blw2 hw14 cW0_3 (fun hp => by have q1 := FR6.ge _ hp; have q2 := UB6 _ hp; simp only at q1 q2; omega)
 replace cW0_4 : w14.cell? ⟨w5.heap.size, 4, none⟩ = some (.slice a5_0_seen y0.seen.length c5_0_seen) := cellw blw2 hw14 cW0_4 (fun hp => by have q1 := FR6.ge _ hp; have q2 := UB6 _ hp; simp only at q1 q2; omega)
 replace cxx_0 : w14.cell? ⟨w6.heap.size, 0, none⟩ = some (.string x.name) := cellw blw2 hw14 cxx_0 (fun hp => by have q1 := FR6.ge _ hp; have q2 := UB6 _ hp; simp only at q1 q2; omega)
 replace cxx_1 : w14.cell? ⟨w6.heap.size, 1, none⟩ = some (.int .i64 x.from_) := cellw blw2 hw14 cxx_1 (fun hp => by have q1 := FR6.ge _ hp; have q2 := UB6 _ hp; simp only at q1 q2; omega)
 replace cxx_2 : w14.cell? ⟨w6.heap.size, 2, none⟩ = some (.slice a6_text x.text.length c6_text) := cellw blw2 hw14 cxx_2 (fun hp => by have q1 := FR6.ge _ hp; have q2 := UB6 _ hp; simp only at q1 q2; omega)
 replace cxx_3 : w14.cell? ⟨w6.heap.size, 3, none⟩ = some (.slice a6_list x.list.length c6_list) := cellw blw2 hw14 cxx_3 (fun hp => by have q1 := FR6.ge _ hp; have q2 := UB6 _ hp; simp only at q1 q2; omega)
 replace cxx_4 : w14.cell? ⟨w6.heap.size, 4, none⟩ = some (.slice a6_seen x.seen.length c6_seen) := cellw blw2 hw14 cxx_4 (fun hp => by have q1 := FR6.ge _ hp; have q2 := UB6 _ hp; simp only at q1 q2; omega)
 replace cG0_0 : w14.cell? ⟨w8.heap.size, 0, none⟩ = some (.string y0.name) := cellw blw2 hw14 cG0_0 (fun hp => by have q1 := FR6.ge _ hp; have q2 := UB6 _ hp; simp only at q1 q2; omega)
 replace cG0_1 : w14.cell? ⟨w8.heap.size, 1, none⟩ = some (.int .i64 y0.from_) := cellw blw2 hw14 cG0_1 (fun hp => by have q1 := FR6.ge _ hp; have q2 := UB6 _ hp; simp only at q1 q2; omega)
 replace cG0_2 : w14.cell? ⟨w8.heap.size, 2, none⟩ = some (.slice a8_0_text y0.text.length c8_0_text) := cellw blw2 hw14 cG0_2 (fun hp => by have q1 := FR6.ge _ hp; have q2 := UB6 _ hp; simp only at q1 q2; omega)
 replace cG0_3 : w14.cell? ⟨w8.heap.size, 3, none⟩ = some (.slice a8_0_list y0.list.length c8_0_list) := cellw blw2 hw14 cG0_3 (fun hp => by have q1 := FR6.ge _ hp; have q2 := UB6 _ hp; simp only at q1 q2; omega)
 replace cG0_4 : w14.cell? ⟨w8.heap.size, 4, none⟩ = some (.slice a8_0_seen y0.seen.length c8_0_seen) := cellw blw2 hw14 cG0_4 (fun hp => by have q1 := FR6.ge _ hp; have q2 := UB6 _ hp; simp only at q1 q2; omega)
 replace K5 : Kept (f5_0_text ++ (f5_0_list ++ f5_0_seen)) w5 w14 := K5.wr2 blw2 hw14 (fun p hp => Nat.lt_of_lt_of_le (UB5 p hp) (by omega)) (fun q hq hp => by have q1 := FR6.ge q hp; have q2 := UB6 q hp; first | (have q3 := UB5 q hq; omega) | (have q3 := FR5.ge q hq; omega))
 replace K7 : Kept f7_o w7 w14 := K7.wr2 blw2 hw14 (fun p hp => Nat.lt_of_lt_of_le (UB7 p hp) (by omega)) (fun q hq hp => by have q1 := FR6.ge q hp; have q2 := UB6 q hp; first | (have q3 := UB7 q hq; omega) | (have q3 := FR7.ge q hq; omega))
 replace K8 : Kept (f8_0_text ++ (f8_0_list ++ f8_0_seen)) w8 w14 := K8.wr2 blw2 hw14 (fun p hp => Nat.lt_of_lt_of_le (UB8 p hp) (by omega)) (fun q hq hp => by have q1 := FR6.ge q hp; have q2 := UB6 q hp; first | (have q3 := UB8 q hq; omega) | (have q3 := FR8.ge q hq; omega))
 have B14 : Below (w5.heap.size + 1) w13 w14 := wrb hw14 blw2 (by omega) (fun p hp => FR6.ge p hp)
 replace FR6 : Fresh (w5.heap.size + 1) w14 (f6_text ++ (f6_list ++ f6_seen)) := FR6.wr2 blw2 hw14 (fun p hp => Nat.lt_of_lt_of_le (UB6 p hp) (by omega))
 replace S6_text := T14_text
 replace S6_list := T14_list
 replace S6_seen := T14_seen
 have K6 : Kept (f6_text ++ (f6_list ++ f6_seen)) w14 w14 := Kept.refl _ _
 have z14_p0 : w.heap.size < w14.heap.size := (by omega)
 have z14_W0 : w5.heap.size < w14.heap.size := (by omega)
 have z14_xx : w6.heap.size < w14.heap.size := (by omega)
 have z14_G0 : w8.heap.size < w14.heap.size := (by omega)
 obtain ⟨k1, hk1, hp1⟩ : ∃ k : Int, k = 1 + ((cntL x.text + cntL x.list + cntL x.seen : Nat) : Int) ∧ 1 ≤ k := ⟨_, rfl, by omega⟩
 obtain rfl : e = .returned (.int .i64 k1) := he.trans (by rw [hk1])
 have hq1 : k1 ≤ 1 + 5242880 := by omega
 clear he hk1
 replace S7_o := S7_o.kept K7 (fun _ h => h)
 replace FR7 := FR7.kept K7 (fun _ h => h)
 clear K7
 go_wp2_with fail
 refine (markPartS_c (w6.heap.size + 1) _ _ f7_o _ k1 (by omega) (by omega) (S7_o.belowW blw2) (FR7.belowL blw2 (fun p hp => Nat.lt_of_lt_of_le (UB7 p hp) (by omega)))).mono ?_
 rintro e w15 ⟨he, T15_o, hw15⟩
 have s15 : w14.heap.size ≤ w15.heap.size := wrs hw15 blw2
 replace cp0_0 : w15.cell? ⟨w.heap.size, 0, none⟩ = some (.string x.name) := cellw blw2 hw15 cp0_0 (fun hp => by have q1 := FR7.ge _ hp; have q2 := UB7 _ hp; simp only at q1 q2; omega)
 replace cp0_1 : w15.cell? ⟨w.heap.size, 1, none⟩ = some (.int .i64 x.from_) := cellw blw2 hw15 cp0_1 (fun hp => by have q1 := FR7.ge _ hp; have q2 := UB7 _ hp; simp only at q1 q2; omega)
 replace cp0_2 : w15.cell? ⟨w.heap.size, 2, none⟩ = some (xt) := cellw blw2 hw15 cp0_2 (fun hp => by have q1 := FR7.ge _ hp; have q2 := UB7 _ hp; simp only at q1 q2; omega)
 replace cp0_3 : w15.cell? ⟨w.heap.size, 3, none⟩ = some (xl) := cellw blw2 hw15 cp0_3 (fun hp => by have q1 := FR7.ge _ hp; have q2 := UB7 _ hp; simp only at q1 q2; omega)
 replace cp0_4 : w15.cell? ⟨w.heap.size, 4, none⟩ = some (xz) := cellw blw2 hw15 cp0_4 (fun hp => by have q1 := FR7.ge _ hp; have q2 := UB7 _ hp; simp only at q1 q2; omega)
 replace cW0_0 : w15.cell? ⟨w5.heap.size, 0, none⟩ = some (.string y0.name) := cellw blw2 hw15 cW0_0 (fun hp => by have q1 := FR7.ge _ hp; have q2 := UB7 _ hp; simp only at q1 q2; omega)
 replace cW0_1 : w15.cell? ⟨w5.heap.size, 1, none⟩ = some (.int .i64 y0.from_) := cellw blw2 hw15 cW0_1 (fun hp => by have q1 := FR7.ge _ hp; have q2 := UB7 _ hp; simp only at q1 q2; omega)
 replace cW0_2 : w15.cell? ⟨w5.heap.size, 2, none⟩ = some (.slice a5_0_text y0.text.length c5_0_text) := cellw blw2 hw15 cW0_2 (fun hp => by have q1 := FR7.ge _ hp; have q2 := UB7 _ hp; simp only at q1 q2; omega)
 replace cW0_3 : w15.cell? ⟨w5.heap.size, 3, none⟩ = some (.slice a5_0_list y0.list.length c5_0_list) := cellw blw2 hw15 cW0_3 (fun hp => by have q1 := FR7.ge _ hp; have q2 := UB7 _ hp; simp only at q1 q2; omega)
 replace cW0_4 : w15.cell? ⟨w5.heap.size, 4, none⟩ = some (.slice a5_0_seen y0.seen.length c5_0_seen) := cellw blw2 hw15 cW0_4 (fun hp => by have q1 := FR7.ge _ hp; have q2 := UB7 _ hp; simp only at q1 q2; omega)
 replace cxx_0 : w15.cell? ⟨w6.heap.size, 0, none⟩ = some (.string x.name) := cellw blw2 hw15 cxx_0 (fun hp => by have q1 := FR7.ge _ hp; have q2 := UB7 _ hp; simp only at q1 q2; omega)
 replace cxx_1 : w15.cell? ⟨w6.heap.size, 1, none⟩ = some (.int .i64 x.from_) := cellw blw2 hw15 cxx_1 (fun hp => by have q1 := FR7.ge _ hp; have q2 := UB7 _ hp; simp only at q1 q2; omega)
 replace cxx_2 : w15.cell? ⟨w6.heap.size, 2, none⟩ = some (.slice a6_text x.text.length c6_text) := cellw blw2 hw15 cxx_2 (fun hp => by have q1 := FR7.ge _ hp; have q2 := UB7 _ hp; simp only at q1 q2; omega)
 replace cxx_3 : w15.cell? ⟨w6.heap.size, 3, none⟩ = some (.slice a6_list x.list.length c6_list) := cellw blw2 hw15 cxx_3 (fun hp => by have q1 := FR7.ge _ hp; have q2 := UB7 _ hp; simp only at q1 q2; omega)
 replace cxx_4 : w15.cell? ⟨w6.heap.size, 4, none⟩ = some (.slice a6_seen x.seen.length c6_seen) := cellw blw2 hw15 cxx_4 (fun hp => by have q1 := FR7.ge _ hp; have q2 := UB7 _ hp; simp only at q1 q2; omega)
 replace cG0_0 : w15.cell? ⟨w8.heap.size, 0, none⟩ = some (.string y0.name) := cellw blw2 hw15 cG0_0 (fun hp => by have q1 := FR7.ge _ hp; have q2 := UB7 _ hp; simp only at q1 q2; omega)
 replace cG0_1 : w15.cell? ⟨w8.heap.size, 1, none⟩ = some (.int .i64 y0.from_) := cellw blw2 hw15 cG0_1 (fun hp => by have q1 := FR7.ge _ hp; have q2 := UB7 _ hp; simp only at q1 q2; omega)
 replace cG0_2 : w15.cell? ⟨w8.heap.size, 2, none⟩ = some (.slice a8_0_text y0.text.length c8_0_text) := cellw blw2 hw15 cG0_2 (fun hp => by have q1 := FR7.ge _ hp; have q2 := UB7 _ hp; simp only at q1 q2; omega)
 replace cG0_3 : w15.cell? ⟨w8.heap.size, 3, none⟩ = some (.slice a8_0_list y0.list.length c8_0_list) := cellw blw2 hw15 cG0_3 (fun hp => by have q1 := FR7.ge _ hp; have q2 := UB7 _ hp; simp only at q1 q2; omega)
 replace cG0_4 : w15.cell? ⟨w8.heap.size, 4, none⟩ = some (.slice a8_0_seen y0.seen.length c8_0_seen) := cellw blw2 hw15 cG0_4 (fun hp => by have q1 := FR7.ge _ hp; have q2 := UB7 _ hp; simp only at q1 q2; omega)
 replace K5 : Kept (f5_0_text ++ (f5_0_list ++ f5_0_seen)) w5 w15 := K5.wr2 blw2 hw15 (fun p hp => Nat.lt_of_lt_of_le (UB5 p hp) (by omega)) (fun q hq hp => by have q1 := FR7.ge q hp; have q2 := UB7 q hp; first | (have q3 := UB5 q hq; omega) | (have q3 := FR5.ge q hq; omega))
 replace K6 : Kept (f6_text ++ (f6_list ++ f6_seen)) w14 w15 := K6.wr2 blw2 hw15 (fun p hp => Nat.lt_of_lt_of_le (UB6 p hp) (by omega)) (fun q hq hp => by have q1 := FR7.ge q hp; have q2 := UB7 q hp; first | (have q3 := UB6 q hq; omega) | (have q3 := FR6.ge q hq; omega))
 replace K8 : Kept (f8_0_text ++ (f8_0_list ++ f8_0_seen)) w8 w15 := K8.wr2 blw2 hw15 (fun p hp => Nat.lt_of_lt_of_le (UB8 p hp) (by omega)) (fun q hq hp => by have q1 := FR7.ge q hp; have q2 := UB7 q hp; first | (have q3 := UB8 q hq; omega) | (have q3 := FR8.ge q hq; omega))
 have B15 : Below (w6.heap.size + 1) w14 w15 := wrb hw15 blw2 (by omega) (fun p hp => FR7.ge p hp)
 replace FR7 : Fresh (w6.heap.size + 1) w15 f7_o := FR7.wr2 blw2 hw15 (fun p hp => Nat.lt_of_lt_of_le (UB7 p hp) (by omega))
 replace S7_o := T15_o
 have K7 : Kept f7_o w15 w15 := Kept.refl _ _
 have z15_p0 : w.heap.size < w15.heap.size := (by omega)
 have z15_W0 : w5.heap.size < w15.heap.size := (by omega)
 have z15_xx : w6.heap.size < w15.heap.size := (by omega)
 have z15_G0 : w8.heap.size < w15.heap.size := (by omega)
 obtain ⟨k2, hk2, hp2⟩ : ∃ k : Int, k = k1 + ((cntL o : Nat) : Int) ∧ k1 ≤ k := ⟨_, rfl, by omega⟩
 obtain rfl : e = .returned (.int .i64 k2) := he.trans (by rw [hk2])
 have hq2 : k2 ≤ k1 + 5242880 := by omega
 clear he hk2
 have hkn : decide (k2 < 0) = false := by simp; omega
 have hkm : ¬ k2 < 0 := by omega
 go_wp2_with fail
 refine (eqDoc_c y0 _ _ _ _ _ _ _ ((⟨_, S8_0_text.kept (K8.below (show Below w15.heap.size w15 _ from blw2) (fun p hp => Nat.lt_of_lt_of_le (UB8 p hp) (by omega))) (by intro p hp; simp only [List.mem_append]; simp [hp])⟩ : RdS _ _ _)) ((⟨_, S5_0_text.kept (K5.below (show Below w15.heap.size w15 _ from blw2) (fun p hp => Nat.lt_of_lt_of_le (UB5 p hp) (by omega))) (by intro p hp; simp only [List.mem_append]; simp [hp])⟩ : RdS _ _ _)) ((⟨_, S8_0_list.kept (K8.below (show Below w15.heap.size w15 _ from blw2) (fun p hp => Nat.lt_of_lt_of_le (UB8 p hp) (by omega))) (by intro p hp; simp only [List.mem_append]; simp [hp])⟩ : RdS _ _ _)) ((⟨_, S5_0_list.kept (K5.below (show Below w15.heap.size w15 _ from blw2) (fun p hp => Nat.lt_of_lt_of_le (UB5 p hp) (by omega))) (by intro p hp; simp only [List.mem_append]; simp [hp])⟩ : RdS _ _ _)) ((⟨_, S8_0_seen.kept (K8.below (show Below w15.heap.size w15 _ from blw2) (fun p hp => Nat.lt_of_lt_of_le (UB8 p hp) (by omega))) (by intro p hp; simp only [List.mem_append]; simp [hp])⟩ : RdS _ _ _)) ((⟨_, S5_0_seen.kept (K5.below (show Below w15.heap.size w15 _ from blw2) (fun p hp => Nat.lt_of_lt_of_le (UB5 p hp) (by omega))) (by intro p hp; simp only [List.mem_append]; simp [hp])⟩ : RdS _ _ _))).mono ?_
 rintro e w16 ⟨rfl, hb16⟩
 have B16 : Below w15.heap.size w15 w16 := blw2
 have s16 : w15.heap.size ≤ w16.heap.size := (by have := hb16.size; (try simp at this); omega)
 have hh := mc8 B16 cp0_0 cp0_1 cp0_2 cp0_3 cp0_4 cW0_0 cW0_1 cW0_2
 clear cp0_0 cp0_1 cp0_2 cp0_3 cp0_4 cW0_0 cW0_1 cW0_2
 obtain ⟨cp0_0, cp0_1, cp0_2, cp0_3, cp0_4, cW0_0, cW0_1, cW0_2⟩ := hh
 have hh := mc8 B16 cW0_3 cW0_4 cxx_0 cxx_1 cxx_2 cxx_3 cxx_4 cG0_0
 clear cW0_3 cW0_4 cxx_0 cxx_1 cxx_2 cxx_3 cxx_4 cG0_0
 obtain ⟨cW0_3, cW0_4, cxx_0, cxx_1, cxx_2, cxx_3, cxx_4, cG0_0⟩ := hh
 have hh := mc4 B16 cG0_1 cG0_2 cG0_3 cG0_4
 clear cG0_1 cG0_2 cG0_3 cG0_4
 obtain ⟨cG0_1, cG0_2, cG0_3, cG0_4⟩ := hh
 replace K5 : Kept (f5_0_text ++ (f5_0_list ++ f5_0_seen)) w5 w16 := K5.below B16 (fun p hp => Nat.lt_of_lt_of_le (UB5 p hp) (by omega))
 replace K8 : Kept (f8_0_text ++ (f8_0_list ++ f8_0_seen)) w8 w16 := K8.below B16 (fun p hp => Nat.lt_of_lt_of_le (UB8 p hp) (by omega))
 have z16_p0 : w.heap.size < w16.heap.size := (by omega)
 have z16_W0 : w5.heap.size < w16.heap.size := (by omega)
 have z16_xx : w6.heap.size < w16.heap.size := (by omega)
 have z16_G0 : w8.heap.size < w16.heap.size := (by omega)
 clear hb16
 replace S8_0_text := S8_0_text.kept K8 (by intro p hp; simp only [List.mem_append]; simp [hp])
 replace S8_0_list := S8_0_list.kept K8 (by intro p hp; simp only [List.mem_append]; simp [hp])
 replace S8_0_seen := S8_0_seen.kept K8 (by intro p hp; simp only [List.mem_append]; simp [hp])
 replace FR8 := FR8.kept K8 (fun _ h => h)
 clear K8
 go_wp2_with fail
 refine (markDoc_c (w7.heap.size) y0.name y0.from_ _ _ _ _ _ _ f8_0_text f8_0_list f8_0_seen _ 1 (by omega) (by omega) (S8_0_text.belowW blw2) (S8_0_list.belowW blw2) (S8_0_seen.belowW blw2) (FR8.belowL blw2 (fun p hp => Nat.lt_of_lt_of_le (UB8 p hp) (by omega)))).mono ?_
 rintro e w17 ⟨he, T17_0_text, T17_0_list, T17_0_seen, hw17⟩
 have s17 : w16.heap.size ≤ w17.heap.size := wrs hw17 blw2
 replace cp0_0 : w17.cell? ⟨w.heap.size, 0, none⟩ = some (.string x.name) := cellw blw2 hw17 cp0_0 (fun hp => by have q1 := FR8.ge _ hp; have q2 := UB8 _ hp; simp only at q1 q2; omega)
 replace cp0_1 : w17.cell? ⟨w.heap.size, 1, none⟩ = some (.int .i64 x.from_) := cellw blw2 hw17 cp0_1 (fun hp => by have q1 := FR8.ge _ hp; have q2 := UB8 _ hp; simp only at q1 q2; omega)
 replace cp0_2 : w17.cell? ⟨w.heap.size, 2, none⟩ = some (xt) := cellw blw2 hw17 cp0_2 (fun hp => by have q1 := FR8.ge _ hp; have q2 := UB8 _ hp; simp only at q1 q2; omega)
 replace cp0_3 : w17.cell? ⟨w.heap.size, 3, none⟩ = some (xl) := cellw blw2 hw17 cp0_3 (fun hp => by have q1 := FR8.ge _ hp; have q2 := UB8 _ hp; simp only at q1 q2; omega)
 replace cp0_4 : w17.cell? ⟨w.heap.size, 4, none⟩ = some (xz) := cellw blw2 hw17 cp0_4 (fun hp => by have q1 := FR8.ge _ hp; have q2 := UB8 _ hp; simp only at q1 q2; omega)
 replace cW0_0 : w17.cell? ⟨w5.heap.size, 0, none⟩ = some (.string y0.name) := cellw blw2 hw17 cW0_0 (fun hp => by have q1 := FR8.ge _ hp; have q2 := UB8 _ hp; simp only at q1 q2; omega)
 replace cW0_1 : w17.cell? ⟨w5.heap.size, 1, none⟩ = some (.int .i64 y0.from_) := cellw blw2 hw17 cW0_1 (fun hp => by have q1 := FR8.ge _ hp; have q2 := UB8 _ hp; simp only at q1 q2; omega)
 replace cW0_2 : w17.cell? ⟨w5.heap.size, 2, none⟩ = some (.slice a5_0_text y0.text.length c5_0_text) := cellw blw2 hw17 cW0_2 (fun hp => by have q1 := FR8.ge _ hp; have q2 := UB8 _ hp; simp only at q1 q2; omega)
 replace cW0_3 : w17.cell? ⟨w5.heap.size, 3, none⟩ = some (.slice a5_0_list y0.list.length c5_0_list) := cellw blw2 hw17 cW0_3 (fun hp => by have q1 := FR8.ge _ hp; have q2 := UB8 _ hp; simp only at q1 q2; omega)
 replace cW0_4 : w17.cell? ⟨w5.heap.size, 4, none⟩ = some (.slice a5_0_seen y0.seen.length c5_0_seen) := cellw blw2 hw17 cW0_4 (fun hp => by have q1 := FR8.ge _ hp; have q2 := UB8 _ hp; simp only at q1 q2; omega)
 replace cxx_0 : w17.cell? ⟨w6.heap.size, 0, none⟩ = some (.string x.name) := cellw blw2 hw17 cxx_0 (fun hp => by have q1 := FR8.ge _ hp; have q2 := UB8 _ hp; simp only at q1 q2; omega)
 replace cxx_1 : w17.cell? ⟨w6.heap.size, 1, none⟩ = some (.int .i64 x.from_) := cellw blw2 hw17 cxx_1 (fun hp => by have q1 := FR8.ge _ hp; have q2 := UB8 _ hp; simp only at q1 q2; omega)
 replace cxx_2 : w17.cell? ⟨w6.heap.size, 2, none⟩ = some (.slice a6_text x.text.length c6_text) := cellw blw2 hw17 cxx_2 (fun hp => by have q1 := FR8.ge _ hp; have q2 := UB8 _ hp; simp only at q1 q2; omega)
 replace cxx_3 : w17.cell? ⟨w6.heap.size, 3, none⟩ = some (.slice a6_list x.list.length c6_list) := cellw blw2 hw17 cxx_3 (fun hp => by have q1 := FR8.ge _ hp; have q2 := UB8 _ hp; simp only at q1 q2; omega)
 replace cxx_4 : w17.cell? ⟨w6.heap.size, 4, none⟩ = some (.slice a6_seen x.seen.length c6_seen) := cellw blw2 hw17 cxx_4 (fun hp => by have q1 := FR8.ge _ hp; have q2 := UB8 _ hp; simp only at q1 q2; omega)
 replace cG0_0 : w17.cell? ⟨w8.heap.size, 0, none⟩ = some (.string y0.name) := cellw blw2 hw17 cG0_0 (fun hp => by have q1 := FR8.ge _ hp; have q2 := UB8 _ hp; simp only at q1 q2; omega)
 replace cG0_1 : w17.cell? ⟨w8.heap.size, 1, none⟩ = some (.int .i64 y0.from_) := cellw blw2 hw17 cG0_1 (fun hp => by have q1 := FR8.ge _ hp; have q2 := UB8 _ hp; simp only at q1 q2; omega)
 replace cG0_2 : w17.cell? ⟨w8.heap.size, 2, none⟩ = some (.slice a8_0_text y0.text.length c8_0_text) := cellw blw2 hw17 cG0_2 (fun hp => by have q1 := FR8.ge _ hp; have q2 := UB8 _ hp; simp only at q1 q2; omega)
 replace cG0_3 : w17.cell? ⟨w8.heap.size, 3, none⟩ = some (.slice a8_0_list y0.list.length c8_0_list) := cellw blw2 hw17 cG0_3 (fun hp => by have q1 := FR8.ge _ hp; have q2 := UB8 _ hp; simp only at q1 q2; omega)
 replace cG0_4 : w17.cell? ⟨w8.heap.size, 4, none⟩ = some (.slice a8_0_seen y0.seen.length c8_0_seen) := cellw blw2 hw17 cG0_4 (fun hp => by have q1 := FR8.ge _ hp; have q2 := UB8 _ hp; simp only at q1 q2; omega)
 replace K5 : Kept (f5_0_text ++ (f5_0_list ++ f5_0_seen)) w5 w17 := K5.wr2 blw2 hw17 (fun p hp => Nat.lt_of_lt_of_le (UB5 p hp) (by omega)) (fun q hq hp => by have q1 := FR8.ge q hp; have q2 := UB8 q hp; first | (have q3 := UB5 q hq; omega) | (have q3 := FR5.ge q hq; omega))
 have B17 : Below (w7.heap.size) w16 w17 := wrb hw17 blw2 (by omega) (fun p hp => FR8.ge p hp)
 replace FR8 : Fresh (w7.heap.size) w17 (f8_0_text ++ (f8_0_list ++ f8_0_seen)) := FR8.wr2 blw2 hw17 (fun p hp => Nat.lt_of_lt_of_le (UB8 p hp) (by omega))
 replace S8_0_text := T17_0_text
 replace S8_0_list := T17_0_list
 replace S8_0_seen := T17_0_seen
 have K8 : Kept (f8_0_text ++ (f8_0_list ++ f8_0_seen)) w17 w17 := Kept.refl _ _
 have z17_p0 : w.heap.size < w17.heap.size := (by omega)
 have z17_W0 : w5.heap.size < w17.heap.size := (by omega)
 have z17_xx : w6.heap.size < w17.heap.size := (by omega)
 have z17_G0 : w8.heap.size < w17.heap.size := (by omega)
 obtain ⟨m1, hm1, hn1⟩ : ∃ m : Int, m = 1 + ((cntL y0.text + cntL y0.list + cntL y0.seen : Nat) : Int) ∧ 1 ≤ m := ⟨_, rfl, by omega⟩
 obtain rfl : e = .returned (.int .i64 m1) := he.trans (by rw [hm1])
 have ho1 : m1 ≤ 1 + 1099511627776 := by omega
 have HM1 : Hid (m1 = 1 + ((cntL y0.text + cntL y0.list + cntL y0.seen : Nat) : Int)) := Lib.hid hm1
 clear he hm1
 have hx1 : decide (m1 < 0) = false := by simp; omega
 have hy1 : ¬ m1 < 0 := by omega
 have hz : (m1 != m1) = false := by simp
 go_wp2_with fail
 refine (heldDoc_c y0.name y0.from_ _ _ _ _ _ _ _ 1 (by omega) (by (try simp only [cntL_mkL]); omega) ((⟨_, S8_0_text.kept (K8.below (show Below w17.heap.size w17 _ from blw2) (fun p hp => Nat.lt_of_lt_of_le (UB8 p hp) (by omega))) (by intro p hp; simp only [List.mem_append]; simp [hp])⟩ : RdS _ _ _)) ((⟨_, S8_0_list.kept (K8.below (show Below w17.heap.size w17 _ from blw2) (fun p hp => Nat.lt_of_lt_of_le (UB8 p hp) (by omega))) (by intro p hp; simp only [List.mem_append]; simp [hp])⟩ : RdS _ _ _)) ((⟨_, S8_0_seen.kept (K8.below (show Below w17.heap.size w17 _ from blw2) (fun p hp => Nat.lt_of_lt_of_le (UB8 p hp) (by omega))) (by intro p hp; simp only [List.mem_append]; simp [hp])⟩ : RdS _ _ _)) (by (try simp only [cntL_mkL]); exact mkL_mkL _ _) (by (try simp only [cntL_mkL]); exact mkL_mkL _ _) (by (try simp only [cntL_mkL]); exact mkL_mkL _ _)).mono ?_
 rintro e w18 ⟨he, hb18⟩
 obtain rfl : e = .returned (.int .i64 m1) := he.trans (by (try simp only [cntL_mkL]); rw [HM1.out])
 clear he
 have B18 : Below w17.heap.size w17 w18 := blw2
 have s18 : w17.heap.size ≤ w18.heap.size := (by have := hb18.size; (try simp at this); omega)
 have hh := mc8 B18 cp0_0 cp0_1 cp0_2 cp0_3 cp0_4 cW0_0 cW0_1 cW0_2
 clear cp0_0 cp0_1 cp0_2 cp0_3 cp0_4 cW0_0 cW0_1 cW0_2
 obtain ⟨cp0_0, cp0_1, cp0_2, cp0_3, cp0_4, cW0_0, cW0_1, cW0_2⟩ := hh
 have hh := mc8 B18 cW0_3 cW0_4 cxx_0 cxx_1 cxx_2 cxx_3 cxx_4 cG0_0
 clear cW0_3 cW0_4 cxx_0 cxx_1 cxx_2 cxx_3 cxx_4 cG0_0
 obtain ⟨cW0_3, cW0_4, cxx_0, cxx_1, cxx_2, cxx_3, cxx_4, cG0_0⟩ := hh
 have hh := mc4 B18 cG0_1 cG0_2 cG0_3 cG0_4
 clear cG0_1 cG0_2 cG0_3 cG0_4
 obtain ⟨cG0_1, cG0_2, cG0_3, cG0_4⟩ := hh
 replace K5 : Kept (f5_0_text ++ (f5_0_list ++ f5_0_seen)) w5 w18 := K5.below B18 (fun p hp => Nat.lt_of_lt_of_le (UB5 p hp) (by omega))
 replace K8 : Kept (f8_0_text ++ (f8_0_list ++ f8_0_seen)) w17 w18 := K8.below B18 (fun p hp => Nat.lt_of_lt_of_le (UB8 p hp) (by omega))
 have z18_p0 : w.heap.size < w18.heap.size := (by omega)
 have z18_W0 : w5.heap.size < w18.heap.size := (by omega)
 have z18_xx : w6.heap.size < w18.heap.size := (by omega)
 have z18_G0 : w8.heap.size < w18.heap.size := (by omega)
 clear hb18
 go_wp2_with fail
 refine (toDoc_c x _ _ _ _ nr_x_name (hr_x_text.below blw2) (hr_x_list.below blw2) (hr_x_seen.below blw2)).mono ?_
 rintro e w19 ⟨_, rfl, ⟨fp19, ho19, FR19⟩, hb19⟩
 obtain ⟨v19_text, v19_list, v19_seen, f19_text, f19_list, f19_seen, rfl, n19_name, S19_text, S19_list, S19_seen, rfl⟩ := ho19
 obtain ⟨a19_text, c19_text, rfl⟩ := RdS.isSlice ⟨_, S19_text⟩
 obtain ⟨a19_list, c19_list, rfl⟩ := RdS.isSlice ⟨_, S19_list⟩
 obtain ⟨a19_seen, c19_seen, rfl⟩ := RdS.isSlice ⟨_, S19_seen⟩
 have UB19 : ∀ p ∈ (f19_text ++ (f19_list ++ f19_seen)), p.1 < w19.heap.size := Live.lt (Live.append.2 ⟨S19_text.live, Live.append.2 ⟨S19_list.live, S19_seen.live⟩⟩)
 replace FR19 : Fresh (w18.heap.size) w19 (f19_text ++ (f19_list ++ f19_seen)) := FR19.mono (by first | exact Nat.le_refl _ | (simp; done) | (simp; omega))
 have K19 : Kept (f19_text ++ (f19_list ++ f19_seen)) w19 w19 := Kept.refl _ _
 have B19 : Below w18.heap.size w18 w19 := blw2
 have s19 : w18.heap.size ≤ w19.heap.size := (by have := hb19.size; (try simp at this); omega)
 have hh := mc8 B19 cp0_0 cp0_1 cp0_2 cp0_3 cp0_4 cW0_0 cW0_1 cW0_2
 clear cp0_0 cp0_1 cp0_2 cp0_3 cp0_4 cW0_0 cW0_1 cW0_2
 obtain ⟨cp0_0, cp0_1, cp0_2, cp0_3, cp0_4, cW0_0, cW0_1, cW0_2⟩ := hh
 have hh := mc8 B19 cW0_3 cW0_4 cxx_0 cxx_1 cxx_2 cxx_3 cxx_4 cG0_0
 clear cW0_3 cW0_4 cxx_0 cxx_1 cxx_2 cxx_3 cxx_4 cG0_0
 obtain ⟨cW0_3, cW0_4, cxx_0, cxx_1, cxx_2, cxx_3, cxx_4, cG0_0⟩ := hh
 have hh := mc4 B19 cG0_1 cG0_2 cG0_3 cG0_4
 clear cG0_1 cG0_2 cG0_3 cG0_4
 obtain ⟨cG0_1, cG0_2, cG0_3, cG0_4⟩ := hh
 replace K5 : Kept (f5_0_text ++ (f5_0_list ++ f5_0_seen)) w5 w19 := K5.below B19 (fun p hp => Nat.lt_of_lt_of_le (UB5 p hp) (by omega))
 replace K8 : Kept (f8_0_text ++ (f8_0_list ++ f8_0_seen)) w17 w19 := K8.below B19 (fun p hp => Nat.lt_of_lt_of_le (UB8 p hp) (by omega))
 have z19_p0 : w.heap.size < w19.heap.size := (by omega)
 have z19_W0 : w5.heap.size < w19.heap.size := (by omega)
 have z19_xx : w6.heap.size < w19.heap.size := (by omega)
 have z19_G0 : w8.heap.size < w19.heap.size := (by omega)
 clear hb19
 go_wp2_with fail
 refine (toPartS_c _ o _ (hr_o.below blw2)).mono ?_
 rintro e w20 ⟨v20_o, rfl, ⟨f20_o, S20_o, FR20⟩, hb20⟩
 have UB20 : ∀ p ∈ f20_o, p.1 < w20.heap.size := Live.lt (S20_o.live)
 replace FR20 : Fresh (w19.heap.size) w20 f20_o := FR20.mono (by first | exact Nat.le_refl _ | (simp; done) | (simp; omega))
 have K20 : Kept f20_o w20 w20 := Kept.refl _ _
 have B20 : Below w19.heap.size w19 w20 := blw2
 have s20 : w19.heap.size ≤ w20.heap.size := (by have := hb20.size; (try simp at this); omega)
 have hh := mc8 B20 cp0_0 cp0_1 cp0_2 cp0_3 cp0_4 cW0_0 cW0_1 cW0_2
 clear cp0_0 cp0_1 cp0_2 cp0_3 cp0_4 cW0_0 cW0_1 cW0_2
 obtain ⟨cp0_0, cp0_1, cp0_2, cp0_3, cp0_4, cW0_0, cW0_1, cW0_2⟩ := hh
 have hh := mc8 B20 cW0_3 cW0_4 cxx_0 cxx_1 cxx_2 cxx_3 cxx_4 cG0_0
 clear cW0_3 cW0_4 cxx_0 cxx_1 cxx_2 cxx_3 cxx_4 cG0_0
 obtain ⟨cW0_3, cW0_4, cxx_0, cxx_1, cxx_2, cxx_3, cxx_4, cG0_0⟩ := hh
 have hh := mc4 B20 cG0_1 cG0_2 cG0_3 cG0_4
 clear cG0_1 cG0_2 cG0_3 cG0_4
 obtain ⟨cG0_1, cG0_2, cG0_3, cG0_4⟩ := hh
 replace K5 : Kept (f5_0_text ++ (f5_0_list ++ f5_0_seen)) w5 w20 := K5.below B20 (fun p hp => Nat.lt_of_lt_of_le (UB5 p hp) (by omega))
 replace K8 : Kept (f8_0_text ++ (f8_0_list ++ f8_0_seen)) w17 w20 := K8.below B20 (fun p hp => Nat.lt_of_lt_of_le (UB8 p hp) (by omega))
 replace K19 : Kept (f19_text ++ (f19_list ++ f19_seen)) w19 w20 := K19.below B20 (fun p hp => Nat.lt_of_lt_of_le (UB19 p hp) (by omega))
 have z20_p0 : w.heap.size < w20.heap.size := (by omega)
 have z20_W0 : w5.heap.size < w20.heap.size := (by omega)
 have z20_xx : w6.heap.size < w20.heap.size := (by omega)
 have z20_G0 : w8.heap.size < w20.heap.size := (by omega)
 clear hb20
 go_wp2_with fail
 refine (HI.out _ _ _ _ _ ((⟨_, S19_text.kept (K19.below (show Below w20.heap.size w20 _ from blw2) (fun p hp => Nat.lt_of_lt_of_le (UB19 p hp) (by omega))) (by intro p hp; simp only [List.mem_append]; simp [hp])⟩ : RdS _ _ _)) ((⟨_, S19_list.kept (K19.below (show Below w20.heap.size w20 _ from blw2) (fun p hp => Nat.lt_of_lt_of_le (UB19 p hp) (by omega))) (by intro p hp; simp only [List.mem_append]; simp [hp])⟩ : RdS _ _ _)) ((⟨_, S19_seen.kept (K19.below (show Below w20.heap.size w20 _ from blw2) (fun p hp => Nat.lt_of_lt_of_le (UB19 p hp) (by omega))) (by intro p hp; simp only [List.mem_append]; simp [hp])⟩ : RdS _ _ _)) ((⟨_, S20_o.kept (K20.below (show Below w20.heap.size w20 _ from blw2) (fun p hp => Nat.lt_of_lt_of_le (UB20 p hp) (by omega))) (fun _ h => h)⟩ : RdS _ _ _))).mono ?_
 rintro e w21 ⟨v21_0_text, v21_0_list, v21_0_seen, f21_0_text, f21_0_list, f21_0_seen, rfl, S21_0_text, S21_0_list, S21_0_seen, n21_0_name, FR21, hb21⟩
 obtain ⟨a21_0_text, c21_0_text, rfl⟩ := RdS.isSlice ⟨_, S21_0_text⟩
 obtain ⟨a21_0_list, c21_0_list, rfl⟩ := RdS.isSlice ⟨_, S21_0_list⟩
 obtain ⟨a21_0_seen, c21_0_seen, rfl⟩ := RdS.isSlice ⟨_, S21_0_seen⟩
 have UB21 : ∀ p ∈ (f21_0_text ++ (f21_0_list ++ f21_0_seen)), p.1 < w21.heap.size := Live.lt (Live.append.2 ⟨S21_0_text.live, Live.append.2 ⟨S21_0_list.live, S21_0_seen.live⟩⟩)
 replace FR21 : Fresh (w20.heap.size) w21 (f21_0_text ++ (f21_0_list ++ f21_0_seen)) := FR21.mono (by first | exact Nat.le_refl _ | (simp; done) | (simp; omega))
 have K21 : Kept (f21_0_text ++ (f21_0_list ++ f21_0_seen)) w21 w21 := Kept.refl _ _
 have B21 : Below w20.heap.size w20 w21 := blw2
 have s21 : w20.heap.size ≤ w21.heap.size := (by have := hb21.size; (try simp at this); omega)
 have hh := mc8 B21 cp0_0 cp0_1 cp0_2 cp0_3 cp0_4 cW0_0 cW0_1 cW0_2
 clear cp0_0 cp0_1 cp0_2 cp0_3 cp0_4 cW0_0 cW0_1 cW0_2
 obtain ⟨cp0_0, cp0_1, cp0_2, cp0_3, cp0_4, cW0_0, cW0_1, cW0_2⟩ := hh
 have hh := mc8 B21 cW0_3 cW0_4 cxx_0 cxx_1 cxx_2 cxx_3 cxx_4 cG0_0
 clear cW0_3 cW0_4 cxx_0 cxx_1 cxx_2 cxx_3 cxx_4 cG0_0
 obtain ⟨cW0_3, cW0_4, cxx_0, cxx_1, cxx_2, cxx_3, cxx_4, cG0_0⟩ := hh
 have hh := mc4 B21 cG0_1 cG0_2 cG0_3 cG0_4
 clear cG0_1 cG0_2 cG0_3 cG0_4
 obtain ⟨cG0_1, cG0_2, cG0_3, cG0_4⟩ := hh
 replace K5 : Kept (f5_0_text ++ (f5_0_list ++ f5_0_seen)) w5 w21 := K5.below B21 (fun p hp => Nat.lt_of_lt_of_le (UB5 p hp) (by omega))
 replace K8 : Kept (f8_0_text ++ (f8_0_list ++ f8_0_seen)) w17 w21 := K8.below B21 (fun p hp => Nat.lt_of_lt_of_le (UB8 p hp) (by omega))
 replace K19 : Kept (f19_text ++ (f19_list ++ f19_seen)) w19 w21 := K19.below B21 (fun p hp => Nat.lt_of_lt_of_le (UB19 p hp) (by omega))
 replace K20 : Kept f20_o w20 w21 := K20.below B21 (fun p hp => Nat.lt_of_lt_of_le (UB20 p hp) (by omega))
 have z21_p0 : w.heap.size < w21.heap.size := (by omega)
 have z21_W0 : w5.heap.size < w21.heap.size := (by omega)
 have z21_xx : w6.heap.size < w21.heap.size := (by omega)
 have z21_G0 : w8.heap.size < w21.heap.size := (by omega)
 clear hb21
 go_wp2_with fail
 refine (eqDoc_c y0 _ _ _ _ _ _ _ ((⟨_, S21_0_text.kept (K21.below (show Below w21.heap.size w21 _ from blw2) (fun p hp => Nat.lt_of_lt_of_le (UB21 p hp) (by omega))) (by intro p hp; simp only [List.mem_append]; simp [hp])⟩ : RdS _ _ _)) ((⟨_, S5_0_text.kept (K5.below (show Below w21.heap.size w21 _ from blw2) (fun p hp => Nat.lt_of_lt_of_le (UB5 p hp) (by omega))) (by intro p hp; simp only [List.mem_append]; simp [hp])⟩ : RdS _ _ _)) ((⟨_, S21_0_list.kept (K21.below (show Below w21.heap.size w21 _ from blw2) (fun p hp => Nat.lt_of_lt_of_le (UB21 p hp) (by omega))) (by intro p hp; simp only [List.mem_append]; simp [hp])⟩ : RdS _ _ _)) ((⟨_, S5_0_list.kept (K5.below (show Below w21.heap.size w21 _ from blw2) (fun p hp => Nat.lt_of_lt_of_le (UB5 p hp) (by omega))) (by intro p hp; simp only [List.mem_append]; simp [hp])⟩ : RdS _ _ _)) ((⟨_, S21_0_seen.kept (K21.below (show Below w21.heap.size w21 _ from blw2) (fun p hp => Nat.lt_of_lt_of_le (UB21 p hp) (by omega))) (by intro p hp; simp only [List.mem_append]; simp [hp])⟩ : RdS _ _ _)) ((⟨_, S5_0_seen.kept (K5.below (show Below w21.heap.size w21 _ from blw2) (fun p hp => Nat.lt_of_lt_of_le (UB5 p hp) (by omega))) (by intro p hp; simp only [List.mem_append]; simp [hp])⟩ : RdS _ _ _))).mono ?_
 rintro e w22 ⟨rfl, hb22⟩
 have hN : Below (w21.heap.size + 1) (w21.alloc (.cells #[.string y0.name, .int .i64 y0.from_, .slice a21_0_text y0.text.length c21_0_text, .slice a21_0_list y0.list.length c21_0_list, .slice a21_0_seen y0.seen.length c21_0_seen] 33)) w22 := blw2
 have B22 : Below w21.heap.size w21 w22 := blw2
 have s22 : w21.heap.size + 1 ≤ w22.heap.size := (by have := hb22.size; (try simp at this); omega)
 have hh := mc8 B22 cp0_0 cp0_1 cp0_2 cp0_3 cp0_4 cW0_0 cW0_1 cW0_2
 clear cp0_0 cp0_1 cp0_2 cp0_3 cp0_4 cW0_0 cW0_1 cW0_2
 obtain ⟨cp0_0, cp0_1, cp0_2, cp0_3, cp0_4, cW0_0, cW0_1, cW0_2⟩ := hh
 have hh := mc8 B22 cW0_3 cW0_4 cxx_0 cxx_1 cxx_2 cxx_3 cxx_4 cG0_0
 clear cW0_3 cW0_4 cxx_0 cxx_1 cxx_2 cxx_3 cxx_4 cG0_0
 obtain ⟨cW0_3, cW0_4, cxx_0, cxx_1, cxx_2, cxx_3, cxx_4, cG0_0⟩ := hh
 have hh := mc4 B22 cG0_1 cG0_2 cG0_3 cG0_4
 clear cG0_1 cG0_2 cG0_3 cG0_4
 obtain ⟨cG0_1, cG0_2, cG0_3, cG0_4⟩ := hh
 have cH0_0 : w22.cell? ⟨w21.heap.size, 0, none⟩ = some (.string y0.name) := by rw [hN.cell (by simp; try omega)]; simp
 have cH0_1 : w22.cell? ⟨w21.heap.size, 1, none⟩ = some (.int .i64 y0.from_) := by rw [hN.cell (by simp; try omega)]; simp
 have cH0_2 : w22.cell? ⟨w21.heap.size, 2, none⟩ = some (.slice a21_0_text y0.text.length c21_0_text) := by rw [hN.cell (by simp; try omega)]; simp
 have cH0_3 : w22.cell? ⟨w21.heap.size, 3, none⟩ = some (.slice a21_0_list y0.list.length c21_0_list) := by rw [hN.cell (by simp; try omega)]; simp
 have cH0_4 : w22.cell? ⟨w21.heap.size, 4, none⟩ = some (.slice a21_0_seen y0.seen.length c21_0_seen) := by rw [hN.cell (by simp; try omega)]; simp
 clear hN
 replace K5 : Kept (f5_0_text ++ (f5_0_list ++ f5_0_seen)) w5 w22 := K5.below B22 (fun p hp => Nat.lt_of_lt_of_le (UB5 p hp) (by omega))
 replace K8 : Kept (f8_0_text ++ (f8_0_list ++ f8_0_seen)) w17 w22 := K8.below B22 (fun p hp => Nat.lt_of_lt_of_le (UB8 p hp) (by omega))
 replace K21 : Kept (f21_0_text ++ (f21_0_list ++ f21_0_seen)) w21 w22 := K21.below B22 (fun p hp => Nat.lt_of_lt_of_le (UB21 p hp) (by omega))
 have z22_p0 : w.heap.size < w22.heap.size := (by omega)
 have z22_W0 : w5.heap.size < w22.heap.size := (by omega)
 have z22_xx : w6.heap.size < w22.heap.size := (by omega)
 have z22_G0 : w8.heap.size < w22.heap.size := (by omega)
 have z22_H0 : w21.heap.size < w22.heap.size := (by omega)
 clear hb22
 go_wp2_with fail
 refine (heldDoc_c y0.name y0.from_ _ _ _ _ _ _ _ 1 (by omega) (by (try simp only [cntL_mkL]); omega) ((⟨_, S8_0_text.kept (K8.below (show Below w22.heap.size w22 _ from blw2) (fun p hp => Nat.lt_of_lt_of_le (UB8 p hp) (by omega))) (by intro p hp; simp only [List.mem_append]; simp [hp])⟩ : RdS _ _ _)) ((⟨_, S8_0_list.kept (K8.below (show Below w22.heap.size w22 _ from blw2) (fun p hp => Nat.lt_of_lt_of_le (UB8 p hp) (by omega))) (by intro p hp; simp only [List.mem_append]; simp [hp])⟩ : RdS _ _ _)) ((⟨_, S8_0_seen.kept (K8.below (show Below w22.heap.size w22 _ from blw2) (fun p hp => Nat.lt_of_lt_of_le (UB8 p hp) (by omega))) (by intro p hp; simp only [List.mem_append]; simp [hp])⟩ : RdS _ _ _)) (by (try simp only [cntL_mkL]); exact mkL_mkL _ _) (by (try simp only [cntL_mkL]); exact mkL_mkL _ _) (by (try simp only [cntL_mkL]); exact mkL_mkL _ _)).mono ?_
 rintro e w23 ⟨he, hb23⟩
 obtain rfl : e = .returned (.int .i64 m1) := he.trans (by (try simp only [cntL_mkL]); rw [HM1.out])
 clear he
 have B23 : Below w22.heap.size w22 w23 := blw2
 have s23 : w22.heap.size ≤ w23.heap.size := (by have := hb23.size; (try simp at this); omega)
 have hh := mc8 B23 cp0_0 cp0_1 cp0_2 cp0_3 cp0_4 cW0_0 cW0_1 cW0_2
 clear cp0_0 cp0_1 cp0_2 cp0_3 cp0_4 cW0_0 cW0_1 cW0_2
 obtain ⟨cp0_0, cp0_1, cp0_2, cp0_3, cp0_4, cW0_0, cW0_1, cW0_2⟩ := hh
 have hh := mc8 B23 cW0_3 cW0_4 cxx_0 cxx_1 cxx_2 cxx_3 cxx_4 cG0_0
 clear cW0_3 cW0_4 cxx_0 cxx_1 cxx_2 cxx_3 cxx_4 cG0_0
 obtain ⟨cW0_3, cW0_4, cxx_0, cxx_1, cxx_2, cxx_3, cxx_4, cG0_0⟩ := hh
 have hh := mc8 B23 cG0_1 cG0_2 cG0_3 cG0_4 cH0_0 cH0_1 cH0_2 cH0_3
 clear cG0_1 cG0_2 cG0_3 cG0_4 cH0_0 cH0_1 cH0_2 cH0_3
 obtain ⟨cG0_1, cG0_2, cG0_3, cG0_4, cH0_0, cH0_1, cH0_2, cH0_3⟩ := hh
 replace cH0_4 := cellb B23 cH0_4
 replace K5 : Kept (f5_0_text ++ (f5_0_list ++ f5_0_seen)) w5 w23 := K5.below B23 (fun p hp => Nat.lt_of_lt_of_le (UB5 p hp) (by omega))
 replace K8 : Kept (f8_0_text ++ (f8_0_list ++ f8_0_seen)) w17 w23 := K8.below B23 (fun p hp => Nat.lt_of_lt_of_le (UB8 p hp) (by omega))
 have z23_p0 : w.heap.size < w23.heap.size := (by omega)
 have z23_W0 : w5.heap.size < w23.heap.size := (by omega)
 have z23_xx : w6.heap.size < w23.heap.size := (by omega)
 have z23_G0 : w8.heap.size < w23.heap.size := (by omega)
 have z23_H0 : w21.heap.size < w23.heap.size := (by omega)
 clear hb23
 go_wp2
 go_ret
 exact ⟨rfl, blw2⟩
theorem walkc_FnExactSubmit (x : DDoc) (xt : Value) (xl : Value) (xz : Value) (client : Int) (seq : Int) (base : Int) (o : List DPart) (v_o : Value) (w : World) (n_x_name : x.name.size ≤ maxLen) (h_x_text : RdSM maxLen w xt x.text) (h_x_list : RdSM maxLen w xl x.list) (h_x_seen : RdSM maxLen w xz x.seen) (b1_client : -9223372036854775808 ≤ client) (b2_client : client ≤ 9223372036854775807) (b1_seq : -9223372036854775808 ≤ seq) (b2_seq : seq ≤ 9223372036854775807) (b1_base : -9223372036854775808 ≤ base) (b2_base : base ≤ 9223372036854775807) (h_o : RdSM maxLen w v_o o) :
 Calls Tryz.prog 3 #[.agg #[.string x.name, .int .i64 x.from_, xt, xl, xz], .int .i64 client, .int .i64 seq, .int .i64 base, v_o] w (Tells w (.bool true)) :=
 walk_FnExactSubmit x xt xl xz client seq base o v_o w n_x_name h_x_text h_x_list h_x_seen b1_client b2_client b1_seq b2_seq b1_base b2_base h_o ((submit x client seq base o).1) ((submit x client seq base o).2.1) ((submit x client seq base o).2.2) (fun nn _ _ _ _ _ _ _ _ _ _ W h1 h2 h3 h4 => spec_Submit_c x _ _ _ client seq base _ o W nn h1 h2 h3 h4) (fun nn _ _ _ _ _ _ _ _ _ _ W h1 h2 h3 h4 => impl_Submit_c x _ _ _ client seq base _ o W nn h1 h2 h3 h4) (fun hz _ => by have := submit_cnt x client seq base o; have : GoS.sz x = x.name.size + szL x.text + szL x.list + szL x.seen := rfl; omega)
namespace fnExactSubmit
theorem own : ownKnob Tryz.prog.godebug = none := by kernel_rfl
theorem laidOut : laidOutB Tryz.prog = true := by kernel_rfl
set_option maxRecDepth 100000 in
theorem lifted (os : Os) (started : os.Started) (H : Type) (enc : TypeId × Value → H) :
 ReturnsInHanded {} Tryz.checked os 3 .any (Rows.fnExactSubmitSpec.pre6 enc Tryz.prog Tryz.f3 Rows.fnExactSubmitRow.domain false) (Rows.fnExactSubmitSpec.post enc Tryz.prog Tryz.f3 false true false false) := by
 refine returnsInHanded_of_change (C := Tryz.checked) own started (by kernel_rfl) Tryz.func3
  (ChangeSpec.witness6 (enc := enc) (C := Tryz.checked) false ⟨#[], #[.agg #[.string ByteArray.empty, .int .i64 0, .slice none 0 0, .slice none 0 0, .slice none 0 0], .int .i64 0, .int .i64 0, .int .i64 0, .slice none 0 0], []⟩ 8 (by kernel_rfl) (by kernel_rfl) (by kernel_rfl) (by kernel_rfl)) ?_
 intro W base args ds gs before hval0 hW hcnd _
 have hval : ∀ (j : Nat) t v, Tryz.f3.params[j]? = some t → args[j]? = some v → Value.okWide Tryz.prog W .any base t v := hval0
 have hW' := hW
 obtain ⟨p, q, hA0, hV, rfl, hfz, hnd⟩ := hW
 have hA : DataW.TrodAll enc Tryz.prog W 0 (fun _ => true) true Tryz.f3.params.toList args.toList ds p := hA0
 rw [Tryz.params3] at hA hval
 obtain ⟨v0, vs0, d0, ds0, p0, q0, hargs, rfl, rfl, h0, r0⟩ := trodAll_cons hA
 obtain ⟨v1, vs1, d1, ds1, p1, q1, rfl, rfl, rfl, h1, r1⟩ := trodAll_cons r0
 obtain ⟨v2, vs2, d2, ds2, p2, q2, rfl, rfl, rfl, h2, r2⟩ := trodAll_cons r1
 obtain ⟨v3, vs3, d3, ds3, p3, q3, rfl, rfl, rfl, h3, r3⟩ := trodAll_cons r2
 obtain ⟨v4, vs4, d4, ds4, p4, q4, rfl, rfl, rfl, h4, r4⟩ := trodAll_cons r3
 obtain ⟨rfl, rfl, rfl⟩ := trodAll_nil r4
 obtain rfl : args = #[v0, v1, v2, v3, v4] := by cases args; simp_all
 obtain ⟨rfl, rfl⟩ := trodVars_none hV
 obtain ⟨cs0, rfl, _⟩ := okWide_struct Tryz.underlying26 (hval 0 26 v0 rfl rfl)
 have k0 := h0
 have lt0 : ∀ x ∈ p0, x.block < W.heap.size := by obtain ⟨m, hm⟩ := k0; exact DataW.trod_lt m _ _ _ hm
 obtain ⟨x0, m0⟩ : ∃ x : DDoc, RdM maxLen W cs0.toList x := by
  obtain ⟨fuel, hf⟩ := h0
  exact opens_DDoc _ _ _ _ _ _ _ _ hf
 obtain ⟨v_text0, v_list0, v_seen0, hc0, n_name0, m_text0, m_list0, m_seen0⟩ := invM_DDoc m0
 obtain ⟨cs0⟩ := cs0
 simp only at hc0
 subst hc0
 obtain ⟨a1, rfl, rfl, rfl, w1⟩ := open_int Tryz.underlying3 (hval 1 3 v1 rfl rfl) h1
 have b1 := i64_bounds w1
 obtain ⟨a2, rfl, rfl, rfl, w2⟩ := open_int Tryz.underlying3 (hval 2 3 v2 rfl rfl) h2
 have b2 := i64_bounds w2
 obtain ⟨a3, rfl, rfl, rfl, w3⟩ := open_int Tryz.underlying3 (hval 3 3 v3 rfl rfl) h3
 have b3 := i64_bounds w3
 obtain ⟨a4, len4, cap4, rfl⟩ := okWide_slice Tryz.underlying27 (hval 4 27 v4 rfl rfl)
 have k4 := h4
 have lt4 : ∀ x ∈ p4, x.block < W.heap.size := by obtain ⟨m, hm⟩ := k4; exact DataW.trod_lt m _ _ _ hm
 obtain ⟨x4, m4⟩ : ∃ l : List DPart, RdSM maxLen W (.slice a4 len4 cap4) l := by
  obtain ⟨fuel, hf⟩ := h4
  obtain ⟨l, fp, v, hv, hs⟩ := opens_slice Tryz.underlying27 (by kernel_rfl) opens_DPart _ _ _ _ _ _ _ _ hf
  simp only [Value.cells, List.cons.injEq, and_true] at hv
  subst hv
  exact ⟨l, fp, hs⟩
 clear hA0 hval0
 refine (walkc_FnExactSubmit x0 _ _ _ a1 a2 a3 x4 _ W n_name0 m_text0 m_list0 m_seen0 b1.1 b1.2 b2.1 b2.2 b3.1 b3.2 m4).mono fun e W' ⟨he, bel⟩ => ?_
 subst he
 exact ⟨_, rfl, _, _, _, [], _, [], hW', trodAll_mk1 (shut_bool Tryz.underlying4 _), (trodAll_cons_mk (Below.trod laidOut (by kernel_rfl) (of_decide_eq_true (by kernel_rfl)) k0 bel lt0) (trodAll_cons_mk (shut_int Tryz.underlying3 w1) (trodAll_cons_mk (shut_int Tryz.underlying3 w2) (trodAll_cons_mk (shut_int Tryz.underlying3 w3) (trodAll_cons_mk (Below.trod laidOut (by kernel_rfl) (of_decide_eq_true (by kernel_rfl)) k4 bel lt4) trodAll_mk0))))), rfl, bel.frame _, fun h => by cases h⟩
theorem over : Rows.fnExactSubmitRow.holds Tryz.pinned (OpenSpec.ofChange Rows.fnExactSubmitSpec) :=
 OpenClaim.holds_of_wide 3 Tryz.f3 rfl rfl rfl rfl rfl rfl rfl ⟨rfl, rfl, rfl, rfl, rfl⟩ rfl rfl rfl rfl rfl (by kernel_rfl) Tryz.func3 (by kernel_rfl)
  (of_decide_eq_true (by kernel_rfl)) (by unfold Func.isWrapper; first | (rw [if_pos (by decide +kernel)]; kernel_rfl) | (rw [if_neg (by decide +kernel)]; exact ⟨rfl, rfl⟩))
  (fun os started H enc _ => lifted os started H enc)
theorem proved : Rows.FnExactSubmitSaid := over
end fnExactSubmit
#print axioms fnExactSubmit.proved
end Go.Proofs.YtbpbeomngflkfaaGreat
