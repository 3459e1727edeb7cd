/- 'laws.FnExactWriters' answers true for every input, and each argument reads afterwards as before. No conditions. -/
import Derived.Test.YtdbfgolabnomgaaEq3
import Derived.Test.YtdbfgolabnomgaaSz3
import Derived.Test.YtdbfgolabnomgaaConv
import Derived.Test.YtdbfgolabnomgaaWri
import Derived.Test.YtdbfgolabnomgaaOut
import Derived.Test.YtdbfgolabnomgaaRows
import Derived.ProofKit
import Derived.OpenShut
import Derived.ChangeMaps5
import Derived.Deep.RegionHeld3
namespace Go.Proofs.Ytdbfgolabnomgaa
open Go.ChangeShapes Go.WideShapes Go.ChangeAt Go.RowKit
set_option maxHeartbeats 16000000 in
theorem walk_FnExactWriters (o : List DPart) (v_o : Value) (x : List Int) (v_x : Value) (client : Int) (w : World) (h_o : RdSM maxLen w v_o o) (h_x : RdSM maxLen w v_x x) (_b1_client : -9223372036854775808 ≤ client) (_b2_client : client ≤ 9223372036854775807) (y0 : List Int) (y1 : Bool)
    (HS0 : -9223372036854775808 ≤ client → client ≤ 9223372036854775807 → ∀ (v_o v_x : Value) (W : World), RdS W v_o o → RdS W v_x x → Calls Try.prog 47 #[v_o, v_x, .int .i64 client] W (Out_IntS_b W y0 y1))
    (HI0 : -9223372036854775808 ≤ client → client ≤ 9223372036854775807 → ∀ (v_o v_x : Value) (W : World), RdS W v_o o → RdS W v_x x → Calls Try.prog 49 #[v_o, v_x, .int .i64 client] W (Out_IntS_b W y0 y1))
    (HC0 : (szL o : Nat) ≤ 1048576 → x.length ≤ 1048576 → cntL y0 ≤ 1099511627776) :
    Calls Try.prog 9 #[v_o, v_x, .int .i64 client] w (Tells w (.bool true)) := by
  have HS1 := Lib.hid HS0
  have HI1 := Lib.hid HI0
  clear HS0 HI0
  have hl_x := fun w1 ty => h_x.len Try.underlying22 w1 ty
  have hle_x := h_x.le
  by_cases cl_x : x.length ≤ 1048576
  rotate_left
  · go_enter Try.func9, Try.ntmps9
    go_wp2
    go_ret
    exact ⟨rfl, (by repeat' (first | (with_reducible exact Below.refl _ _) | (with_reducible assumption) | (with_reducible refine Below.setCell ?_ ?_ _) | (with_reducible refine Below.alloc ?_ ?_ _) | (with_reducible refine Below.drew ?_) | (with_reducible refine belowN ?_ _) | (with_reducible refine below_after2 ?_ (by assumption) ?_) | omega | (simp; done) | (simp; omega)))⟩
  by_cases cz_o : ((szL o : Nat) : Int) ≤ 1048576
  rotate_left
  · go_enter Try.func9, Try.ntmps9
    go_wp2_with fail
    refine (szPartS_c _ o  _ _ (by omega) (by omega)  (h_o.below (by repeat' (first | (with_reducible exact Below.refl _ _) | (with_reducible assumption) | (with_reducible refine Below.setCell ?_ ?_ _) | (with_reducible refine Below.alloc ?_ ?_ _) | (with_reducible refine Below.drew ?_) | (with_reducible refine belowN ?_ _) | (with_reducible refine below_after2 ?_ (by assumption) ?_) | omega | (simp; done) | (simp; omega))))).mono ?_
    rintro e w1 ⟨rfl, hb1⟩
    have B1 : Below w.heap.size w w1 := (by repeat' (first | (with_reducible exact Below.refl _ _) | (with_reducible assumption) | (with_reducible refine Below.setCell ?_ ?_ _) | (with_reducible refine Below.alloc ?_ ?_ _) | (with_reducible refine Below.drew ?_) | (with_reducible refine belowN ?_ _) | (with_reducible refine below_after2 ?_ (by assumption) ?_) | omega | (simp; done) | (simp; omega)))
    have s1 : w.heap.size ≤ w1.heap.size := (by have := hb1.size; (try simp at this); omega)
    clear hb1
    rw [less_neg (by omega)]
    go_wp2
    go_ret
    exact ⟨rfl, (by repeat' (first | (with_reducible exact Below.refl _ _) | (with_reducible assumption) | (with_reducible refine Below.setCell ?_ ?_ _) | (with_reducible refine Below.alloc ?_ ?_ _) | (with_reducible refine Below.drew ?_) | (with_reducible refine belowN ?_ _) | (with_reducible refine below_after2 ?_ (by assumption) ?_) | omega | (simp; done) | (simp; omega)))⟩
  have hr_o : RdS w v_o o := let ⟨fp, s⟩ := h_o; ⟨fp, s.up (by exact le_BIG (by omega))⟩
  have hr_x : RdS w v_x x := let ⟨fp, s⟩ := h_x; ⟨fp, s.up (by rw [szL_int]; exact le_BIG (by omega))⟩
  have HS := Lib.hid (HS1.out _b1_client _b2_client)
  have HI := Lib.hid (HI1.out _b1_client _b2_client)
  clear HS1 HI1
  have hcnt : cntL y0 ≤ 1099511627776 := HC0 (by omega) (by omega)
  clear HC0
  have cx_o : cntL o ≤ 5 * 1048576 := by have := cntL_le o; omega
  have cx_x : cntL x ≤ 5 * 1048576 := by have := cntL_le x; rw [szL_int] at this; omega
  go_enter Try.func9, Try.ntmps9
  go_wp2_with fail
  refine (szPartS_c _ o  _ _ (by omega) (by omega)  (h_o.below (by repeat' (first | (with_reducible exact Below.refl _ _) | (with_reducible assumption) | (with_reducible refine Below.setCell ?_ ?_ _) | (with_reducible refine Below.alloc ?_ ?_ _) | (with_reducible refine Below.drew ?_) | (with_reducible refine belowN ?_ _) | (with_reducible refine below_after2 ?_ (by assumption) ?_) | omega | (simp; done) | (simp; omega))))).mono ?_
  rintro e w1 ⟨rfl, hb1⟩
  have B1 : Below w.heap.size w w1 := (by repeat' (first | (with_reducible exact Below.refl _ _) | (with_reducible assumption) | (with_reducible refine Below.setCell ?_ ?_ _) | (with_reducible refine Below.alloc ?_ ?_ _) | (with_reducible refine Below.drew ?_) | (with_reducible refine belowN ?_ _) | (with_reducible refine below_after2 ?_ (by assumption) ?_) | omega | (simp; done) | (simp; omega)))
  have s1 : w.heap.size ≤ w1.heap.size := (by have := hb1.size; (try simp at this); omega)
  clear hb1
  rw [less_pos (by omega)]
  go_wp2_with fail
  refine (toPartS_c _ o _ (hr_o.below (by repeat' (first | (with_reducible exact Below.refl _ _) | (with_reducible assumption) | (with_reducible refine Below.setCell ?_ ?_ _) | (with_reducible refine Below.alloc ?_ ?_ _) | (with_reducible refine Below.drew ?_) | (with_reducible refine belowN ?_ _) | (with_reducible refine below_after2 ?_ (by assumption) ?_) | omega | (simp; done) | (simp; omega))))).mono ?_
  rintro e w2 ⟨v2_o, rfl, ⟨f2_o, S2_o, FR2⟩, hb2⟩
  have UB2 : ∀ p ∈ f2_o, p.1 < w2.heap.size := Live.lt (S2_o.live)
  replace FR2 : Fresh (w1.heap.size) w2 f2_o := FR2.mono (by first | exact Nat.le_refl _ | (simp; done) | (simp; omega))
  have K2 : Kept f2_o w2 w2 := Kept.refl _ _
  have B2 : Below w1.heap.size w1 w2 := (by repeat' (first | (with_reducible exact Below.refl _ _) | (with_reducible assumption) | (with_reducible refine Below.setCell ?_ ?_ _) | (with_reducible refine Below.alloc ?_ ?_ _) | (with_reducible refine Below.drew ?_) | (with_reducible refine belowN ?_ _) | (with_reducible refine below_after2 ?_ (by assumption) ?_) | omega | (simp; done) | (simp; omega)))
  have s2 : w1.heap.size ≤ w2.heap.size := (by have := hb2.size; (try simp at this); omega)
  clear hb2
  go_wp2_with fail
  refine (toIntS_c _ x _ (hr_x.below (by repeat' (first | (with_reducible exact Below.refl _ _) | (with_reducible assumption) | (with_reducible refine Below.setCell ?_ ?_ _) | (with_reducible refine Below.alloc ?_ ?_ _) | (with_reducible refine Below.drew ?_) | (with_reducible refine belowN ?_ _) | (with_reducible refine below_after2 ?_ (by assumption) ?_) | omega | (simp; done) | (simp; omega))))).mono ?_
  rintro e w3 ⟨v3_x, rfl, ⟨f3_x, S3_x, FR3⟩, hb3⟩
  have UB3 : ∀ p ∈ f3_x, p.1 < w3.heap.size := Live.lt (S3_x.live)
  replace FR3 : Fresh (w2.heap.size) w3 f3_x := FR3.mono (by first | exact Nat.le_refl _ | (simp; done) | (simp; omega))
  have K3 : Kept f3_x w3 w3 := Kept.refl _ _
  have B3 : Below w2.heap.size w2 w3 := (by repeat' (first | (with_reducible exact Below.refl _ _) | (with_reducible assumption) | (with_reducible refine Below.setCell ?_ ?_ _) | (with_reducible refine Below.alloc ?_ ?_ _) | (with_reducible refine Below.drew ?_) | (with_reducible refine belowN ?_ _) | (with_reducible refine below_after2 ?_ (by assumption) ?_) | omega | (simp; done) | (simp; omega)))
  have s3 : w2.heap.size ≤ w3.heap.size := (by have := hb3.size; (try simp at this); omega)
  replace K2 : Kept f2_o w2 w3 := K2.below B3 (fun p hp => Nat.lt_of_lt_of_le (UB2 p hp) (by omega))
  clear hb3
  go_wp2_with fail
  refine (HS.out _ _ _ ((⟨_, S2_o.kept (K2.below (show Below w3.heap.size w3 _ from (by repeat' (first | (with_reducible exact Below.refl _ _) | (with_reducible assumption) | (with_reducible refine Below.setCell ?_ ?_ _) | (with_reducible refine Below.alloc ?_ ?_ _) | (with_reducible refine Below.drew ?_) | (with_reducible refine belowN ?_ _) | (with_reducible refine below_after2 ?_ (by assumption) ?_) | omega | (simp; done) | (simp; omega)))) (fun p hp => Nat.lt_of_lt_of_le (UB2 p hp) (by omega))) (fun _ h => h)⟩ : RdS _ _ _)) ((⟨_, S3_x.kept (K3.below (show Below w3.heap.size w3 _ from (by repeat' (first | (with_reducible exact Below.refl _ _) | (with_reducible assumption) | (with_reducible refine Below.setCell ?_ ?_ _) | (with_reducible refine Below.alloc ?_ ?_ _) | (with_reducible refine Below.drew ?_) | (with_reducible refine belowN ?_ _) | (with_reducible refine below_after2 ?_ (by assumption) ?_) | omega | (simp; done) | (simp; omega)))) (fun p hp => Nat.lt_of_lt_of_le (UB3 p hp) (by omega))) (fun _ h => h)⟩ : RdS _ _ _))).mono ?_
  rintro e w4 ⟨v4_0, f4_0, rfl, S4_0, FR4, hb4⟩
  have UB4 : ∀ p ∈ f4_0, p.1 < w4.heap.size := Live.lt (S4_0.live)
  replace FR4 : Fresh (w3.heap.size) w4 f4_0 := FR4.mono (by first | exact Nat.le_refl _ | (simp; done) | (simp; omega))
  have K4 : Kept f4_0 w4 w4 := Kept.refl _ _
  have B4 : Below w3.heap.size w3 w4 := (by repeat' (first | (with_reducible exact Below.refl _ _) | (with_reducible assumption) | (with_reducible refine Below.setCell ?_ ?_ _) | (with_reducible refine Below.alloc ?_ ?_ _) | (with_reducible refine Below.drew ?_) | (with_reducible refine belowN ?_ _) | (with_reducible refine below_after2 ?_ (by assumption) ?_) | omega | (simp; done) | (simp; omega)))
  have s4 : w3.heap.size ≤ w4.heap.size := (by have := hb4.size; (try simp at this); omega)
  replace K2 : Kept f2_o w2 w4 := K2.below B4 (fun p hp => Nat.lt_of_lt_of_le (UB2 p hp) (by omega))
  replace K3 : Kept f3_x w3 w4 := K3.below B4 (fun p hp => Nat.lt_of_lt_of_le (UB3 p hp) (by omega))
  clear hb4
  go_wp2_with fail
  refine (toPartS_c _ o _ (hr_o.below (by repeat' (first | (with_reducible exact Below.refl _ _) | (with_reducible assumption) | (with_reducible refine Below.setCell ?_ ?_ _) | (with_reducible refine Below.alloc ?_ ?_ _) | (with_reducible refine Below.drew ?_) | (with_reducible refine belowN ?_ _) | (with_reducible refine below_after2 ?_ (by assumption) ?_) | omega | (simp; done) | (simp; omega))))).mono ?_
  rintro e w5 ⟨v5_o, rfl, ⟨f5_o, S5_o, FR5⟩, hb5⟩
  have UB5 : ∀ p ∈ f5_o, p.1 < w5.heap.size := Live.lt (S5_o.live)
  replace FR5 : Fresh (w4.heap.size) w5 f5_o := FR5.mono (by first | exact Nat.le_refl _ | (simp; done) | (simp; omega))
  have K5 : Kept f5_o w5 w5 := Kept.refl _ _
  have B5 : Below w4.heap.size w4 w5 := (by repeat' (first | (with_reducible exact Below.refl _ _) | (with_reducible assumption) | (with_reducible refine Below.setCell ?_ ?_ _) | (with_reducible refine Below.alloc ?_ ?_ _) | (with_reducible refine Below.drew ?_) | (with_reducible refine belowN ?_ _) | (with_reducible refine below_after2 ?_ (by assumption) ?_) | omega | (simp; done) | (simp; omega)))
  have s5 : w4.heap.size ≤ w5.heap.size := (by have := hb5.size; (try simp at this); omega)
  replace K4 : Kept f4_0 w4 w5 := K4.below B5 (fun p hp => Nat.lt_of_lt_of_le (UB4 p hp) (by omega))
  clear hb5
  go_wp2_with fail
  refine (toIntS_c _ x _ (hr_x.below (by repeat' (first | (with_reducible exact Below.refl _ _) | (with_reducible assumption) | (with_reducible refine Below.setCell ?_ ?_ _) | (with_reducible refine Below.alloc ?_ ?_ _) | (with_reducible refine Below.drew ?_) | (with_reducible refine belowN ?_ _) | (with_reducible refine below_after2 ?_ (by assumption) ?_) | omega | (simp; done) | (simp; omega))))).mono ?_
  rintro e w6 ⟨v6_x, rfl, ⟨f6_x, S6_x, FR6⟩, hb6⟩
  have UB6 : ∀ p ∈ f6_x, p.1 < w6.heap.size := Live.lt (S6_x.live)
  replace FR6 : Fresh (w5.heap.size) w6 f6_x := FR6.mono (by first | exact Nat.le_refl _ | (simp; done) | (simp; omega))
  have K6 : Kept f6_x w6 w6 := Kept.refl _ _
  have B6 : Below w5.heap.size w5 w6 := (by repeat' (first | (with_reducible exact Below.refl _ _) | (with_reducible assumption) | (with_reducible refine Below.setCell ?_ ?_ _) | (with_reducible refine Below.alloc ?_ ?_ _) | (with_reducible refine Below.drew ?_) | (with_reducible refine belowN ?_ _) | (with_reducible refine below_after2 ?_ (by assumption) ?_) | omega | (simp; done) | (simp; omega)))
  have s6 : w5.heap.size ≤ w6.heap.size := (by have := hb6.size; (try simp at this); omega)
  replace K4 : Kept f4_0 w4 w6 := K4.below B6 (fun p hp => Nat.lt_of_lt_of_le (UB4 p hp) (by omega))
  replace K5 : Kept f5_o w5 w6 := K5.below B6 (fun p hp => Nat.lt_of_lt_of_le (UB5 p hp) (by omega))
  clear hb6
  go_wp2_with fail
  refine (HI.out _ _ _ ((⟨_, S5_o.kept (K5.below (show Below w6.heap.size w6 _ from (by repeat' (first | (with_reducible exact Below.refl _ _) | (with_reducible assumption) | (with_reducible refine Below.setCell ?_ ?_ _) | (with_reducible refine Below.alloc ?_ ?_ _) | (with_reducible refine Below.drew ?_) | (with_reducible refine belowN ?_ _) | (with_reducible refine below_after2 ?_ (by assumption) ?_) | omega | (simp; done) | (simp; omega)))) (fun p hp => Nat.lt_of_lt_of_le (UB5 p hp) (by omega))) (fun _ h => h)⟩ : RdS _ _ _)) ((⟨_, S6_x.kept (K6.below (show Below w6.heap.size w6 _ from (by repeat' (first | (with_reducible exact Below.refl _ _) | (with_reducible assumption) | (with_reducible refine Below.setCell ?_ ?_ _) | (with_reducible refine Below.alloc ?_ ?_ _) | (with_reducible refine Below.drew ?_) | (with_reducible refine belowN ?_ _) | (with_reducible refine below_after2 ?_ (by assumption) ?_) | omega | (simp; done) | (simp; omega)))) (fun p hp => Nat.lt_of_lt_of_le (UB6 p hp) (by omega))) (fun _ h => h)⟩ : RdS _ _ _))).mono ?_
  rintro e w7 ⟨v7_0, f7_0, rfl, S7_0, FR7, hb7⟩
  have UB7 : ∀ p ∈ f7_0, p.1 < w7.heap.size := Live.lt (S7_0.live)
  replace FR7 : Fresh (w6.heap.size) w7 f7_0 := FR7.mono (by first | exact Nat.le_refl _ | (simp; done) | (simp; omega))
  have K7 : Kept f7_0 w7 w7 := Kept.refl _ _
  have B7 : Below w6.heap.size w6 w7 := (by repeat' (first | (with_reducible exact Below.refl _ _) | (with_reducible assumption) | (with_reducible refine Below.setCell ?_ ?_ _) | (with_reducible refine Below.alloc ?_ ?_ _) | (with_reducible refine Below.drew ?_) | (with_reducible refine belowN ?_ _) | (with_reducible refine below_after2 ?_ (by assumption) ?_) | omega | (simp; done) | (simp; omega)))
  have s7 : w6.heap.size ≤ w7.heap.size := (by have := hb7.size; (try simp at this); omega)
  replace K4 : Kept f4_0 w4 w7 := K4.below B7 (fun p hp => Nat.lt_of_lt_of_le (UB4 p hp) (by omega))
  replace K5 : Kept f5_o w5 w7 := K5.below B7 (fun p hp => Nat.lt_of_lt_of_le (UB5 p hp) (by omega))
  replace K6 : Kept f6_x w6 w7 := K6.below B7 (fun p hp => Nat.lt_of_lt_of_le (UB6 p hp) (by omega))
  clear hb7
  go_wp2_with fail
  refine (eqIntS_c _ _ y0 _ ((⟨_, S7_0.kept (K7.below (show Below w7.heap.size w7 _ from (by repeat' (first | (with_reducible exact Below.refl _ _) | (with_reducible assumption) | (with_reducible refine Below.setCell ?_ ?_ _) | (with_reducible refine Below.alloc ?_ ?_ _) | (with_reducible refine Below.drew ?_) | (with_reducible refine belowN ?_ _) | (with_reducible refine below_after2 ?_ (by assumption) ?_) | omega | (simp; done) | (simp; omega)))) (fun p hp => Nat.lt_of_lt_of_le (UB7 p hp) (by omega))) (fun _ h => h)⟩ : RdS _ _ _)) ((⟨_, S4_0.kept (K4.below (show Below w7.heap.size w7 _ from (by repeat' (first | (with_reducible exact Below.refl _ _) | (with_reducible assumption) | (with_reducible refine Below.setCell ?_ ?_ _) | (with_reducible refine Below.alloc ?_ ?_ _) | (with_reducible refine Below.drew ?_) | (with_reducible refine belowN ?_ _) | (with_reducible refine below_after2 ?_ (by assumption) ?_) | omega | (simp; done) | (simp; omega)))) (fun p hp => Nat.lt_of_lt_of_le (UB4 p hp) (by omega))) (fun _ h => h)⟩ : RdS _ _ _))).mono ?_
  rintro e w8 ⟨rfl, hb8⟩
  have B8 : Below w7.heap.size w7 w8 := (by repeat' (first | (with_reducible exact Below.refl _ _) | (with_reducible assumption) | (with_reducible refine Below.setCell ?_ ?_ _) | (with_reducible refine Below.alloc ?_ ?_ _) | (with_reducible refine Below.drew ?_) | (with_reducible refine belowN ?_ _) | (with_reducible refine below_after2 ?_ (by assumption) ?_) | omega | (simp; done) | (simp; omega)))
  have s8 : w7.heap.size ≤ w8.heap.size := (by have := hb8.size; (try simp at this); omega)
  replace K4 : Kept f4_0 w4 w8 := K4.below B8 (fun p hp => Nat.lt_of_lt_of_le (UB4 p hp) (by omega))
  replace K5 : Kept f5_o w5 w8 := K5.below B8 (fun p hp => Nat.lt_of_lt_of_le (UB5 p hp) (by omega))
  replace K6 : Kept f6_x w6 w8 := K6.below B8 (fun p hp => Nat.lt_of_lt_of_le (UB6 p hp) (by omega))
  replace K7 : Kept f7_0 w7 w8 := K7.below B8 (fun p hp => Nat.lt_of_lt_of_le (UB7 p hp) (by omega))
  clear hb8
  go_wp2_with fail
  refine (toPartS_c _ o _ (hr_o.below (by repeat' (first | (with_reducible exact Below.refl _ _) | (with_reducible assumption) | (with_reducible refine Below.setCell ?_ ?_ _) | (with_reducible refine Below.alloc ?_ ?_ _) | (with_reducible refine Below.drew ?_) | (with_reducible refine belowN ?_ _) | (with_reducible refine below_after2 ?_ (by assumption) ?_) | omega | (simp; done) | (simp; omega))))).mono ?_
  rintro e w9 ⟨v9_o, rfl, ⟨f9_o, S9_o, FR9⟩, hb9⟩
  have UB9 : ∀ p ∈ f9_o, p.1 < w9.heap.size := Live.lt (S9_o.live)
  replace FR9 : Fresh (w8.heap.size) w9 f9_o := FR9.mono (by first | exact Nat.le_refl _ | (simp; done) | (simp; omega))
  have K9 : Kept f9_o w9 w9 := Kept.refl _ _
  have B9 : Below w8.heap.size w8 w9 := (by repeat' (first | (with_reducible exact Below.refl _ _) | (with_reducible assumption) | (with_reducible refine Below.setCell ?_ ?_ _) | (with_reducible refine Below.alloc ?_ ?_ _) | (with_reducible refine Below.drew ?_) | (with_reducible refine belowN ?_ _) | (with_reducible refine below_after2 ?_ (by assumption) ?_) | omega | (simp; done) | (simp; omega)))
  have s9 : w8.heap.size ≤ w9.heap.size := (by have := hb9.size; (try simp at this); omega)
  replace K4 : Kept f4_0 w4 w9 := K4.below B9 (fun p hp => Nat.lt_of_lt_of_le (UB4 p hp) (by omega))
  replace K5 : Kept f5_o w5 w9 := K5.below B9 (fun p hp => Nat.lt_of_lt_of_le (UB5 p hp) (by omega))
  replace K6 : Kept f6_x w6 w9 := K6.below B9 (fun p hp => Nat.lt_of_lt_of_le (UB6 p hp) (by omega))
  replace K7 : Kept f7_0 w7 w9 := K7.below B9 (fun p hp => Nat.lt_of_lt_of_le (UB7 p hp) (by omega))
  clear hb9
  go_wp2_with fail
  refine (eqPartS_c _ _ o _ ((⟨_, S5_o.kept (K5.below (show Below w9.heap.size w9 _ from (by repeat' (first | (with_reducible exact Below.refl _ _) | (with_reducible assumption) | (with_reducible refine Below.setCell ?_ ?_ _) | (with_reducible refine Below.alloc ?_ ?_ _) | (with_reducible refine Below.drew ?_) | (with_reducible refine belowN ?_ _) | (with_reducible refine below_after2 ?_ (by assumption) ?_) | omega | (simp; done) | (simp; omega)))) (fun p hp => Nat.lt_of_lt_of_le (UB5 p hp) (by omega))) (fun _ h => h)⟩ : RdS _ _ _)) ((⟨_, S9_o.kept (K9.below (show Below w9.heap.size w9 _ from (by repeat' (first | (with_reducible exact Below.refl _ _) | (with_reducible assumption) | (with_reducible refine Below.setCell ?_ ?_ _) | (with_reducible refine Below.alloc ?_ ?_ _) | (with_reducible refine Below.drew ?_) | (with_reducible refine belowN ?_ _) | (with_reducible refine below_after2 ?_ (by assumption) ?_) | omega | (simp; done) | (simp; omega)))) (fun p hp => Nat.lt_of_lt_of_le (UB9 p hp) (by omega))) (fun _ h => h)⟩ : RdS _ _ _))).mono ?_
  rintro e w10 ⟨rfl, hb10⟩
  have B10 : Below w9.heap.size w9 w10 := (by repeat' (first | (with_reducible exact Below.refl _ _) | (with_reducible assumption) | (with_reducible refine Below.setCell ?_ ?_ _) | (with_reducible refine Below.alloc ?_ ?_ _) | (with_reducible refine Below.drew ?_) | (with_reducible refine belowN ?_ _) | (with_reducible refine below_after2 ?_ (by assumption) ?_) | omega | (simp; done) | (simp; omega)))
  have s10 : w9.heap.size ≤ w10.heap.size := (by have := hb10.size; (try simp at this); omega)
  replace K4 : Kept f4_0 w4 w10 := K4.below B10 (fun p hp => Nat.lt_of_lt_of_le (UB4 p hp) (by omega))
  replace K5 : Kept f5_o w5 w10 := K5.below B10 (fun p hp => Nat.lt_of_lt_of_le (UB5 p hp) (by omega))
  replace K6 : Kept f6_x w6 w10 := K6.below B10 (fun p hp => Nat.lt_of_lt_of_le (UB6 p hp) (by omega))
  replace K7 : Kept f7_0 w7 w10 := K7.below B10 (fun p hp => Nat.lt_of_lt_of_le (UB7 p hp) (by omega))
  replace K9 : Kept f9_o w9 w10 := K9.below B10 (fun p hp => Nat.lt_of_lt_of_le (UB9 p hp) (by omega))
  clear hb10
  go_wp2_with fail
  refine (toIntS_c _ x _ (hr_x.below (by repeat' (first | (with_reducible exact Below.refl _ _) | (with_reducible assumption) | (with_reducible refine Below.setCell ?_ ?_ _) | (with_reducible refine Below.alloc ?_ ?_ _) | (with_reducible refine Below.drew ?_) | (with_reducible refine belowN ?_ _) | (with_reducible refine below_after2 ?_ (by assumption) ?_) | omega | (simp; done) | (simp; omega))))).mono ?_
  rintro e w11 ⟨v11_x, rfl, ⟨f11_x, S11_x, FR11⟩, hb11⟩
  have UB11 : ∀ p ∈ f11_x, p.1 < w11.heap.size := Live.lt (S11_x.live)
  replace FR11 : Fresh (w10.heap.size) w11 f11_x := FR11.mono (by first | exact Nat.le_refl _ | (simp; done) | (simp; omega))
  have K11 : Kept f11_x w11 w11 := Kept.refl _ _
  have B11 : Below w10.heap.size w10 w11 := (by repeat' (first | (with_reducible exact Below.refl _ _) | (with_reducible assumption) | (with_reducible refine Below.setCell ?_ ?_ _) | (with_reducible refine Below.alloc ?_ ?_ _) | (with_reducible refine Below.drew ?_) | (with_reducible refine belowN ?_ _) | (with_reducible refine below_after2 ?_ (by assumption) ?_) | omega | (simp; done) | (simp; omega)))
  have s11 : w10.heap.size ≤ w11.heap.size := (by have := hb11.size; (try simp at this); omega)
  replace K4 : Kept f4_0 w4 w11 := K4.below B11 (fun p hp => Nat.lt_of_lt_of_le (UB4 p hp) (by omega))
  replace K5 : Kept f5_o w5 w11 := K5.below B11 (fun p hp => Nat.lt_of_lt_of_le (UB5 p hp) (by omega))
  replace K6 : Kept f6_x w6 w11 := K6.below B11 (fun p hp => Nat.lt_of_lt_of_le (UB6 p hp) (by omega))
  replace K7 : Kept f7_0 w7 w11 := K7.below B11 (fun p hp => Nat.lt_of_lt_of_le (UB7 p hp) (by omega))
  clear hb11
  go_wp2_with fail
  refine (eqIntS_c _ _ x _ ((⟨_, S6_x.kept (K6.below (show Below w11.heap.size w11 _ from (by repeat' (first | (with_reducible exact Below.refl _ _) | (with_reducible assumption) | (with_reducible refine Below.setCell ?_ ?_ _) | (with_reducible refine Below.alloc ?_ ?_ _) | (with_reducible refine Below.drew ?_) | (with_reducible refine belowN ?_ _) | (with_reducible refine below_after2 ?_ (by assumption) ?_) | omega | (simp; done) | (simp; omega)))) (fun p hp => Nat.lt_of_lt_of_le (UB6 p hp) (by omega))) (fun _ h => h)⟩ : RdS _ _ _)) ((⟨_, S11_x.kept (K11.below (show Below w11.heap.size w11 _ from (by repeat' (first | (with_reducible exact Below.refl _ _) | (with_reducible assumption) | (with_reducible refine Below.setCell ?_ ?_ _) | (with_reducible refine Below.alloc ?_ ?_ _) | (with_reducible refine Below.drew ?_) | (with_reducible refine belowN ?_ _) | (with_reducible refine below_after2 ?_ (by assumption) ?_) | omega | (simp; done) | (simp; omega)))) (fun p hp => Nat.lt_of_lt_of_le (UB11 p hp) (by omega))) (fun _ h => h)⟩ : RdS _ _ _))).mono ?_
  rintro e w12 ⟨rfl, hb12⟩
  have B12 : Below w11.heap.size w11 w12 := (by repeat' (first | (with_reducible exact Below.refl _ _) | (with_reducible assumption) | (with_reducible refine Below.setCell ?_ ?_ _) | (with_reducible refine Below.alloc ?_ ?_ _) | (with_reducible refine Below.drew ?_) | (with_reducible refine belowN ?_ _) | (with_reducible refine below_after2 ?_ (by assumption) ?_) | omega | (simp; done) | (simp; omega)))
  have s12 : w11.heap.size ≤ w12.heap.size := (by have := hb12.size; (try simp at this); omega)
  replace K4 : Kept f4_0 w4 w12 := K4.below B12 (fun p hp => Nat.lt_of_lt_of_le (UB4 p hp) (by omega))
  replace K5 : Kept f5_o w5 w12 := K5.below B12 (fun p hp => Nat.lt_of_lt_of_le (UB5 p hp) (by omega))
  replace K6 : Kept f6_x w6 w12 := K6.below B12 (fun p hp => Nat.lt_of_lt_of_le (UB6 p hp) (by omega))
  replace K7 : Kept f7_0 w7 w12 := K7.below B12 (fun p hp => Nat.lt_of_lt_of_le (UB7 p hp) (by omega))
  replace K11 : Kept f11_x w11 w12 := K11.below B12 (fun p hp => Nat.lt_of_lt_of_le (UB11 p hp) (by omega))
  clear hb12
  replace S5_o := S5_o.kept K5 (fun _ h => h)
  replace FR5 := FR5.kept K5 (fun _ h => h)
  clear K5
  go_wp2_with fail
  refine (markPartS_c (w4.heap.size) _ _ f5_o _ 1 (by omega) (by omega) (S5_o.belowW (by repeat' (first | (with_reducible exact Below.refl _ _) | (with_reducible assumption) | (with_reducible refine Below.setCell ?_ ?_ _) | (with_reducible refine Below.alloc ?_ ?_ _) | (with_reducible refine Below.drew ?_) | (with_reducible refine belowN ?_ _) | (with_reducible refine below_after2 ?_ (by assumption) ?_) | omega | (simp; done) | (simp; omega)))) (FR5.belowL (by repeat' (first | (with_reducible exact Below.refl _ _) | (with_reducible assumption) | (with_reducible refine Below.setCell ?_ ?_ _) | (with_reducible refine Below.alloc ?_ ?_ _) | (with_reducible refine Below.drew ?_) | (with_reducible refine belowN ?_ _) | (with_reducible refine below_after2 ?_ (by assumption) ?_) | omega | (simp; done) | (simp; omega))) (fun p hp => Nat.lt_of_lt_of_le (UB5 p hp) (by omega)))).mono ?_
  rintro e w13 ⟨he, T13_o, hw13⟩
  have s13 : w12.heap.size ≤ w13.heap.size := wrs hw13 (by repeat' (first | (with_reducible exact Below.refl _ _) | (with_reducible assumption) | (with_reducible refine Below.setCell ?_ ?_ _) | (with_reducible refine Below.alloc ?_ ?_ _) | (with_reducible refine Below.drew ?_) | (with_reducible refine belowN ?_ _) | (with_reducible refine below_after2 ?_ (by assumption) ?_) | omega | (simp; done) | (simp; omega)))
  replace K4 : Kept f4_0 w4 w13 := K4.wr2 (by repeat' (first | (with_reducible exact Below.refl _ _) | (with_reducible assumption) | (with_reducible refine Below.setCell ?_ ?_ _) | (with_reducible refine Below.alloc ?_ ?_ _) | (with_reducible refine Below.drew ?_) | (with_reducible refine belowN ?_ _) | (with_reducible refine below_after2 ?_ (by assumption) ?_) | omega | (simp; done) | (simp; omega))) hw13 (fun p hp => Nat.lt_of_lt_of_le (UB4 p hp) (by omega)) (fun q hq hp => by have q1 := FR5.ge q hp; have q2 := UB5 q hp; first | (have q3 := UB4 q hq; omega) | (have q3 := FR4.ge q hq; omega))
  replace K6 : Kept f6_x w6 w13 := K6.wr2 (by repeat' (first | (with_reducible exact Below.refl _ _) | (with_reducible assumption) | (with_reducible refine Below.setCell ?_ ?_ _) | (with_reducible refine Below.alloc ?_ ?_ _) | (with_reducible refine Below.drew ?_) | (with_reducible refine belowN ?_ _) | (with_reducible refine below_after2 ?_ (by assumption) ?_) | omega | (simp; done) | (simp; omega))) hw13 (fun p hp => Nat.lt_of_lt_of_le (UB6 p hp) (by omega)) (fun q hq hp => by have q1 := FR5.ge q hp; have q2 := UB5 q hp; first | (have q3 := UB6 q hq; omega) | (have q3 := FR6.ge q hq; omega))
  replace K7 : Kept f7_0 w7 w13 := K7.wr2 (by repeat' (first | (with_reducible exact Below.refl _ _) | (with_reducible assumption) | (with_reducible refine Below.setCell ?_ ?_ _) | (with_reducible refine Below.alloc ?_ ?_ _) | (with_reducible refine Below.drew ?_) | (with_reducible refine belowN ?_ _) | (with_reducible refine below_after2 ?_ (by assumption) ?_) | omega | (simp; done) | (simp; omega))) hw13 (fun p hp => Nat.lt_of_lt_of_le (UB7 p hp) (by omega)) (fun q hq hp => by have q1 := FR5.ge q hp; have q2 := UB5 q hp; first | (have q3 := UB7 q hq; omega) | (have q3 := FR7.ge q hq; omega))
  have B13 : Below (w4.heap.size) w12 w13 := wrb hw13 (by repeat' (first | (with_reducible exact Below.refl _ _) | (with_reducible assumption) | (with_reducible refine Below.setCell ?_ ?_ _) | (with_reducible refine Below.alloc ?_ ?_ _) | (with_reducible refine Below.drew ?_) | (with_reducible refine belowN ?_ _) | (with_reducible refine below_after2 ?_ (by assumption) ?_) | omega | (simp; done) | (simp; omega))) (by omega) (fun p hp => FR5.ge p hp)
  replace FR5 : Fresh (w4.heap.size) w13 f5_o := FR5.wr2 (by repeat' (first | (with_reducible exact Below.refl _ _) | (with_reducible assumption) | (with_reducible refine Below.setCell ?_ ?_ _) | (with_reducible refine Below.alloc ?_ ?_ _) | (with_reducible refine Below.drew ?_) | (with_reducible refine belowN ?_ _) | (with_reducible refine below_after2 ?_ (by assumption) ?_) | omega | (simp; done) | (simp; omega))) hw13 (fun p hp => Nat.lt_of_lt_of_le (UB5 p hp) (by omega))
  replace S5_o := T13_o
  have K5 : Kept f5_o w13 w13 := Kept.refl _ _
  obtain ⟨k1, hk1, hp1⟩ : ∃ k : Int, k = 1 + ((cntL o : Nat) : Int) ∧ 1 ≤ k := ⟨_, rfl, by omega⟩
  obtain rfl : e = .returned (.int .i64 k1) := he.trans (by rw [hk1])
  have hq1 : k1 ≤ 1 + 5242880 := by omega
  clear he hk1
  replace S6_x := S6_x.kept K6 (fun _ h => h)
  replace FR6 := FR6.kept K6 (fun _ h => h)
  clear K6
  go_wp2_with fail
  refine (markIntS_c (w5.heap.size) _ _ f6_x _ k1 (by omega) (by omega) (S6_x.belowW (by repeat' (first | (with_reducible exact Below.refl _ _) | (with_reducible assumption) | (with_reducible refine Below.setCell ?_ ?_ _) | (with_reducible refine Below.alloc ?_ ?_ _) | (with_reducible refine Below.drew ?_) | (with_reducible refine belowN ?_ _) | (with_reducible refine below_after2 ?_ (by assumption) ?_) | omega | (simp; done) | (simp; omega)))) (FR6.belowL (by repeat' (first | (with_reducible exact Below.refl _ _) | (with_reducible assumption) | (with_reducible refine Below.setCell ?_ ?_ _) | (with_reducible refine Below.alloc ?_ ?_ _) | (with_reducible refine Below.drew ?_) | (with_reducible refine belowN ?_ _) | (with_reducible refine below_after2 ?_ (by assumption) ?_) | omega | (simp; done) | (simp; omega))) (fun p hp => Nat.lt_of_lt_of_le (UB6 p hp) (by omega)))).mono ?_
  rintro e w14 ⟨he, T14_x, hw14⟩
  have s14 : w13.heap.size ≤ w14.heap.size := wrs hw14 (by repeat' (first | (with_reducible exact Below.refl _ _) | (with_reducible assumption) | (with_reducible refine Below.setCell ?_ ?_ _) | (with_reducible refine Below.alloc ?_ ?_ _) | (with_reducible refine Below.drew ?_) | (with_reducible refine belowN ?_ _) | (with_reducible refine below_after2 ?_ (by assumption) ?_) | omega | (simp; done) | (simp; omega)))
  replace K4 : Kept f4_0 w4 w14 := K4.wr2 (by repeat' (first | (with_reducible exact Below.refl _ _) | (with_reducible assumption) | (with_reducible refine Below.setCell ?_ ?_ _) | (with_reducible refine Below.alloc ?_ ?_ _) | (with_reducible refine Below.drew ?_) | (with_reducible refine belowN ?_ _) | (with_reducible refine below_after2 ?_ (by assumption) ?_) | omega | (simp; done) | (simp; omega))) hw14 (fun p hp => Nat.lt_of_lt_of_le (UB4 p hp) (by omega)) (fun q hq hp => by have q1 := FR6.ge q hp; have q2 := UB6 q hp; first | (have q3 := UB4 q hq; omega) | (have q3 := FR4.ge q hq; omega))
  replace K5 : Kept f5_o w13 w14 := K5.wr2 (by repeat' (first | (with_reducible exact Below.refl _ _) | (with_reducible assumption) | (with_reducible refine Below.setCell ?_ ?_ _) | (with_reducible refine Below.alloc ?_ ?_ _) | (with_reducible refine Below.drew ?_) | (with_reducible refine belowN ?_ _) | (with_reducible refine below_after2 ?_ (by assumption) ?_) | omega | (simp; done) | (simp; omega))) hw14 (fun p hp => Nat.lt_of_lt_of_le (UB5 p hp) (by omega)) (fun q hq hp => by have q1 := FR6.ge q hp; have q2 := UB6 q hp; first | (have q3 := UB5 q hq; omega) | (have q3 := FR5.ge q hq; omega))
  replace K7 : Kept f7_0 w7 w14 := K7.wr2 (by repeat' (first | (with_reducible exact Below.refl _ _) | (with_reducible assumption) | (with_reducible refine Below.setCell ?_ ?_ _) | (with_reducible refine Below.alloc ?_ ?_ _) | (with_reducible refine Below.drew ?_) | (with_reducible refine belowN ?_ _) | (with_reducible refine below_after2 ?_ (by assumption) ?_) | omega | (simp; done) | (simp; omega))) hw14 (fun p hp => Nat.lt_of_lt_of_le (UB7 p hp) (by omega)) (fun q hq hp => by have q1 := FR6.ge q hp; have q2 := UB6 q hp; first | (have q3 := UB7 q hq; omega) | (have q3 := FR7.ge q hq; omega))
  have B14 : Below (w5.heap.size) w13 w14 := wrb hw14 (by repeat' (first | (with_reducible exact Below.refl _ _) | (with_reducible assumption) | (with_reducible refine Below.setCell ?_ ?_ _) | (with_reducible refine Below.alloc ?_ ?_ _) | (with_reducible refine Below.drew ?_) | (with_reducible refine belowN ?_ _) | (with_reducible refine below_after2 ?_ (by assumption) ?_) | omega | (simp; done) | (simp; omega))) (by omega) (fun p hp => FR6.ge p hp)
  replace FR6 : Fresh (w5.heap.size) w14 f6_x := FR6.wr2 (by repeat' (first | (with_reducible exact Below.refl _ _) | (with_reducible assumption) | (with_reducible refine Below.setCell ?_ ?_ _) | (with_reducible refine Below.alloc ?_ ?_ _) | (with_reducible refine Below.drew ?_) | (with_reducible refine belowN ?_ _) | (with_reducible refine below_after2 ?_ (by assumption) ?_) | omega | (simp; done) | (simp; omega))) hw14 (fun p hp => Nat.lt_of_lt_of_le (UB6 p hp) (by omega))
  replace S6_x := T14_x
  have K6 : Kept f6_x w14 w14 := Kept.refl _ _
  obtain ⟨k2, hk2, hp2⟩ : ∃ k : Int, k = k1 + ((cntL x : Nat) : Int) ∧ k1 ≤ k := ⟨_, rfl, by omega⟩
  obtain rfl : e = .returned (.int .i64 k2) := he.trans (by rw [hk2])
  have hq2 : k2 ≤ k1 + 5242880 := by omega
  clear he hk2
  have hkn : decide (k2 < 0) = false := by simp; omega
  have hkm : ¬ k2 < 0 := by omega
  go_wp2_with fail
  refine (eqIntS_c _ _ y0 _ ((⟨_, S7_0.kept (K7.below (show Below w14.heap.size w14 _ from (by repeat' (first | (with_reducible exact Below.refl _ _) | (with_reducible assumption) | (with_reducible refine Below.setCell ?_ ?_ _) | (with_reducible refine Below.alloc ?_ ?_ _) | (with_reducible refine Below.drew ?_) | (with_reducible refine belowN ?_ _) | (with_reducible refine below_after2 ?_ (by assumption) ?_) | omega | (simp; done) | (simp; omega)))) (fun p hp => Nat.lt_of_lt_of_le (UB7 p hp) (by omega))) (fun _ h => h)⟩ : RdS _ _ _)) ((⟨_, S4_0.kept (K4.below (show Below w14.heap.size w14 _ from (by repeat' (first | (with_reducible exact Below.refl _ _) | (with_reducible assumption) | (with_reducible refine Below.setCell ?_ ?_ _) | (with_reducible refine Below.alloc ?_ ?_ _) | (with_reducible refine Below.drew ?_) | (with_reducible refine belowN ?_ _) | (with_reducible refine below_after2 ?_ (by assumption) ?_) | omega | (simp; done) | (simp; omega)))) (fun p hp => Nat.lt_of_lt_of_le (UB4 p hp) (by omega))) (fun _ h => h)⟩ : RdS _ _ _))).mono ?_
  rintro e w15 ⟨rfl, hb15⟩
  have B15 : Below w14.heap.size w14 w15 := (by repeat' (first | (with_reducible exact Below.refl _ _) | (with_reducible assumption) | (with_reducible refine Below.setCell ?_ ?_ _) | (with_reducible refine Below.alloc ?_ ?_ _) | (with_reducible refine Below.drew ?_) | (with_reducible refine belowN ?_ _) | (with_reducible refine below_after2 ?_ (by assumption) ?_) | omega | (simp; done) | (simp; omega)))
  have s15 : w14.heap.size ≤ w15.heap.size := (by have := hb15.size; (try simp at this); omega)
  replace K4 : Kept f4_0 w4 w15 := K4.below B15 (fun p hp => Nat.lt_of_lt_of_le (UB4 p hp) (by omega))
  replace K7 : Kept f7_0 w7 w15 := K7.below B15 (fun p hp => Nat.lt_of_lt_of_le (UB7 p hp) (by omega))
  clear hb15
  replace S7_0 := S7_0.kept K7 (fun _ h => h)
  replace FR7 := FR7.kept K7 (fun _ h => h)
  clear K7
  go_wp2_with fail
  refine (markIntS_c (w6.heap.size) _ _ f7_0 _ 1 (by omega) (by omega) (S7_0.belowW (by repeat' (first | (with_reducible exact Below.refl _ _) | (with_reducible assumption) | (with_reducible refine Below.setCell ?_ ?_ _) | (with_reducible refine Below.alloc ?_ ?_ _) | (with_reducible refine Below.drew ?_) | (with_reducible refine belowN ?_ _) | (with_reducible refine below_after2 ?_ (by assumption) ?_) | omega | (simp; done) | (simp; omega)))) (FR7.belowL (by repeat' (first | (with_reducible exact Below.refl _ _) | (with_reducible assumption) | (with_reducible refine Below.setCell ?_ ?_ _) | (with_reducible refine Below.alloc ?_ ?_ _) | (with_reducible refine Below.drew ?_) | (with_reducible refine belowN ?_ _) | (with_reducible refine below_after2 ?_ (by assumption) ?_) | omega | (simp; done) | (simp; omega))) (fun p hp => Nat.lt_of_lt_of_le (UB7 p hp) (by omega)))).mono ?_
  rintro e w16 ⟨he, T16_0, hw16⟩
  have s16 : w15.heap.size ≤ w16.heap.size := wrs hw16 (by repeat' (first | (with_reducible exact Below.refl _ _) | (with_reducible assumption) | (with_reducible refine Below.setCell ?_ ?_ _) | (with_reducible refine Below.alloc ?_ ?_ _) | (with_reducible refine Below.drew ?_) | (with_reducible refine belowN ?_ _) | (with_reducible refine below_after2 ?_ (by assumption) ?_) | omega | (simp; done) | (simp; omega)))
  replace K4 : Kept f4_0 w4 w16 := K4.wr2 (by repeat' (first | (with_reducible exact Below.refl _ _) | (with_reducible assumption) | (with_reducible refine Below.setCell ?_ ?_ _) | (with_reducible refine Below.alloc ?_ ?_ _) | (with_reducible refine Below.drew ?_) | (with_reducible refine belowN ?_ _) | (with_reducible refine below_after2 ?_ (by assumption) ?_) | omega | (simp; done) | (simp; omega))) hw16 (fun p hp => Nat.lt_of_lt_of_le (UB4 p hp) (by omega)) (fun q hq hp => by have q1 := FR7.ge q hp; have q2 := UB7 q hp; first | (have q3 := UB4 q hq; omega) | (have q3 := FR4.ge q hq; omega))
  have B16 : Below (w6.heap.size) w15 w16 := wrb hw16 (by repeat' (first | (with_reducible exact Below.refl _ _) | (with_reducible assumption) | (with_reducible refine Below.setCell ?_ ?_ _) | (with_reducible refine Below.alloc ?_ ?_ _) | (with_reducible refine Below.drew ?_) | (with_reducible refine belowN ?_ _) | (with_reducible refine below_after2 ?_ (by assumption) ?_) | omega | (simp; done) | (simp; omega))) (by omega) (fun p hp => FR7.ge p hp)
  replace FR7 : Fresh (w6.heap.size) w16 f7_0 := FR7.wr2 (by repeat' (first | (with_reducible exact Below.refl _ _) | (with_reducible assumption) | (with_reducible refine Below.setCell ?_ ?_ _) | (with_reducible refine Below.alloc ?_ ?_ _) | (with_reducible refine Below.drew ?_) | (with_reducible refine belowN ?_ _) | (with_reducible refine below_after2 ?_ (by assumption) ?_) | omega | (simp; done) | (simp; omega))) hw16 (fun p hp => Nat.lt_of_lt_of_le (UB7 p hp) (by omega))
  replace S7_0 := T16_0
  have K7 : Kept f7_0 w16 w16 := Kept.refl _ _
  obtain ⟨m1, hm1, hn1⟩ : ∃ m : Int, m = 1 + ((cntL y0 : Nat) : Int) ∧ 1 ≤ m := ⟨_, rfl, by omega⟩
  obtain rfl : e = .returned (.int .i64 m1) := he.trans (by rw [hm1])
  have ho1 : m1 ≤ 1 + 1099511627776 := by omega
  have HM1 : Hid (m1 = 1 + ((cntL y0 : Nat) : Int)) := Lib.hid hm1
  clear he hm1
  have hx1 : decide (m1 < 0) = false := by simp; omega
  have hy1 : ¬ m1 < 0 := by omega
  have hz : (m1 != m1) = false := by simp
  go_wp2_with fail
  refine (heldIntS_c _ _ _ 1 (by omega) (by rw [cntL_mkL]; omega) ((⟨_, S7_0.kept (K7.below (show Below w16.heap.size w16 _ from (by repeat' (first | (with_reducible exact Below.refl _ _) | (with_reducible assumption) | (with_reducible refine Below.setCell ?_ ?_ _) | (with_reducible refine Below.alloc ?_ ?_ _) | (with_reducible refine Below.drew ?_) | (with_reducible refine belowN ?_ _) | (with_reducible refine below_after2 ?_ (by assumption) ?_) | omega | (simp; done) | (simp; omega)))) (fun p hp => Nat.lt_of_lt_of_le (UB7 p hp) (by omega))) (fun _ h => h)⟩ : RdS _ _ _)) (mkL_mkL _ _)).mono ?_
  rintro e w17 ⟨he, hb17⟩
  obtain rfl : e = .returned (.int .i64 m1) := he.trans (by simp only [cntL_mkL]; rw [HM1.out])
  clear he
  have B17 : Below w16.heap.size w16 w17 := (by repeat' (first | (with_reducible exact Below.refl _ _) | (with_reducible assumption) | (with_reducible refine Below.setCell ?_ ?_ _) | (with_reducible refine Below.alloc ?_ ?_ _) | (with_reducible refine Below.drew ?_) | (with_reducible refine belowN ?_ _) | (with_reducible refine below_after2 ?_ (by assumption) ?_) | omega | (simp; done) | (simp; omega)))
  have s17 : w16.heap.size ≤ w17.heap.size := (by have := hb17.size; (try simp at this); omega)
  replace K4 : Kept f4_0 w4 w17 := K4.below B17 (fun p hp => Nat.lt_of_lt_of_le (UB4 p hp) (by omega))
  replace K7 : Kept f7_0 w16 w17 := K7.below B17 (fun p hp => Nat.lt_of_lt_of_le (UB7 p hp) (by omega))
  clear hb17
  go_wp2_with fail
  refine (toPartS_c _ o _ (hr_o.below (by repeat' (first | (with_reducible exact Below.refl _ _) | (with_reducible assumption) | (with_reducible refine Below.setCell ?_ ?_ _) | (with_reducible refine Below.alloc ?_ ?_ _) | (with_reducible refine Below.drew ?_) | (with_reducible refine belowN ?_ _) | (with_reducible refine below_after2 ?_ (by assumption) ?_) | omega | (simp; done) | (simp; omega))))).mono ?_
  rintro e w18 ⟨v18_o, rfl, ⟨f18_o, S18_o, FR18⟩, hb18⟩
  have UB18 : ∀ p ∈ f18_o, p.1 < w18.heap.size := Live.lt (S18_o.live)
  replace FR18 : Fresh (w17.heap.size) w18 f18_o := FR18.mono (by first | exact Nat.le_refl _ | (simp; done) | (simp; omega))
  have K18 : Kept f18_o w18 w18 := Kept.refl _ _
  have B18 : Below w17.heap.size w17 w18 := (by repeat' (first | (with_reducible exact Below.refl _ _) | (with_reducible assumption) | (with_reducible refine Below.setCell ?_ ?_ _) | (with_reducible refine Below.alloc ?_ ?_ _) | (with_reducible refine Below.drew ?_) | (with_reducible refine belowN ?_ _) | (with_reducible refine below_after2 ?_ (by assumption) ?_) | omega | (simp; done) | (simp; omega)))
  have s18 : w17.heap.size ≤ w18.heap.size := (by have := hb18.size; (try simp at this); omega)
  replace K4 : Kept f4_0 w4 w18 := K4.below B18 (fun p hp => Nat.lt_of_lt_of_le (UB4 p hp) (by omega))
  replace K7 : Kept f7_0 w16 w18 := K7.below B18 (fun p hp => Nat.lt_of_lt_of_le (UB7 p hp) (by omega))
  clear hb18
  go_wp2_with fail
  refine (toIntS_c _ x _ (hr_x.below (by repeat' (first | (with_reducible exact Below.refl _ _) | (with_reducible assumption) | (with_reducible refine Below.setCell ?_ ?_ _) | (with_reducible refine Below.alloc ?_ ?_ _) | (with_reducible refine Below.drew ?_) | (with_reducible refine belowN ?_ _) | (with_reducible refine below_after2 ?_ (by assumption) ?_) | omega | (simp; done) | (simp; omega))))).mono ?_
  rintro e w19 ⟨v19_x, rfl, ⟨f19_x, S19_x, FR19⟩, hb19⟩
  have UB19 : ∀ p ∈ f19_x, p.1 < w19.heap.size := Live.lt (S19_x.live)
  replace FR19 : Fresh (w18.heap.size) w19 f19_x := FR19.mono (by first | exact Nat.le_refl _ | (simp; done) | (simp; omega))
  have K19 : Kept f19_x w19 w19 := Kept.refl _ _
  have B19 : Below w18.heap.size w18 w19 := (by repeat' (first | (with_reducible exact Below.refl _ _) | (with_reducible assumption) | (with_reducible refine Below.setCell ?_ ?_ _) | (with_reducible refine Below.alloc ?_ ?_ _) | (with_reducible refine Below.drew ?_) | (with_reducible refine belowN ?_ _) | (with_reducible refine below_after2 ?_ (by assumption) ?_) | omega | (simp; done) | (simp; omega)))
  have s19 : w18.heap.size ≤ w19.heap.size := (by have := hb19.size; (try simp at this); omega)
  replace K4 : Kept f4_0 w4 w19 := K4.below B19 (fun p hp => Nat.lt_of_lt_of_le (UB4 p hp) (by omega))
  replace K7 : Kept f7_0 w16 w19 := K7.below B19 (fun p hp => Nat.lt_of_lt_of_le (UB7 p hp) (by omega))
  replace K18 : Kept f18_o w18 w19 := K18.below B19 (fun p hp => Nat.lt_of_lt_of_le (UB18 p hp) (by omega))
  clear hb19
  go_wp2_with fail
  refine (HI.out _ _ _ ((⟨_, S18_o.kept (K18.below (show Below w19.heap.size w19 _ from (by repeat' (first | (with_reducible exact Below.refl _ _) | (with_reducible assumption) | (with_reducible refine Below.setCell ?_ ?_ _) | (with_reducible refine Below.alloc ?_ ?_ _) | (with_reducible refine Below.drew ?_) | (with_reducible refine belowN ?_ _) | (with_reducible refine below_after2 ?_ (by assumption) ?_) | omega | (simp; done) | (simp; omega)))) (fun p hp => Nat.lt_of_lt_of_le (UB18 p hp) (by omega))) (fun _ h => h)⟩ : RdS _ _ _)) ((⟨_, S19_x.kept (K19.below (show Below w19.heap.size w19 _ from (by repeat' (first | (with_reducible exact Below.refl _ _) | (with_reducible assumption) | (with_reducible refine Below.setCell ?_ ?_ _) | (with_reducible refine Below.alloc ?_ ?_ _) | (with_reducible refine Below.drew ?_) | (with_reducible refine belowN ?_ _) | (with_reducible refine below_after2 ?_ (by assumption) ?_) | omega | (simp; done) | (simp; omega)))) (fun p hp => Nat.lt_of_lt_of_le (UB19 p hp) (by omega))) (fun _ h => h)⟩ : RdS _ _ _))).mono ?_
  rintro e w20 ⟨v20_0, f20_0, rfl, S20_0, FR20, hb20⟩
  have UB20 : ∀ p ∈ f20_0, p.1 < w20.heap.size := Live.lt (S20_0.live)
  replace FR20 : Fresh (w19.heap.size) w20 f20_0 := FR20.mono (by first | exact Nat.le_refl _ | (simp; done) | (simp; omega))
  have K20 : Kept f20_0 w20 w20 := Kept.refl _ _
  have B20 : Below w19.heap.size w19 w20 := (by repeat' (first | (with_reducible exact Below.refl _ _) | (with_reducible assumption) | (with_reducible refine Below.setCell ?_ ?_ _) | (with_reducible refine Below.alloc ?_ ?_ _) | (with_reducible refine Below.drew ?_) | (with_reducible refine belowN ?_ _) | (with_reducible refine below_after2 ?_ (by assumption) ?_) | omega | (simp; done) | (simp; omega)))
  have s20 : w19.heap.size ≤ w20.heap.size := (by have := hb20.size; (try simp at this); omega)
  replace K4 : Kept f4_0 w4 w20 := K4.below B20 (fun p hp => Nat.lt_of_lt_of_le (UB4 p hp) (by omega))
  replace K7 : Kept f7_0 w16 w20 := K7.below B20 (fun p hp => Nat.lt_of_lt_of_le (UB7 p hp) (by omega))
  replace K18 : Kept f18_o w18 w20 := K18.below B20 (fun p hp => Nat.lt_of_lt_of_le (UB18 p hp) (by omega))
  replace K19 : Kept f19_x w19 w20 := K19.below B20 (fun p hp => Nat.lt_of_lt_of_le (UB19 p hp) (by omega))
  clear hb20
  go_wp2_with fail
  refine (eqIntS_c _ _ y0 _ ((⟨_, S20_0.kept (K20.below (show Below w20.heap.size w20 _ from (by repeat' (first | (with_reducible exact Below.refl _ _) | (with_reducible assumption) | (with_reducible refine Below.setCell ?_ ?_ _) | (with_reducible refine Below.alloc ?_ ?_ _) | (with_reducible refine Below.drew ?_) | (with_reducible refine belowN ?_ _) | (with_reducible refine below_after2 ?_ (by assumption) ?_) | omega | (simp; done) | (simp; omega)))) (fun p hp => Nat.lt_of_lt_of_le (UB20 p hp) (by omega))) (fun _ h => h)⟩ : RdS _ _ _)) ((⟨_, S4_0.kept (K4.below (show Below w20.heap.size w20 _ from (by repeat' (first | (with_reducible exact Below.refl _ _) | (with_reducible assumption) | (with_reducible refine Below.setCell ?_ ?_ _) | (with_reducible refine Below.alloc ?_ ?_ _) | (with_reducible refine Below.drew ?_) | (with_reducible refine belowN ?_ _) | (with_reducible refine below_after2 ?_ (by assumption) ?_) | omega | (simp; done) | (simp; omega)))) (fun p hp => Nat.lt_of_lt_of_le (UB4 p hp) (by omega))) (fun _ h => h)⟩ : RdS _ _ _))).mono ?_
  rintro e w21 ⟨rfl, hb21⟩
  have B21 : Below w20.heap.size w20 w21 := (by repeat' (first | (with_reducible exact Below.refl _ _) | (with_reducible assumption) | (with_reducible refine Below.setCell ?_ ?_ _) | (with_reducible refine Below.alloc ?_ ?_ _) | (with_reducible refine Below.drew ?_) | (with_reducible refine belowN ?_ _) | (with_reducible refine below_after2 ?_ (by assumption) ?_) | omega | (simp; done) | (simp; omega)))
  have s21 : w20.heap.size ≤ w21.heap.size := (by have := hb21.size; (try simp at this); omega)
  replace K4 : Kept f4_0 w4 w21 := K4.below B21 (fun p hp => Nat.lt_of_lt_of_le (UB4 p hp) (by omega))
  replace K7 : Kept f7_0 w16 w21 := K7.below B21 (fun p hp => Nat.lt_of_lt_of_le (UB7 p hp) (by omega))
  replace K20 : Kept f20_0 w20 w21 := K20.below B21 (fun p hp => Nat.lt_of_lt_of_le (UB20 p hp) (by omega))
  clear hb21
  go_wp2_with fail
  refine (heldIntS_c _ _ _ 1 (by omega) (by rw [cntL_mkL]; omega) ((⟨_, S7_0.kept (K7.below (show Below w21.heap.size w21 _ from (by repeat' (first | (with_reducible exact Below.refl _ _) | (with_reducible assumption) | (with_reducible refine Below.setCell ?_ ?_ _) | (with_reducible refine Below.alloc ?_ ?_ _) | (with_reducible refine Below.drew ?_) | (with_reducible refine belowN ?_ _) | (with_reducible refine below_after2 ?_ (by assumption) ?_) | omega | (simp; done) | (simp; omega)))) (fun p hp => Nat.lt_of_lt_of_le (UB7 p hp) (by omega))) (fun _ h => h)⟩ : RdS _ _ _)) (mkL_mkL _ _)).mono ?_
  rintro e w22 ⟨he, hb22⟩
  obtain rfl : e = .returned (.int .i64 m1) := he.trans (by simp only [cntL_mkL]; rw [HM1.out])
  clear he
  have B22 : Below w21.heap.size w21 w22 := (by repeat' (first | (with_reducible exact Below.refl _ _) | (with_reducible assumption) | (with_reducible refine Below.setCell ?_ ?_ _) | (with_reducible refine Below.alloc ?_ ?_ _) | (with_reducible refine Below.drew ?_) | (with_reducible refine belowN ?_ _) | (with_reducible refine below_after2 ?_ (by assumption) ?_) | omega | (simp; done) | (simp; omega)))
  have s22 : w21.heap.size ≤ w22.heap.size := (by have := hb22.size; (try simp at this); omega)
  replace K4 : Kept f4_0 w4 w22 := K4.below B22 (fun p hp => Nat.lt_of_lt_of_le (UB4 p hp) (by omega))
  replace K7 : Kept f7_0 w16 w22 := K7.below B22 (fun p hp => Nat.lt_of_lt_of_le (UB7 p hp) (by omega))
  clear hb22
  go_wp2
  go_ret
  exact ⟨rfl, (by repeat' (first | (with_reducible exact Below.refl _ _) | (with_reducible assumption) | (with_reducible refine Below.setCell ?_ ?_ _) | (with_reducible refine Below.alloc ?_ ?_ _) | (with_reducible refine Below.drew ?_) | (with_reducible refine belowN ?_ _) | (with_reducible refine below_after2 ?_ (by assumption) ?_) | omega | (simp; done) | (simp; omega)))⟩
theorem walkc_FnExactWriters (o : List DPart) (v_o : Value) (x : List Int) (v_x : Value) (client : Int) (w : World) (h_o : RdSM maxLen w v_o o) (h_x : RdSM maxLen w v_x x) (b1_client : -9223372036854775808 ≤ client) (b2_client : client ≤ 9223372036854775807) :
    Calls Try.prog 9 #[v_o, v_x, .int .i64 client] w (Tells w (.bool true)) :=
  walk_FnExactWriters o v_o x v_x client w h_o h_x b1_client b2_client ((writers o x client).1) ((writers o x client).2) (fun _ _ _ _ W h k => spec_Writers_c o x client _ _ W h k) (fun _ _ _ _ W h k => impl_Writers_c o x client _ _ W h k) (fun _ _ => by have := writers_len o x client; rw [cntI]; omega)
namespace fnExactWriters
theorem own : ownKnob Try.prog.godebug = none := by kernel_rfl
theorem laidOut : laidOutB Try.prog = true := by kernel_rfl
set_option maxRecDepth 100000 in
theorem lifted (os : Os) (started : os.Started) (H : Type) (enc : TypeId × Value → H) :
    ReturnsInHanded {} Try.checked os 9 .any (Rows.fnExactWritersSpec.pre6 enc Try.prog Try.f9 Rows.fnExactWritersRow.domain false) (Rows.fnExactWritersSpec.post enc Try.prog Try.f9 false true false false) := by
  refine returnsInHanded_of_change (C := Try.checked) own started (by kernel_rfl) Try.func9
    (ChangeSpec.witness6 (enc := enc) (C := Try.checked) false ⟨#[], #[.slice none 0 0, .slice none 0 0, .int .i64 0], []⟩ 8 (by kernel_rfl) (by kernel_rfl) (by kernel_rfl) (by kernel_rfl)) ?_
  intro W base args ds gs before hval0 hW hcnd _
  have hval : ∀ (j : Nat) t v, Try.f9.params[j]? = some t → args[j]? = some v → Value.okWide Try.prog W .any base t v := hval0
  have hW' := hW
  obtain ⟨p, q, hA0, hV, rfl, hfz, hnd⟩ := hW
  have hA : DataW.TrodAll enc Try.prog W 0 (fun _ => true) true Try.f9.params.toList args.toList ds p := hA0
  rw [Try.params9] at hA hval
  obtain ⟨v0, vs0, d0, ds0, p0, q0, hargs, rfl, rfl, h0, r0⟩ := trodAll_cons hA
  obtain ⟨v1, vs1, d1, ds1, p1, q1, rfl, rfl, rfl, h1, r1⟩ := trodAll_cons r0
  obtain ⟨v2, vs2, d2, ds2, p2, q2, rfl, rfl, rfl, h2, r2⟩ := trodAll_cons r1
  obtain ⟨rfl, rfl, rfl⟩ := trodAll_nil r2
  obtain rfl : args = #[v0, v1, v2] := by cases args; simp_all
  obtain ⟨rfl, rfl⟩ := trodVars_none hV
  obtain ⟨a0, len0, cap0, rfl⟩ := okWide_slice Try.underlying42 (hval 0 42 v0 rfl rfl)
  have k0 := h0
  have lt0 : ∀ x ∈ p0, x.block < W.heap.size := by obtain ⟨m, hm⟩ := k0; exact DataW.trod_lt m _ _ _ hm
  obtain ⟨x0, m0⟩ : ∃ l : List DPart, RdSM maxLen W (.slice a0 len0 cap0) l := by
    obtain ⟨fuel, hf⟩ := h0
    obtain ⟨l, fp, v, hv, hs⟩ := opens_slice Try.underlying42 (by kernel_rfl) opens_DPart _ _ _ _ _ _ _ _ hf
    simp only [Value.cells, List.cons.injEq, and_true] at hv
    subst hv
    exact ⟨l, fp, hs⟩
  obtain ⟨a1, len1, cap1, rfl⟩ := okWide_slice Try.underlying22 (hval 1 22 v1 rfl rfl)
  have k1 := h1
  have lt1 : ∀ x ∈ p1, x.block < W.heap.size := by obtain ⟨m, hm⟩ := k1; exact DataW.trod_lt m _ _ _ hm
  obtain ⟨x1, m1⟩ : ∃ l : List Int, RdSM maxLen W (.slice a1 len1 cap1) l := by
    obtain ⟨fuel, hf⟩ := h1
    obtain ⟨l, fp, v, hv, hs⟩ := opens_slice Try.underlying22 (by kernel_rfl) (opens_int Try.underlying3) _ _ _ _ _ _ _ _ hf
    simp only [Value.cells, List.cons.injEq, and_true] at hv
    subst hv
    exact ⟨l, fp, hs⟩
  obtain ⟨a2, rfl, rfl, rfl, w2⟩ := open_int Try.underlying3 (hval 2 3 v2 rfl rfl) h2
  have b2 := i64_bounds w2
  clear hA0 hval0
  refine (walkc_FnExactWriters x0 _ x1 _ a2 W m0 m1 b2.1 b2.2).mono fun e W' ⟨he, bel⟩ => ?_
  subst he
  exact ⟨_, rfl, _, _, _, [], _, [], hW', trodAll_mk1 (shut_bool Try.underlying4 _), (trodAll_cons_mk (Below.trod laidOut (by kernel_rfl) (of_decide_eq_true (by kernel_rfl)) k0 bel lt0) (trodAll_cons_mk (Below.trod laidOut (by kernel_rfl) (of_decide_eq_true (by kernel_rfl)) k1 bel lt1) (trodAll_cons_mk (shut_int Try.underlying3 w2) trodAll_mk0))), rfl, bel.frame _, fun h => by cases h⟩
theorem over : Rows.fnExactWritersRow.holds Try.pinned (OpenSpec.ofChange Rows.fnExactWritersSpec) :=
  OpenClaim.holds_of_wide 9 Try.f9 rfl rfl rfl rfl rfl rfl rfl ⟨rfl, rfl, rfl, rfl, rfl⟩ rfl rfl rfl rfl rfl (by kernel_rfl) Try.func9 (by kernel_rfl)
    (of_decide_eq_true (by kernel_rfl)) (by unfold Func.isWrapper; first | (rw [if_pos (by decide +kernel)]; kernel_rfl) | (rw [if_neg (by decide +kernel)]; exact ⟨rfl, rfl⟩))
    (fun os started H enc _ => lifted os started H enc)
theorem proved : Rows.FnExactWritersSaid := over
end fnExactWriters
#print axioms fnExactWriters.proved
end Go.Proofs.Ytdbfgolabnomgaa
