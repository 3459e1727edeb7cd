/- 'laws.FnExactRuns' answers true for every input, and each argument reads afterwards as before. No conditions. -/
import Derived.Test.YtdbfgolabnomgaaEq3
import Derived.Test.YtdbfgolabnomgaaSz3
import Derived.Test.YtdbfgolabnomgaaConv
import Derived.Test.YtdbfgolabnomgaaRuns
import Derived.Test.YtdbfgolabnomgaaOut
import Derived.Test.YtdbfgolabnomgaaRows
import Derived.ProofKit
import Derived.OpenShut
import Derived.ChangeMaps5
import Derived.Deep.RegionHeld3
namespace Go.Proofs.Ytdbfgolabnomgaa
open Go.ChangeShapes Go.WideShapes Go.ChangeAt Go.RowKit
set_option maxHeartbeats 16000000 in
theorem walk_FnExactRuns (x : List Int) (v_x : Value) (w : World) (h_x : RdSM maxLen w v_x x) (y0 : List (List Int))
    (HS0 : ∀ (v_x : Value) (W : World), RdS W v_x x → Calls Try.prog 15 #[v_x] W (Out_IntSS W y0))
    (HI0 : ∀ (v_x : Value) (W : World), RdS W v_x x → Calls Try.prog 17 #[v_x] W (Out_IntSS W y0))
    (HC0 : x.length ≤ 1048576 → cntL y0 ≤ 1099511627776) :
    Calls Try.prog 3 #[v_x] w (Tells w (.bool true)) := by
  have HS1 := Lib.hid HS0
  have HI1 := Lib.hid HI0
  clear HS0 HI0
  have hl_x := fun w1 ty => h_x.len Try.underlying22 w1 ty
  have hle_x := h_x.le
  by_cases cl_x : x.length ≤ 1048576
  rotate_left
  · go_enter Try.func3, Try.ntmps3
    go_wp2
    go_ret
    exact ⟨rfl, (by repeat' (first | (with_reducible exact Below.refl _ _) | (with_reducible assumption) | (with_reducible refine Below.setCell ?_ ?_ _) | (with_reducible refine Below.alloc ?_ ?_ _) | (with_reducible refine Below.drew ?_) | (with_reducible refine belowN ?_ _) | (with_reducible refine below_after2 ?_ (by assumption) ?_) | omega | (simp; done) | (simp; omega)))⟩
  have hr_x : RdS w v_x x := let ⟨fp, s⟩ := h_x; ⟨fp, s.up (by rw [szL_int]; exact le_BIG (by omega))⟩
  have HS := HS1
  have HI := HI1
  clear HS1 HI1
  have hcnt : cntL y0 ≤ 1099511627776 := HC0 (by omega)
  clear HC0
  have cx_x : cntL x ≤ 5 * 1048576 := by have := cntL_le x; rw [szL_int] at this; omega
  go_enter Try.func3, Try.ntmps3
  go_wp2_with fail
  refine (toIntS_c _ x _ (hr_x.below (by repeat' (first | (with_reducible exact Below.refl _ _) | (with_reducible assumption) | (with_reducible refine Below.setCell ?_ ?_ _) | (with_reducible refine Below.alloc ?_ ?_ _) | (with_reducible refine Below.drew ?_) | (with_reducible refine belowN ?_ _) | (with_reducible refine below_after2 ?_ (by assumption) ?_) | omega | (simp; done) | (simp; omega))))).mono ?_
  rintro e w1 ⟨v1_x, rfl, ⟨f1_x, S1_x, FR1⟩, hb1⟩
  have UB1 : ∀ p ∈ f1_x, p.1 < w1.heap.size := Live.lt (S1_x.live)
  replace FR1 : Fresh (w.heap.size) w1 f1_x := FR1.mono (by first | exact Nat.le_refl _ | (simp; done) | (simp; omega))
  have K1 : Kept f1_x w1 w1 := Kept.refl _ _
  have B1 : Below w.heap.size w w1 := (by repeat' (first | (with_reducible exact Below.refl _ _) | (with_reducible assumption) | (with_reducible refine Below.setCell ?_ ?_ _) | (with_reducible refine Below.alloc ?_ ?_ _) | (with_reducible refine Below.drew ?_) | (with_reducible refine belowN ?_ _) | (with_reducible refine below_after2 ?_ (by assumption) ?_) | omega | (simp; done) | (simp; omega)))
  have s1 : w.heap.size ≤ w1.heap.size := (by have := hb1.size; (try simp at this); omega)
  clear hb1
  go_wp2_with fail
  refine (HS.out _ _ ((⟨_, S1_x.kept (K1.below (show Below w1.heap.size w1 _ from (by repeat' (first | (with_reducible exact Below.refl _ _) | (with_reducible assumption) | (with_reducible refine Below.setCell ?_ ?_ _) | (with_reducible refine Below.alloc ?_ ?_ _) | (with_reducible refine Below.drew ?_) | (with_reducible refine belowN ?_ _) | (with_reducible refine below_after2 ?_ (by assumption) ?_) | omega | (simp; done) | (simp; omega)))) (fun p hp => Nat.lt_of_lt_of_le (UB1 p hp) (by omega))) (fun _ h => h)⟩ : RdS _ _ _))).mono ?_
  rintro e w2 ⟨v2_0, f2_0, rfl, S2_0, FR2, hb2⟩
  have UB2 : ∀ p ∈ f2_0, p.1 < w2.heap.size := Live.lt (S2_0.live)
  replace FR2 : Fresh (w1.heap.size) w2 f2_0 := FR2.mono (by first | exact Nat.le_refl _ | (simp; done) | (simp; omega))
  have K2 : Kept f2_0 w2 w2 := Kept.refl _ _
  have B2 : Below w1.heap.size w1 w2 := (by repeat' (first | (with_reducible exact Below.refl _ _) | (with_reducible assumption) | (with_reducible refine Below.setCell ?_ ?_ _) | (with_reducible refine Below.alloc ?_ ?_ _) | (with_reducible refine Below.drew ?_) | (with_reducible refine belowN ?_ _) | (with_reducible refine below_after2 ?_ (by assumption) ?_) | omega | (simp; done) | (simp; omega)))
  have s2 : w1.heap.size ≤ w2.heap.size := (by have := hb2.size; (try simp at this); omega)
  replace K1 : Kept f1_x w1 w2 := K1.below B2 (fun p hp => Nat.lt_of_lt_of_le (UB1 p hp) (by omega))
  clear hb2
  go_wp2_with fail
  refine (toIntS_c _ x _ (hr_x.below (by repeat' (first | (with_reducible exact Below.refl _ _) | (with_reducible assumption) | (with_reducible refine Below.setCell ?_ ?_ _) | (with_reducible refine Below.alloc ?_ ?_ _) | (with_reducible refine Below.drew ?_) | (with_reducible refine belowN ?_ _) | (with_reducible refine below_after2 ?_ (by assumption) ?_) | omega | (simp; done) | (simp; omega))))).mono ?_
  rintro e w3 ⟨v3_x, rfl, ⟨f3_x, S3_x, FR3⟩, hb3⟩
  have UB3 : ∀ p ∈ f3_x, p.1 < w3.heap.size := Live.lt (S3_x.live)
  replace FR3 : Fresh (w2.heap.size) w3 f3_x := FR3.mono (by first | exact Nat.le_refl _ | (simp; done) | (simp; omega))
  have K3 : Kept f3_x w3 w3 := Kept.refl _ _
  have B3 : Below w2.heap.size w2 w3 := (by repeat' (first | (with_reducible exact Below.refl _ _) | (with_reducible assumption) | (with_reducible refine Below.setCell ?_ ?_ _) | (with_reducible refine Below.alloc ?_ ?_ _) | (with_reducible refine Below.drew ?_) | (with_reducible refine belowN ?_ _) | (with_reducible refine below_after2 ?_ (by assumption) ?_) | omega | (simp; done) | (simp; omega)))
  have s3 : w2.heap.size ≤ w3.heap.size := (by have := hb3.size; (try simp at this); omega)
  replace K2 : Kept f2_0 w2 w3 := K2.below B3 (fun p hp => Nat.lt_of_lt_of_le (UB2 p hp) (by omega))
  clear hb3
  go_wp2_with fail
  refine (HI.out _ _ ((⟨_, S3_x.kept (K3.below (show Below w3.heap.size w3 _ from (by repeat' (first | (with_reducible exact Below.refl _ _) | (with_reducible assumption) | (with_reducible refine Below.setCell ?_ ?_ _) | (with_reducible refine Below.alloc ?_ ?_ _) | (with_reducible refine Below.drew ?_) | (with_reducible refine belowN ?_ _) | (with_reducible refine below_after2 ?_ (by assumption) ?_) | omega | (simp; done) | (simp; omega)))) (fun p hp => Nat.lt_of_lt_of_le (UB3 p hp) (by omega))) (fun _ h => h)⟩ : RdS _ _ _))).mono ?_
  rintro e w4 ⟨v4_0, f4_0, rfl, S4_0, FR4, hb4⟩
  have UB4 : ∀ p ∈ f4_0, p.1 < w4.heap.size := Live.lt (S4_0.live)
  replace FR4 : Fresh (w3.heap.size) w4 f4_0 := FR4.mono (by first | exact Nat.le_refl _ | (simp; done) | (simp; omega))
  have K4 : Kept f4_0 w4 w4 := Kept.refl _ _
  have B4 : Below w3.heap.size w3 w4 := (by repeat' (first | (with_reducible exact Below.refl _ _) | (with_reducible assumption) | (with_reducible refine Below.setCell ?_ ?_ _) | (with_reducible refine Below.alloc ?_ ?_ _) | (with_reducible refine Below.drew ?_) | (with_reducible refine belowN ?_ _) | (with_reducible refine below_after2 ?_ (by assumption) ?_) | omega | (simp; done) | (simp; omega)))
  have s4 : w3.heap.size ≤ w4.heap.size := (by have := hb4.size; (try simp at this); omega)
  replace K2 : Kept f2_0 w2 w4 := K2.below B4 (fun p hp => Nat.lt_of_lt_of_le (UB2 p hp) (by omega))
  replace K3 : Kept f3_x w3 w4 := K3.below B4 (fun p hp => Nat.lt_of_lt_of_le (UB3 p hp) (by omega))
  clear hb4
  go_wp2_with fail
  refine (eqIntSS_c _ _ y0 _ ((⟨_, S4_0.kept (K4.below (show Below w4.heap.size w4 _ from (by repeat' (first | (with_reducible exact Below.refl _ _) | (with_reducible assumption) | (with_reducible refine Below.setCell ?_ ?_ _) | (with_reducible refine Below.alloc ?_ ?_ _) | (with_reducible refine Below.drew ?_) | (with_reducible refine belowN ?_ _) | (with_reducible refine below_after2 ?_ (by assumption) ?_) | omega | (simp; done) | (simp; omega)))) (fun p hp => Nat.lt_of_lt_of_le (UB4 p hp) (by omega))) (fun _ h => h)⟩ : RdS _ _ _)) ((⟨_, S2_0.kept (K2.below (show Below w4.heap.size w4 _ from (by repeat' (first | (with_reducible exact Below.refl _ _) | (with_reducible assumption) | (with_reducible refine Below.setCell ?_ ?_ _) | (with_reducible refine Below.alloc ?_ ?_ _) | (with_reducible refine Below.drew ?_) | (with_reducible refine belowN ?_ _) | (with_reducible refine below_after2 ?_ (by assumption) ?_) | omega | (simp; done) | (simp; omega)))) (fun p hp => Nat.lt_of_lt_of_le (UB2 p hp) (by omega))) (fun _ h => h)⟩ : RdS _ _ _))).mono ?_
  rintro e w5 ⟨rfl, hb5⟩
  have B5 : Below w4.heap.size w4 w5 := (by repeat' (first | (with_reducible exact Below.refl _ _) | (with_reducible assumption) | (with_reducible refine Below.setCell ?_ ?_ _) | (with_reducible refine Below.alloc ?_ ?_ _) | (with_reducible refine Below.drew ?_) | (with_reducible refine belowN ?_ _) | (with_reducible refine below_after2 ?_ (by assumption) ?_) | omega | (simp; done) | (simp; omega)))
  have s5 : w4.heap.size ≤ w5.heap.size := (by have := hb5.size; (try simp at this); omega)
  replace K2 : Kept f2_0 w2 w5 := K2.below B5 (fun p hp => Nat.lt_of_lt_of_le (UB2 p hp) (by omega))
  replace K3 : Kept f3_x w3 w5 := K3.below B5 (fun p hp => Nat.lt_of_lt_of_le (UB3 p hp) (by omega))
  replace K4 : Kept f4_0 w4 w5 := K4.below B5 (fun p hp => Nat.lt_of_lt_of_le (UB4 p hp) (by omega))
  clear hb5
  go_wp2_with fail
  refine (toIntS_c _ x _ (hr_x.below (by repeat' (first | (with_reducible exact Below.refl _ _) | (with_reducible assumption) | (with_reducible refine Below.setCell ?_ ?_ _) | (with_reducible refine Below.alloc ?_ ?_ _) | (with_reducible refine Below.drew ?_) | (with_reducible refine belowN ?_ _) | (with_reducible refine below_after2 ?_ (by assumption) ?_) | omega | (simp; done) | (simp; omega))))).mono ?_
  rintro e w6 ⟨v6_x, rfl, ⟨f6_x, S6_x, FR6⟩, hb6⟩
  have UB6 : ∀ p ∈ f6_x, p.1 < w6.heap.size := Live.lt (S6_x.live)
  replace FR6 : Fresh (w5.heap.size) w6 f6_x := FR6.mono (by first | exact Nat.le_refl _ | (simp; done) | (simp; omega))
  have K6 : Kept f6_x w6 w6 := Kept.refl _ _
  have B6 : Below w5.heap.size w5 w6 := (by repeat' (first | (with_reducible exact Below.refl _ _) | (with_reducible assumption) | (with_reducible refine Below.setCell ?_ ?_ _) | (with_reducible refine Below.alloc ?_ ?_ _) | (with_reducible refine Below.drew ?_) | (with_reducible refine belowN ?_ _) | (with_reducible refine below_after2 ?_ (by assumption) ?_) | omega | (simp; done) | (simp; omega)))
  have s6 : w5.heap.size ≤ w6.heap.size := (by have := hb6.size; (try simp at this); omega)
  replace K2 : Kept f2_0 w2 w6 := K2.below B6 (fun p hp => Nat.lt_of_lt_of_le (UB2 p hp) (by omega))
  replace K3 : Kept f3_x w3 w6 := K3.below B6 (fun p hp => Nat.lt_of_lt_of_le (UB3 p hp) (by omega))
  replace K4 : Kept f4_0 w4 w6 := K4.below B6 (fun p hp => Nat.lt_of_lt_of_le (UB4 p hp) (by omega))
  clear hb6
  go_wp2_with fail
  refine (eqIntS_c _ _ x _ ((⟨_, S3_x.kept (K3.below (show Below w6.heap.size w6 _ from (by repeat' (first | (with_reducible exact Below.refl _ _) | (with_reducible assumption) | (with_reducible refine Below.setCell ?_ ?_ _) | (with_reducible refine Below.alloc ?_ ?_ _) | (with_reducible refine Below.drew ?_) | (with_reducible refine belowN ?_ _) | (with_reducible refine below_after2 ?_ (by assumption) ?_) | omega | (simp; done) | (simp; omega)))) (fun p hp => Nat.lt_of_lt_of_le (UB3 p hp) (by omega))) (fun _ h => h)⟩ : RdS _ _ _)) ((⟨_, S6_x.kept (K6.below (show Below w6.heap.size w6 _ from (by repeat' (first | (with_reducible exact Below.refl _ _) | (with_reducible assumption) | (with_reducible refine Below.setCell ?_ ?_ _) | (with_reducible refine Below.alloc ?_ ?_ _) | (with_reducible refine Below.drew ?_) | (with_reducible refine belowN ?_ _) | (with_reducible refine below_after2 ?_ (by assumption) ?_) | omega | (simp; done) | (simp; omega)))) (fun p hp => Nat.lt_of_lt_of_le (UB6 p hp) (by omega))) (fun _ h => h)⟩ : RdS _ _ _))).mono ?_
  rintro e w7 ⟨rfl, hb7⟩
  have B7 : Below w6.heap.size w6 w7 := (by repeat' (first | (with_reducible exact Below.refl _ _) | (with_reducible assumption) | (with_reducible refine Below.setCell ?_ ?_ _) | (with_reducible refine Below.alloc ?_ ?_ _) | (with_reducible refine Below.drew ?_) | (with_reducible refine belowN ?_ _) | (with_reducible refine below_after2 ?_ (by assumption) ?_) | omega | (simp; done) | (simp; omega)))
  have s7 : w6.heap.size ≤ w7.heap.size := (by have := hb7.size; (try simp at this); omega)
  replace K2 : Kept f2_0 w2 w7 := K2.below B7 (fun p hp => Nat.lt_of_lt_of_le (UB2 p hp) (by omega))
  replace K3 : Kept f3_x w3 w7 := K3.below B7 (fun p hp => Nat.lt_of_lt_of_le (UB3 p hp) (by omega))
  replace K4 : Kept f4_0 w4 w7 := K4.below B7 (fun p hp => Nat.lt_of_lt_of_le (UB4 p hp) (by omega))
  replace K6 : Kept f6_x w6 w7 := K6.below B7 (fun p hp => Nat.lt_of_lt_of_le (UB6 p hp) (by omega))
  clear hb7
  replace S3_x := S3_x.kept K3 (fun _ h => h)
  replace FR3 := FR3.kept K3 (fun _ h => h)
  clear K3
  go_wp2_with fail
  refine (markIntS_c (w2.heap.size) _ _ f3_x _ 1 (by omega) (by omega) (S3_x.belowW (by repeat' (first | (with_reducible exact Below.refl _ _) | (with_reducible assumption) | (with_reducible refine Below.setCell ?_ ?_ _) | (with_reducible refine Below.alloc ?_ ?_ _) | (with_reducible refine Below.drew ?_) | (with_reducible refine belowN ?_ _) | (with_reducible refine below_after2 ?_ (by assumption) ?_) | omega | (simp; done) | (simp; omega)))) (FR3.belowL (by repeat' (first | (with_reducible exact Below.refl _ _) | (with_reducible assumption) | (with_reducible refine Below.setCell ?_ ?_ _) | (with_reducible refine Below.alloc ?_ ?_ _) | (with_reducible refine Below.drew ?_) | (with_reducible refine belowN ?_ _) | (with_reducible refine below_after2 ?_ (by assumption) ?_) | omega | (simp; done) | (simp; omega))) (fun p hp => Nat.lt_of_lt_of_le (UB3 p hp) (by omega)))).mono ?_
  rintro e w8 ⟨he, T8_x, hw8⟩
  have s8 : w7.heap.size ≤ w8.heap.size := wrs hw8 (by repeat' (first | (with_reducible exact Below.refl _ _) | (with_reducible assumption) | (with_reducible refine Below.setCell ?_ ?_ _) | (with_reducible refine Below.alloc ?_ ?_ _) | (with_reducible refine Below.drew ?_) | (with_reducible refine belowN ?_ _) | (with_reducible refine below_after2 ?_ (by assumption) ?_) | omega | (simp; done) | (simp; omega)))
  replace K2 : Kept f2_0 w2 w8 := K2.wr2 (by repeat' (first | (with_reducible exact Below.refl _ _) | (with_reducible assumption) | (with_reducible refine Below.setCell ?_ ?_ _) | (with_reducible refine Below.alloc ?_ ?_ _) | (with_reducible refine Below.drew ?_) | (with_reducible refine belowN ?_ _) | (with_reducible refine below_after2 ?_ (by assumption) ?_) | omega | (simp; done) | (simp; omega))) hw8 (fun p hp => Nat.lt_of_lt_of_le (UB2 p hp) (by omega)) (fun q hq hp => by have q1 := FR3.ge q hp; have q2 := UB3 q hp; first | (have q3 := UB2 q hq; omega) | (have q3 := FR2.ge q hq; omega))
  replace K4 : Kept f4_0 w4 w8 := K4.wr2 (by repeat' (first | (with_reducible exact Below.refl _ _) | (with_reducible assumption) | (with_reducible refine Below.setCell ?_ ?_ _) | (with_reducible refine Below.alloc ?_ ?_ _) | (with_reducible refine Below.drew ?_) | (with_reducible refine belowN ?_ _) | (with_reducible refine below_after2 ?_ (by assumption) ?_) | omega | (simp; done) | (simp; omega))) hw8 (fun p hp => Nat.lt_of_lt_of_le (UB4 p hp) (by omega)) (fun q hq hp => by have q1 := FR3.ge q hp; have q2 := UB3 q hp; first | (have q3 := UB4 q hq; omega) | (have q3 := FR4.ge q hq; omega))
  have B8 : Below (w2.heap.size) w7 w8 := wrb hw8 (by repeat' (first | (with_reducible exact Below.refl _ _) | (with_reducible assumption) | (with_reducible refine Below.setCell ?_ ?_ _) | (with_reducible refine Below.alloc ?_ ?_ _) | (with_reducible refine Below.drew ?_) | (with_reducible refine belowN ?_ _) | (with_reducible refine below_after2 ?_ (by assumption) ?_) | omega | (simp; done) | (simp; omega))) (by omega) (fun p hp => FR3.ge p hp)
  replace FR3 : Fresh (w2.heap.size) w8 f3_x := FR3.wr2 (by repeat' (first | (with_reducible exact Below.refl _ _) | (with_reducible assumption) | (with_reducible refine Below.setCell ?_ ?_ _) | (with_reducible refine Below.alloc ?_ ?_ _) | (with_reducible refine Below.drew ?_) | (with_reducible refine belowN ?_ _) | (with_reducible refine below_after2 ?_ (by assumption) ?_) | omega | (simp; done) | (simp; omega))) hw8 (fun p hp => Nat.lt_of_lt_of_le (UB3 p hp) (by omega))
  replace S3_x := T8_x
  have K3 : Kept f3_x w8 w8 := Kept.refl _ _
  obtain ⟨k1, hk1, hp1⟩ : ∃ k : Int, k = 1 + ((cntL x : Nat) : Int) ∧ 1 ≤ k := ⟨_, rfl, by omega⟩
  obtain rfl : e = .returned (.int .i64 k1) := he.trans (by rw [hk1])
  have hq1 : k1 ≤ 1 + 5242880 := by omega
  clear he hk1
  have hkn : decide (k1 < 0) = false := by simp; omega
  have hkm : ¬ k1 < 0 := by omega
  go_wp2_with fail
  refine (eqIntSS_c _ _ y0 _ ((⟨_, S4_0.kept (K4.below (show Below w8.heap.size w8 _ from (by repeat' (first | (with_reducible exact Below.refl _ _) | (with_reducible assumption) | (with_reducible refine Below.setCell ?_ ?_ _) | (with_reducible refine Below.alloc ?_ ?_ _) | (with_reducible refine Below.drew ?_) | (with_reducible refine belowN ?_ _) | (with_reducible refine below_after2 ?_ (by assumption) ?_) | omega | (simp; done) | (simp; omega)))) (fun p hp => Nat.lt_of_lt_of_le (UB4 p hp) (by omega))) (fun _ h => h)⟩ : RdS _ _ _)) ((⟨_, S2_0.kept (K2.below (show Below w8.heap.size w8 _ from (by repeat' (first | (with_reducible exact Below.refl _ _) | (with_reducible assumption) | (with_reducible refine Below.setCell ?_ ?_ _) | (with_reducible refine Below.alloc ?_ ?_ _) | (with_reducible refine Below.drew ?_) | (with_reducible refine belowN ?_ _) | (with_reducible refine below_after2 ?_ (by assumption) ?_) | omega | (simp; done) | (simp; omega)))) (fun p hp => Nat.lt_of_lt_of_le (UB2 p hp) (by omega))) (fun _ h => h)⟩ : RdS _ _ _))).mono ?_
  rintro e w9 ⟨rfl, hb9⟩
  have B9 : Below w8.heap.size w8 w9 := (by repeat' (first | (with_reducible exact Below.refl _ _) | (with_reducible assumption) | (with_reducible refine Below.setCell ?_ ?_ _) | (with_reducible refine Below.alloc ?_ ?_ _) | (with_reducible refine Below.drew ?_) | (with_reducible refine belowN ?_ _) | (with_reducible refine below_after2 ?_ (by assumption) ?_) | omega | (simp; done) | (simp; omega)))
  have s9 : w8.heap.size ≤ w9.heap.size := (by have := hb9.size; (try simp at this); omega)
  replace K2 : Kept f2_0 w2 w9 := K2.below B9 (fun p hp => Nat.lt_of_lt_of_le (UB2 p hp) (by omega))
  replace K4 : Kept f4_0 w4 w9 := K4.below B9 (fun p hp => Nat.lt_of_lt_of_le (UB4 p hp) (by omega))
  clear hb9
  replace S4_0 := S4_0.kept K4 (fun _ h => h)
  replace FR4 := FR4.kept K4 (fun _ h => h)
  clear K4
  go_wp2_with fail
  refine (markIntSS_c (w3.heap.size) _ _ f4_0 _ 1 (by omega) (by omega) (S4_0.belowW (by repeat' (first | (with_reducible exact Below.refl _ _) | (with_reducible assumption) | (with_reducible refine Below.setCell ?_ ?_ _) | (with_reducible refine Below.alloc ?_ ?_ _) | (with_reducible refine Below.drew ?_) | (with_reducible refine belowN ?_ _) | (with_reducible refine below_after2 ?_ (by assumption) ?_) | omega | (simp; done) | (simp; omega)))) (FR4.belowL (by repeat' (first | (with_reducible exact Below.refl _ _) | (with_reducible assumption) | (with_reducible refine Below.setCell ?_ ?_ _) | (with_reducible refine Below.alloc ?_ ?_ _) | (with_reducible refine Below.drew ?_) | (with_reducible refine belowN ?_ _) | (with_reducible refine below_after2 ?_ (by assumption) ?_) | omega | (simp; done) | (simp; omega))) (fun p hp => Nat.lt_of_lt_of_le (UB4 p hp) (by omega)))).mono ?_
  rintro e w10 ⟨he, T10_0, hw10⟩
  have s10 : w9.heap.size ≤ w10.heap.size := wrs hw10 (by repeat' (first | (with_reducible exact Below.refl _ _) | (with_reducible assumption) | (with_reducible refine Below.setCell ?_ ?_ _) | (with_reducible refine Below.alloc ?_ ?_ _) | (with_reducible refine Below.drew ?_) | (with_reducible refine belowN ?_ _) | (with_reducible refine below_after2 ?_ (by assumption) ?_) | omega | (simp; done) | (simp; omega)))
  replace K2 : Kept f2_0 w2 w10 := K2.wr2 (by repeat' (first | (with_reducible exact Below.refl _ _) | (with_reducible assumption) | (with_reducible refine Below.setCell ?_ ?_ _) | (with_reducible refine Below.alloc ?_ ?_ _) | (with_reducible refine Below.drew ?_) | (with_reducible refine belowN ?_ _) | (with_reducible refine below_after2 ?_ (by assumption) ?_) | omega | (simp; done) | (simp; omega))) hw10 (fun p hp => Nat.lt_of_lt_of_le (UB2 p hp) (by omega)) (fun q hq hp => by have q1 := FR4.ge q hp; have q2 := UB4 q hp; first | (have q3 := UB2 q hq; omega) | (have q3 := FR2.ge q hq; omega))
  have B10 : Below (w3.heap.size) w9 w10 := wrb hw10 (by repeat' (first | (with_reducible exact Below.refl _ _) | (with_reducible assumption) | (with_reducible refine Below.setCell ?_ ?_ _) | (with_reducible refine Below.alloc ?_ ?_ _) | (with_reducible refine Below.drew ?_) | (with_reducible refine belowN ?_ _) | (with_reducible refine below_after2 ?_ (by assumption) ?_) | omega | (simp; done) | (simp; omega))) (by omega) (fun p hp => FR4.ge p hp)
  replace FR4 : Fresh (w3.heap.size) w10 f4_0 := FR4.wr2 (by repeat' (first | (with_reducible exact Below.refl _ _) | (with_reducible assumption) | (with_reducible refine Below.setCell ?_ ?_ _) | (with_reducible refine Below.alloc ?_ ?_ _) | (with_reducible refine Below.drew ?_) | (with_reducible refine belowN ?_ _) | (with_reducible refine below_after2 ?_ (by assumption) ?_) | omega | (simp; done) | (simp; omega))) hw10 (fun p hp => Nat.lt_of_lt_of_le (UB4 p hp) (by omega))
  replace S4_0 := T10_0
  have K4 : Kept f4_0 w10 w10 := Kept.refl _ _
  obtain ⟨m1, hm1, hn1⟩ : ∃ m : Int, m = 1 + ((cntL y0 : Nat) : Int) ∧ 1 ≤ m := ⟨_, rfl, by omega⟩
  obtain rfl : e = .returned (.int .i64 m1) := he.trans (by rw [hm1])
  have ho1 : m1 ≤ 1 + 1099511627776 := by omega
  have HM1 : Hid (m1 = 1 + ((cntL y0 : Nat) : Int)) := Lib.hid hm1
  clear he hm1
  have hx1 : decide (m1 < 0) = false := by simp; omega
  have hy1 : ¬ m1 < 0 := by omega
  have hz : (m1 != m1) = false := by simp
  go_wp2_with fail
  refine (heldIntSS_c _ _ _ 1 (by omega) (by rw [cntL_mkL]; omega) ((⟨_, S4_0.kept (K4.below (show Below w10.heap.size w10 _ from (by repeat' (first | (with_reducible exact Below.refl _ _) | (with_reducible assumption) | (with_reducible refine Below.setCell ?_ ?_ _) | (with_reducible refine Below.alloc ?_ ?_ _) | (with_reducible refine Below.drew ?_) | (with_reducible refine belowN ?_ _) | (with_reducible refine below_after2 ?_ (by assumption) ?_) | omega | (simp; done) | (simp; omega)))) (fun p hp => Nat.lt_of_lt_of_le (UB4 p hp) (by omega))) (fun _ h => h)⟩ : RdS _ _ _)) (mkL_mkL _ _)).mono ?_
  rintro e w11 ⟨he, hb11⟩
  obtain rfl : e = .returned (.int .i64 m1) := he.trans (by simp only [cntL_mkL]; rw [HM1.out])
  clear he
  have B11 : Below w10.heap.size w10 w11 := (by repeat' (first | (with_reducible exact Below.refl _ _) | (with_reducible assumption) | (with_reducible refine Below.setCell ?_ ?_ _) | (with_reducible refine Below.alloc ?_ ?_ _) | (with_reducible refine Below.drew ?_) | (with_reducible refine belowN ?_ _) | (with_reducible refine below_after2 ?_ (by assumption) ?_) | omega | (simp; done) | (simp; omega)))
  have s11 : w10.heap.size ≤ w11.heap.size := (by have := hb11.size; (try simp at this); omega)
  replace K2 : Kept f2_0 w2 w11 := K2.below B11 (fun p hp => Nat.lt_of_lt_of_le (UB2 p hp) (by omega))
  replace K4 : Kept f4_0 w10 w11 := K4.below B11 (fun p hp => Nat.lt_of_lt_of_le (UB4 p hp) (by omega))
  clear hb11
  go_wp2_with fail
  refine (toIntS_c _ x _ (hr_x.below (by repeat' (first | (with_reducible exact Below.refl _ _) | (with_reducible assumption) | (with_reducible refine Below.setCell ?_ ?_ _) | (with_reducible refine Below.alloc ?_ ?_ _) | (with_reducible refine Below.drew ?_) | (with_reducible refine belowN ?_ _) | (with_reducible refine below_after2 ?_ (by assumption) ?_) | omega | (simp; done) | (simp; omega))))).mono ?_
  rintro e w12 ⟨v12_x, rfl, ⟨f12_x, S12_x, FR12⟩, hb12⟩
  have UB12 : ∀ p ∈ f12_x, p.1 < w12.heap.size := Live.lt (S12_x.live)
  replace FR12 : Fresh (w11.heap.size) w12 f12_x := FR12.mono (by first | exact Nat.le_refl _ | (simp; done) | (simp; omega))
  have K12 : Kept f12_x w12 w12 := Kept.refl _ _
  have B12 : Below w11.heap.size w11 w12 := (by repeat' (first | (with_reducible exact Below.refl _ _) | (with_reducible assumption) | (with_reducible refine Below.setCell ?_ ?_ _) | (with_reducible refine Below.alloc ?_ ?_ _) | (with_reducible refine Below.drew ?_) | (with_reducible refine belowN ?_ _) | (with_reducible refine below_after2 ?_ (by assumption) ?_) | omega | (simp; done) | (simp; omega)))
  have s12 : w11.heap.size ≤ w12.heap.size := (by have := hb12.size; (try simp at this); omega)
  replace K2 : Kept f2_0 w2 w12 := K2.below B12 (fun p hp => Nat.lt_of_lt_of_le (UB2 p hp) (by omega))
  replace K4 : Kept f4_0 w10 w12 := K4.below B12 (fun p hp => Nat.lt_of_lt_of_le (UB4 p hp) (by omega))
  clear hb12
  go_wp2_with fail
  refine (HI.out _ _ ((⟨_, S12_x.kept (K12.below (show Below w12.heap.size w12 _ from (by repeat' (first | (with_reducible exact Below.refl _ _) | (with_reducible assumption) | (with_reducible refine Below.setCell ?_ ?_ _) | (with_reducible refine Below.alloc ?_ ?_ _) | (with_reducible refine Below.drew ?_) | (with_reducible refine belowN ?_ _) | (with_reducible refine below_after2 ?_ (by assumption) ?_) | omega | (simp; done) | (simp; omega)))) (fun p hp => Nat.lt_of_lt_of_le (UB12 p hp) (by omega))) (fun _ h => h)⟩ : RdS _ _ _))).mono ?_
  rintro e w13 ⟨v13_0, f13_0, rfl, S13_0, FR13, hb13⟩
  have UB13 : ∀ p ∈ f13_0, p.1 < w13.heap.size := Live.lt (S13_0.live)
  replace FR13 : Fresh (w12.heap.size) w13 f13_0 := FR13.mono (by first | exact Nat.le_refl _ | (simp; done) | (simp; omega))
  have K13 : Kept f13_0 w13 w13 := Kept.refl _ _
  have B13 : Below w12.heap.size w12 w13 := (by repeat' (first | (with_reducible exact Below.refl _ _) | (with_reducible assumption) | (with_reducible refine Below.setCell ?_ ?_ _) | (with_reducible refine Below.alloc ?_ ?_ _) | (with_reducible refine Below.drew ?_) | (with_reducible refine belowN ?_ _) | (with_reducible refine below_after2 ?_ (by assumption) ?_) | omega | (simp; done) | (simp; omega)))
  have s13 : w12.heap.size ≤ w13.heap.size := (by have := hb13.size; (try simp at this); omega)
  replace K2 : Kept f2_0 w2 w13 := K2.below B13 (fun p hp => Nat.lt_of_lt_of_le (UB2 p hp) (by omega))
  replace K4 : Kept f4_0 w10 w13 := K4.below B13 (fun p hp => Nat.lt_of_lt_of_le (UB4 p hp) (by omega))
  replace K12 : Kept f12_x w12 w13 := K12.below B13 (fun p hp => Nat.lt_of_lt_of_le (UB12 p hp) (by omega))
  clear hb13
  go_wp2_with fail
  refine (eqIntSS_c _ _ y0 _ ((⟨_, S13_0.kept (K13.below (show Below w13.heap.size w13 _ from (by repeat' (first | (with_reducible exact Below.refl _ _) | (with_reducible assumption) | (with_reducible refine Below.setCell ?_ ?_ _) | (with_reducible refine Below.alloc ?_ ?_ _) | (with_reducible refine Below.drew ?_) | (with_reducible refine belowN ?_ _) | (with_reducible refine below_after2 ?_ (by assumption) ?_) | omega | (simp; done) | (simp; omega)))) (fun p hp => Nat.lt_of_lt_of_le (UB13 p hp) (by omega))) (fun _ h => h)⟩ : RdS _ _ _)) ((⟨_, S2_0.kept (K2.below (show Below w13.heap.size w13 _ from (by repeat' (first | (with_reducible exact Below.refl _ _) | (with_reducible assumption) | (with_reducible refine Below.setCell ?_ ?_ _) | (with_reducible refine Below.alloc ?_ ?_ _) | (with_reducible refine Below.drew ?_) | (with_reducible refine belowN ?_ _) | (with_reducible refine below_after2 ?_ (by assumption) ?_) | omega | (simp; done) | (simp; omega)))) (fun p hp => Nat.lt_of_lt_of_le (UB2 p hp) (by omega))) (fun _ h => h)⟩ : RdS _ _ _))).mono ?_
  rintro e w14 ⟨rfl, hb14⟩
  have B14 : Below w13.heap.size w13 w14 := (by repeat' (first | (with_reducible exact Below.refl _ _) | (with_reducible assumption) | (with_reducible refine Below.setCell ?_ ?_ _) | (with_reducible refine Below.alloc ?_ ?_ _) | (with_reducible refine Below.drew ?_) | (with_reducible refine belowN ?_ _) | (with_reducible refine below_after2 ?_ (by assumption) ?_) | omega | (simp; done) | (simp; omega)))
  have s14 : w13.heap.size ≤ w14.heap.size := (by have := hb14.size; (try simp at this); omega)
  replace K2 : Kept f2_0 w2 w14 := K2.below B14 (fun p hp => Nat.lt_of_lt_of_le (UB2 p hp) (by omega))
  replace K4 : Kept f4_0 w10 w14 := K4.below B14 (fun p hp => Nat.lt_of_lt_of_le (UB4 p hp) (by omega))
  replace K13 : Kept f13_0 w13 w14 := K13.below B14 (fun p hp => Nat.lt_of_lt_of_le (UB13 p hp) (by omega))
  clear hb14
  go_wp2_with fail
  refine (heldIntSS_c _ _ _ 1 (by omega) (by rw [cntL_mkL]; omega) ((⟨_, S4_0.kept (K4.below (show Below w14.heap.size w14 _ from (by repeat' (first | (with_reducible exact Below.refl _ _) | (with_reducible assumption) | (with_reducible refine Below.setCell ?_ ?_ _) | (with_reducible refine Below.alloc ?_ ?_ _) | (with_reducible refine Below.drew ?_) | (with_reducible refine belowN ?_ _) | (with_reducible refine below_after2 ?_ (by assumption) ?_) | omega | (simp; done) | (simp; omega)))) (fun p hp => Nat.lt_of_lt_of_le (UB4 p hp) (by omega))) (fun _ h => h)⟩ : RdS _ _ _)) (mkL_mkL _ _)).mono ?_
  rintro e w15 ⟨he, hb15⟩
  obtain rfl : e = .returned (.int .i64 m1) := he.trans (by simp only [cntL_mkL]; rw [HM1.out])
  clear he
  have B15 : Below w14.heap.size w14 w15 := (by repeat' (first | (with_reducible exact Below.refl _ _) | (with_reducible assumption) | (with_reducible refine Below.setCell ?_ ?_ _) | (with_reducible refine Below.alloc ?_ ?_ _) | (with_reducible refine Below.drew ?_) | (with_reducible refine belowN ?_ _) | (with_reducible refine below_after2 ?_ (by assumption) ?_) | omega | (simp; done) | (simp; omega)))
  have s15 : w14.heap.size ≤ w15.heap.size := (by have := hb15.size; (try simp at this); omega)
  replace K2 : Kept f2_0 w2 w15 := K2.below B15 (fun p hp => Nat.lt_of_lt_of_le (UB2 p hp) (by omega))
  replace K4 : Kept f4_0 w10 w15 := K4.below B15 (fun p hp => Nat.lt_of_lt_of_le (UB4 p hp) (by omega))
  clear hb15
  go_wp2
  go_ret
  exact ⟨rfl, (by repeat' (first | (with_reducible exact Below.refl _ _) | (with_reducible assumption) | (with_reducible refine Below.setCell ?_ ?_ _) | (with_reducible refine Below.alloc ?_ ?_ _) | (with_reducible refine Below.drew ?_) | (with_reducible refine belowN ?_ _) | (with_reducible refine below_after2 ?_ (by assumption) ?_) | omega | (simp; done) | (simp; omega)))⟩
theorem walkc_FnExactRuns (x : List Int) (v_x : Value) (w : World) (h_x : RdSM maxLen w v_x x) :
    Calls Try.prog 3 #[v_x] w (Tells w (.bool true)) :=
  walk_FnExactRuns x v_x w h_x (runs x) (fun _ W h => spec_Runs_c _ x W h) (fun _ W h => impl_Runs_c _ x W h) (fun h => by have := runs_cnt x; omega)
namespace fnExactRuns
theorem own : ownKnob Try.prog.godebug = none := by kernel_rfl
theorem laidOut : laidOutB Try.prog = true := by kernel_rfl
set_option maxRecDepth 100000 in
theorem lifted (os : Os) (started : os.Started) (H : Type) (enc : TypeId × Value → H) :
    ReturnsInHanded {} Try.checked os 3 .any (Rows.fnExactRunsSpec.pre6 enc Try.prog Try.f3 Rows.fnExactRunsRow.domain false) (Rows.fnExactRunsSpec.post enc Try.prog Try.f3 false true false false) := by
  refine returnsInHanded_of_change (C := Try.checked) own started (by kernel_rfl) Try.func3
    (ChangeSpec.witness6 (enc := enc) (C := Try.checked) false ⟨#[], #[.slice none 0 0], []⟩ 8 (by kernel_rfl) (by kernel_rfl) (by kernel_rfl) (by kernel_rfl)) ?_
  intro W base args ds gs before hval0 hW hcnd _
  have hval : ∀ (j : Nat) t v, Try.f3.params[j]? = some t → args[j]? = some v → Value.okWide Try.prog W .any base t v := hval0
  have hW' := hW
  obtain ⟨p, q, hA0, hV, rfl, hfz, hnd⟩ := hW
  have hA : DataW.TrodAll enc Try.prog W 0 (fun _ => true) true Try.f3.params.toList args.toList ds p := hA0
  rw [Try.params3] at hA hval
  obtain ⟨v0, vs0, d0, ds0, p0, q0, hargs, rfl, rfl, h0, r0⟩ := trodAll_cons hA
  obtain ⟨rfl, rfl, rfl⟩ := trodAll_nil r0
  obtain rfl : args = #[v0] := by cases args; simp_all
  obtain ⟨rfl, rfl⟩ := trodVars_none hV
  obtain ⟨a0, len0, cap0, rfl⟩ := okWide_slice Try.underlying22 (hval 0 22 v0 rfl rfl)
  have k0 := h0
  have lt0 : ∀ x ∈ p0, x.block < W.heap.size := by obtain ⟨m, hm⟩ := k0; exact DataW.trod_lt m _ _ _ hm
  obtain ⟨x0, m0⟩ : ∃ l : List Int, RdSM maxLen W (.slice a0 len0 cap0) l := by
    obtain ⟨fuel, hf⟩ := h0
    obtain ⟨l, fp, v, hv, hs⟩ := opens_slice Try.underlying22 (by kernel_rfl) (opens_int Try.underlying3) _ _ _ _ _ _ _ _ hf
    simp only [Value.cells, List.cons.injEq, and_true] at hv
    subst hv
    exact ⟨l, fp, hs⟩
  clear hA0 hval0
  refine (walkc_FnExactRuns x0 _ W m0).mono fun e W' ⟨he, bel⟩ => ?_
  subst he
  exact ⟨_, rfl, _, _, _, [], _, [], hW', trodAll_mk1 (shut_bool Try.underlying4 _), (trodAll_cons_mk (Below.trod laidOut (by kernel_rfl) (of_decide_eq_true (by kernel_rfl)) k0 bel lt0) trodAll_mk0), rfl, bel.frame _, fun h => by cases h⟩
theorem over : Rows.fnExactRunsRow.holds Try.pinned (OpenSpec.ofChange Rows.fnExactRunsSpec) :=
  OpenClaim.holds_of_wide 3 Try.f3 rfl rfl rfl rfl rfl rfl rfl ⟨rfl, rfl, rfl, rfl, rfl⟩ rfl rfl rfl rfl rfl (by kernel_rfl) Try.func3 (by kernel_rfl)
    (of_decide_eq_true (by kernel_rfl)) (by unfold Func.isWrapper; first | (rw [if_pos (by decide +kernel)]; kernel_rfl) | (rw [if_neg (by decide +kernel)]; exact ⟨rfl, rfl⟩))
    (fun os started H enc _ => lifted os started H enc)
theorem proved : Rows.FnExactRunsSaid := over
end fnExactRuns
#print axioms fnExactRuns.proved
end Go.Proofs.Ytdbfgolabnomgaa
