/- 'laws.FnExactRingNew' answers true for every input, and each argument reads afterwards as before. No conditions. -/
import Derived.Test.YtihbmefidbmmdaaEq3
import Derived.Test.YtihbmefidbmmdaaSz3
import Derived.Test.YtihbmefidbmmdaaConv
import Derived.Test.YtihbmefidbmmdaaRnw
import Derived.Test.YtihbmefidbmmdaaMk2
import Derived.Test.YtihbmefidbmmdaaOut
import Derived.Test.YtihbmefidbmmdaaRows
import Derived.ProofKit
import Derived.OpenShut
import Derived.ChangeMaps5
import Derived.Deep.RegionHeld3
namespace Go.Proofs.Ytihbmefidbmmdaa
open Go.ChangeShapes Go.WideShapes Go.ChangeAt Go.RowKit
set_option maxHeartbeats 16000000 in
theorem walk_FnExactRingNew (room : Int) (rev : Int) (w : World) (_b1_room : -9223372036854775808 ≤ room) (_b2_room : room ≤ 9223372036854775807) (_b1_rev : -9223372036854775808 ≤ rev) (_b2_rev : rev ≤ 9223372036854775807) (y0 : DRing) (y1 : Bool)
    (HS0 : -9223372036854775808 ≤ room → room ≤ 9223372036854775807 → -9223372036854775808 ≤ rev → rev ≤ 9223372036854775807 → ∀ (W : World), Calls Try.prog 22 #[.int .i64 room, .int .i64 rev] W (Out_Ring_b W y0 y1))
    (HI0 : -9223372036854775808 ≤ room → room ≤ 9223372036854775807 → -9223372036854775808 ≤ rev → rev ≤ 9223372036854775807 → ∀ (W : World), Calls Try.prog 23 #[.int .i64 room, .int .i64 rev] W (Out_Ring_b W y0 y1))
    (HC0 : cntL y0.list ≤ 1099511627776) :
    Calls Try.prog 5 #[.int .i64 room, .int .i64 rev] w (Tells w (.bool true)) := by
  have HS1 := Lib.hid HS0
  have HI1 := Lib.hid HI0
  clear HS0 HI0
  have HS := Lib.hid (HS1.out _b1_room _b2_room _b1_rev _b2_rev)
  have HI := Lib.hid (HI1.out _b1_room _b2_room _b1_rev _b2_rev)
  clear HS1 HI1
  have hcnt : cntL y0.list ≤ 1099511627776 := HC0 
  clear HC0
  go_enter Try.func5, Try.ntmps5
  go_wp2_with fail
  refine (HS.out  _ ).mono ?_
  rintro e w1 ⟨v1_0_list, f1_0_list, rfl, S1_0_list, FR1, hb1⟩
  obtain ⟨a1_0_list, c1_0_list, rfl⟩ := RdS.isSlice ⟨_, S1_0_list⟩
  have UB1 : ∀ p ∈ f1_0_list, p.1 < w1.heap.size := Live.lt (S1_0_list.live)
  replace FR1 : Fresh (w.heap.size) w1 f1_0_list := FR1.mono (by first | exact Nat.le_refl _ | (simp; done) | (simp; omega))
  have K1 : Kept f1_0_list w1 w1 := Kept.refl _ _
  have B1 : Below w.heap.size w w1 := (by repeat' (first | (with_reducible exact Below.refl _ _) | (with_reducible assumption) | (with_reducible refine Below.setCell ?_ ?_ _) | (with_reducible refine Below.alloc ?_ ?_ _) | (with_reducible refine Below.drew ?_) | (with_reducible refine belowN ?_ _) | (with_reducible refine below_after2 ?_ (by assumption) ?_) | omega | (simp; done) | (simp; omega)))
  have s1 : w.heap.size ≤ w1.heap.size := (by have := hb1.size; (try simp at this); omega)
  clear hb1
  go_wp2_with fail
  refine (HI.out  _ ).mono ?_
  rintro e w2 ⟨v2_0_list, f2_0_list, rfl, S2_0_list, FR2, hb2⟩
  obtain ⟨a2_0_list, c2_0_list, rfl⟩ := RdS.isSlice ⟨_, S2_0_list⟩
  have UB2 : ∀ p ∈ f2_0_list, p.1 < w2.heap.size := Live.lt (S2_0_list.live)
  replace FR2 : Fresh (w1.heap.size + 1) w2 f2_0_list := FR2.mono (by first | exact Nat.le_refl _ | (simp; done) | (simp; omega))
  have K2 : Kept f2_0_list w2 w2 := Kept.refl _ _
  have hN : Below (w1.heap.size + 1) (w1.alloc (.cells #[.int .i64 y0.cap, .int .i64 y0.next, .bool y0.out, .slice a1_0_list y0.list.length c1_0_list] 40)) w2 := (by repeat' (first | (with_reducible exact Below.refl _ _) | (with_reducible assumption) | (with_reducible refine Below.setCell ?_ ?_ _) | (with_reducible refine Below.alloc ?_ ?_ _) | (with_reducible refine Below.drew ?_) | (with_reducible refine belowN ?_ _) | (with_reducible refine below_after2 ?_ (by assumption) ?_) | omega | (simp; done) | (simp; omega)))
  have B2 : Below w1.heap.size w1 w2 := (by repeat' (first | (with_reducible exact Below.refl _ _) | (with_reducible assumption) | (with_reducible refine Below.setCell ?_ ?_ _) | (with_reducible refine Below.alloc ?_ ?_ _) | (with_reducible refine Below.drew ?_) | (with_reducible refine belowN ?_ _) | (with_reducible refine below_after2 ?_ (by assumption) ?_) | omega | (simp; done) | (simp; omega)))
  have s2 : w1.heap.size + 1 ≤ w2.heap.size := (by have := hb2.size; (try simp at this); omega)
  have cW0_0 : w2.cell? ⟨w1.heap.size, 0, none⟩ = some (.int .i64 y0.cap) := by rw [hN.cell (by simp; try omega)]; simp
  have cW0_1 : w2.cell? ⟨w1.heap.size, 1, none⟩ = some (.int .i64 y0.next) := by rw [hN.cell (by simp; try omega)]; simp
  have cW0_2 : w2.cell? ⟨w1.heap.size, 2, none⟩ = some (.bool y0.out) := by rw [hN.cell (by simp; try omega)]; simp
  have cW0_3 : w2.cell? ⟨w1.heap.size, 3, none⟩ = some (.slice a1_0_list y0.list.length c1_0_list) := by rw [hN.cell (by simp; try omega)]; simp
  clear hN
  replace K1 : Kept f1_0_list w1 w2 := K1.below B2 (fun p hp => Nat.lt_of_lt_of_le (UB1 p hp) (by omega))
  have z2_W0 : w1.heap.size < w2.heap.size := (by omega)
  clear hb2
  go_wp2_with fail
  refine (eqRing_c y0 _ _ _ ((⟨_, S2_0_list.kept (K2.below (show Below w2.heap.size w2 _ from (by repeat' (first | (with_reducible exact Below.refl _ _) | (with_reducible assumption) | (with_reducible refine Below.setCell ?_ ?_ _) | (with_reducible refine Below.alloc ?_ ?_ _) | (with_reducible refine Below.drew ?_) | (with_reducible refine belowN ?_ _) | (with_reducible refine below_after2 ?_ (by assumption) ?_) | omega | (simp; done) | (simp; omega)))) (fun p hp => Nat.lt_of_lt_of_le (UB2 p hp) (by omega))) (fun _ h => h)⟩ : RdS _ _ _)) ((⟨_, S1_0_list.kept (K1.below (show Below w2.heap.size w2 _ from (by repeat' (first | (with_reducible exact Below.refl _ _) | (with_reducible assumption) | (with_reducible refine Below.setCell ?_ ?_ _) | (with_reducible refine Below.alloc ?_ ?_ _) | (with_reducible refine Below.drew ?_) | (with_reducible refine belowN ?_ _) | (with_reducible refine below_after2 ?_ (by assumption) ?_) | omega | (simp; done) | (simp; omega)))) (fun p hp => Nat.lt_of_lt_of_le (UB1 p hp) (by omega))) (fun _ h => h)⟩ : RdS _ _ _))).mono ?_
  rintro e w3 ⟨rfl, hb3⟩
  have hN : Below (w2.heap.size + 1) (w2.alloc (.cells #[.int .i64 y0.cap, .int .i64 y0.next, .bool y0.out, .slice a2_0_list y0.list.length c2_0_list] 40)) w3 := (by repeat' (first | (with_reducible exact Below.refl _ _) | (with_reducible assumption) | (with_reducible refine Below.setCell ?_ ?_ _) | (with_reducible refine Below.alloc ?_ ?_ _) | (with_reducible refine Below.drew ?_) | (with_reducible refine belowN ?_ _) | (with_reducible refine below_after2 ?_ (by assumption) ?_) | omega | (simp; done) | (simp; omega)))
  have B3 : Below w2.heap.size w2 w3 := (by repeat' (first | (with_reducible exact Below.refl _ _) | (with_reducible assumption) | (with_reducible refine Below.setCell ?_ ?_ _) | (with_reducible refine Below.alloc ?_ ?_ _) | (with_reducible refine Below.drew ?_) | (with_reducible refine belowN ?_ _) | (with_reducible refine below_after2 ?_ (by assumption) ?_) | omega | (simp; done) | (simp; omega)))
  have s3 : w2.heap.size + 1 ≤ w3.heap.size := (by have := hb3.size; (try simp at this); omega)
  replace cW0_0 : w3.cell? ⟨w1.heap.size, 0, none⟩ = some (.int .i64 y0.cap) := cellb B3 cW0_0
  replace cW0_1 : w3.cell? ⟨w1.heap.size, 1, none⟩ = some (.int .i64 y0.next) := cellb B3 cW0_1
  replace cW0_2 : w3.cell? ⟨w1.heap.size, 2, none⟩ = some (.bool y0.out) := cellb B3 cW0_2
  replace cW0_3 : w3.cell? ⟨w1.heap.size, 3, none⟩ = some (.slice a1_0_list y0.list.length c1_0_list) := cellb B3 cW0_3
  have cG0_0 : w3.cell? ⟨w2.heap.size, 0, none⟩ = some (.int .i64 y0.cap) := by rw [hN.cell (by simp; try omega)]; simp
  have cG0_1 : w3.cell? ⟨w2.heap.size, 1, none⟩ = some (.int .i64 y0.next) := by rw [hN.cell (by simp; try omega)]; simp
  have cG0_2 : w3.cell? ⟨w2.heap.size, 2, none⟩ = some (.bool y0.out) := by rw [hN.cell (by simp; try omega)]; simp
  have cG0_3 : w3.cell? ⟨w2.heap.size, 3, none⟩ = some (.slice a2_0_list y0.list.length c2_0_list) := by rw [hN.cell (by simp; try omega)]; simp
  clear hN
  replace K1 : Kept f1_0_list w1 w3 := K1.below B3 (fun p hp => Nat.lt_of_lt_of_le (UB1 p hp) (by omega))
  replace K2 : Kept f2_0_list w2 w3 := K2.below B3 (fun p hp => Nat.lt_of_lt_of_le (UB2 p hp) (by omega))
  have z3_W0 : w1.heap.size < w3.heap.size := (by omega)
  have z3_G0 : w2.heap.size < w3.heap.size := (by omega)
  clear hb3
  replace S2_0_list := S2_0_list.kept K2 (fun _ h => h)
  replace FR2 := FR2.kept K2 (fun _ h => h)
  clear K2
  go_wp2_with fail
  refine (markRing_c (w1.heap.size + 1) y0.cap y0.next y0.out _ _ f2_0_list _ 1 (by omega) (by omega) (S2_0_list.belowW (by repeat' (first | (with_reducible exact Below.refl _ _) | (with_reducible assumption) | (with_reducible refine Below.setCell ?_ ?_ _) | (with_reducible refine Below.alloc ?_ ?_ _) | (with_reducible refine Below.drew ?_) | (with_reducible refine belowN ?_ _) | (with_reducible refine below_after2 ?_ (by assumption) ?_) | omega | (simp; done) | (simp; omega)))) (FR2.belowL (by repeat' (first | (with_reducible exact Below.refl _ _) | (with_reducible assumption) | (with_reducible refine Below.setCell ?_ ?_ _) | (with_reducible refine Below.alloc ?_ ?_ _) | (with_reducible refine Below.drew ?_) | (with_reducible refine belowN ?_ _) | (with_reducible refine below_after2 ?_ (by assumption) ?_) | omega | (simp; done) | (simp; omega))) (fun p hp => Nat.lt_of_lt_of_le (UB2 p hp) (by omega)))).mono ?_
  rintro e w4 ⟨he, T4_0_list, hw4⟩
  have s4 : w3.heap.size ≤ w4.heap.size := wrs hw4 (by repeat' (first | (with_reducible exact Below.refl _ _) | (with_reducible assumption) | (with_reducible refine Below.setCell ?_ ?_ _) | (with_reducible refine Below.alloc ?_ ?_ _) | (with_reducible refine Below.drew ?_) | (with_reducible refine belowN ?_ _) | (with_reducible refine below_after2 ?_ (by assumption) ?_) | omega | (simp; done) | (simp; omega)))
  replace cW0_0 : w4.cell? ⟨w1.heap.size, 0, none⟩ = some (.int .i64 y0.cap) := cellw (by repeat' (first | (with_reducible exact Below.refl _ _) | (with_reducible assumption) | (with_reducible refine Below.setCell ?_ ?_ _) | (with_reducible refine Below.alloc ?_ ?_ _) | (with_reducible refine Below.drew ?_) | (with_reducible refine belowN ?_ _) | (with_reducible refine below_after2 ?_ (by assumption) ?_) | omega | (simp; done) | (simp; omega))) hw4 cW0_0 (fun hp => by have q1 := FR2.ge _ hp; have q2 := UB2 _ hp; simp only at q1 q2; omega)
  replace cW0_1 : w4.cell? ⟨w1.heap.size, 1, none⟩ = some (.int .i64 y0.next) := cellw (by repeat' (first | (with_reducible exact Below.refl _ _) | (with_reducible assumption) | (with_reducible refine Below.setCell ?_ ?_ _) | (with_reducible refine Below.alloc ?_ ?_ _) | (with_reducible refine Below.drew ?_) | (with_reducible refine belowN ?_ _) | (with_reducible refine below_after2 ?_ (by assumption) ?_) | omega | (simp; done) | (simp; omega))) hw4 cW0_1 (fun hp => by have q1 := FR2.ge _ hp; have q2 := UB2 _ hp; simp only at q1 q2; omega)
  replace cW0_2 : w4.cell? ⟨w1.heap.size, 2, none⟩ = some (.bool y0.out) := cellw (by repeat' (first | (with_reducible exact Below.refl _ _) | (with_reducible assumption) | (with_reducible refine Below.setCell ?_ ?_ _) | (with_reducible refine Below.alloc ?_ ?_ _) | (with_reducible refine Below.drew ?_) | (with_reducible refine belowN ?_ _) | (with_reducible refine below_after2 ?_ (by assumption) ?_) | omega | (simp; done) | (simp; omega))) hw4 cW0_2 (fun hp => by have q1 := FR2.ge _ hp; have q2 := UB2 _ hp; simp only at q1 q2; omega)
  replace cW0_3 : w4.cell? ⟨w1.heap.size, 3, none⟩ = some (.slice a1_0_list y0.list.length c1_0_list) := cellw (by repeat' (first | (with_reducible exact Below.refl _ _) | (with_reducible assumption) | (with_reducible refine Below.setCell ?_ ?_ _) | (with_reducible refine Below.alloc ?_ ?_ _) | (with_reducible refine Below.drew ?_) | (with_reducible refine belowN ?_ _) | (with_reducible refine below_after2 ?_ (by assumption) ?_) | omega | (simp; done) | (simp; omega))) hw4 cW0_3 (fun hp => by have q1 := FR2.ge _ hp; have q2 := UB2 _ hp; simp only at q1 q2; omega)
  replace cG0_0 : w4.cell? ⟨w2.heap.size, 0, none⟩ = some (.int .i64 y0.cap) := cellw (by repeat' (first | (with_reducible exact Below.refl _ _) | (with_reducible assumption) | (with_reducible refine Below.setCell ?_ ?_ _) | (with_reducible refine Below.alloc ?_ ?_ _) | (with_reducible refine Below.drew ?_) | (with_reducible refine belowN ?_ _) | (with_reducible refine below_after2 ?_ (by assumption) ?_) | omega | (simp; done) | (simp; omega))) hw4 cG0_0 (fun hp => by have q1 := FR2.ge _ hp; have q2 := UB2 _ hp; simp only at q1 q2; omega)
  replace cG0_1 : w4.cell? ⟨w2.heap.size, 1, none⟩ = some (.int .i64 y0.next) := cellw (by repeat' (first | (with_reducible exact Below.refl _ _) | (with_reducible assumption) | (with_reducible refine Below.setCell ?_ ?_ _) | (with_reducible refine Below.alloc ?_ ?_ _) | (with_reducible refine Below.drew ?_) | (with_reducible refine belowN ?_ _) | (with_reducible refine below_after2 ?_ (by assumption) ?_) | omega | (simp; done) | (simp; omega))) hw4 cG0_1 (fun hp => by have q1 := FR2.ge _ hp; have q2 := UB2 _ hp; simp only at q1 q2; omega)
  replace cG0_2 : w4.cell? ⟨w2.heap.size, 2, none⟩ = some (.bool y0.out) := cellw (by repeat' (first | (with_reducible exact Below.refl _ _) | (with_reducible assumption) | (with_reducible refine Below.setCell ?_ ?_ _) | (with_reducible refine Below.alloc ?_ ?_ _) | (with_reducible refine Below.drew ?_) | (with_reducible refine belowN ?_ _) | (with_reducible refine below_after2 ?_ (by assumption) ?_) | omega | (simp; done) | (simp; omega))) hw4 cG0_2 (fun hp => by have q1 := FR2.ge _ hp; have q2 := UB2 _ hp; simp only at q1 q2; omega)
  replace cG0_3 : w4.cell? ⟨w2.heap.size, 3, none⟩ = some (.slice a2_0_list y0.list.length c2_0_list) := cellw (by repeat' (first | (with_reducible exact Below.refl _ _) | (with_reducible assumption) | (with_reducible refine Below.setCell ?_ ?_ _) | (with_reducible refine Below.alloc ?_ ?_ _) | (with_reducible refine Below.drew ?_) | (with_reducible refine belowN ?_ _) | (with_reducible refine below_after2 ?_ (by assumption) ?_) | omega | (simp; done) | (simp; omega))) hw4 cG0_3 (fun hp => by have q1 := FR2.ge _ hp; have q2 := UB2 _ hp; simp only at q1 q2; omega)
  replace K1 : Kept f1_0_list w1 w4 := K1.wr2 (by repeat' (first | (with_reducible exact Below.refl _ _) | (with_reducible assumption) | (with_reducible refine Below.setCell ?_ ?_ _) | (with_reducible refine Below.alloc ?_ ?_ _) | (with_reducible refine Below.drew ?_) | (with_reducible refine belowN ?_ _) | (with_reducible refine below_after2 ?_ (by assumption) ?_) | omega | (simp; done) | (simp; omega))) hw4 (fun p hp => Nat.lt_of_lt_of_le (UB1 p hp) (by omega)) (fun q hq hp => by have q1 := FR2.ge q hp; have q2 := UB2 q hp; first | (have q3 := UB1 q hq; omega) | (have q3 := FR1.ge q hq; omega))
  have B4 : Below (w1.heap.size + 1) w3 w4 := wrb hw4 (by repeat' (first | (with_reducible exact Below.refl _ _) | (with_reducible assumption) | (with_reducible refine Below.setCell ?_ ?_ _) | (with_reducible refine Below.alloc ?_ ?_ _) | (with_reducible refine Below.drew ?_) | (with_reducible refine belowN ?_ _) | (with_reducible refine below_after2 ?_ (by assumption) ?_) | omega | (simp; done) | (simp; omega))) (by omega) (fun p hp => FR2.ge p hp)
  replace FR2 : Fresh (w1.heap.size + 1) w4 f2_0_list := FR2.wr2 (by repeat' (first | (with_reducible exact Below.refl _ _) | (with_reducible assumption) | (with_reducible refine Below.setCell ?_ ?_ _) | (with_reducible refine Below.alloc ?_ ?_ _) | (with_reducible refine Below.drew ?_) | (with_reducible refine belowN ?_ _) | (with_reducible refine below_after2 ?_ (by assumption) ?_) | omega | (simp; done) | (simp; omega))) hw4 (fun p hp => Nat.lt_of_lt_of_le (UB2 p hp) (by omega))
  replace S2_0_list := T4_0_list
  have K2 : Kept f2_0_list w4 w4 := Kept.refl _ _
  have z4_W0 : w1.heap.size < w4.heap.size := (by omega)
  have z4_G0 : w2.heap.size < w4.heap.size := (by omega)
  obtain ⟨m1, hm1, hn1⟩ : ∃ m : Int, m = 1 + ((cntL y0.list : Nat) : Int) ∧ 1 ≤ m := ⟨_, rfl, by omega⟩
  obtain rfl : e = .returned (.int .i64 m1) := he.trans (by rw [hm1])
  have ho1 : m1 ≤ 1 + 1099511627776 := by omega
  have HM1 : Hid (m1 = 1 + ((cntL y0.list : Nat) : Int)) := Lib.hid hm1
  clear he hm1
  have hx1 : decide (m1 < 0) = false := by simp; omega
  have hy1 : ¬ m1 < 0 := by omega
  have hz : (m1 != m1) = false := by simp
  go_wp2_with fail
  refine (heldRing_c y0.cap y0.next y0.out _ _ _ 1 (by omega) (by simp only [cntL_mkL]; omega) ((⟨_, S2_0_list.kept (K2.below (show Below w4.heap.size w4 _ from (by repeat' (first | (with_reducible exact Below.refl _ _) | (with_reducible assumption) | (with_reducible refine Below.setCell ?_ ?_ _) | (with_reducible refine Below.alloc ?_ ?_ _) | (with_reducible refine Below.drew ?_) | (with_reducible refine belowN ?_ _) | (with_reducible refine below_after2 ?_ (by assumption) ?_) | omega | (simp; done) | (simp; omega)))) (fun p hp => Nat.lt_of_lt_of_le (UB2 p hp) (by omega))) (fun _ h => h)⟩ : RdS _ _ _)) (by (try simp only [cntL_mkL]); exact mkL_mkL _ _)).mono ?_
  rintro e w5 ⟨he, hb5⟩
  obtain rfl : e = .returned (.int .i64 m1) := he.trans (by simp only [cntL_mkL]; rw [HM1.out])
  clear he
  have B5 : Below w4.heap.size w4 w5 := (by repeat' (first | (with_reducible exact Below.refl _ _) | (with_reducible assumption) | (with_reducible refine Below.setCell ?_ ?_ _) | (with_reducible refine Below.alloc ?_ ?_ _) | (with_reducible refine Below.drew ?_) | (with_reducible refine belowN ?_ _) | (with_reducible refine below_after2 ?_ (by assumption) ?_) | omega | (simp; done) | (simp; omega)))
  have s5 : w4.heap.size ≤ w5.heap.size := (by have := hb5.size; (try simp at this); omega)
  replace cW0_0 : w5.cell? ⟨w1.heap.size, 0, none⟩ = some (.int .i64 y0.cap) := cellb B5 cW0_0
  replace cW0_1 : w5.cell? ⟨w1.heap.size, 1, none⟩ = some (.int .i64 y0.next) := cellb B5 cW0_1
  replace cW0_2 : w5.cell? ⟨w1.heap.size, 2, none⟩ = some (.bool y0.out) := cellb B5 cW0_2
  replace cW0_3 : w5.cell? ⟨w1.heap.size, 3, none⟩ = some (.slice a1_0_list y0.list.length c1_0_list) := cellb B5 cW0_3
  replace cG0_0 : w5.cell? ⟨w2.heap.size, 0, none⟩ = some (.int .i64 y0.cap) := cellb B5 cG0_0
  replace cG0_1 : w5.cell? ⟨w2.heap.size, 1, none⟩ = some (.int .i64 y0.next) := cellb B5 cG0_1
  replace cG0_2 : w5.cell? ⟨w2.heap.size, 2, none⟩ = some (.bool y0.out) := cellb B5 cG0_2
  replace cG0_3 : w5.cell? ⟨w2.heap.size, 3, none⟩ = some (.slice a2_0_list y0.list.length c2_0_list) := cellb B5 cG0_3
  replace K1 : Kept f1_0_list w1 w5 := K1.below B5 (fun p hp => Nat.lt_of_lt_of_le (UB1 p hp) (by omega))
  replace K2 : Kept f2_0_list w4 w5 := K2.below B5 (fun p hp => Nat.lt_of_lt_of_le (UB2 p hp) (by omega))
  have z5_W0 : w1.heap.size < w5.heap.size := (by omega)
  have z5_G0 : w2.heap.size < w5.heap.size := (by omega)
  clear hb5
  go_wp2_with fail
  refine (HI.out  _ ).mono ?_
  rintro e w6 ⟨v6_0_list, f6_0_list, rfl, S6_0_list, FR6, hb6⟩
  obtain ⟨a6_0_list, c6_0_list, rfl⟩ := RdS.isSlice ⟨_, S6_0_list⟩
  have UB6 : ∀ p ∈ f6_0_list, p.1 < w6.heap.size := Live.lt (S6_0_list.live)
  replace FR6 : Fresh (w5.heap.size) w6 f6_0_list := FR6.mono (by first | exact Nat.le_refl _ | (simp; done) | (simp; omega))
  have K6 : Kept f6_0_list w6 w6 := Kept.refl _ _
  have B6 : Below w5.heap.size w5 w6 := (by repeat' (first | (with_reducible exact Below.refl _ _) | (with_reducible assumption) | (with_reducible refine Below.setCell ?_ ?_ _) | (with_reducible refine Below.alloc ?_ ?_ _) | (with_reducible refine Below.drew ?_) | (with_reducible refine belowN ?_ _) | (with_reducible refine below_after2 ?_ (by assumption) ?_) | omega | (simp; done) | (simp; omega)))
  have s6 : w5.heap.size ≤ w6.heap.size := (by have := hb6.size; (try simp at this); omega)
  replace cW0_0 : w6.cell? ⟨w1.heap.size, 0, none⟩ = some (.int .i64 y0.cap) := cellb B6 cW0_0
  replace cW0_1 : w6.cell? ⟨w1.heap.size, 1, none⟩ = some (.int .i64 y0.next) := cellb B6 cW0_1
  replace cW0_2 : w6.cell? ⟨w1.heap.size, 2, none⟩ = some (.bool y0.out) := cellb B6 cW0_2
  replace cW0_3 : w6.cell? ⟨w1.heap.size, 3, none⟩ = some (.slice a1_0_list y0.list.length c1_0_list) := cellb B6 cW0_3
  replace cG0_0 : w6.cell? ⟨w2.heap.size, 0, none⟩ = some (.int .i64 y0.cap) := cellb B6 cG0_0
  replace cG0_1 : w6.cell? ⟨w2.heap.size, 1, none⟩ = some (.int .i64 y0.next) := cellb B6 cG0_1
  replace cG0_2 : w6.cell? ⟨w2.heap.size, 2, none⟩ = some (.bool y0.out) := cellb B6 cG0_2
  replace cG0_3 : w6.cell? ⟨w2.heap.size, 3, none⟩ = some (.slice a2_0_list y0.list.length c2_0_list) := cellb B6 cG0_3
  replace K1 : Kept f1_0_list w1 w6 := K1.below B6 (fun p hp => Nat.lt_of_lt_of_le (UB1 p hp) (by omega))
  replace K2 : Kept f2_0_list w4 w6 := K2.below B6 (fun p hp => Nat.lt_of_lt_of_le (UB2 p hp) (by omega))
  have z6_W0 : w1.heap.size < w6.heap.size := (by omega)
  have z6_G0 : w2.heap.size < w6.heap.size := (by omega)
  clear hb6
  go_wp2_with fail
  refine (eqRing_c y0 _ _ _ ((⟨_, S6_0_list.kept (K6.below (show Below w6.heap.size w6 _ from (by repeat' (first | (with_reducible exact Below.refl _ _) | (with_reducible assumption) | (with_reducible refine Below.setCell ?_ ?_ _) | (with_reducible refine Below.alloc ?_ ?_ _) | (with_reducible refine Below.drew ?_) | (with_reducible refine belowN ?_ _) | (with_reducible refine below_after2 ?_ (by assumption) ?_) | omega | (simp; done) | (simp; omega)))) (fun p hp => Nat.lt_of_lt_of_le (UB6 p hp) (by omega))) (fun _ h => h)⟩ : RdS _ _ _)) ((⟨_, S1_0_list.kept (K1.below (show Below w6.heap.size w6 _ from (by repeat' (first | (with_reducible exact Below.refl _ _) | (with_reducible assumption) | (with_reducible refine Below.setCell ?_ ?_ _) | (with_reducible refine Below.alloc ?_ ?_ _) | (with_reducible refine Below.drew ?_) | (with_reducible refine belowN ?_ _) | (with_reducible refine below_after2 ?_ (by assumption) ?_) | omega | (simp; done) | (simp; omega)))) (fun p hp => Nat.lt_of_lt_of_le (UB1 p hp) (by omega))) (fun _ h => h)⟩ : RdS _ _ _))).mono ?_
  rintro e w7 ⟨rfl, hb7⟩
  have hN : Below (w6.heap.size + 1) (w6.alloc (.cells #[.int .i64 y0.cap, .int .i64 y0.next, .bool y0.out, .slice a6_0_list y0.list.length c6_0_list] 40)) w7 := (by repeat' (first | (with_reducible exact Below.refl _ _) | (with_reducible assumption) | (with_reducible refine Below.setCell ?_ ?_ _) | (with_reducible refine Below.alloc ?_ ?_ _) | (with_reducible refine Below.drew ?_) | (with_reducible refine belowN ?_ _) | (with_reducible refine below_after2 ?_ (by assumption) ?_) | omega | (simp; done) | (simp; omega)))
  have B7 : Below w6.heap.size w6 w7 := (by repeat' (first | (with_reducible exact Below.refl _ _) | (with_reducible assumption) | (with_reducible refine Below.setCell ?_ ?_ _) | (with_reducible refine Below.alloc ?_ ?_ _) | (with_reducible refine Below.drew ?_) | (with_reducible refine belowN ?_ _) | (with_reducible refine below_after2 ?_ (by assumption) ?_) | omega | (simp; done) | (simp; omega)))
  have s7 : w6.heap.size + 1 ≤ w7.heap.size := (by have := hb7.size; (try simp at this); omega)
  replace cW0_0 : w7.cell? ⟨w1.heap.size, 0, none⟩ = some (.int .i64 y0.cap) := cellb B7 cW0_0
  replace cW0_1 : w7.cell? ⟨w1.heap.size, 1, none⟩ = some (.int .i64 y0.next) := cellb B7 cW0_1
  replace cW0_2 : w7.cell? ⟨w1.heap.size, 2, none⟩ = some (.bool y0.out) := cellb B7 cW0_2
  replace cW0_3 : w7.cell? ⟨w1.heap.size, 3, none⟩ = some (.slice a1_0_list y0.list.length c1_0_list) := cellb B7 cW0_3
  replace cG0_0 : w7.cell? ⟨w2.heap.size, 0, none⟩ = some (.int .i64 y0.cap) := cellb B7 cG0_0
  replace cG0_1 : w7.cell? ⟨w2.heap.size, 1, none⟩ = some (.int .i64 y0.next) := cellb B7 cG0_1
  replace cG0_2 : w7.cell? ⟨w2.heap.size, 2, none⟩ = some (.bool y0.out) := cellb B7 cG0_2
  replace cG0_3 : w7.cell? ⟨w2.heap.size, 3, none⟩ = some (.slice a2_0_list y0.list.length c2_0_list) := cellb B7 cG0_3
  have cH0_0 : w7.cell? ⟨w6.heap.size, 0, none⟩ = some (.int .i64 y0.cap) := by rw [hN.cell (by simp; try omega)]; simp
  have cH0_1 : w7.cell? ⟨w6.heap.size, 1, none⟩ = some (.int .i64 y0.next) := by rw [hN.cell (by simp; try omega)]; simp
  have cH0_2 : w7.cell? ⟨w6.heap.size, 2, none⟩ = some (.bool y0.out) := by rw [hN.cell (by simp; try omega)]; simp
  have cH0_3 : w7.cell? ⟨w6.heap.size, 3, none⟩ = some (.slice a6_0_list y0.list.length c6_0_list) := by rw [hN.cell (by simp; try omega)]; simp
  clear hN
  replace K1 : Kept f1_0_list w1 w7 := K1.below B7 (fun p hp => Nat.lt_of_lt_of_le (UB1 p hp) (by omega))
  replace K2 : Kept f2_0_list w4 w7 := K2.below B7 (fun p hp => Nat.lt_of_lt_of_le (UB2 p hp) (by omega))
  replace K6 : Kept f6_0_list w6 w7 := K6.below B7 (fun p hp => Nat.lt_of_lt_of_le (UB6 p hp) (by omega))
  have z7_W0 : w1.heap.size < w7.heap.size := (by omega)
  have z7_G0 : w2.heap.size < w7.heap.size := (by omega)
  have z7_H0 : w6.heap.size < w7.heap.size := (by omega)
  clear hb7
  go_wp2_with fail
  refine (heldRing_c y0.cap y0.next y0.out _ _ _ 1 (by omega) (by simp only [cntL_mkL]; omega) ((⟨_, S2_0_list.kept (K2.below (show Below w7.heap.size w7 _ from (by repeat' (first | (with_reducible exact Below.refl _ _) | (with_reducible assumption) | (with_reducible refine Below.setCell ?_ ?_ _) | (with_reducible refine Below.alloc ?_ ?_ _) | (with_reducible refine Below.drew ?_) | (with_reducible refine belowN ?_ _) | (with_reducible refine below_after2 ?_ (by assumption) ?_) | omega | (simp; done) | (simp; omega)))) (fun p hp => Nat.lt_of_lt_of_le (UB2 p hp) (by omega))) (fun _ h => h)⟩ : RdS _ _ _)) (by (try simp only [cntL_mkL]); exact mkL_mkL _ _)).mono ?_
  rintro e w8 ⟨he, hb8⟩
  obtain rfl : e = .returned (.int .i64 m1) := he.trans (by simp only [cntL_mkL]; rw [HM1.out])
  clear he
  have B8 : Below w7.heap.size w7 w8 := (by repeat' (first | (with_reducible exact Below.refl _ _) | (with_reducible assumption) | (with_reducible refine Below.setCell ?_ ?_ _) | (with_reducible refine Below.alloc ?_ ?_ _) | (with_reducible refine Below.drew ?_) | (with_reducible refine belowN ?_ _) | (with_reducible refine below_after2 ?_ (by assumption) ?_) | omega | (simp; done) | (simp; omega)))
  have s8 : w7.heap.size ≤ w8.heap.size := (by have := hb8.size; (try simp at this); omega)
  replace cW0_0 : w8.cell? ⟨w1.heap.size, 0, none⟩ = some (.int .i64 y0.cap) := cellb B8 cW0_0
  replace cW0_1 : w8.cell? ⟨w1.heap.size, 1, none⟩ = some (.int .i64 y0.next) := cellb B8 cW0_1
  replace cW0_2 : w8.cell? ⟨w1.heap.size, 2, none⟩ = some (.bool y0.out) := cellb B8 cW0_2
  replace cW0_3 : w8.cell? ⟨w1.heap.size, 3, none⟩ = some (.slice a1_0_list y0.list.length c1_0_list) := cellb B8 cW0_3
  replace cG0_0 : w8.cell? ⟨w2.heap.size, 0, none⟩ = some (.int .i64 y0.cap) := cellb B8 cG0_0
  replace cG0_1 : w8.cell? ⟨w2.heap.size, 1, none⟩ = some (.int .i64 y0.next) := cellb B8 cG0_1
  replace cG0_2 : w8.cell? ⟨w2.heap.size, 2, none⟩ = some (.bool y0.out) := cellb B8 cG0_2
  replace cG0_3 : w8.cell? ⟨w2.heap.size, 3, none⟩ = some (.slice a2_0_list y0.list.length c2_0_list) := cellb B8 cG0_3
  replace cH0_0 : w8.cell? ⟨w6.heap.size, 0, none⟩ = some (.int .i64 y0.cap) := cellb B8 cH0_0
  replace cH0_1 : w8.cell? ⟨w6.heap.size, 1, none⟩ = some (.int .i64 y0.next) := cellb B8 cH0_1
  replace cH0_2 : w8.cell? ⟨w6.heap.size, 2, none⟩ = some (.bool y0.out) := cellb B8 cH0_2
  replace cH0_3 : w8.cell? ⟨w6.heap.size, 3, none⟩ = some (.slice a6_0_list y0.list.length c6_0_list) := cellb B8 cH0_3
  replace K1 : Kept f1_0_list w1 w8 := K1.below B8 (fun p hp => Nat.lt_of_lt_of_le (UB1 p hp) (by omega))
  replace K2 : Kept f2_0_list w4 w8 := K2.below B8 (fun p hp => Nat.lt_of_lt_of_le (UB2 p hp) (by omega))
  have z8_W0 : w1.heap.size < w8.heap.size := (by omega)
  have z8_G0 : w2.heap.size < w8.heap.size := (by omega)
  have z8_H0 : w6.heap.size < w8.heap.size := (by omega)
  clear hb8
  go_wp2
  go_ret
  exact ⟨rfl, (by repeat' (first | (with_reducible exact Below.refl _ _) | (with_reducible assumption) | (with_reducible refine Below.setCell ?_ ?_ _) | (with_reducible refine Below.alloc ?_ ?_ _) | (with_reducible refine Below.drew ?_) | (with_reducible refine belowN ?_ _) | (with_reducible refine below_after2 ?_ (by assumption) ?_) | omega | (simp; done) | (simp; omega)))⟩
theorem walkc_FnExactRingNew (room : Int) (rev : Int) (w : World) (b1_room : -9223372036854775808 ≤ room) (b2_room : room ≤ 9223372036854775807) (b1_rev : -9223372036854775808 ≤ rev) (b2_rev : rev ≤ 9223372036854775807) :
    Calls Try.prog 5 #[.int .i64 room, .int .i64 rev] w (Tells w (.bool true)) :=
  walk_FnExactRingNew room rev w b1_room b2_room b1_rev b2_rev ((ringNew room rev).1) ((ringNew room rev).2) (fun _ _ b1 b2 W => spec_RingNew_c room rev W b1 b2) (fun _ _ b1 b2 W => impl_RingNew_c room rev W b1 b2) (by rw [ringNew_list]; simp [cntL])
namespace fnExactRingNew
theorem own : ownKnob Try.prog.godebug = none := by kernel_rfl
theorem laidOut : laidOutB Try.prog = true := by kernel_rfl
set_option maxRecDepth 100000 in
theorem lifted (os : Os) (started : os.Started) (H : Type) (enc : TypeId × Value → H) :
    ReturnsInHanded {} Try.checked os 5 .any (Rows.fnExactRingNewSpec.pre6 enc Try.prog Try.f5 Rows.fnExactRingNewRow.domain false) (Rows.fnExactRingNewSpec.post enc Try.prog Try.f5 false true false false) := by
  refine returnsInHanded_of_change (C := Try.checked) own started (by kernel_rfl) Try.func5
    (ChangeSpec.witness6 (enc := enc) (C := Try.checked) false ⟨#[], #[.int .i64 0, .int .i64 0], []⟩ 8 (by kernel_rfl) (by kernel_rfl) (by kernel_rfl) (by kernel_rfl)) ?_
  intro W base args ds gs before hval0 hW hcnd _
  have hval : ∀ (j : Nat) t v, Try.f5.params[j]? = some t → args[j]? = some v → Value.okWide Try.prog W .any base t v := hval0
  have hW' := hW
  obtain ⟨p, q, hA0, hV, rfl, hfz, hnd⟩ := hW
  have hA : DataW.TrodAll enc Try.prog W 0 (fun _ => true) true Try.f5.params.toList args.toList ds p := hA0
  rw [Try.params5] at hA hval
  obtain ⟨v0, vs0, d0, ds0, p0, q0, hargs, rfl, rfl, h0, r0⟩ := trodAll_cons hA
  obtain ⟨v1, vs1, d1, ds1, p1, q1, rfl, rfl, rfl, h1, r1⟩ := trodAll_cons r0
  obtain ⟨rfl, rfl, rfl⟩ := trodAll_nil r1
  obtain rfl : args = #[v0, v1] := by cases args; simp_all
  obtain ⟨rfl, rfl⟩ := trodVars_none hV
  obtain ⟨a0, rfl, rfl, rfl, w0⟩ := open_int Try.underlying3 (hval 0 3 v0 rfl rfl) h0
  have b0 := i64_bounds w0
  obtain ⟨a1, rfl, rfl, rfl, w1⟩ := open_int Try.underlying3 (hval 1 3 v1 rfl rfl) h1
  have b1 := i64_bounds w1
  clear hA0 hval0
  refine (walkc_FnExactRingNew a0 a1 W b0.1 b0.2 b1.1 b1.2).mono fun e W' ⟨he, bel⟩ => ?_
  subst he
  exact ⟨_, rfl, _, _, _, [], _, [], hW', trodAll_mk1 (shut_bool Try.underlying4 _), (trodAll_cons_mk (shut_int Try.underlying3 w0) (trodAll_cons_mk (shut_int Try.underlying3 w1) trodAll_mk0)), rfl, bel.frame _, fun h => by cases h⟩
theorem over : Rows.fnExactRingNewRow.holds Try.pinned (OpenSpec.ofChange Rows.fnExactRingNewSpec) :=
  OpenClaim.holds_of_wide 5 Try.f5 rfl rfl rfl rfl rfl rfl rfl ⟨rfl, rfl, rfl, rfl, rfl⟩ rfl rfl rfl rfl rfl (by kernel_rfl) Try.func5 (by kernel_rfl)
    (of_decide_eq_true (by kernel_rfl)) (by unfold Func.isWrapper; first | (rw [if_pos (by decide +kernel)]; kernel_rfl) | (rw [if_neg (by decide +kernel)]; exact ⟨rfl, rfl⟩))
    (fun os started H enc _ => lifted os started H enc)
theorem proved : Rows.FnExactRingNewSaid := over
end fnExactRingNew
#print axioms fnExactRingNew.proved
end Go.Proofs.Ytihbmefidbmmdaa
