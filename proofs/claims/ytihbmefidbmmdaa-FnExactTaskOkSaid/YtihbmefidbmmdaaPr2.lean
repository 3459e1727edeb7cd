/- Sizes of operations: what the reference and the program compute. -/
import Derived.Test.YtihbmefidbmmdaaPr1
namespace Go.Proofs.Ytihbmefidbmmdaa
open Go.RowKit
theorem impl_size_c (p : DPart) (v_signs : Value) (w : World) (h0 : 0 ≤ p.n) (h1 : p.n ≤ 1000000) (h2 : p.signs.length ≤ 1000000) (h_signs : RdS w v_signs p.signs) :
    Calls Try.prog 131 #[.agg #[.int .i64 p.kind, .int .i64 p.n, v_signs]] w (Tells w (.int .i64 (psize p))) := by
  have hl := fun w1 ty => h_signs.len Try.underlying48 w1 ty
  go_enter Try.func131, Try.ntmps131
  go_wp2
  go_ret
  exact ⟨ret_int (by unfold psize; rfl), (by repeat' (first | (with_reducible exact Below.refl _ _) | (with_reducible assumption) | (with_reducible refine Below.setCell ?_ ?_ _) | (with_reducible refine Below.alloc ?_ ?_ _) | (with_reducible refine Below.drew ?_) | (with_reducible refine belowN ?_ _) | (with_reducible refine below_after ?_ (by assumption) ?_) | omega | (simp; done) | (simp; omega)))⟩
set_option maxHeartbeats 1000000 in
theorem impl_sizeOf_c (v : Value) (o : List DPart) (but : Int) (w : World) (h : RdS w v o) :
    Calls Try.prog 128 #[v, .int .i64 but] w (Tells w (.int .i64 (sizeBut but o))) := by
  have hl := fun w1 ty => h.len Try.underlying27 w1 ty
  have ba := h.le
  by_cases hp : partsOk o = true
  · have hv : Hid (sizeBut but o = sumBut but o) := Lib.hid (if_pos hp)
    obtain ⟨hall, h600⟩ := partsOk_iff.1 hp
    have HALL := Lib.hid hall; clear hall
    go_enter Try.func128, Try.ntmps128
    go_wp2_with fail
    refine (impl_partsOk_c _ o _ (h.below (by repeat' (first | (with_reducible exact Below.refl _ _) | (with_reducible assumption) | (with_reducible refine Below.setCell ?_ ?_ _) | (with_reducible refine Below.alloc ?_ ?_ _) | (with_reducible refine Below.drew ?_) | (with_reducible refine belowN ?_ _) | (with_reducible refine below_after ?_ (by assumption) ?_) | omega | (simp; done) | (simp; omega))))).mono ?_
    rintro e w1 ⟨rfl, hb1⟩
    have s1 := hb1.size
    (try simp at s1)
    obtain ⟨hc1, hf1⟩ := bcell hb1
    go_wp2
    go_loopw [5, 13] (fun n i wr => ∃ k : Nat, k ≤ o.length ∧ i = .int .i64 k ∧ n = .int .i64 (sumBut but (o.take k)) ∧ Below w.heap.size w wr) (fun _ i _ => o.length - (intOf i).toNat)
    case atStart => exact ⟨0, Nat.zero_le _, rfl, rfl, (by repeat' (first | (with_reducible exact Below.refl _ _) | (with_reducible assumption) | (with_reducible refine Below.setCell ?_ ?_ _) | (with_reducible refine Below.alloc ?_ ?_ _) | (with_reducible refine Below.drew ?_) | (with_reducible refine belowN ?_ _) | (with_reducible refine below_after ?_ (by assumption) ?_) | omega | (simp; done) | (simp; omega)))⟩
    case round =>
      obtain ⟨k, hk, rfl, rfl, hbw⟩ := hrel
      have hsz := hbw.size
      have sb := sumBut_bd but (o.take k) (all_take HALL.out k)
      have tl : (o.take k).length ≤ k := List.length_take_le _ _
      by_cases hlt : k < o.length
      · obtain ⟨x, hx⟩ := get_some hlt
        obtain ⟨b1, o1, cs, h1, h2, h3⟩ := (h.below hbw).idx Try.underlying27 szi_DPart k hx
        obtain ⟨v_signs, rfl, r_signs⟩ := inv_DPart h3
        have q0 := h2.zero
        have q1 := h2 1 _ rfl
        have q2 := h2 2 _ rfl
        obtain ⟨aa, ca, rfl⟩ := r_signs.isSlice
        have hpx := all_at HALL.out hx
        have pb := psize_bd hpx
        have hsn := sumBut_snoc but hx
        have hcx : 0 ≤ x.n ∧ x.n ≤ 200 ∧ x.signs.length ≤ 200 := by
          rcases partOk_cases hpx with ⟨_, g1, g2, g3⟩ | ⟨_, g1, g2, _⟩ | ⟨_, g1, g2, g3⟩
          · rw [g3]; simp; omega
          · omega
          · rw [g3]; simp; omega
        obtain ⟨g1, g2, g3⟩ := hcx
        clear hpx hx
        obtain ⟨S, hS⟩ : ∃ S, sumBut but (o.take k) = S := ⟨_, rfl⟩
        rw [hS] at sb hsn
        rw [hS]
        clear hS
        by_cases e : x.kind = but
        · rw [if_pos e] at hsn
          have HS := Lib.hid hsn
          have e1 : (x.kind != but) = false := by rw [e]; simp
          clear e hsn
          go_wp2
          go_roundw
          case rel => exact ⟨k + 1, by omega, by go_num, by rw [HS.out]; go_num, (by repeat' (first | (with_reducible exact Below.refl _ _) | (with_reducible assumption) | (with_reducible refine Below.setCell ?_ ?_ _) | (with_reducible refine Below.alloc ?_ ?_ _) | (with_reducible refine Below.drew ?_) | (with_reducible refine belowN ?_ _) | (with_reducible refine below_after ?_ (by assumption) ?_) | omega | (simp; done) | (simp; omega)))⟩
          case measure => simp [intOf]; omega
        · rw [if_neg e] at hsn
          have HS := Lib.hid hsn
          have e1 : (x.kind != but) = true := by simpa using e
          clear e hsn
          go_wp2_with fail
          refine (impl_size_c x _ _ (by omega) (by omega) (by omega) (r_signs.below (by repeat' (first | (with_reducible exact Below.refl _ _) | (with_reducible assumption) | (with_reducible refine Below.setCell ?_ ?_ _) | (with_reducible refine Below.alloc ?_ ?_ _) | (with_reducible refine Below.drew ?_) | (with_reducible refine belowN ?_ _) | (with_reducible refine below_after ?_ (by assumption) ?_) | omega | (simp; done) | (simp; omega))))).mono ?_
          rintro e w2 ⟨rfl, hb2⟩
          have s2 := hb2.size
          (try simp at s2)
          obtain ⟨hc2, hf2⟩ := bcell hb2
          go_wp2
          go_roundw
          case rel => exact ⟨k + 1, by omega, by go_num, by rw [HS.out], (by repeat' (first | (with_reducible exact Below.refl _ _) | (with_reducible assumption) | (with_reducible refine Below.setCell ?_ ?_ _) | (with_reducible refine Below.alloc ?_ ?_ _) | (with_reducible refine Below.drew ?_) | (with_reducible refine belowN ?_ _) | (with_reducible refine below_after ?_ (by assumption) ?_) | omega | (simp; done) | (simp; omega)))⟩
          case measure => simp [intOf]; omega
      · obtain rfl : k = o.length := by omega
        rw [List.take_length]
        go_wp2
        go_ret
        exact ⟨ret_int hv.out.symm, hbw⟩
  · have hv : Hid (sizeBut but o = 0) := Lib.hid (if_neg hp)
    have hp : partsOk o = false := by simpa using hp
    go_enter Try.func128, Try.ntmps128
    go_wp2_with fail
    refine (impl_partsOk_c _ o _ (h.below (by repeat' (first | (with_reducible exact Below.refl _ _) | (with_reducible assumption) | (with_reducible refine Below.setCell ?_ ?_ _) | (with_reducible refine Below.alloc ?_ ?_ _) | (with_reducible refine Below.drew ?_) | (with_reducible refine belowN ?_ _) | (with_reducible refine below_after ?_ (by assumption) ?_) | omega | (simp; done) | (simp; omega))))).mono ?_
    rintro e w1 ⟨rfl, hb1⟩
    have s1 := hb1.size
    (try simp at s1)
    obtain ⟨hc1, hf1⟩ := bcell hb1
    go_wp2
    go_ret
    exact ⟨ret_int hv.out.symm, (by repeat' (first | (with_reducible exact Below.refl _ _) | (with_reducible assumption) | (with_reducible refine Below.setCell ?_ ?_ _) | (with_reducible refine Below.alloc ?_ ?_ _) | (with_reducible refine Below.drew ?_) | (with_reducible refine belowN ?_ _) | (with_reducible refine below_after ?_ (by assumption) ?_) | omega | (simp; done) | (simp; omega)))⟩
set_option maxHeartbeats 2000000 in
theorem spec_l02Sum_c (v : Value) (o : List DPart) (w : World) (h : RdS w v o) :
    Calls Try.prog 126 #[v] w (Tells w (.tuple #[.int .i64 (sum1 1 o), .int .i64 (sum1 2 o), .int .i64 (sum1 3 o)])) := by
  have hl := fun w1 ty => h.len Try.underlying27 w1 ty
  have ba := h.le
  by_cases hp : partsOk o = true
  · have v1 : sum1 1 o = sumOf 1 o := if_pos hp
    have v2 : sum1 2 o = sumOf 2 o := if_pos hp
    have v3 : sum1 3 o = sumOf 3 o := if_pos hp
    rw [v1, v2, v3]
    clear v1 v2 v3
    obtain ⟨hall, h600⟩ := partsOk_iff.1 hp
    have HALL := Lib.hid hall; clear hall
    go_enter Try.func126, Try.ntmps126
    go_wp2_with fail
    refine (spec_partsOk_c _ o _ (h.below (by repeat' (first | (with_reducible exact Below.refl _ _) | (with_reducible assumption) | (with_reducible refine Below.setCell ?_ ?_ _) | (with_reducible refine Below.alloc ?_ ?_ _) | (with_reducible refine Below.drew ?_) | (with_reducible refine belowN ?_ _) | (with_reducible refine below_after ?_ (by assumption) ?_) | omega | (simp; done) | (simp; omega))))).mono ?_
    rintro e w1 ⟨rfl, hb1⟩
    have s1 := hb1.size
    (try simp at s1)
    obtain ⟨hc1, hf1⟩ := bcell hb1
    go_wp2
    go_loopw [5, 6, 7, 15] (fun n1 n2 n3 i wr => ∃ k : Nat, k ≤ o.length ∧ i = .int .i64 k ∧ n1 = .int .i64 (sumOf 1 (o.take k)) ∧ n2 = .int .i64 (sumOf 2 (o.take k)) ∧ n3 = .int .i64 (sumOf 3 (o.take k)) ∧ Below w.heap.size w wr) (fun _ _ _ i _ => o.length - (intOf i).toNat)
    case atStart => exact ⟨0, Nat.zero_le _, rfl, rfl, rfl, rfl, (by repeat' (first | (with_reducible exact Below.refl _ _) | (with_reducible assumption) | (with_reducible refine Below.setCell ?_ ?_ _) | (with_reducible refine Below.alloc ?_ ?_ _) | (with_reducible refine Below.drew ?_) | (with_reducible refine belowN ?_ _) | (with_reducible refine below_after ?_ (by assumption) ?_) | omega | (simp; done) | (simp; omega)))⟩
    case round =>
      obtain ⟨k, hk, rfl, rfl, rfl, rfl, hbw⟩ := hrel
      have hsz := hbw.size
      have sb1 := sumOf_bd 1 (o.take k) (all_take HALL.out k)
      have sb2 := sumOf_bd 2 (o.take k) (all_take HALL.out k)
      have sb3 := sumOf_bd 3 (o.take k) (all_take HALL.out k)
      have tl : (o.take k).length ≤ k := List.length_take_le _ _
      by_cases hlt : k < o.length
      · obtain ⟨x, hx⟩ := get_some hlt
        obtain ⟨b1, o1, cs, h1, h2, h3⟩ := (h.below hbw).idx Try.underlying27 szi_DPart k hx
        obtain ⟨v_signs, rfl, r_signs⟩ := inv_DPart h3
        have q0 := h2.zero
        have q1 := h2 1 _ rfl
        have q2 := h2 2 _ rfl
        obtain ⟨aa, ca, rfl⟩ := r_signs.isSlice
        have hpx := all_at HALL.out hx
        have hs1 := sumOf_snoc 1 hx
        have hs2 := sumOf_snoc 2 hx
        have hs3 := sumOf_snoc 3 hx
        clear hx
        obtain ⟨S1, hS1⟩ : ∃ S, sumOf 1 (o.take k) = S := ⟨_, rfl⟩
        obtain ⟨S2, hS2⟩ : ∃ S, sumOf 2 (o.take k) = S := ⟨_, rfl⟩
        obtain ⟨S3, hS3⟩ : ∃ S, sumOf 3 (o.take k) = S := ⟨_, rfl⟩
        rw [hS1] at sb1 hs1 ⊢
        rw [hS2] at sb2 hs2 ⊢
        rw [hS3] at sb3 hs3 ⊢
        clear hS1 hS2 hS3
        have hlen := fun w1 ty => r_signs.len Try.underlying48 w1 ty
        rcases partOk_cases hpx with ⟨kx, g1, g2, g3⟩ | ⟨kx, g1, g2, _⟩ | ⟨kx, g1, g2, g3⟩
        · rw [kx] at hs1 hs2 hs3
          simp only [psize, g3] at hs1 hs2 hs3
          have H1 := Lib.hid hs1; have H2 := Lib.hid hs2; have H3 := Lib.hid hs3
          rw [kx] at q0
          clear hpx kx g3 hs1 hs2 hs3 hlen
          go_wp2
          go_roundw
          case rel => exact ⟨k + 1, by omega, by go_num, by rw [H1.out]; simp, by rw [H2.out]; simp, by rw [H3.out]; simp, (by repeat' (first | (with_reducible exact Below.refl _ _) | (with_reducible assumption) | (with_reducible refine Below.setCell ?_ ?_ _) | (with_reducible refine Below.alloc ?_ ?_ _) | (with_reducible refine Below.drew ?_) | (with_reducible refine belowN ?_ _) | (with_reducible refine below_after ?_ (by assumption) ?_) | omega | (simp; done) | (simp; omega)))⟩
          case measure => simp [intOf]; omega
        · rw [kx] at hs1 hs2 hs3
          simp only [psize, g1] at hs1 hs2 hs3
          have H1 := Lib.hid hs1; have H2 := Lib.hid hs2; have H3 := Lib.hid hs3
          rw [kx] at q0
          clear hpx kx g1 hs1 hs2 hs3
          go_wp2
          go_roundw
          case rel => exact ⟨k + 1, by omega, by go_num, by rw [H1.out]; simp, by rw [H2.out]; simp, by rw [H3.out]; simp, (by repeat' (first | (with_reducible exact Below.refl _ _) | (with_reducible assumption) | (with_reducible refine Below.setCell ?_ ?_ _) | (with_reducible refine Below.alloc ?_ ?_ _) | (with_reducible refine Below.drew ?_) | (with_reducible refine belowN ?_ _) | (with_reducible refine below_after ?_ (by assumption) ?_) | omega | (simp; done) | (simp; omega)))⟩
          case measure => simp [intOf]; omega
        · rw [kx] at hs1 hs2 hs3
          simp only [psize, g3] at hs1 hs2 hs3
          have H1 := Lib.hid hs1; have H2 := Lib.hid hs2; have H3 := Lib.hid hs3
          rw [kx] at q0
          clear hpx kx g3 hs1 hs2 hs3 hlen
          go_wp2
          go_roundw
          case rel => exact ⟨k + 1, by omega, by go_num, by rw [H1.out]; simp, by rw [H2.out]; simp, by rw [H3.out]; simp, (by repeat' (first | (with_reducible exact Below.refl _ _) | (with_reducible assumption) | (with_reducible refine Below.setCell ?_ ?_ _) | (with_reducible refine Below.alloc ?_ ?_ _) | (with_reducible refine Below.drew ?_) | (with_reducible refine belowN ?_ _) | (with_reducible refine below_after ?_ (by assumption) ?_) | omega | (simp; done) | (simp; omega)))⟩
          case measure => simp [intOf]; omega
      · obtain rfl : k = o.length := by omega
        simp only [List.take_length]
        go_wp2
        go_ret3
        exact ⟨rfl, hbw⟩
  · have v1 : sum1 1 o = 0 := if_neg hp
    have v2 : sum1 2 o = 0 := if_neg hp
    have v3 : sum1 3 o = 0 := if_neg hp
    rw [v1, v2, v3]
    clear v1 v2 v3
    have hp : partsOk o = false := by simpa using hp
    go_enter Try.func126, Try.ntmps126
    go_wp2_with fail
    refine (spec_partsOk_c _ o _ (h.below (by repeat' (first | (with_reducible exact Below.refl _ _) | (with_reducible assumption) | (with_reducible refine Below.setCell ?_ ?_ _) | (with_reducible refine Below.alloc ?_ ?_ _) | (with_reducible refine Below.drew ?_) | (with_reducible refine belowN ?_ _) | (with_reducible refine below_after ?_ (by assumption) ?_) | omega | (simp; done) | (simp; omega))))).mono ?_
    rintro e w1 ⟨rfl, hb1⟩
    have s1 := hb1.size
    (try simp at s1)
    obtain ⟨hc1, hf1⟩ := bcell hb1
    go_wp2
    go_ret3
    exact ⟨rfl, (by repeat' (first | (with_reducible exact Below.refl _ _) | (with_reducible assumption) | (with_reducible refine Below.setCell ?_ ?_ _) | (with_reducible refine Below.alloc ?_ ?_ _) | (with_reducible refine Below.drew ?_) | (with_reducible refine belowN ?_ _) | (with_reducible refine below_after ?_ (by assumption) ?_) | omega | (simp; done) | (simp; omega)))⟩
theorem impl_OpFrom_c (v : Value) (o : List DPart) (w : World) (h : RdS w v o) : Calls Try.prog 118 #[v] w (Tells w (.int .i64 (opFrom o))) := by
  go_enter Try.func118, Try.ntmps118
  go_wp2_with fail
  refine (impl_sizeOf_c _ o 2 _ (h.below (by repeat' (first | (with_reducible exact Below.refl _ _) | (with_reducible assumption) | (with_reducible refine Below.setCell ?_ ?_ _) | (with_reducible refine Below.alloc ?_ ?_ _) | (with_reducible refine Below.drew ?_) | (with_reducible refine belowN ?_ _) | (with_reducible refine below_after ?_ (by assumption) ?_) | omega | (simp; done) | (simp; omega))))).mono ?_
  rintro e w1 ⟨rfl, hb1⟩
  have s1 := hb1.size
  (try simp at s1)
  obtain ⟨hc1, hf1⟩ := bcell hb1
  go_wp2
  go_ret
  exact ⟨rfl, (by repeat' (first | (with_reducible exact Below.refl _ _) | (with_reducible assumption) | (with_reducible refine Below.setCell ?_ ?_ _) | (with_reducible refine Below.alloc ?_ ?_ _) | (with_reducible refine Below.drew ?_) | (with_reducible refine belowN ?_ _) | (with_reducible refine below_after ?_ (by assumption) ?_) | omega | (simp; done) | (simp; omega)))⟩
theorem impl_OpTo_c (v : Value) (o : List DPart) (w : World) (h : RdS w v o) : Calls Try.prog 119 #[v] w (Tells w (.int .i64 (opTo o))) := by
  go_enter Try.func119, Try.ntmps119
  go_wp2_with fail
  refine (impl_sizeOf_c _ o 3 _ (h.below (by repeat' (first | (with_reducible exact Below.refl _ _) | (with_reducible assumption) | (with_reducible refine Below.setCell ?_ ?_ _) | (with_reducible refine Below.alloc ?_ ?_ _) | (with_reducible refine Below.drew ?_) | (with_reducible refine belowN ?_ _) | (with_reducible refine below_after ?_ (by assumption) ?_) | omega | (simp; done) | (simp; omega))))).mono ?_
  rintro e w1 ⟨rfl, hb1⟩
  have s1 := hb1.size
  (try simp at s1)
  obtain ⟨hc1, hf1⟩ := bcell hb1
  go_wp2
  go_ret
  exact ⟨rfl, (by repeat' (first | (with_reducible exact Below.refl _ _) | (with_reducible assumption) | (with_reducible refine Below.setCell ?_ ?_ _) | (with_reducible refine Below.alloc ?_ ?_ _) | (with_reducible refine Below.drew ?_) | (with_reducible refine belowN ?_ _) | (with_reducible refine below_after ?_ (by assumption) ?_) | omega | (simp; done) | (simp; omega)))⟩
theorem sums_bd (o : List DPart) (b : Int) : 0 ≤ sum1 b o ∧ sum1 b o ≤ 120000 := by
  unfold sum1
  by_cases hp : partsOk o = true
  · obtain ⟨hall, h600⟩ := partsOk_iff.1 hp
    have := sumOf_bd b o hall
    rw [if_pos hp]
    omega
  · rw [if_neg hp]; omega
theorem opFrom_sum (o : List DPart) : opFrom o = (sum1 1 o) + (sum1 3 o) := by
  unfold opFrom sizeBut sum1
  by_cases hp : partsOk o = true
  · simp only [if_pos hp]; exact (sumBut_of o (partsOk_iff.1 hp).1).1
  · simp only [if_neg hp]; rfl
theorem opTo_sum (o : List DPart) : opTo o = (sum1 1 o) + (sum1 2 o) := by
  unfold opTo sizeBut sum1
  by_cases hp : partsOk o = true
  · simp only [if_pos hp]; exact (sumBut_of o (partsOk_iff.1 hp).1).2
  · simp only [if_neg hp]; rfl
theorem spec_OpFrom_c (v : Value) (o : List DPart) (w : World) (h : RdS w v o) : Calls Try.prog 112 #[v] w (Tells w (.int .i64 (opFrom o))) := by
  have b1 := sums_bd o 1
  have b3 := sums_bd o 3
  go_enter Try.func112, Try.ntmps112
  go_wp2_with fail
  refine (spec_l02Sum_c _ o _ (h.below (by repeat' (first | (with_reducible exact Below.refl _ _) | (with_reducible assumption) | (with_reducible refine Below.setCell ?_ ?_ _) | (with_reducible refine Below.alloc ?_ ?_ _) | (with_reducible refine Below.drew ?_) | (with_reducible refine belowN ?_ _) | (with_reducible refine below_after ?_ (by assumption) ?_) | omega | (simp; done) | (simp; omega))))).mono ?_
  rintro e w1 ⟨rfl, hb1⟩
  have s1 := hb1.size
  (try simp at s1)
  obtain ⟨hc1, hf1⟩ := bcell hb1
  have HE := Lib.hid (opFrom_sum o)
  obtain ⟨S1, hS1⟩ : ∃ S, sum1 1 o = S := ⟨_, rfl⟩
  obtain ⟨S3, hS3⟩ : ∃ S, sum1 3 o = S := ⟨_, rfl⟩
  rw [hS1] at b1 HE ⊢
  rw [hS3] at b3 HE ⊢
  clear hS1 hS3
  go_wp2
  go_ret
  exact ⟨ret_int HE.out.symm, (by repeat' (first | (with_reducible exact Below.refl _ _) | (with_reducible assumption) | (with_reducible refine Below.setCell ?_ ?_ _) | (with_reducible refine Below.alloc ?_ ?_ _) | (with_reducible refine Below.drew ?_) | (with_reducible refine belowN ?_ _) | (with_reducible refine below_after ?_ (by assumption) ?_) | omega | (simp; done) | (simp; omega)))⟩
theorem spec_OpTo_c (v : Value) (o : List DPart) (w : World) (h : RdS w v o) : Calls Try.prog 113 #[v] w (Tells w (.int .i64 (opTo o))) := by
  have b1 := sums_bd o 1
  have b3 := sums_bd o 2
  go_enter Try.func113, Try.ntmps113
  go_wp2_with fail
  refine (spec_l02Sum_c _ o _ (h.below (by repeat' (first | (with_reducible exact Below.refl _ _) | (with_reducible assumption) | (with_reducible refine Below.setCell ?_ ?_ _) | (with_reducible refine Below.alloc ?_ ?_ _) | (with_reducible refine Below.drew ?_) | (with_reducible refine belowN ?_ _) | (with_reducible refine below_after ?_ (by assumption) ?_) | omega | (simp; done) | (simp; omega))))).mono ?_
  rintro e w1 ⟨rfl, hb1⟩
  have s1 := hb1.size
  (try simp at s1)
  obtain ⟨hc1, hf1⟩ := bcell hb1
  have HE := Lib.hid (opTo_sum o)
  obtain ⟨S1, hS1⟩ : ∃ S, sum1 1 o = S := ⟨_, rfl⟩
  obtain ⟨S3, hS3⟩ : ∃ S, sum1 2 o = S := ⟨_, rfl⟩
  rw [hS1] at b1 HE ⊢
  rw [hS3] at b3 HE ⊢
  clear hS1 hS3
  go_wp2
  go_ret
  exact ⟨ret_int HE.out.symm, (by repeat' (first | (with_reducible exact Below.refl _ _) | (with_reducible assumption) | (with_reducible refine Below.setCell ?_ ?_ _) | (with_reducible refine Below.alloc ?_ ?_ _) | (with_reducible refine Below.drew ?_) | (with_reducible refine belowN ?_ _) | (with_reducible refine below_after ?_ (by assumption) ?_) | omega | (simp; done) | (simp; omega)))⟩
theorem spec_OpOk_c (v : Value) (o : List DPart) (w : World) (h : RdS w v o) : Calls Try.prog 90 #[v] w (Tells w (.bool (opOk o))) := by
  by_cases h1 : partsOk o = true
  · by_cases h2 : opFrom o ≤ 200
    · by_cases h3 : opTo o ≤ 200
      · have hv : Hid (opOk o = true) := Lib.hid (by simp [opOk, h1, h2, h3])
        go_enter Try.func90, Try.ntmps90
        go_wp2_with fail
        refine (spec_partsOk_c _ o _ (h.below (by repeat' (first | (with_reducible exact Below.refl _ _) | (with_reducible assumption) | (with_reducible refine Below.setCell ?_ ?_ _) | (with_reducible refine Below.alloc ?_ ?_ _) | (with_reducible refine Below.drew ?_) | (with_reducible refine belowN ?_ _) | (with_reducible refine below_after ?_ (by assumption) ?_) | omega | (simp; done) | (simp; omega))))).mono ?_
        rintro e w1 ⟨rfl, hb1⟩
        have s1 := hb1.size
        (try simp at s1)
        obtain ⟨hc1, hf1⟩ := bcell hb1
        go_wp2_with fail
        refine (spec_OpFrom_c _ o _ (h.below (by repeat' (first | (with_reducible exact Below.refl _ _) | (with_reducible assumption) | (with_reducible refine Below.setCell ?_ ?_ _) | (with_reducible refine Below.alloc ?_ ?_ _) | (with_reducible refine Below.drew ?_) | (with_reducible refine belowN ?_ _) | (with_reducible refine below_after ?_ (by assumption) ?_) | omega | (simp; done) | (simp; omega))))).mono ?_
        rintro e w2 ⟨rfl, hb2⟩
        have s2 := hb2.size
        (try simp at s2)
        obtain ⟨hc2, hf2⟩ := bcell hb2
        go_wp2_with fail
        refine (spec_OpTo_c _ o _ (h.below (by repeat' (first | (with_reducible exact Below.refl _ _) | (with_reducible assumption) | (with_reducible refine Below.setCell ?_ ?_ _) | (with_reducible refine Below.alloc ?_ ?_ _) | (with_reducible refine Below.drew ?_) | (with_reducible refine belowN ?_ _) | (with_reducible refine below_after ?_ (by assumption) ?_) | omega | (simp; done) | (simp; omega))))).mono ?_
        rintro e w3 ⟨rfl, hb3⟩
        have s3 := hb3.size
        (try simp at s3)
        obtain ⟨hc3, hf3⟩ := bcell hb3
        go_wp2
        go_ret
        exact ⟨ret_bool (by rw [hv.out]; first | done | (simp; done) | (simp; omega)), (by repeat' (first | (with_reducible exact Below.refl _ _) | (with_reducible assumption) | (with_reducible refine Below.setCell ?_ ?_ _) | (with_reducible refine Below.alloc ?_ ?_ _) | (with_reducible refine Below.drew ?_) | (with_reducible refine belowN ?_ _) | (with_reducible refine below_after ?_ (by assumption) ?_) | omega | (simp; done) | (simp; omega)))⟩
      · have hv : Hid (opOk o = false) := Lib.hid (by simp [opOk, h3])
        go_enter Try.func90, Try.ntmps90
        go_wp2_with fail
        refine (spec_partsOk_c _ o _ (h.below (by repeat' (first | (with_reducible exact Below.refl _ _) | (with_reducible assumption) | (with_reducible refine Below.setCell ?_ ?_ _) | (with_reducible refine Below.alloc ?_ ?_ _) | (with_reducible refine Below.drew ?_) | (with_reducible refine belowN ?_ _) | (with_reducible refine below_after ?_ (by assumption) ?_) | omega | (simp; done) | (simp; omega))))).mono ?_
        rintro e w1 ⟨rfl, hb1⟩
        have s1 := hb1.size
        (try simp at s1)
        obtain ⟨hc1, hf1⟩ := bcell hb1
        go_wp2_with fail
        refine (spec_OpFrom_c _ o _ (h.below (by repeat' (first | (with_reducible exact Below.refl _ _) | (with_reducible assumption) | (with_reducible refine Below.setCell ?_ ?_ _) | (with_reducible refine Below.alloc ?_ ?_ _) | (with_reducible refine Below.drew ?_) | (with_reducible refine belowN ?_ _) | (with_reducible refine below_after ?_ (by assumption) ?_) | omega | (simp; done) | (simp; omega))))).mono ?_
        rintro e w2 ⟨rfl, hb2⟩
        have s2 := hb2.size
        (try simp at s2)
        obtain ⟨hc2, hf2⟩ := bcell hb2
        go_wp2_with fail
        refine (spec_OpTo_c _ o _ (h.below (by repeat' (first | (with_reducible exact Below.refl _ _) | (with_reducible assumption) | (with_reducible refine Below.setCell ?_ ?_ _) | (with_reducible refine Below.alloc ?_ ?_ _) | (with_reducible refine Below.drew ?_) | (with_reducible refine belowN ?_ _) | (with_reducible refine below_after ?_ (by assumption) ?_) | omega | (simp; done) | (simp; omega))))).mono ?_
        rintro e w3 ⟨rfl, hb3⟩
        have s3 := hb3.size
        (try simp at s3)
        obtain ⟨hc3, hf3⟩ := bcell hb3
        go_wp2
        go_ret
        exact ⟨ret_bool (by rw [hv.out]; first | done | (simp; done) | (simp; omega)), (by repeat' (first | (with_reducible exact Below.refl _ _) | (with_reducible assumption) | (with_reducible refine Below.setCell ?_ ?_ _) | (with_reducible refine Below.alloc ?_ ?_ _) | (with_reducible refine Below.drew ?_) | (with_reducible refine belowN ?_ _) | (with_reducible refine below_after ?_ (by assumption) ?_) | omega | (simp; done) | (simp; omega)))⟩
    · have hv : Hid (opOk o = false) := Lib.hid (by simp [opOk, h2])
      go_enter Try.func90, Try.ntmps90
      go_wp2_with fail
      refine (spec_partsOk_c _ o _ (h.below (by repeat' (first | (with_reducible exact Below.refl _ _) | (with_reducible assumption) | (with_reducible refine Below.setCell ?_ ?_ _) | (with_reducible refine Below.alloc ?_ ?_ _) | (with_reducible refine Below.drew ?_) | (with_reducible refine belowN ?_ _) | (with_reducible refine below_after ?_ (by assumption) ?_) | omega | (simp; done) | (simp; omega))))).mono ?_
      rintro e w1 ⟨rfl, hb1⟩
      have s1 := hb1.size
      (try simp at s1)
      obtain ⟨hc1, hf1⟩ := bcell hb1
      go_wp2_with fail
      refine (spec_OpFrom_c _ o _ (h.below (by repeat' (first | (with_reducible exact Below.refl _ _) | (with_reducible assumption) | (with_reducible refine Below.setCell ?_ ?_ _) | (with_reducible refine Below.alloc ?_ ?_ _) | (with_reducible refine Below.drew ?_) | (with_reducible refine belowN ?_ _) | (with_reducible refine below_after ?_ (by assumption) ?_) | omega | (simp; done) | (simp; omega))))).mono ?_
      rintro e w2 ⟨rfl, hb2⟩
      have s2 := hb2.size
      (try simp at s2)
      obtain ⟨hc2, hf2⟩ := bcell hb2
      go_wp2
      go_ret
      exact ⟨ret_bool (by rw [hv.out]; first | done | (simp; done) | (simp; omega)), (by repeat' (first | (with_reducible exact Below.refl _ _) | (with_reducible assumption) | (with_reducible refine Below.setCell ?_ ?_ _) | (with_reducible refine Below.alloc ?_ ?_ _) | (with_reducible refine Below.drew ?_) | (with_reducible refine belowN ?_ _) | (with_reducible refine below_after ?_ (by assumption) ?_) | omega | (simp; done) | (simp; omega)))⟩
  · have h1 : partsOk o = false := by simpa using h1
    have hv : Hid (opOk o = false) := Lib.hid (by simp [opOk, h1])
    go_enter Try.func90, Try.ntmps90
    go_wp2_with fail
    refine (spec_partsOk_c _ o _ (h.below (by repeat' (first | (with_reducible exact Below.refl _ _) | (with_reducible assumption) | (with_reducible refine Below.setCell ?_ ?_ _) | (with_reducible refine Below.alloc ?_ ?_ _) | (with_reducible refine Below.drew ?_) | (with_reducible refine belowN ?_ _) | (with_reducible refine below_after ?_ (by assumption) ?_) | omega | (simp; done) | (simp; omega))))).mono ?_
    rintro e w1 ⟨rfl, hb1⟩
    have s1 := hb1.size
    (try simp at s1)
    obtain ⟨hc1, hf1⟩ := bcell hb1
    go_wp2
    go_ret
    exact ⟨ret_bool (by rw [hv.out]; first | done | (simp; done) | (simp; omega)), (by repeat' (first | (with_reducible exact Below.refl _ _) | (with_reducible assumption) | (with_reducible refine Below.setCell ?_ ?_ _) | (with_reducible refine Below.alloc ?_ ?_ _) | (with_reducible refine Below.drew ?_) | (with_reducible refine belowN ?_ _) | (with_reducible refine below_after ?_ (by assumption) ?_) | omega | (simp; done) | (simp; omega)))⟩
theorem impl_OpOk_c (v : Value) (o : List DPart) (w : World) (h : RdS w v o) : Calls Try.prog 94 #[v] w (Tells w (.bool (opOk o))) := by
  by_cases h1 : partsOk o = true
  · by_cases h2 : opFrom o ≤ 200
    · by_cases h3 : opTo o ≤ 200
      · have hv : Hid (opOk o = true) := Lib.hid (by simp [opOk, h1, h2, h3])
        go_enter Try.func94, Try.ntmps94
        go_wp2_with fail
        refine (impl_partsOk_c _ o _ (h.below (by repeat' (first | (with_reducible exact Below.refl _ _) | (with_reducible assumption) | (with_reducible refine Below.setCell ?_ ?_ _) | (with_reducible refine Below.alloc ?_ ?_ _) | (with_reducible refine Below.drew ?_) | (with_reducible refine belowN ?_ _) | (with_reducible refine below_after ?_ (by assumption) ?_) | omega | (simp; done) | (simp; omega))))).mono ?_
        rintro e w1 ⟨rfl, hb1⟩
        have s1 := hb1.size
        (try simp at s1)
        obtain ⟨hc1, hf1⟩ := bcell hb1
        go_wp2_with fail
        refine (impl_OpFrom_c _ o _ (h.below (by repeat' (first | (with_reducible exact Below.refl _ _) | (with_reducible assumption) | (with_reducible refine Below.setCell ?_ ?_ _) | (with_reducible refine Below.alloc ?_ ?_ _) | (with_reducible refine Below.drew ?_) | (with_reducible refine belowN ?_ _) | (with_reducible refine below_after ?_ (by assumption) ?_) | omega | (simp; done) | (simp; omega))))).mono ?_
        rintro e w2 ⟨rfl, hb2⟩
        have s2 := hb2.size
        (try simp at s2)
        obtain ⟨hc2, hf2⟩ := bcell hb2
        go_wp2_with fail
        refine (impl_OpTo_c _ o _ (h.below (by repeat' (first | (with_reducible exact Below.refl _ _) | (with_reducible assumption) | (with_reducible refine Below.setCell ?_ ?_ _) | (with_reducible refine Below.alloc ?_ ?_ _) | (with_reducible refine Below.drew ?_) | (with_reducible refine belowN ?_ _) | (with_reducible refine below_after ?_ (by assumption) ?_) | omega | (simp; done) | (simp; omega))))).mono ?_
        rintro e w3 ⟨rfl, hb3⟩
        have s3 := hb3.size
        (try simp at s3)
        obtain ⟨hc3, hf3⟩ := bcell hb3
        go_wp2
        go_ret
        exact ⟨ret_bool (by rw [hv.out]; first | done | (simp; done) | (simp; omega)), (by repeat' (first | (with_reducible exact Below.refl _ _) | (with_reducible assumption) | (with_reducible refine Below.setCell ?_ ?_ _) | (with_reducible refine Below.alloc ?_ ?_ _) | (with_reducible refine Below.drew ?_) | (with_reducible refine belowN ?_ _) | (with_reducible refine below_after ?_ (by assumption) ?_) | omega | (simp; done) | (simp; omega)))⟩
      · have hv : Hid (opOk o = false) := Lib.hid (by simp [opOk, h3])
        go_enter Try.func94, Try.ntmps94
        go_wp2_with fail
        refine (impl_partsOk_c _ o _ (h.below (by repeat' (first | (with_reducible exact Below.refl _ _) | (with_reducible assumption) | (with_reducible refine Below.setCell ?_ ?_ _) | (with_reducible refine Below.alloc ?_ ?_ _) | (with_reducible refine Below.drew ?_) | (with_reducible refine belowN ?_ _) | (with_reducible refine below_after ?_ (by assumption) ?_) | omega | (simp; done) | (simp; omega))))).mono ?_
        rintro e w1 ⟨rfl, hb1⟩
        have s1 := hb1.size
        (try simp at s1)
        obtain ⟨hc1, hf1⟩ := bcell hb1
        go_wp2_with fail
        refine (impl_OpFrom_c _ o _ (h.below (by repeat' (first | (with_reducible exact Below.refl _ _) | (with_reducible assumption) | (with_reducible refine Below.setCell ?_ ?_ _) | (with_reducible refine Below.alloc ?_ ?_ _) | (with_reducible refine Below.drew ?_) | (with_reducible refine belowN ?_ _) | (with_reducible refine below_after ?_ (by assumption) ?_) | omega | (simp; done) | (simp; omega))))).mono ?_
        rintro e w2 ⟨rfl, hb2⟩
        have s2 := hb2.size
        (try simp at s2)
        obtain ⟨hc2, hf2⟩ := bcell hb2
        go_wp2_with fail
        refine (impl_OpTo_c _ o _ (h.below (by repeat' (first | (with_reducible exact Below.refl _ _) | (with_reducible assumption) | (with_reducible refine Below.setCell ?_ ?_ _) | (with_reducible refine Below.alloc ?_ ?_ _) | (with_reducible refine Below.drew ?_) | (with_reducible refine belowN ?_ _) | (with_reducible refine below_after ?_ (by assumption) ?_) | omega | (simp; done) | (simp; omega))))).mono ?_
        rintro e w3 ⟨rfl, hb3⟩
        have s3 := hb3.size
        (try simp at s3)
        obtain ⟨hc3, hf3⟩ := bcell hb3
        go_wp2
        go_ret
        exact ⟨ret_bool (by rw [hv.out]; first | done | (simp; done) | (simp; omega)), (by repeat' (first | (with_reducible exact Below.refl _ _) | (with_reducible assumption) | (with_reducible refine Below.setCell ?_ ?_ _) | (with_reducible refine Below.alloc ?_ ?_ _) | (with_reducible refine Below.drew ?_) | (with_reducible refine belowN ?_ _) | (with_reducible refine below_after ?_ (by assumption) ?_) | omega | (simp; done) | (simp; omega)))⟩
    · have hv : Hid (opOk o = false) := Lib.hid (by simp [opOk, h2])
      go_enter Try.func94, Try.ntmps94
      go_wp2_with fail
      refine (impl_partsOk_c _ o _ (h.below (by repeat' (first | (with_reducible exact Below.refl _ _) | (with_reducible assumption) | (with_reducible refine Below.setCell ?_ ?_ _) | (with_reducible refine Below.alloc ?_ ?_ _) | (with_reducible refine Below.drew ?_) | (with_reducible refine belowN ?_ _) | (with_reducible refine below_after ?_ (by assumption) ?_) | omega | (simp; done) | (simp; omega))))).mono ?_
      rintro e w1 ⟨rfl, hb1⟩
      have s1 := hb1.size
      (try simp at s1)
      obtain ⟨hc1, hf1⟩ := bcell hb1
      go_wp2_with fail
      refine (impl_OpFrom_c _ o _ (h.below (by repeat' (first | (with_reducible exact Below.refl _ _) | (with_reducible assumption) | (with_reducible refine Below.setCell ?_ ?_ _) | (with_reducible refine Below.alloc ?_ ?_ _) | (with_reducible refine Below.drew ?_) | (with_reducible refine belowN ?_ _) | (with_reducible refine below_after ?_ (by assumption) ?_) | omega | (simp; done) | (simp; omega))))).mono ?_
      rintro e w2 ⟨rfl, hb2⟩
      have s2 := hb2.size
      (try simp at s2)
      obtain ⟨hc2, hf2⟩ := bcell hb2
      go_wp2
      go_ret
      exact ⟨ret_bool (by rw [hv.out]; first | done | (simp; done) | (simp; omega)), (by repeat' (first | (with_reducible exact Below.refl _ _) | (with_reducible assumption) | (with_reducible refine Below.setCell ?_ ?_ _) | (with_reducible refine Below.alloc ?_ ?_ _) | (with_reducible refine Below.drew ?_) | (with_reducible refine belowN ?_ _) | (with_reducible refine below_after ?_ (by assumption) ?_) | omega | (simp; done) | (simp; omega)))⟩
  · have h1 : partsOk o = false := by simpa using h1
    have hv : Hid (opOk o = false) := Lib.hid (by simp [opOk, h1])
    go_enter Try.func94, Try.ntmps94
    go_wp2_with fail
    refine (impl_partsOk_c _ o _ (h.below (by repeat' (first | (with_reducible exact Below.refl _ _) | (with_reducible assumption) | (with_reducible refine Below.setCell ?_ ?_ _) | (with_reducible refine Below.alloc ?_ ?_ _) | (with_reducible refine Below.drew ?_) | (with_reducible refine belowN ?_ _) | (with_reducible refine below_after ?_ (by assumption) ?_) | omega | (simp; done) | (simp; omega))))).mono ?_
    rintro e w1 ⟨rfl, hb1⟩
    have s1 := hb1.size
    (try simp at s1)
    obtain ⟨hc1, hf1⟩ := bcell hb1
    go_wp2
    go_ret
    exact ⟨ret_bool (by rw [hv.out]; first | done | (simp; done) | (simp; omega)), (by repeat' (first | (with_reducible exact Below.refl _ _) | (with_reducible assumption) | (with_reducible refine Below.setCell ?_ ?_ _) | (with_reducible refine Below.alloc ?_ ?_ _) | (with_reducible refine Below.drew ?_) | (with_reducible refine belowN ?_ _) | (with_reducible refine below_after ?_ (by assumption) ?_) | omega | (simp; done) | (simp; omega)))⟩
end Go.Proofs.Ytihbmefidbmmdaa
