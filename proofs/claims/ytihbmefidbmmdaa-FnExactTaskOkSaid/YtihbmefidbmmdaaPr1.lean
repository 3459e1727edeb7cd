/- Predicates on signs, parts and operations: what the reference and the program compute. -/
import Derived.Test.YtihbmefidbmmdaaPl
import Derived.Test.YtihbmefidbmmdaaCmp1
namespace Go.Proofs.Ytihbmefidbmmdaa
open Go.RowKit
theorem spec_within_c (n lo hi : Int) (w : World) : Calls Try.prog 52 #[.int .i64 n, .int .i64 lo, .int .i64 hi] w (Tells w (.bool (within n lo hi))) := by
  by_cases h1 : lo ≤ n
  · by_cases h2 : n ≤ hi
    · have hv : Hid (within n lo hi = true) := Lib.hid (by simp [within, h1, h2])
      go_enter Try.func52, Try.ntmps52
      go_wp2
      go_ret
      exact ⟨ret_bool (by rw [hv.out]; first | done | (simp; done) | (simp; omega)), (by repeat' (first | (with_reducible exact Below.refl _ _) | (with_reducible assumption) | (with_reducible refine Below.setCell ?_ ?_ _) | (with_reducible refine Below.alloc ?_ ?_ _) | (with_reducible refine Below.drew ?_) | (with_reducible refine belowN ?_ _) | (with_reducible refine below_after ?_ (by assumption) ?_) | omega | (simp; done) | (simp; omega)))⟩
    · have hv : Hid (within n lo hi = false) := Lib.hid (by simp [within, h2])
      go_enter Try.func52, Try.ntmps52
      go_wp2
      go_ret
      exact ⟨ret_bool (by rw [hv.out]; first | done | (simp; done) | (simp; omega)), (by repeat' (first | (with_reducible exact Below.refl _ _) | (with_reducible assumption) | (with_reducible refine Below.setCell ?_ ?_ _) | (with_reducible refine Below.alloc ?_ ?_ _) | (with_reducible refine Below.drew ?_) | (with_reducible refine belowN ?_ _) | (with_reducible refine below_after ?_ (by assumption) ?_) | omega | (simp; done) | (simp; omega)))⟩
  · have hv : Hid (within n lo hi = false) := Lib.hid (by simp [within, h1])
    go_enter Try.func52, Try.ntmps52
    go_wp2
    go_ret
    exact ⟨ret_bool (by rw [hv.out]; first | done | (simp; done) | (simp; omega)), (by repeat' (first | (with_reducible exact Below.refl _ _) | (with_reducible assumption) | (with_reducible refine Below.setCell ?_ ?_ _) | (with_reducible refine Below.alloc ?_ ?_ _) | (with_reducible refine Below.drew ?_) | (with_reducible refine belowN ?_ _) | (with_reducible refine below_after ?_ (by assumption) ?_) | omega | (simp; done) | (simp; omega)))⟩
theorem spec_SignOk_c (n : Int) (w : World) : Calls Try.prog 124 #[.int .i64 n] w (Tells w (.bool (signOk n))) := by
  by_cases h1 : within n 0 1114111 = true
  · by_cases h2 : within n 55296 57343 = true
    · have hv : Hid (signOk n = false) := Lib.hid (by simp [signOk, h2])
      go_enter Try.func124, Try.ntmps124
      go_wp2_with fail
      refine (spec_within_c _ _ _ _).mono ?_
      rintro e w1 ⟨rfl, hb1⟩
      have s1 := hb1.size
      (try simp at s1)
      obtain ⟨hc1, hf1⟩ := bcell hb1
      go_wp2_with fail
      refine (spec_within_c _ _ _ _).mono ?_
      rintro e w2 ⟨rfl, hb2⟩
      have s2 := hb2.size
      (try simp at s2)
      obtain ⟨hc2, hf2⟩ := bcell hb2
      go_wp2
      go_ret
      exact ⟨ret_bool (by rw [hv.out]; first | done | (simp; done) | (simp; omega)), (by repeat' (first | (with_reducible exact Below.refl _ _) | (with_reducible assumption) | (with_reducible refine Below.setCell ?_ ?_ _) | (with_reducible refine Below.alloc ?_ ?_ _) | (with_reducible refine Below.drew ?_) | (with_reducible refine belowN ?_ _) | (with_reducible refine below_after ?_ (by assumption) ?_) | omega | (simp; done) | (simp; omega)))⟩
    · have h2 : within n 55296 57343 = false := by simpa using h2
      have hv : Hid (signOk n = true) := Lib.hid (by simp [signOk, h1, h2])
      go_enter Try.func124, Try.ntmps124
      go_wp2_with fail
      refine (spec_within_c _ _ _ _).mono ?_
      rintro e w1 ⟨rfl, hb1⟩
      have s1 := hb1.size
      (try simp at s1)
      obtain ⟨hc1, hf1⟩ := bcell hb1
      go_wp2_with fail
      refine (spec_within_c _ _ _ _).mono ?_
      rintro e w2 ⟨rfl, hb2⟩
      have s2 := hb2.size
      (try simp at s2)
      obtain ⟨hc2, hf2⟩ := bcell hb2
      go_wp2
      go_ret
      exact ⟨ret_bool (by rw [hv.out]; first | done | (simp; done) | (simp; omega)), (by repeat' (first | (with_reducible exact Below.refl _ _) | (with_reducible assumption) | (with_reducible refine Below.setCell ?_ ?_ _) | (with_reducible refine Below.alloc ?_ ?_ _) | (with_reducible refine Below.drew ?_) | (with_reducible refine belowN ?_ _) | (with_reducible refine below_after ?_ (by assumption) ?_) | omega | (simp; done) | (simp; omega)))⟩
  · have h1 : within n 0 1114111 = false := by simpa using h1
    have hv : Hid (signOk n = false) := Lib.hid (by simp [signOk, h1])
    go_enter Try.func124, Try.ntmps124
    go_wp2_with fail
    refine (spec_within_c _ _ _ _).mono ?_
    rintro e w1 ⟨rfl, hb1⟩
    have s1 := hb1.size
    (try simp at s1)
    obtain ⟨hc1, hf1⟩ := bcell hb1
    go_wp2
    go_ret
    exact ⟨ret_bool (by rw [hv.out]; first | done | (simp; done) | (simp; omega)), (by repeat' (first | (with_reducible exact Below.refl _ _) | (with_reducible assumption) | (with_reducible refine Below.setCell ?_ ?_ _) | (with_reducible refine Below.alloc ?_ ?_ _) | (with_reducible refine Below.drew ?_) | (with_reducible refine belowN ?_ _) | (with_reducible refine below_after ?_ (by assumption) ?_) | omega | (simp; done) | (simp; omega)))⟩
set_option maxHeartbeats 400000 in
theorem spec_SignsOk_c (v : Value) (l : List Int) (w : World) (h : RdS w v l) : Calls Try.prog 109 #[v] w (Tells w (.bool (signsOk l))) := by
  have hl := fun w1 ty => h.len Try.underlying48 w1 ty
  have ba := h.le
  go_enter Try.func109, Try.ntmps109
  go_wp2
  go_loopw [7] (fun i wr => ∃ k : Nat, k ≤ l.length ∧ i = .int .i64 k ∧ (∀ j < k, ∀ y, l[j]? = some y → signOk y = true) ∧ Below w.heap.size w wr) (fun i _ => l.length - (intOf i).toNat)
  case atStart => exact ⟨0, Nat.zero_le _, rfl, fun _ h => absurd h (Nat.not_lt_zero _), Below.refl _ _⟩
  case round =>
    obtain ⟨k, hk, rfl, hj, hbw⟩ := hrel
    have hsz := hbw.size
    have HJ := Lib.hid hj; clear hj
    by_cases hlt : k < l.length
    · obtain ⟨x, hx⟩ := get_some hlt
      obtain ⟨b1, o1, _, h1, h2, _, rfl, rfl⟩ := (h.below hbw).idx Try.underlying48 sz_int k hx
      have q0 := h2.one
      have HX := Lib.hid hx; clear hx
      by_cases e : signOk x = true
      · have HE := Lib.hid e
        go_wp2_with fail
        refine (spec_SignOk_c _ _).mono ?_
        rintro e w1 ⟨rfl, hb1⟩
        have s1 := hb1.size
        (try simp at s1)
        obtain ⟨hc1, hf1⟩ := bcell hb1
        go_wp2
        go_roundw
        case rel => exact ⟨k + 1, by omega, by go_num, yes_step HX.out HE.out HJ.out, (by repeat' (first | (with_reducible exact Below.refl _ _) | (with_reducible assumption) | (with_reducible refine Below.setCell ?_ ?_ _) | (with_reducible refine Below.alloc ?_ ?_ _) | (with_reducible refine Below.drew ?_) | (with_reducible refine belowN ?_ _) | (with_reducible refine below_after ?_ (by assumption) ?_) | omega | (simp; done) | (simp; omega)))⟩
        case measure => simp [intOf]; omega
      · have e : signOk x = false := by simpa using e
        have HN : Hid (signsOk l = false) := Lib.hid (all_no HX.out e)
        go_wp2_with fail
        refine (spec_SignOk_c _ _).mono ?_
        rintro e w1 ⟨rfl, hb1⟩
        have s1 := hb1.size
        (try simp at s1)
        obtain ⟨hc1, hf1⟩ := bcell hb1
        go_wp2
        go_ret
        exact ⟨ret_bool HN.out.symm, (by repeat' (first | (with_reducible exact Below.refl _ _) | (with_reducible assumption) | (with_reducible refine Below.setCell ?_ ?_ _) | (with_reducible refine Below.alloc ?_ ?_ _) | (with_reducible refine Below.drew ?_) | (with_reducible refine belowN ?_ _) | (with_reducible refine below_after ?_ (by assumption) ?_) | omega | (simp; done) | (simp; omega)))⟩
    · have HN : Hid (signsOk l = true) := Lib.hid (all_yes fun j hj => HJ.out j (by omega))
      go_wp2
      go_ret
      exact ⟨ret_bool HN.out.symm, hbw⟩
set_option maxHeartbeats 1000000 in
theorem spec_PartOk_c (p : DPart) (v_signs : Value) (w : World) (h_signs : RdS w v_signs p.signs) : Calls Try.prog 108 #[.agg #[.int .i64 p.kind, .int .i64 p.n, v_signs]] w (Tells w (.bool (partOk p))) := by
  have hl := fun w1 ty => h_signs.len Try.underlying48 w1 ty
  have ba := h_signs.le
  obtain ⟨kind, n, signs⟩ := p
  simp only at h_signs hl ba
  show Calls _ _ #[.agg #[.int .i64 kind, .int .i64 n, v_signs]] w _
  by_cases k2 : kind = 2
  · subst k2
    by_cases h1 : n = 0
    · subst h1
      by_cases h2 : signs.length ≤ 200
      · by_cases h3 : signsOk signs = true
        · have hv : Hid (partOk ⟨2, 0, signs⟩ = true) := Lib.hid (by simp [partOk, h2, h3])
          go_enter Try.func108, Try.ntmps108
          go_wp2_with fail
          refine (spec_SignsOk_c _ signs _ (h_signs.below (by repeat' (first | (with_reducible exact Below.refl _ _) | (with_reducible assumption) | (with_reducible refine Below.setCell ?_ ?_ _) | (with_reducible refine Below.alloc ?_ ?_ _) | (with_reducible refine Below.drew ?_) | (with_reducible refine belowN ?_ _) | (with_reducible refine below_after ?_ (by assumption) ?_) | omega | (simp; done) | (simp; omega))))).mono ?_
          rintro e w1 ⟨rfl, hb1⟩
          have s1 := hb1.size
          (try simp at s1)
          obtain ⟨hc1, hf1⟩ := bcell hb1
          go_wp2
          go_ret
          exact ⟨ret_bool (by rw [hv.out]; first | done | (simp; done) | (simp; omega)), (by repeat' (first | (with_reducible exact Below.refl _ _) | (with_reducible assumption) | (with_reducible refine Below.setCell ?_ ?_ _) | (with_reducible refine Below.alloc ?_ ?_ _) | (with_reducible refine Below.drew ?_) | (with_reducible refine belowN ?_ _) | (with_reducible refine below_after ?_ (by assumption) ?_) | omega | (simp; done) | (simp; omega)))⟩
        · have h3 : signsOk signs = false := by simpa using h3
          have hv : Hid (partOk ⟨2, 0, signs⟩ = false) := Lib.hid (by simp [partOk, h3])
          go_enter Try.func108, Try.ntmps108
          go_wp2_with fail
          refine (spec_SignsOk_c _ signs _ (h_signs.below (by repeat' (first | (with_reducible exact Below.refl _ _) | (with_reducible assumption) | (with_reducible refine Below.setCell ?_ ?_ _) | (with_reducible refine Below.alloc ?_ ?_ _) | (with_reducible refine Below.drew ?_) | (with_reducible refine belowN ?_ _) | (with_reducible refine below_after ?_ (by assumption) ?_) | omega | (simp; done) | (simp; omega))))).mono ?_
          rintro e w1 ⟨rfl, hb1⟩
          have s1 := hb1.size
          (try simp at s1)
          obtain ⟨hc1, hf1⟩ := bcell hb1
          go_wp2
          go_ret
          exact ⟨ret_bool (by rw [hv.out]; first | done | (simp; done) | (simp; omega)), (by repeat' (first | (with_reducible exact Below.refl _ _) | (with_reducible assumption) | (with_reducible refine Below.setCell ?_ ?_ _) | (with_reducible refine Below.alloc ?_ ?_ _) | (with_reducible refine Below.drew ?_) | (with_reducible refine belowN ?_ _) | (with_reducible refine below_after ?_ (by assumption) ?_) | omega | (simp; done) | (simp; omega)))⟩
      · have hv : Hid (partOk ⟨2, 0, signs⟩ = false) := Lib.hid (by simp [partOk]; omega)
        by_cases h3 : signsOk signs = true
        · go_enter Try.func108, Try.ntmps108
          go_wp2_with (refine (spec_SignsOk_c _ signs _ (h_signs.below (by repeat' (first | (with_reducible exact Below.refl _ _) | (with_reducible assumption) | (with_reducible refine Below.setCell ?_ ?_ _) | (with_reducible refine Below.alloc ?_ ?_ _) | (with_reducible refine Below.drew ?_) | (with_reducible refine belowN ?_ _) | (with_reducible refine below_after ?_ (by assumption) ?_) | omega | (simp; done) | (simp; omega))))).mono ?_; rintro e w1 ⟨rfl, hb1⟩; have s1 := hb1.size; (try simp at s1); obtain ⟨hc1, hf1⟩ := bcell hb1)
          go_ret
          exact ⟨ret_bool (by rw [hv.out]; first | done | (simp; done) | (simp; omega)), (by repeat' (first | (with_reducible exact Below.refl _ _) | (with_reducible assumption) | (with_reducible refine Below.setCell ?_ ?_ _) | (with_reducible refine Below.alloc ?_ ?_ _) | (with_reducible refine Below.drew ?_) | (with_reducible refine belowN ?_ _) | (with_reducible refine below_after ?_ (by assumption) ?_) | omega | (simp; done) | (simp; omega)))⟩
        · have h3 : signsOk signs = false := by simpa using h3
          go_enter Try.func108, Try.ntmps108
          go_wp2_with (refine (spec_SignsOk_c _ signs _ (h_signs.below (by repeat' (first | (with_reducible exact Below.refl _ _) | (with_reducible assumption) | (with_reducible refine Below.setCell ?_ ?_ _) | (with_reducible refine Below.alloc ?_ ?_ _) | (with_reducible refine Below.drew ?_) | (with_reducible refine belowN ?_ _) | (with_reducible refine below_after ?_ (by assumption) ?_) | omega | (simp; done) | (simp; omega))))).mono ?_; rintro e w1 ⟨rfl, hb1⟩; have s1 := hb1.size; (try simp at s1); obtain ⟨hc1, hf1⟩ := bcell hb1)
          go_ret
          exact ⟨ret_bool (by rw [hv.out]; first | done | (simp; done) | (simp; omega)), (by repeat' (first | (with_reducible exact Below.refl _ _) | (with_reducible assumption) | (with_reducible refine Below.setCell ?_ ?_ _) | (with_reducible refine Below.alloc ?_ ?_ _) | (with_reducible refine Below.drew ?_) | (with_reducible refine belowN ?_ _) | (with_reducible refine below_after ?_ (by assumption) ?_) | omega | (simp; done) | (simp; omega)))⟩
    · have hv : Hid (partOk ⟨2, n, signs⟩ = false) := Lib.hid (by simp [partOk, h1])
      have h1b : (n == 0) = false := by simpa using h1
      clear h1
      go_enter Try.func108, Try.ntmps108
      go_wp2
      go_ret
      exact ⟨ret_bool (by rw [hv.out]; first | done | (simp; done) | (simp; omega)), (by repeat' (first | (with_reducible exact Below.refl _ _) | (with_reducible assumption) | (with_reducible refine Below.setCell ?_ ?_ _) | (with_reducible refine Below.alloc ?_ ?_ _) | (with_reducible refine Below.drew ?_) | (with_reducible refine belowN ?_ _) | (with_reducible refine below_after ?_ (by assumption) ?_) | omega | (simp; done) | (simp; omega)))⟩
  · by_cases k13 : kind = 1 ∨ kind = 3
    · have hp : Hid (∀ b, (within n 0 200 && decide (signs.length = 0)) = b → partOk ⟨kind, n, signs⟩ = b) := Lib.hid (by rintro b rfl; rcases k13 with rfl | rfl <;> simp [partOk])
      by_cases h1 : within n 0 200 = true
      · by_cases h2 : signs.length = 0
        · have hv := Lib.hid (hp.out true (by simp [h1, h2]))
          rw [h2] at hl
          rcases k13 with rfl | rfl <;> clear h2 hp
          all_goals
            go_enter Try.func108, Try.ntmps108
            go_wp2_with fail
            refine (spec_within_c _ _ _ _).mono ?_
            rintro e w1 ⟨rfl, hb1⟩
            have s1 := hb1.size
            (try simp at s1)
            obtain ⟨hc1, hf1⟩ := bcell hb1
            go_wp2
            go_ret
            exact ⟨ret_bool (by rw [hv.out]; first | done | (simp; done) | (simp; omega)), (by repeat' (first | (with_reducible exact Below.refl _ _) | (with_reducible assumption) | (with_reducible refine Below.setCell ?_ ?_ _) | (with_reducible refine Below.alloc ?_ ?_ _) | (with_reducible refine Below.drew ?_) | (with_reducible refine belowN ?_ _) | (with_reducible refine below_after ?_ (by assumption) ?_) | omega | (simp; done) | (simp; omega)))⟩
        · have hv := Lib.hid (hp.out false (by simp [h1, h2]))
          have h2b : ((signs.length : Int) == 0) = false := by rw [beq_eq_false_iff_ne]; omega
          rcases k13 with rfl | rfl <;> clear h2 hp
          all_goals
            go_enter Try.func108, Try.ntmps108
            go_wp2_with fail
            refine (spec_within_c _ _ _ _).mono ?_
            rintro e w1 ⟨rfl, hb1⟩
            have s1 := hb1.size
            (try simp at s1)
            obtain ⟨hc1, hf1⟩ := bcell hb1
            go_wp2
            go_ret
            exact ⟨ret_bool (by rw [hv.out]; first | done | (simp; done) | (simp; omega)), (by repeat' (first | (with_reducible exact Below.refl _ _) | (with_reducible assumption) | (with_reducible refine Below.setCell ?_ ?_ _) | (with_reducible refine Below.alloc ?_ ?_ _) | (with_reducible refine Below.drew ?_) | (with_reducible refine belowN ?_ _) | (with_reducible refine below_after ?_ (by assumption) ?_) | omega | (simp; done) | (simp; omega)))⟩
      · have h1 : within n 0 200 = false := by simpa using h1
        have hv := Lib.hid (hp.out false (by simp [h1]))
        rcases k13 with rfl | rfl <;> clear hp
        all_goals
          go_enter Try.func108, Try.ntmps108
          go_wp2_with fail
          refine (spec_within_c _ _ _ _).mono ?_
          rintro e w1 ⟨rfl, hb1⟩
          have s1 := hb1.size
          (try simp at s1)
          obtain ⟨hc1, hf1⟩ := bcell hb1
          go_wp2
          go_ret
          exact ⟨ret_bool (by rw [hv.out]; first | done | (simp; done) | (simp; omega)), (by repeat' (first | (with_reducible exact Below.refl _ _) | (with_reducible assumption) | (with_reducible refine Below.setCell ?_ ?_ _) | (with_reducible refine Below.alloc ?_ ?_ _) | (with_reducible refine Below.drew ?_) | (with_reducible refine belowN ?_ _) | (with_reducible refine below_after ?_ (by assumption) ?_) | omega | (simp; done) | (simp; omega)))⟩
    · have hv : Hid (partOk ⟨kind, n, signs⟩ = false) := Lib.hid (by simp only [not_or] at k13; simp [partOk, k13.1, k13.2, k2])
      have g1 : (kind == 1) = false := by simp only [not_or] at k13; simpa using k13.1
      have g2 : (kind == 2) = false := by simpa using k2
      have g3 : (kind == 3) = false := by simp only [not_or] at k13; simpa using k13.2
      clear k13 k2
      go_enter Try.func108, Try.ntmps108
      go_wp2
      go_ret
      exact ⟨ret_bool (by rw [hv.out]; first | done | (simp; done) | (simp; omega)), (by repeat' (first | (with_reducible exact Below.refl _ _) | (with_reducible assumption) | (with_reducible refine Below.setCell ?_ ?_ _) | (with_reducible refine Below.alloc ?_ ?_ _) | (with_reducible refine Below.drew ?_) | (with_reducible refine belowN ?_ _) | (with_reducible refine below_after ?_ (by assumption) ?_) | omega | (simp; done) | (simp; omega)))⟩
set_option maxHeartbeats 1000000 in
theorem spec_partsOk_c (v : Value) (o : List DPart) (w : World) (h : RdS w v o) : Calls Try.prog 81 #[v] w (Tells w (.bool (partsOk o))) := by
  have hl := fun w1 ty => h.len Try.underlying27 w1 ty
  have ba := h.le
  go_enter Try.func81, Try.ntmps81
  go_wp2
  go_loopw [7] (fun i wr => ∃ k : Nat, k ≤ o.length ∧ i = .int .i64 k ∧ (∀ j < k, ∀ y, o[j]? = some y → partOk y = true) ∧ Below w.heap.size w wr) (fun i _ => o.length - (intOf i).toNat)
  case atStart => exact ⟨0, Nat.zero_le _, rfl, fun _ h => absurd h (Nat.not_lt_zero _), Below.refl _ _⟩
  case round =>
    obtain ⟨k, hk, rfl, hj, hbw⟩ := hrel
    have hsz := hbw.size
    have HJ := Lib.hid hj; clear hj
    by_cases hlt : k < o.length
    · obtain ⟨x, hx⟩ := get_some hlt
      obtain ⟨b1, o1, cs, h1, h2, h3⟩ := (h.below hbw).idx Try.underlying27 szi_DPart k hx
      obtain ⟨v_signs, rfl, r_signs⟩ := inv_DPart h3
      have q0 := h2.zero
      have q1 := h2 1 _ rfl
      have q2 := h2 2 _ rfl
      obtain ⟨aa, ca, rfl⟩ := r_signs.isSlice
      have HX := Lib.hid hx; clear hx
      by_cases e : partOk x = true
      · have HE := Lib.hid e
        go_wp2_with fail
        refine (spec_PartOk_c x _ _ (r_signs.below (by repeat' (first | (with_reducible exact Below.refl _ _) | (with_reducible assumption) | (with_reducible refine Below.setCell ?_ ?_ _) | (with_reducible refine Below.alloc ?_ ?_ _) | (with_reducible refine Below.drew ?_) | (with_reducible refine belowN ?_ _) | (with_reducible refine below_after ?_ (by assumption) ?_) | omega | (simp; done) | (simp; omega))))).mono ?_
        rintro e w1 ⟨rfl, hb1⟩
        have s1 := hb1.size
        (try simp at s1)
        obtain ⟨hc1, hf1⟩ := bcell hb1
        go_wp2
        go_roundw
        case rel => exact ⟨k + 1, by omega, by go_num, yes_step HX.out HE.out HJ.out, (by repeat' (first | (with_reducible exact Below.refl _ _) | (with_reducible assumption) | (with_reducible refine Below.setCell ?_ ?_ _) | (with_reducible refine Below.alloc ?_ ?_ _) | (with_reducible refine Below.drew ?_) | (with_reducible refine belowN ?_ _) | (with_reducible refine below_after ?_ (by assumption) ?_) | omega | (simp; done) | (simp; omega)))⟩
        case measure => simp [intOf]; omega
      · have e : partOk x = false := by simpa using e
        have HN : Hid (partsOk o = false) := Lib.hid (by unfold partsOk; rw [all_no HX.out e]; rfl)
        go_wp2_with fail
        refine (spec_PartOk_c x _ _ (r_signs.below (by repeat' (first | (with_reducible exact Below.refl _ _) | (with_reducible assumption) | (with_reducible refine Below.setCell ?_ ?_ _) | (with_reducible refine Below.alloc ?_ ?_ _) | (with_reducible refine Below.drew ?_) | (with_reducible refine belowN ?_ _) | (with_reducible refine below_after ?_ (by assumption) ?_) | omega | (simp; done) | (simp; omega))))).mono ?_
        rintro e w1 ⟨rfl, hb1⟩
        have s1 := hb1.size
        (try simp at s1)
        obtain ⟨hc1, hf1⟩ := bcell hb1
        go_wp2
        go_ret
        exact ⟨ret_bool HN.out.symm, (by repeat' (first | (with_reducible exact Below.refl _ _) | (with_reducible assumption) | (with_reducible refine Below.setCell ?_ ?_ _) | (with_reducible refine Below.alloc ?_ ?_ _) | (with_reducible refine Below.drew ?_) | (with_reducible refine belowN ?_ _) | (with_reducible refine below_after ?_ (by assumption) ?_) | omega | (simp; done) | (simp; omega)))⟩
    · have HN : Hid (partsOk o = decide (o.length ≤ 600)) := Lib.hid (by unfold partsOk; rw [all_yes fun j hj => HJ.out j (by omega)]; rfl)
      by_cases hle : o.length ≤ 600
      · go_wp2
        go_ret
        exact ⟨ret_bool (by rw [HN.out]; simp; omega), hbw⟩
      · go_wp2
        go_ret
        exact ⟨ret_bool (by rw [HN.out]; simp; omega), hbw⟩
theorem spec_TextOk_c (v : Value) (t : List Int) (w : World) (h : RdS w v t) : Calls Try.prog 82 #[v] w (Tells w (.bool (textOk t))) := by
  have hl := fun w1 ty => h.len Try.underlying48 w1 ty
  have ba := h.le
  by_cases h2 : t.length ≤ 200
  · by_cases h3 : signsOk t = true
    · have hv : Hid (textOk t = true) := Lib.hid (by simp [textOk, h2, h3])
      go_enter Try.func82, Try.ntmps82
      go_wp2_with fail
      refine (spec_SignsOk_c _ t _ (h.below (by repeat' (first | (with_reducible exact Below.refl _ _) | (with_reducible assumption) | (with_reducible refine Below.setCell ?_ ?_ _) | (with_reducible refine Below.alloc ?_ ?_ _) | (with_reducible refine Below.drew ?_) | (with_reducible refine belowN ?_ _) | (with_reducible refine below_after ?_ (by assumption) ?_) | omega | (simp; done) | (simp; omega))))).mono ?_
      rintro e w1 ⟨rfl, hb1⟩
      have s1 := hb1.size
      (try simp at s1)
      obtain ⟨hc1, hf1⟩ := bcell hb1
      go_wp2
      go_ret
      exact ⟨ret_bool (by rw [hv.out]; first | done | (simp; done) | (simp; omega)), (by repeat' (first | (with_reducible exact Below.refl _ _) | (with_reducible assumption) | (with_reducible refine Below.setCell ?_ ?_ _) | (with_reducible refine Below.alloc ?_ ?_ _) | (with_reducible refine Below.drew ?_) | (with_reducible refine belowN ?_ _) | (with_reducible refine below_after ?_ (by assumption) ?_) | omega | (simp; done) | (simp; omega)))⟩
    · have h3 : signsOk t = false := by simpa using h3
      have hv : Hid (textOk t = false) := Lib.hid (by simp [textOk, h3])
      go_enter Try.func82, Try.ntmps82
      go_wp2_with fail
      refine (spec_SignsOk_c _ t _ (h.below (by repeat' (first | (with_reducible exact Below.refl _ _) | (with_reducible assumption) | (with_reducible refine Below.setCell ?_ ?_ _) | (with_reducible refine Below.alloc ?_ ?_ _) | (with_reducible refine Below.drew ?_) | (with_reducible refine belowN ?_ _) | (with_reducible refine below_after ?_ (by assumption) ?_) | omega | (simp; done) | (simp; omega))))).mono ?_
      rintro e w1 ⟨rfl, hb1⟩
      have s1 := hb1.size
      (try simp at s1)
      obtain ⟨hc1, hf1⟩ := bcell hb1
      go_wp2
      go_ret
      exact ⟨ret_bool (by rw [hv.out]; first | done | (simp; done) | (simp; omega)), (by repeat' (first | (with_reducible exact Below.refl _ _) | (with_reducible assumption) | (with_reducible refine Below.setCell ?_ ?_ _) | (with_reducible refine Below.alloc ?_ ?_ _) | (with_reducible refine Below.drew ?_) | (with_reducible refine belowN ?_ _) | (with_reducible refine below_after ?_ (by assumption) ?_) | omega | (simp; done) | (simp; omega)))⟩
  · have hv : Hid (textOk t = false) := Lib.hid (by simp [textOk, h2])
    by_cases h3 : signsOk t = true
    · go_enter Try.func82, Try.ntmps82
      go_wp2_with (refine (spec_SignsOk_c _ t _ (h.below (by repeat' (first | (with_reducible exact Below.refl _ _) | (with_reducible assumption) | (with_reducible refine Below.setCell ?_ ?_ _) | (with_reducible refine Below.alloc ?_ ?_ _) | (with_reducible refine Below.drew ?_) | (with_reducible refine belowN ?_ _) | (with_reducible refine below_after ?_ (by assumption) ?_) | omega | (simp; done) | (simp; omega))))).mono ?_; rintro e w1 ⟨rfl, hb1⟩; have s1 := hb1.size; (try simp at s1); obtain ⟨hc1, hf1⟩ := bcell hb1)
      go_ret
      exact ⟨ret_bool (by rw [hv.out]; first | done | (simp; done) | (simp; omega)), (by repeat' (first | (with_reducible exact Below.refl _ _) | (with_reducible assumption) | (with_reducible refine Below.setCell ?_ ?_ _) | (with_reducible refine Below.alloc ?_ ?_ _) | (with_reducible refine Below.drew ?_) | (with_reducible refine belowN ?_ _) | (with_reducible refine below_after ?_ (by assumption) ?_) | omega | (simp; done) | (simp; omega)))⟩
    · have h3 : signsOk t = false := by simpa using h3
      go_enter Try.func82, Try.ntmps82
      go_wp2_with (refine (spec_SignsOk_c _ t _ (h.below (by repeat' (first | (with_reducible exact Below.refl _ _) | (with_reducible assumption) | (with_reducible refine Below.setCell ?_ ?_ _) | (with_reducible refine Below.alloc ?_ ?_ _) | (with_reducible refine Below.drew ?_) | (with_reducible refine belowN ?_ _) | (with_reducible refine below_after ?_ (by assumption) ?_) | omega | (simp; done) | (simp; omega))))).mono ?_; rintro e w1 ⟨rfl, hb1⟩; have s1 := hb1.size; (try simp at s1); obtain ⟨hc1, hf1⟩ := bcell hb1)
      go_ret
      exact ⟨ret_bool (by rw [hv.out]; first | done | (simp; done) | (simp; omega)), (by repeat' (first | (with_reducible exact Below.refl _ _) | (with_reducible assumption) | (with_reducible refine Below.setCell ?_ ?_ _) | (with_reducible refine Below.alloc ?_ ?_ _) | (with_reducible refine Below.drew ?_) | (with_reducible refine belowN ?_ _) | (with_reducible refine below_after ?_ (by assumption) ?_) | omega | (simp; done) | (simp; omega)))⟩
theorem impl_within_c (n lo hi : Int) (w : World) : Calls Try.prog 55 #[.int .i64 n, .int .i64 lo, .int .i64 hi] w (Tells w (.bool (within n lo hi))) := by
  by_cases h1 : lo ≤ n
  · by_cases h2 : n ≤ hi
    · have hv : Hid (within n lo hi = true) := Lib.hid (by simp [within, h1, h2])
      go_enter Try.func55, Try.ntmps55
      go_wp2
      go_ret
      exact ⟨ret_bool (by rw [hv.out]; first | done | (simp; done) | (simp; omega)), (by repeat' (first | (with_reducible exact Below.refl _ _) | (with_reducible assumption) | (with_reducible refine Below.setCell ?_ ?_ _) | (with_reducible refine Below.alloc ?_ ?_ _) | (with_reducible refine Below.drew ?_) | (with_reducible refine belowN ?_ _) | (with_reducible refine below_after ?_ (by assumption) ?_) | omega | (simp; done) | (simp; omega)))⟩
    · have hv : Hid (within n lo hi = false) := Lib.hid (by simp [within, h2])
      go_enter Try.func55, Try.ntmps55
      go_wp2
      go_ret
      exact ⟨ret_bool (by rw [hv.out]; first | done | (simp; done) | (simp; omega)), (by repeat' (first | (with_reducible exact Below.refl _ _) | (with_reducible assumption) | (with_reducible refine Below.setCell ?_ ?_ _) | (with_reducible refine Below.alloc ?_ ?_ _) | (with_reducible refine Below.drew ?_) | (with_reducible refine belowN ?_ _) | (with_reducible refine below_after ?_ (by assumption) ?_) | omega | (simp; done) | (simp; omega)))⟩
  · have hv : Hid (within n lo hi = false) := Lib.hid (by simp [within, h1])
    go_enter Try.func55, Try.ntmps55
    go_wp2
    go_ret
    exact ⟨ret_bool (by rw [hv.out]; first | done | (simp; done) | (simp; omega)), (by repeat' (first | (with_reducible exact Below.refl _ _) | (with_reducible assumption) | (with_reducible refine Below.setCell ?_ ?_ _) | (with_reducible refine Below.alloc ?_ ?_ _) | (with_reducible refine Below.drew ?_) | (with_reducible refine belowN ?_ _) | (with_reducible refine below_after ?_ (by assumption) ?_) | omega | (simp; done) | (simp; omega)))⟩
theorem impl_SignOk_c (n : Int) (w : World) : Calls Try.prog 125 #[.int .i64 n] w (Tells w (.bool (signOk n))) := by
  by_cases h1 : within n 0 1114111 = true
  · by_cases h2 : within n 55296 57343 = true
    · have hv : Hid (signOk n = false) := Lib.hid (by simp [signOk, h2])
      go_enter Try.func125, Try.ntmps125
      go_wp2_with fail
      refine (impl_within_c _ _ _ _).mono ?_
      rintro e w1 ⟨rfl, hb1⟩
      have s1 := hb1.size
      (try simp at s1)
      obtain ⟨hc1, hf1⟩ := bcell hb1
      go_wp2_with fail
      refine (impl_within_c _ _ _ _).mono ?_
      rintro e w2 ⟨rfl, hb2⟩
      have s2 := hb2.size
      (try simp at s2)
      obtain ⟨hc2, hf2⟩ := bcell hb2
      go_wp2
      go_ret
      exact ⟨ret_bool (by rw [hv.out]; first | done | (simp; done) | (simp; omega)), (by repeat' (first | (with_reducible exact Below.refl _ _) | (with_reducible assumption) | (with_reducible refine Below.setCell ?_ ?_ _) | (with_reducible refine Below.alloc ?_ ?_ _) | (with_reducible refine Below.drew ?_) | (with_reducible refine belowN ?_ _) | (with_reducible refine below_after ?_ (by assumption) ?_) | omega | (simp; done) | (simp; omega)))⟩
    · have h2 : within n 55296 57343 = false := by simpa using h2
      have hv : Hid (signOk n = true) := Lib.hid (by simp [signOk, h1, h2])
      go_enter Try.func125, Try.ntmps125
      go_wp2_with fail
      refine (impl_within_c _ _ _ _).mono ?_
      rintro e w1 ⟨rfl, hb1⟩
      have s1 := hb1.size
      (try simp at s1)
      obtain ⟨hc1, hf1⟩ := bcell hb1
      go_wp2_with fail
      refine (impl_within_c _ _ _ _).mono ?_
      rintro e w2 ⟨rfl, hb2⟩
      have s2 := hb2.size
      (try simp at s2)
      obtain ⟨hc2, hf2⟩ := bcell hb2
      go_wp2
      go_ret
      exact ⟨ret_bool (by rw [hv.out]; first | done | (simp; done) | (simp; omega)), (by repeat' (first | (with_reducible exact Below.refl _ _) | (with_reducible assumption) | (with_reducible refine Below.setCell ?_ ?_ _) | (with_reducible refine Below.alloc ?_ ?_ _) | (with_reducible refine Below.drew ?_) | (with_reducible refine belowN ?_ _) | (with_reducible refine below_after ?_ (by assumption) ?_) | omega | (simp; done) | (simp; omega)))⟩
  · have h1 : within n 0 1114111 = false := by simpa using h1
    have hv : Hid (signOk n = false) := Lib.hid (by simp [signOk, h1])
    go_enter Try.func125, Try.ntmps125
    go_wp2_with fail
    refine (impl_within_c _ _ _ _).mono ?_
    rintro e w1 ⟨rfl, hb1⟩
    have s1 := hb1.size
    (try simp at s1)
    obtain ⟨hc1, hf1⟩ := bcell hb1
    go_wp2
    go_ret
    exact ⟨ret_bool (by rw [hv.out]; first | done | (simp; done) | (simp; omega)), (by repeat' (first | (with_reducible exact Below.refl _ _) | (with_reducible assumption) | (with_reducible refine Below.setCell ?_ ?_ _) | (with_reducible refine Below.alloc ?_ ?_ _) | (with_reducible refine Below.drew ?_) | (with_reducible refine belowN ?_ _) | (with_reducible refine below_after ?_ (by assumption) ?_) | omega | (simp; done) | (simp; omega)))⟩
set_option maxHeartbeats 400000 in
theorem impl_SignsOk_c (v : Value) (l : List Int) (w : World) (h : RdS w v l) : Calls Try.prog 111 #[v] w (Tells w (.bool (signsOk l))) := by
  have hl := fun w1 ty => h.len Try.underlying48 w1 ty
  have ba := h.le
  go_enter Try.func111, Try.ntmps111
  go_wp2
  go_loopw [7] (fun i wr => ∃ k : Nat, k ≤ l.length ∧ i = .int .i64 k ∧ (∀ j < k, ∀ y, l[j]? = some y → signOk y = true) ∧ Below w.heap.size w wr) (fun i _ => l.length - (intOf i).toNat)
  case atStart => exact ⟨0, Nat.zero_le _, rfl, fun _ h => absurd h (Nat.not_lt_zero _), Below.refl _ _⟩
  case round =>
    obtain ⟨k, hk, rfl, hj, hbw⟩ := hrel
    have hsz := hbw.size
    have HJ := Lib.hid hj; clear hj
    by_cases hlt : k < l.length
    · obtain ⟨x, hx⟩ := get_some hlt
      obtain ⟨b1, o1, _, h1, h2, _, rfl, rfl⟩ := (h.below hbw).idx Try.underlying48 sz_int k hx
      have q0 := h2.one
      have HX := Lib.hid hx; clear hx
      by_cases e : signOk x = true
      · have HE := Lib.hid e
        go_wp2_with fail
        refine (impl_SignOk_c _ _).mono ?_
        rintro e w1 ⟨rfl, hb1⟩
        have s1 := hb1.size
        (try simp at s1)
        obtain ⟨hc1, hf1⟩ := bcell hb1
        go_wp2
        go_roundw
        case rel => exact ⟨k + 1, by omega, by go_num, yes_step HX.out HE.out HJ.out, (by repeat' (first | (with_reducible exact Below.refl _ _) | (with_reducible assumption) | (with_reducible refine Below.setCell ?_ ?_ _) | (with_reducible refine Below.alloc ?_ ?_ _) | (with_reducible refine Below.drew ?_) | (with_reducible refine belowN ?_ _) | (with_reducible refine below_after ?_ (by assumption) ?_) | omega | (simp; done) | (simp; omega)))⟩
        case measure => simp [intOf]; omega
      · have e : signOk x = false := by simpa using e
        have HN : Hid (signsOk l = false) := Lib.hid (all_no HX.out e)
        go_wp2_with fail
        refine (impl_SignOk_c _ _).mono ?_
        rintro e w1 ⟨rfl, hb1⟩
        have s1 := hb1.size
        (try simp at s1)
        obtain ⟨hc1, hf1⟩ := bcell hb1
        go_wp2
        go_ret
        exact ⟨ret_bool HN.out.symm, (by repeat' (first | (with_reducible exact Below.refl _ _) | (with_reducible assumption) | (with_reducible refine Below.setCell ?_ ?_ _) | (with_reducible refine Below.alloc ?_ ?_ _) | (with_reducible refine Below.drew ?_) | (with_reducible refine belowN ?_ _) | (with_reducible refine below_after ?_ (by assumption) ?_) | omega | (simp; done) | (simp; omega)))⟩
    · have HN : Hid (signsOk l = true) := Lib.hid (all_yes fun j hj => HJ.out j (by omega))
      go_wp2
      go_ret
      exact ⟨ret_bool HN.out.symm, hbw⟩
set_option maxHeartbeats 1000000 in
theorem impl_PartOk_c (p : DPart) (v_signs : Value) (w : World) (h_signs : RdS w v_signs p.signs) : Calls Try.prog 110 #[.agg #[.int .i64 p.kind, .int .i64 p.n, v_signs]] w (Tells w (.bool (partOk p))) := by
  have hl := fun w1 ty => h_signs.len Try.underlying48 w1 ty
  have ba := h_signs.le
  obtain ⟨kind, n, signs⟩ := p
  simp only at h_signs hl ba
  show Calls _ _ #[.agg #[.int .i64 kind, .int .i64 n, v_signs]] w _
  by_cases k2 : kind = 2
  · subst k2
    by_cases h1 : n = 0
    · subst h1
      by_cases h2 : signs.length ≤ 200
      · by_cases h3 : signsOk signs = true
        · have hv : Hid (partOk ⟨2, 0, signs⟩ = true) := Lib.hid (by simp [partOk, h2, h3])
          go_enter Try.func110, Try.ntmps110
          go_wp2_with fail
          refine (impl_SignsOk_c _ signs _ (h_signs.below (by repeat' (first | (with_reducible exact Below.refl _ _) | (with_reducible assumption) | (with_reducible refine Below.setCell ?_ ?_ _) | (with_reducible refine Below.alloc ?_ ?_ _) | (with_reducible refine Below.drew ?_) | (with_reducible refine belowN ?_ _) | (with_reducible refine below_after ?_ (by assumption) ?_) | omega | (simp; done) | (simp; omega))))).mono ?_
          rintro e w1 ⟨rfl, hb1⟩
          have s1 := hb1.size
          (try simp at s1)
          obtain ⟨hc1, hf1⟩ := bcell hb1
          go_wp2
          go_ret
          exact ⟨ret_bool (by rw [hv.out]; first | done | (simp; done) | (simp; omega)), (by repeat' (first | (with_reducible exact Below.refl _ _) | (with_reducible assumption) | (with_reducible refine Below.setCell ?_ ?_ _) | (with_reducible refine Below.alloc ?_ ?_ _) | (with_reducible refine Below.drew ?_) | (with_reducible refine belowN ?_ _) | (with_reducible refine below_after ?_ (by assumption) ?_) | omega | (simp; done) | (simp; omega)))⟩
        · have h3 : signsOk signs = false := by simpa using h3
          have hv : Hid (partOk ⟨2, 0, signs⟩ = false) := Lib.hid (by simp [partOk, h3])
          go_enter Try.func110, Try.ntmps110
          go_wp2_with fail
          refine (impl_SignsOk_c _ signs _ (h_signs.below (by repeat' (first | (with_reducible exact Below.refl _ _) | (with_reducible assumption) | (with_reducible refine Below.setCell ?_ ?_ _) | (with_reducible refine Below.alloc ?_ ?_ _) | (with_reducible refine Below.drew ?_) | (with_reducible refine belowN ?_ _) | (with_reducible refine below_after ?_ (by assumption) ?_) | omega | (simp; done) | (simp; omega))))).mono ?_
          rintro e w1 ⟨rfl, hb1⟩
          have s1 := hb1.size
          (try simp at s1)
          obtain ⟨hc1, hf1⟩ := bcell hb1
          go_wp2
          go_ret
          exact ⟨ret_bool (by rw [hv.out]; first | done | (simp; done) | (simp; omega)), (by repeat' (first | (with_reducible exact Below.refl _ _) | (with_reducible assumption) | (with_reducible refine Below.setCell ?_ ?_ _) | (with_reducible refine Below.alloc ?_ ?_ _) | (with_reducible refine Below.drew ?_) | (with_reducible refine belowN ?_ _) | (with_reducible refine below_after ?_ (by assumption) ?_) | omega | (simp; done) | (simp; omega)))⟩
      · have hv : Hid (partOk ⟨2, 0, signs⟩ = false) := Lib.hid (by simp [partOk]; omega)
        by_cases h3 : signsOk signs = true
        · go_enter Try.func110, Try.ntmps110
          go_wp2_with (refine (impl_SignsOk_c _ signs _ (h_signs.below (by repeat' (first | (with_reducible exact Below.refl _ _) | (with_reducible assumption) | (with_reducible refine Below.setCell ?_ ?_ _) | (with_reducible refine Below.alloc ?_ ?_ _) | (with_reducible refine Below.drew ?_) | (with_reducible refine belowN ?_ _) | (with_reducible refine below_after ?_ (by assumption) ?_) | omega | (simp; done) | (simp; omega))))).mono ?_; rintro e w1 ⟨rfl, hb1⟩; have s1 := hb1.size; (try simp at s1); obtain ⟨hc1, hf1⟩ := bcell hb1)
          go_ret
          exact ⟨ret_bool (by rw [hv.out]; first | done | (simp; done) | (simp; omega)), (by repeat' (first | (with_reducible exact Below.refl _ _) | (with_reducible assumption) | (with_reducible refine Below.setCell ?_ ?_ _) | (with_reducible refine Below.alloc ?_ ?_ _) | (with_reducible refine Below.drew ?_) | (with_reducible refine belowN ?_ _) | (with_reducible refine below_after ?_ (by assumption) ?_) | omega | (simp; done) | (simp; omega)))⟩
        · have h3 : signsOk signs = false := by simpa using h3
          go_enter Try.func110, Try.ntmps110
          go_wp2_with (refine (impl_SignsOk_c _ signs _ (h_signs.below (by repeat' (first | (with_reducible exact Below.refl _ _) | (with_reducible assumption) | (with_reducible refine Below.setCell ?_ ?_ _) | (with_reducible refine Below.alloc ?_ ?_ _) | (with_reducible refine Below.drew ?_) | (with_reducible refine belowN ?_ _) | (with_reducible refine below_after ?_ (by assumption) ?_) | omega | (simp; done) | (simp; omega))))).mono ?_; rintro e w1 ⟨rfl, hb1⟩; have s1 := hb1.size; (try simp at s1); obtain ⟨hc1, hf1⟩ := bcell hb1)
          go_ret
          exact ⟨ret_bool (by rw [hv.out]; first | done | (simp; done) | (simp; omega)), (by repeat' (first | (with_reducible exact Below.refl _ _) | (with_reducible assumption) | (with_reducible refine Below.setCell ?_ ?_ _) | (with_reducible refine Below.alloc ?_ ?_ _) | (with_reducible refine Below.drew ?_) | (with_reducible refine belowN ?_ _) | (with_reducible refine below_after ?_ (by assumption) ?_) | omega | (simp; done) | (simp; omega)))⟩
    · have hv : Hid (partOk ⟨2, n, signs⟩ = false) := Lib.hid (by simp [partOk, h1])
      have h1b : (n == 0) = false := by simpa using h1
      clear h1
      go_enter Try.func110, Try.ntmps110
      go_wp2
      go_ret
      exact ⟨ret_bool (by rw [hv.out]; first | done | (simp; done) | (simp; omega)), (by repeat' (first | (with_reducible exact Below.refl _ _) | (with_reducible assumption) | (with_reducible refine Below.setCell ?_ ?_ _) | (with_reducible refine Below.alloc ?_ ?_ _) | (with_reducible refine Below.drew ?_) | (with_reducible refine belowN ?_ _) | (with_reducible refine below_after ?_ (by assumption) ?_) | omega | (simp; done) | (simp; omega)))⟩
  · by_cases k13 : kind = 1 ∨ kind = 3
    · have hp : Hid (∀ b, (within n 0 200 && decide (signs.length = 0)) = b → partOk ⟨kind, n, signs⟩ = b) := Lib.hid (by rintro b rfl; rcases k13 with rfl | rfl <;> simp [partOk])
      by_cases h1 : within n 0 200 = true
      · by_cases h2 : signs.length = 0
        · have hv := Lib.hid (hp.out true (by simp [h1, h2]))
          rw [h2] at hl
          rcases k13 with rfl | rfl <;> clear h2 hp
          all_goals
            go_enter Try.func110, Try.ntmps110
            go_wp2_with fail
            refine (impl_within_c _ _ _ _).mono ?_
            rintro e w1 ⟨rfl, hb1⟩
            have s1 := hb1.size
            (try simp at s1)
            obtain ⟨hc1, hf1⟩ := bcell hb1
            go_wp2
            go_ret
            exact ⟨ret_bool (by rw [hv.out]; first | done | (simp; done) | (simp; omega)), (by repeat' (first | (with_reducible exact Below.refl _ _) | (with_reducible assumption) | (with_reducible refine Below.setCell ?_ ?_ _) | (with_reducible refine Below.alloc ?_ ?_ _) | (with_reducible refine Below.drew ?_) | (with_reducible refine belowN ?_ _) | (with_reducible refine below_after ?_ (by assumption) ?_) | omega | (simp; done) | (simp; omega)))⟩
        · have hv := Lib.hid (hp.out false (by simp [h1, h2]))
          have h2b : ((signs.length : Int) == 0) = false := by rw [beq_eq_false_iff_ne]; omega
          rcases k13 with rfl | rfl <;> clear h2 hp
          all_goals
            go_enter Try.func110, Try.ntmps110
            go_wp2_with fail
            refine (impl_within_c _ _ _ _).mono ?_
            rintro e w1 ⟨rfl, hb1⟩
            have s1 := hb1.size
            (try simp at s1)
            obtain ⟨hc1, hf1⟩ := bcell hb1
            go_wp2
            go_ret
            exact ⟨ret_bool (by rw [hv.out]; first | done | (simp; done) | (simp; omega)), (by repeat' (first | (with_reducible exact Below.refl _ _) | (with_reducible assumption) | (with_reducible refine Below.setCell ?_ ?_ _) | (with_reducible refine Below.alloc ?_ ?_ _) | (with_reducible refine Below.drew ?_) | (with_reducible refine belowN ?_ _) | (with_reducible refine below_after ?_ (by assumption) ?_) | omega | (simp; done) | (simp; omega)))⟩
      · have h1 : within n 0 200 = false := by simpa using h1
        have hv := Lib.hid (hp.out false (by simp [h1]))
        rcases k13 with rfl | rfl <;> clear hp
        all_goals
          go_enter Try.func110, Try.ntmps110
          go_wp2_with fail
          refine (impl_within_c _ _ _ _).mono ?_
          rintro e w1 ⟨rfl, hb1⟩
          have s1 := hb1.size
          (try simp at s1)
          obtain ⟨hc1, hf1⟩ := bcell hb1
          go_wp2
          go_ret
          exact ⟨ret_bool (by rw [hv.out]; first | done | (simp; done) | (simp; omega)), (by repeat' (first | (with_reducible exact Below.refl _ _) | (with_reducible assumption) | (with_reducible refine Below.setCell ?_ ?_ _) | (with_reducible refine Below.alloc ?_ ?_ _) | (with_reducible refine Below.drew ?_) | (with_reducible refine belowN ?_ _) | (with_reducible refine below_after ?_ (by assumption) ?_) | omega | (simp; done) | (simp; omega)))⟩
    · have hv : Hid (partOk ⟨kind, n, signs⟩ = false) := Lib.hid (by simp only [not_or] at k13; simp [partOk, k13.1, k13.2, k2])
      have g1 : (kind == 1) = false := by simp only [not_or] at k13; simpa using k13.1
      have g2 : (kind == 2) = false := by simpa using k2
      have g3 : (kind == 3) = false := by simp only [not_or] at k13; simpa using k13.2
      clear k13 k2
      go_enter Try.func110, Try.ntmps110
      go_wp2
      go_ret
      exact ⟨ret_bool (by rw [hv.out]; first | done | (simp; done) | (simp; omega)), (by repeat' (first | (with_reducible exact Below.refl _ _) | (with_reducible assumption) | (with_reducible refine Below.setCell ?_ ?_ _) | (with_reducible refine Below.alloc ?_ ?_ _) | (with_reducible refine Below.drew ?_) | (with_reducible refine belowN ?_ _) | (with_reducible refine below_after ?_ (by assumption) ?_) | omega | (simp; done) | (simp; omega)))⟩
set_option maxHeartbeats 1000000 in
theorem impl_partsOk_c (v : Value) (o : List DPart) (w : World) (h : RdS w v o) : Calls Try.prog 84 #[v] w (Tells w (.bool (partsOk o))) := by
  have hl := fun w1 ty => h.len Try.underlying27 w1 ty
  have ba := h.le
  go_enter Try.func84, Try.ntmps84
  go_wp2
  go_loopw [7] (fun i wr => ∃ k : Nat, k ≤ o.length ∧ i = .int .i64 k ∧ (∀ j < k, ∀ y, o[j]? = some y → partOk y = true) ∧ Below w.heap.size w wr) (fun i _ => o.length - (intOf i).toNat)
  case atStart => exact ⟨0, Nat.zero_le _, rfl, fun _ h => absurd h (Nat.not_lt_zero _), Below.refl _ _⟩
  case round =>
    obtain ⟨k, hk, rfl, hj, hbw⟩ := hrel
    have hsz := hbw.size
    have HJ := Lib.hid hj; clear hj
    by_cases hlt : k < o.length
    · obtain ⟨x, hx⟩ := get_some hlt
      obtain ⟨b1, o1, cs, h1, h2, h3⟩ := (h.below hbw).idx Try.underlying27 szi_DPart k hx
      obtain ⟨v_signs, rfl, r_signs⟩ := inv_DPart h3
      have q0 := h2.zero
      have q1 := h2 1 _ rfl
      have q2 := h2 2 _ rfl
      obtain ⟨aa, ca, rfl⟩ := r_signs.isSlice
      have HX := Lib.hid hx; clear hx
      by_cases e : partOk x = true
      · have HE := Lib.hid e
        go_wp2_with fail
        refine (impl_PartOk_c x _ _ (r_signs.below (by repeat' (first | (with_reducible exact Below.refl _ _) | (with_reducible assumption) | (with_reducible refine Below.setCell ?_ ?_ _) | (with_reducible refine Below.alloc ?_ ?_ _) | (with_reducible refine Below.drew ?_) | (with_reducible refine belowN ?_ _) | (with_reducible refine below_after ?_ (by assumption) ?_) | omega | (simp; done) | (simp; omega))))).mono ?_
        rintro e w1 ⟨rfl, hb1⟩
        have s1 := hb1.size
        (try simp at s1)
        obtain ⟨hc1, hf1⟩ := bcell hb1
        go_wp2
        go_roundw
        case rel => exact ⟨k + 1, by omega, by go_num, yes_step HX.out HE.out HJ.out, (by repeat' (first | (with_reducible exact Below.refl _ _) | (with_reducible assumption) | (with_reducible refine Below.setCell ?_ ?_ _) | (with_reducible refine Below.alloc ?_ ?_ _) | (with_reducible refine Below.drew ?_) | (with_reducible refine belowN ?_ _) | (with_reducible refine below_after ?_ (by assumption) ?_) | omega | (simp; done) | (simp; omega)))⟩
        case measure => simp [intOf]; omega
      · have e : partOk x = false := by simpa using e
        have HN : Hid (partsOk o = false) := Lib.hid (by unfold partsOk; rw [all_no HX.out e]; rfl)
        go_wp2_with fail
        refine (impl_PartOk_c x _ _ (r_signs.below (by repeat' (first | (with_reducible exact Below.refl _ _) | (with_reducible assumption) | (with_reducible refine Below.setCell ?_ ?_ _) | (with_reducible refine Below.alloc ?_ ?_ _) | (with_reducible refine Below.drew ?_) | (with_reducible refine belowN ?_ _) | (with_reducible refine below_after ?_ (by assumption) ?_) | omega | (simp; done) | (simp; omega))))).mono ?_
        rintro e w1 ⟨rfl, hb1⟩
        have s1 := hb1.size
        (try simp at s1)
        obtain ⟨hc1, hf1⟩ := bcell hb1
        go_wp2
        go_ret
        exact ⟨ret_bool HN.out.symm, (by repeat' (first | (with_reducible exact Below.refl _ _) | (with_reducible assumption) | (with_reducible refine Below.setCell ?_ ?_ _) | (with_reducible refine Below.alloc ?_ ?_ _) | (with_reducible refine Below.drew ?_) | (with_reducible refine belowN ?_ _) | (with_reducible refine below_after ?_ (by assumption) ?_) | omega | (simp; done) | (simp; omega)))⟩
    · have HN : Hid (partsOk o = decide (o.length ≤ 600)) := Lib.hid (by unfold partsOk; rw [all_yes fun j hj => HJ.out j (by omega)]; rfl)
      by_cases hle : o.length ≤ 600
      · go_wp2
        go_ret
        exact ⟨ret_bool (by rw [HN.out]; simp; omega), hbw⟩
      · go_wp2
        go_ret
        exact ⟨ret_bool (by rw [HN.out]; simp; omega), hbw⟩
theorem impl_TextOk_c (v : Value) (t : List Int) (w : World) (h : RdS w v t) : Calls Try.prog 85 #[v] w (Tells w (.bool (textOk t))) := by
  have hl := fun w1 ty => h.len Try.underlying48 w1 ty
  have ba := h.le
  by_cases h2 : t.length ≤ 200
  · by_cases h3 : signsOk t = true
    · have hv : Hid (textOk t = true) := Lib.hid (by simp [textOk, h2, h3])
      go_enter Try.func85, Try.ntmps85
      go_wp2_with fail
      refine (impl_SignsOk_c _ t _ (h.below (by repeat' (first | (with_reducible exact Below.refl _ _) | (with_reducible assumption) | (with_reducible refine Below.setCell ?_ ?_ _) | (with_reducible refine Below.alloc ?_ ?_ _) | (with_reducible refine Below.drew ?_) | (with_reducible refine belowN ?_ _) | (with_reducible refine below_after ?_ (by assumption) ?_) | omega | (simp; done) | (simp; omega))))).mono ?_
      rintro e w1 ⟨rfl, hb1⟩
      have s1 := hb1.size
      (try simp at s1)
      obtain ⟨hc1, hf1⟩ := bcell hb1
      go_wp2
      go_ret
      exact ⟨ret_bool (by rw [hv.out]; first | done | (simp; done) | (simp; omega)), (by repeat' (first | (with_reducible exact Below.refl _ _) | (with_reducible assumption) | (with_reducible refine Below.setCell ?_ ?_ _) | (with_reducible refine Below.alloc ?_ ?_ _) | (with_reducible refine Below.drew ?_) | (with_reducible refine belowN ?_ _) | (with_reducible refine below_after ?_ (by assumption) ?_) | omega | (simp; done) | (simp; omega)))⟩
    · have h3 : signsOk t = false := by simpa using h3
      have hv : Hid (textOk t = false) := Lib.hid (by simp [textOk, h3])
      go_enter Try.func85, Try.ntmps85
      go_wp2_with fail
      refine (impl_SignsOk_c _ t _ (h.below (by repeat' (first | (with_reducible exact Below.refl _ _) | (with_reducible assumption) | (with_reducible refine Below.setCell ?_ ?_ _) | (with_reducible refine Below.alloc ?_ ?_ _) | (with_reducible refine Below.drew ?_) | (with_reducible refine belowN ?_ _) | (with_reducible refine below_after ?_ (by assumption) ?_) | omega | (simp; done) | (simp; omega))))).mono ?_
      rintro e w1 ⟨rfl, hb1⟩
      have s1 := hb1.size
      (try simp at s1)
      obtain ⟨hc1, hf1⟩ := bcell hb1
      go_wp2
      go_ret
      exact ⟨ret_bool (by rw [hv.out]; first | done | (simp; done) | (simp; omega)), (by repeat' (first | (with_reducible exact Below.refl _ _) | (with_reducible assumption) | (with_reducible refine Below.setCell ?_ ?_ _) | (with_reducible refine Below.alloc ?_ ?_ _) | (with_reducible refine Below.drew ?_) | (with_reducible refine belowN ?_ _) | (with_reducible refine below_after ?_ (by assumption) ?_) | omega | (simp; done) | (simp; omega)))⟩
  · have hv : Hid (textOk t = false) := Lib.hid (by simp [textOk, h2])
    by_cases h3 : signsOk t = true
    · go_enter Try.func85, Try.ntmps85
      go_wp2_with (refine (impl_SignsOk_c _ t _ (h.below (by repeat' (first | (with_reducible exact Below.refl _ _) | (with_reducible assumption) | (with_reducible refine Below.setCell ?_ ?_ _) | (with_reducible refine Below.alloc ?_ ?_ _) | (with_reducible refine Below.drew ?_) | (with_reducible refine belowN ?_ _) | (with_reducible refine below_after ?_ (by assumption) ?_) | omega | (simp; done) | (simp; omega))))).mono ?_; rintro e w1 ⟨rfl, hb1⟩; have s1 := hb1.size; (try simp at s1); obtain ⟨hc1, hf1⟩ := bcell hb1)
      go_ret
      exact ⟨ret_bool (by rw [hv.out]; first | done | (simp; done) | (simp; omega)), (by repeat' (first | (with_reducible exact Below.refl _ _) | (with_reducible assumption) | (with_reducible refine Below.setCell ?_ ?_ _) | (with_reducible refine Below.alloc ?_ ?_ _) | (with_reducible refine Below.drew ?_) | (with_reducible refine belowN ?_ _) | (with_reducible refine below_after ?_ (by assumption) ?_) | omega | (simp; done) | (simp; omega)))⟩
    · have h3 : signsOk t = false := by simpa using h3
      go_enter Try.func85, Try.ntmps85
      go_wp2_with (refine (impl_SignsOk_c _ t _ (h.below (by repeat' (first | (with_reducible exact Below.refl _ _) | (with_reducible assumption) | (with_reducible refine Below.setCell ?_ ?_ _) | (with_reducible refine Below.alloc ?_ ?_ _) | (with_reducible refine Below.drew ?_) | (with_reducible refine belowN ?_ _) | (with_reducible refine below_after ?_ (by assumption) ?_) | omega | (simp; done) | (simp; omega))))).mono ?_; rintro e w1 ⟨rfl, hb1⟩; have s1 := hb1.size; (try simp at s1); obtain ⟨hc1, hf1⟩ := bcell hb1)
      go_ret
      exact ⟨ret_bool (by rw [hv.out]; first | done | (simp; done) | (simp; omega)), (by repeat' (first | (with_reducible exact Below.refl _ _) | (with_reducible assumption) | (with_reducible refine Below.setCell ?_ ?_ _) | (with_reducible refine Below.alloc ?_ ?_ _) | (with_reducible refine Below.drew ?_) | (with_reducible refine belowN ?_ _) | (with_reducible refine below_after ?_ (by assumption) ?_) | omega | (simp; done) | (simp; omega)))⟩
end Go.Proofs.Ytihbmefidbmmdaa
