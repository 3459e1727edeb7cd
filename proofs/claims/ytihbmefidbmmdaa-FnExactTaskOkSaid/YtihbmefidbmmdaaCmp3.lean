/- Comparisons: they decide whether two data are alike. -/
import Derived.Test.YtihbmefidbmmdaaCmp2
import Derived.Deep.RegionHeld3
import Derived.StillTailTactics
namespace Go.Proofs.Ytihbmefidbmmdaa
open Go.RowKit

set_option maxHeartbeats 1000000 in
theorem impl_RingSame_c (x y : DRing) (v_list u_list : Value) (w : World) (h_list : RdS w v_list x.list) (k_list : RdS w u_list y.list) :
    Calls Try.prog 45 #[.agg #[.int .i64 x.cap, .int .i64 x.next, .bool x.out, v_list], .agg #[.int .i64 y.cap, .int .i64 y.next, .bool y.out, u_list]] w (Tells w (.bool (decide (x = y)))) := by
  by_cases e_cap : x.cap = y.cap
  · have E_cap := Lib.hid e_cap
    have E2_cap : (x.cap == y.cap) = true := by rw [e_cap]; simp
    clear e_cap
    by_cases e_next : x.next = y.next
    · have E_next := Lib.hid e_next
      have E2_next : (x.next == y.next) = true := by rw [e_next]; simp
      clear e_next
      by_cases e_out : x.out = y.out
      · have E_out := Lib.hid e_out
        have E2_out : (x.out == y.out) = true := by rw [e_out]; simp
        clear e_out
        by_cases e_list : x.list = y.list
        · have E_list := Lib.hid e_list
          clear e_list
          have HE : Hid (x = y) := by
            have e_cap := E_cap.out
            have e_next := E_next.out
            have e_out := E_out.out
            have e_list := E_list.out
            show x = y
            cases x; cases y; simp_all
          rw [dec_t HE.out]
          go_enter Try.func45, Try.ntmps45
          go_wp2_with fail
          refine (EqualFunc_Entry_c _ _ _ _ _ (h_list.below (by repeat' (first | (with_reducible exact Below.refl _ _) | (with_reducible assumption) | (with_reducible refine Below.setCell ?_ ?_ _) | (with_reducible refine Below.alloc ?_ ?_ _) | (with_reducible refine Below.drew ?_) | (with_reducible refine belowN ?_ _) | (with_reducible refine below_after ?_ (by assumption) ?_) | omega | (simp; done) | (simp; omega)))) (k_list.below (by repeat' (first | (with_reducible exact Below.refl _ _) | (with_reducible assumption) | (with_reducible refine Below.setCell ?_ ?_ _) | (with_reducible refine Below.alloc ?_ ?_ _) | (with_reducible refine Below.drew ?_) | (with_reducible refine belowN ?_ _) | (with_reducible refine below_after ?_ (by assumption) ?_) | omega | (simp; done) | (simp; omega))))).mono ?_
          rintro e w1 ⟨rfl, hb1⟩
          have s1 : w.heap.size + 2 ≤ w1.heap.size := (by have := hb1.size; (try simp at this); omega)
          obtain ⟨hc1, hf1⟩ := bcell hb1
          have z1_0 : w.heap.size < w1.heap.size := (by omega)
          have z1_1 : w.heap.size + 1 < w1.heap.size := (by omega)
          rw [dec_t E_list.out]
          go_wp2
          go_ret
          exact ⟨rfl, (by repeat' (first | (with_reducible exact Below.refl _ _) | (with_reducible assumption) | (with_reducible refine Below.setCell ?_ ?_ _) | (with_reducible refine Below.alloc ?_ ?_ _) | (with_reducible refine Below.drew ?_) | (with_reducible refine belowN ?_ _) | (with_reducible refine below_after ?_ (by assumption) ?_) | omega | (simp; done) | (simp; omega)))⟩
        · rw [dec_f (fun h => e_list (by rw [h]))]
          go_enter Try.func45, Try.ntmps45
          go_wp2_with fail
          refine (EqualFunc_Entry_c _ _ _ _ _ (h_list.below (by repeat' (first | (with_reducible exact Below.refl _ _) | (with_reducible assumption) | (with_reducible refine Below.setCell ?_ ?_ _) | (with_reducible refine Below.alloc ?_ ?_ _) | (with_reducible refine Below.drew ?_) | (with_reducible refine belowN ?_ _) | (with_reducible refine below_after ?_ (by assumption) ?_) | omega | (simp; done) | (simp; omega)))) (k_list.below (by repeat' (first | (with_reducible exact Below.refl _ _) | (with_reducible assumption) | (with_reducible refine Below.setCell ?_ ?_ _) | (with_reducible refine Below.alloc ?_ ?_ _) | (with_reducible refine Below.drew ?_) | (with_reducible refine belowN ?_ _) | (with_reducible refine below_after ?_ (by assumption) ?_) | omega | (simp; done) | (simp; omega))))).mono ?_
          rintro e w1 ⟨rfl, hb1⟩
          have s1 : w.heap.size + 2 ≤ w1.heap.size := (by have := hb1.size; (try simp at this); omega)
          obtain ⟨hc1, hf1⟩ := bcell hb1
          have z1_0 : w.heap.size < w1.heap.size := (by omega)
          have z1_1 : w.heap.size + 1 < w1.heap.size := (by omega)
          rw [dec_f e_list]
          go_wp2
          go_ret
          exact ⟨rfl, (by repeat' (first | (with_reducible exact Below.refl _ _) | (with_reducible assumption) | (with_reducible refine Below.setCell ?_ ?_ _) | (with_reducible refine Below.alloc ?_ ?_ _) | (with_reducible refine Below.drew ?_) | (with_reducible refine belowN ?_ _) | (with_reducible refine below_after ?_ (by assumption) ?_) | omega | (simp; done) | (simp; omega)))⟩
      · rw [dec_f (fun h => e_out (by rw [h]))]
        have E2_out : (x.out == y.out) = false := by simpa using e_out
        clear e_out
        go_enter Try.func45, Try.ntmps45
        go_wp2
        go_ret
        exact ⟨rfl, (by repeat' (first | (with_reducible exact Below.refl _ _) | (with_reducible assumption) | (with_reducible refine Below.setCell ?_ ?_ _) | (with_reducible refine Below.alloc ?_ ?_ _) | (with_reducible refine Below.drew ?_) | (with_reducible refine belowN ?_ _) | (with_reducible refine below_after ?_ (by assumption) ?_) | omega | (simp; done) | (simp; omega)))⟩
    · rw [dec_f (fun h => e_next (by rw [h]))]
      have E2_next : (x.next == y.next) = false := by simpa using e_next
      clear e_next
      go_enter Try.func45, Try.ntmps45
      go_wp2
      go_ret
      exact ⟨rfl, (by repeat' (first | (with_reducible exact Below.refl _ _) | (with_reducible assumption) | (with_reducible refine Below.setCell ?_ ?_ _) | (with_reducible refine Below.alloc ?_ ?_ _) | (with_reducible refine Below.drew ?_) | (with_reducible refine belowN ?_ _) | (with_reducible refine below_after ?_ (by assumption) ?_) | omega | (simp; done) | (simp; omega)))⟩
  · rw [dec_f (fun h => e_cap (by rw [h]))]
    have E2_cap : (x.cap == y.cap) = false := by simpa using e_cap
    clear e_cap
    go_enter Try.func45, Try.ntmps45
    go_wp2
    go_ret
    exact ⟨rfl, (by repeat' (first | (with_reducible exact Below.refl _ _) | (with_reducible assumption) | (with_reducible refine Below.setCell ?_ ?_ _) | (with_reducible refine Below.alloc ?_ ?_ _) | (with_reducible refine Below.drew ?_) | (with_reducible refine belowN ?_ _) | (with_reducible refine below_after ?_ (by assumption) ?_) | omega | (simp; done) | (simp; omega)))⟩

set_option maxHeartbeats 1000000 in
theorem impl_AnswerSame_c (x y : DAnswer) (v_text u_text : Value) (v_list u_list : Value) (w : World) (h_text : RdS w v_text x.text) (k_text : RdS w u_text y.text) (h_list : RdS w v_list x.list) (k_list : RdS w u_list y.list) :
    Calls Try.prog 65 #[.agg #[.int .i64 x.code, .int .i64 x.rev, v_text, v_list], .agg #[.int .i64 y.code, .int .i64 y.rev, u_text, u_list]] w (Tells w (.bool (decide (x = y)))) := by
  by_cases e_code : x.code = y.code
  · have E_code := Lib.hid e_code
    have E2_code : (x.code == y.code) = true := by rw [e_code]; simp
    clear e_code
    by_cases e_rev : x.rev = y.rev
    · have E_rev := Lib.hid e_rev
      have E2_rev : (x.rev == y.rev) = true := by rw [e_rev]; simp
      clear e_rev
      by_cases e_text : x.text = y.text
      · have E_text := Lib.hid e_text
        clear e_text
        by_cases e_list : x.list = y.list
        · have E_list := Lib.hid e_list
          clear e_list
          have HE : Hid (x = y) := by
            have e_code := E_code.out
            have e_rev := E_rev.out
            have e_text := E_text.out
            have e_list := E_list.out
            show x = y
            cases x; cases y; simp_all
          rw [dec_t HE.out]
          go_enter Try.func65, Try.ntmps65
          go_wp2_with fail
          refine (Equal_int_c _ _ _ _ _ (h_text.below (by repeat' (first | (with_reducible exact Below.refl _ _) | (with_reducible assumption) | (with_reducible refine Below.setCell ?_ ?_ _) | (with_reducible refine Below.alloc ?_ ?_ _) | (with_reducible refine Below.drew ?_) | (with_reducible refine belowN ?_ _) | (with_reducible refine below_after ?_ (by assumption) ?_) | omega | (simp; done) | (simp; omega)))) (k_text.below (by repeat' (first | (with_reducible exact Below.refl _ _) | (with_reducible assumption) | (with_reducible refine Below.setCell ?_ ?_ _) | (with_reducible refine Below.alloc ?_ ?_ _) | (with_reducible refine Below.drew ?_) | (with_reducible refine belowN ?_ _) | (with_reducible refine below_after ?_ (by assumption) ?_) | omega | (simp; done) | (simp; omega))))).mono ?_
          rintro e w1 ⟨rfl, hb1⟩
          have s1 : w.heap.size + 2 ≤ w1.heap.size := (by have := hb1.size; (try simp at this); omega)
          obtain ⟨hc1, hf1⟩ := bcell hb1
          have z1_0 : w.heap.size < w1.heap.size := (by omega)
          have z1_1 : w.heap.size + 1 < w1.heap.size := (by omega)
          rw [dec_t E_text.out]
          go_wp2_with fail
          refine (EqualFunc_Entry_c _ _ _ _ _ (h_list.below (by repeat' (first | (with_reducible exact Below.refl _ _) | (with_reducible assumption) | (with_reducible refine Below.setCell ?_ ?_ _) | (with_reducible refine Below.alloc ?_ ?_ _) | (with_reducible refine Below.drew ?_) | (with_reducible refine belowN ?_ _) | (with_reducible refine below_after ?_ (by assumption) ?_) | omega | (simp; done) | (simp; omega)))) (k_list.below (by repeat' (first | (with_reducible exact Below.refl _ _) | (with_reducible assumption) | (with_reducible refine Below.setCell ?_ ?_ _) | (with_reducible refine Below.alloc ?_ ?_ _) | (with_reducible refine Below.drew ?_) | (with_reducible refine belowN ?_ _) | (with_reducible refine below_after ?_ (by assumption) ?_) | omega | (simp; done) | (simp; omega))))).mono ?_
          rintro e w2 ⟨rfl, hb2⟩
          have s2 : w1.heap.size ≤ w2.heap.size := (by have := hb2.size; (try simp at this); omega)
          obtain ⟨hc2, hf2⟩ := bcell hb2
          have z2_0 : w.heap.size < w2.heap.size := (by omega)
          have z2_1 : w.heap.size + 1 < w2.heap.size := (by omega)
          rw [dec_t E_list.out]
          go_wp2
          go_ret
          exact ⟨rfl, (by repeat' (first | (with_reducible exact Below.refl _ _) | (with_reducible assumption) | (with_reducible refine Below.setCell ?_ ?_ _) | (with_reducible refine Below.alloc ?_ ?_ _) | (with_reducible refine Below.drew ?_) | (with_reducible refine belowN ?_ _) | (with_reducible refine below_after ?_ (by assumption) ?_) | omega | (simp; done) | (simp; omega)))⟩
        · rw [dec_f (fun h => e_list (by rw [h]))]
          go_enter Try.func65, Try.ntmps65
          go_wp2_with fail
          refine (Equal_int_c _ _ _ _ _ (h_text.below (by repeat' (first | (with_reducible exact Below.refl _ _) | (with_reducible assumption) | (with_reducible refine Below.setCell ?_ ?_ _) | (with_reducible refine Below.alloc ?_ ?_ _) | (with_reducible refine Below.drew ?_) | (with_reducible refine belowN ?_ _) | (with_reducible refine below_after ?_ (by assumption) ?_) | omega | (simp; done) | (simp; omega)))) (k_text.below (by repeat' (first | (with_reducible exact Below.refl _ _) | (with_reducible assumption) | (with_reducible refine Below.setCell ?_ ?_ _) | (with_reducible refine Below.alloc ?_ ?_ _) | (with_reducible refine Below.drew ?_) | (with_reducible refine belowN ?_ _) | (with_reducible refine below_after ?_ (by assumption) ?_) | omega | (simp; done) | (simp; omega))))).mono ?_
          rintro e w1 ⟨rfl, hb1⟩
          have s1 : w.heap.size + 2 ≤ w1.heap.size := (by have := hb1.size; (try simp at this); omega)
          obtain ⟨hc1, hf1⟩ := bcell hb1
          have z1_0 : w.heap.size < w1.heap.size := (by omega)
          have z1_1 : w.heap.size + 1 < w1.heap.size := (by omega)
          rw [dec_t E_text.out]
          go_wp2_with fail
          refine (EqualFunc_Entry_c _ _ _ _ _ (h_list.below (by repeat' (first | (with_reducible exact Below.refl _ _) | (with_reducible assumption) | (with_reducible refine Below.setCell ?_ ?_ _) | (with_reducible refine Below.alloc ?_ ?_ _) | (with_reducible refine Below.drew ?_) | (with_reducible refine belowN ?_ _) | (with_reducible refine below_after ?_ (by assumption) ?_) | omega | (simp; done) | (simp; omega)))) (k_list.below (by repeat' (first | (with_reducible exact Below.refl _ _) | (with_reducible assumption) | (with_reducible refine Below.setCell ?_ ?_ _) | (with_reducible refine Below.alloc ?_ ?_ _) | (with_reducible refine Below.drew ?_) | (with_reducible refine belowN ?_ _) | (with_reducible refine below_after ?_ (by assumption) ?_) | omega | (simp; done) | (simp; omega))))).mono ?_
          rintro e w2 ⟨rfl, hb2⟩
          have s2 : w1.heap.size ≤ w2.heap.size := (by have := hb2.size; (try simp at this); omega)
          obtain ⟨hc2, hf2⟩ := bcell hb2
          have z2_0 : w.heap.size < w2.heap.size := (by omega)
          have z2_1 : w.heap.size + 1 < w2.heap.size := (by omega)
          rw [dec_f e_list]
          go_wp2
          go_ret
          exact ⟨rfl, (by repeat' (first | (with_reducible exact Below.refl _ _) | (with_reducible assumption) | (with_reducible refine Below.setCell ?_ ?_ _) | (with_reducible refine Below.alloc ?_ ?_ _) | (with_reducible refine Below.drew ?_) | (with_reducible refine belowN ?_ _) | (with_reducible refine below_after ?_ (by assumption) ?_) | omega | (simp; done) | (simp; omega)))⟩
      · rw [dec_f (fun h => e_text (by rw [h]))]
        go_enter Try.func65, Try.ntmps65
        go_wp2_with fail
        refine (Equal_int_c _ _ _ _ _ (h_text.below (by repeat' (first | (with_reducible exact Below.refl _ _) | (with_reducible assumption) | (with_reducible refine Below.setCell ?_ ?_ _) | (with_reducible refine Below.alloc ?_ ?_ _) | (with_reducible refine Below.drew ?_) | (with_reducible refine belowN ?_ _) | (with_reducible refine below_after ?_ (by assumption) ?_) | omega | (simp; done) | (simp; omega)))) (k_text.below (by repeat' (first | (with_reducible exact Below.refl _ _) | (with_reducible assumption) | (with_reducible refine Below.setCell ?_ ?_ _) | (with_reducible refine Below.alloc ?_ ?_ _) | (with_reducible refine Below.drew ?_) | (with_reducible refine belowN ?_ _) | (with_reducible refine below_after ?_ (by assumption) ?_) | omega | (simp; done) | (simp; omega))))).mono ?_
        rintro e w1 ⟨rfl, hb1⟩
        have s1 : w.heap.size + 2 ≤ w1.heap.size := (by have := hb1.size; (try simp at this); omega)
        obtain ⟨hc1, hf1⟩ := bcell hb1
        have z1_0 : w.heap.size < w1.heap.size := (by omega)
        have z1_1 : w.heap.size + 1 < w1.heap.size := (by omega)
        rw [dec_f e_text]
        go_wp2
        go_ret
        exact ⟨rfl, (by repeat' (first | (with_reducible exact Below.refl _ _) | (with_reducible assumption) | (with_reducible refine Below.setCell ?_ ?_ _) | (with_reducible refine Below.alloc ?_ ?_ _) | (with_reducible refine Below.drew ?_) | (with_reducible refine belowN ?_ _) | (with_reducible refine below_after ?_ (by assumption) ?_) | omega | (simp; done) | (simp; omega)))⟩
    · rw [dec_f (fun h => e_rev (by rw [h]))]
      have E2_rev : (x.rev == y.rev) = false := by simpa using e_rev
      clear e_rev
      go_enter Try.func65, Try.ntmps65
      go_wp2
      go_ret
      exact ⟨rfl, (by repeat' (first | (with_reducible exact Below.refl _ _) | (with_reducible assumption) | (with_reducible refine Below.setCell ?_ ?_ _) | (with_reducible refine Below.alloc ?_ ?_ _) | (with_reducible refine Below.drew ?_) | (with_reducible refine belowN ?_ _) | (with_reducible refine below_after ?_ (by assumption) ?_) | omega | (simp; done) | (simp; omega)))⟩
  · rw [dec_f (fun h => e_code (by rw [h]))]
    have E2_code : (x.code == y.code) = false := by simpa using e_code
    clear e_code
    go_enter Try.func65, Try.ntmps65
    go_wp2
    go_ret
    exact ⟨rfl, (by repeat' (first | (with_reducible exact Below.refl _ _) | (with_reducible assumption) | (with_reducible refine Below.setCell ?_ ?_ _) | (with_reducible refine Below.alloc ?_ ?_ _) | (with_reducible refine Below.drew ?_) | (with_reducible refine belowN ?_ _) | (with_reducible refine below_after ?_ (by assumption) ?_) | omega | (simp; done) | (simp; omega)))⟩


set_option maxHeartbeats 2000000 in
set_option maxRecDepth 100000 in
theorem spec_AnswerSame_c (x y : DAnswer) (v_text u_text : Value) (v_list u_list : Value) (w : World) (h_text : RdS w v_text x.text) (k_text : RdS w u_text y.text) (h_list : RdS w v_list x.list) (k_list : RdS w u_list y.list) :
    Calls Try.prog 62 #[.agg #[.int .i64 x.code, .int .i64 x.rev, v_text, v_list], .agg #[.int .i64 y.code, .int .i64 y.rev, u_text, u_list]] w (Tells w (.bool (decide (x = y)))) := by
  have hlv := fun w1 ty => h_list.len Try.underlying38 w1 ty
  have hlu := fun w1 ty => k_list.len Try.underlying38 w1 ty
  have bv := h_list.le
  have bu := k_list.le
  by_cases e_code : x.code = y.code
  · have E_code := Lib.hid e_code
    have E2_code : (x.code != y.code) = false := by rw [e_code]; simp
    clear e_code
    by_cases e_rev : x.rev = y.rev
    · have E_rev := Lib.hid e_rev
      have E2_rev : (x.rev != y.rev) = false := by rw [e_rev]; simp
      clear e_rev
      by_cases e_text : x.text = y.text
      · have E_text := Lib.hid e_text
        clear e_text
        by_cases e_len : x.list.length = y.list.length
        · have E_len := Lib.hid e_len
          rw [← e_len] at hlu
          clear e_len
          go_enter Try.func62, Try.ntmps62
          go_wp2_with fail
          refine (spec_SignsSame_c _ _ _ _ _ (h_text.below (by repeat' (first | (with_reducible exact Below.refl _ _) | (with_reducible assumption) | (with_reducible refine Below.setCell ?_ ?_ _) | (with_reducible refine Below.alloc ?_ ?_ _) | (with_reducible refine Below.drew ?_) | (with_reducible refine belowN ?_ _) | (with_reducible refine below_after ?_ (by assumption) ?_) | omega | (simp; done) | (simp; omega)))) (k_text.below (by repeat' (first | (with_reducible exact Below.refl _ _) | (with_reducible assumption) | (with_reducible refine Below.setCell ?_ ?_ _) | (with_reducible refine Below.alloc ?_ ?_ _) | (with_reducible refine Below.drew ?_) | (with_reducible refine belowN ?_ _) | (with_reducible refine below_after ?_ (by assumption) ?_) | omega | (simp; done) | (simp; omega))))).mono ?_
          rintro e w1 ⟨rfl, hb1⟩
          have s1 : w.heap.size + 2 ≤ w1.heap.size := (by have := hb1.size; (try simp at this); omega)
          obtain ⟨hc1, hf1⟩ := bcell hb1
          have z1_0 : w.heap.size < w1.heap.size := (by omega)
          have z1_1 : w.heap.size + 1 < w1.heap.size := (by omega)
          rw [dec_t E_text.out]
          go_wp2
          go_loopw [39] (fun i wr => ∃ k : Nat, k ≤ x.list.length ∧ i = .int .i64 k ∧ (∀ j < k, x.list[j]? = y.list[j]?) ∧ Below (w.heap.size + 2) ((w.alloc (.cells #[.int .i64 x.code, .int .i64 x.rev, v_text, v_list] 60)).alloc (.cells #[.int .i64 y.code, .int .i64 y.rev, u_text, u_list] 60)) wr) (fun i _ => x.list.length - (intOf i).toNat)
          case atStart => exact ⟨0, Nat.zero_le _, rfl, fun _ h => absurd h (Nat.not_lt_zero _), (by repeat' (first | (with_reducible exact Below.refl _ _) | (with_reducible assumption) | (with_reducible refine Below.setCell ?_ ?_ _) | (with_reducible refine Below.alloc ?_ ?_ _) | (with_reducible refine Below.drew ?_) | (with_reducible refine belowN ?_ _) | (with_reducible refine below_after ?_ (by assumption) ?_) | omega | (simp; done) | (simp; omega)))⟩
          case round =>
            obtain ⟨k, hk, rfl, hj, hbw⟩ := hrel
            have hsz := hbw.size
            simp only [World.size_alloc] at hsz
            have hbw0 : Below w.heap.size w wr := (((Below.refl _ _).alloc (Nat.le_refl _) _).alloc (by simp) _).trans (hbw.mono (by omega))
            have HJ := Lib.hid hj; clear hj
            have qb : wr.cell? ⟨w.heap.size + 1, 3, none⟩ = some u_list := by rw [hbw.cell (Nat.lt_succ_self _)]; simp
            by_cases hlt : k < x.list.length
            · obtain ⟨p, hx⟩ := get_some hlt
              obtain ⟨q, hy⟩ := get_some (l := y.list) (k := k) (by rw [← E_len.out]; exact hlt)
              obtain ⟨b1, o1, cs, h1, h2, h3⟩ := (h_list.below hbw0).idx Try.underlying38 szi_DEntry k hx
              obtain ⟨v_o, rfl, r_o⟩ := inv_DEntry h3
              obtain ⟨b2, o2, cs, g1, g2, g3⟩ := (k_list.below hbw0).idx Try.underlying38 szi_DEntry k hy
              obtain ⟨u_o, rfl, t_o⟩ := inv_DEntry g3
              have qq0 := h2.zero
              have qq1 := h2 1 _ rfl
              have qq2 := h2 2 _ rfl
              have pp0 := g2.zero
              have pp1 := g2 1 _ rfl
              have pp2 := g2 2 _ rfl
              have l1 : b1 < wr.heap.size := World.block_lt_of_cell? (w := wr) (a := ⟨b1, o1, none⟩) qq0
              have l2 : b2 < wr.heap.size := World.block_lt_of_cell? (w := wr) (a := ⟨b2, o2, none⟩) pp0
              obtain ⟨aa_o, ca_o, rfl⟩ := r_o.isSlice
              obtain ⟨ab_o, cb_o, rfl⟩ := t_o.isSlice
              have z1 : w.heap.size + 1 < wr.heap.size := by omega
              have HX := Lib.hid hx; clear hx
              have HY := Lib.hid hy; clear hy
              by_cases hxy : p = q
              · subst hxy
                go_wp2_with fail
                obtain ⟨W1, hW1⟩ : ∃ W1, W1 = wr.alloc (.cells #[.int .i64 p.client, .int .i64 p.seq, .slice aa_o p.o.length ca_o] 29) := ⟨_, rfl⟩
                have hbx : Below wr.heap.size wr W1 := by rw [hW1]; exact (Below.refl _ _).alloc (Nat.le_refl _) _
                have hsx := hbx.size
                have xx0 : W1.cell? ⟨wr.heap.size, 0, none⟩ = some (.int .i64 p.client) := by rw [hW1]; simp
                have xx1 : W1.cell? ⟨wr.heap.size, 1, none⟩ = some (.int .i64 p.seq) := by rw [hW1]; simp
                have xx2 : W1.cell? ⟨wr.heap.size, 2, none⟩ = some (.slice aa_o p.o.length ca_o) := by rw [hW1]; simp
                have qbx : W1.cell? ⟨w.heap.size + 1, 3, none⟩ = some u_list := (hbx.cell (p := ⟨w.heap.size + 1, 3, none⟩) z1).trans qb
                have px0 := (hbx.cell (p := ⟨b2, o2, none⟩) l2).trans pp0
                have px1 := (hbx.cell (p := ⟨b2, o2 + 1, none⟩) l2).trans pp1
                have px2 := (hbx.cell (p := ⟨b2, o2 + 2, none⟩) l2).trans pp2
                rw [← hW1]
                clear hW1
                go_still_tail 6, (by kernel_rfl)
                go_wp2_with fail
                refine (spec_EntrySame_c p p _ _ _ (r_o.below (by repeat' (first | (with_reducible exact Below.refl _ _) | (with_reducible assumption) | (with_reducible refine Below.setCell ?_ ?_ _) | (with_reducible refine Below.alloc ?_ ?_ _) | (with_reducible refine Below.drew ?_) | (with_reducible refine belowN ?_ _) | (with_reducible refine below_after ?_ (by assumption) ?_) | omega | (simp; done) | (simp; omega)))) (t_o.below (by repeat' (first | (with_reducible exact Below.refl _ _) | (with_reducible assumption) | (with_reducible refine Below.setCell ?_ ?_ _) | (with_reducible refine Below.alloc ?_ ?_ _) | (with_reducible refine Below.drew ?_) | (with_reducible refine belowN ?_ _) | (with_reducible refine below_after ?_ (by assumption) ?_) | omega | (simp; done) | (simp; omega))))).mono ?_
                rintro e w9 ⟨rfl, hb9⟩
                rw [dec_t rfl]
                go_wp2
                go_roundw
                case rel => exact ⟨k + 1, by omega, by go_num, at_step HX.out HY.out HJ.out, (by repeat' (first | (with_reducible exact Below.refl _ _) | (with_reducible assumption) | (with_reducible refine Below.setCell ?_ ?_ _) | (with_reducible refine Below.alloc ?_ ?_ _) | (with_reducible refine Below.drew ?_) | (with_reducible refine belowN ?_ _) | (with_reducible refine below_after ?_ (by assumption) ?_) | omega | (simp; done) | (simp; omega)))⟩
                case measure => simp [intOf]; omega
              · have HN : Hid (decide (x = y) = false) := dec_f (fun h => ne_at HX.out HY.out hxy (by rw [h]))
                go_wp2_with fail
                obtain ⟨W1, hW1⟩ : ∃ W1, W1 = wr.alloc (.cells #[.int .i64 p.client, .int .i64 p.seq, .slice aa_o p.o.length ca_o] 29) := ⟨_, rfl⟩
                have hbx : Below wr.heap.size wr W1 := by rw [hW1]; exact (Below.refl _ _).alloc (Nat.le_refl _) _
                have hsx := hbx.size
                have xx0 : W1.cell? ⟨wr.heap.size, 0, none⟩ = some (.int .i64 p.client) := by rw [hW1]; simp
                have xx1 : W1.cell? ⟨wr.heap.size, 1, none⟩ = some (.int .i64 p.seq) := by rw [hW1]; simp
                have xx2 : W1.cell? ⟨wr.heap.size, 2, none⟩ = some (.slice aa_o p.o.length ca_o) := by rw [hW1]; simp
                have qbx : W1.cell? ⟨w.heap.size + 1, 3, none⟩ = some u_list := (hbx.cell (p := ⟨w.heap.size + 1, 3, none⟩) z1).trans qb
                have px0 := (hbx.cell (p := ⟨b2, o2, none⟩) l2).trans pp0
                have px1 := (hbx.cell (p := ⟨b2, o2 + 1, none⟩) l2).trans pp1
                have px2 := (hbx.cell (p := ⟨b2, o2 + 2, none⟩) l2).trans pp2
                rw [← hW1]
                clear hW1
                go_still_tail 6, (by kernel_rfl)
                go_wp2_with fail
                refine (spec_EntrySame_c p q _ _ _ (r_o.below (by repeat' (first | (with_reducible exact Below.refl _ _) | (with_reducible assumption) | (with_reducible refine Below.setCell ?_ ?_ _) | (with_reducible refine Below.alloc ?_ ?_ _) | (with_reducible refine Below.drew ?_) | (with_reducible refine belowN ?_ _) | (with_reducible refine below_after ?_ (by assumption) ?_) | omega | (simp; done) | (simp; omega)))) (t_o.below (by repeat' (first | (with_reducible exact Below.refl _ _) | (with_reducible assumption) | (with_reducible refine Below.setCell ?_ ?_ _) | (with_reducible refine Below.alloc ?_ ?_ _) | (with_reducible refine Below.drew ?_) | (with_reducible refine belowN ?_ _) | (with_reducible refine below_after ?_ (by assumption) ?_) | omega | (simp; done) | (simp; omega))))).mono ?_
                rintro e w9 ⟨rfl, hb9⟩
                rw [dec_f hxy]
                go_wp2
                go_ret
                exact ⟨ret_bool HN.out.symm, (by repeat' (first | (with_reducible exact Below.refl _ _) | (with_reducible assumption) | (with_reducible refine Below.setCell ?_ ?_ _) | (with_reducible refine Below.alloc ?_ ?_ _) | (with_reducible refine Below.drew ?_) | (with_reducible refine belowN ?_ _) | (with_reducible refine below_after ?_ (by assumption) ?_) | omega | (simp; done) | (simp; omega)))⟩
            · go_wp2
              go_ret
              have hll := list_eq_of_take E_len.out fun j hj => HJ.out j (by omega)
              have HE : x = y := by
                have e_code := E_code.out
                have e_rev := E_rev.out
                have e_text := E_text.out
                cases x; cases y; simp_all
              exact ⟨ret_bool (dec_t HE).symm, hbw0⟩
        · rw [dec_f (fun h => e_len (by rw [h]))]
          go_enter Try.func62, Try.ntmps62
          go_wp2_with fail
          refine (spec_SignsSame_c _ _ _ _ _ (h_text.below (by repeat' (first | (with_reducible exact Below.refl _ _) | (with_reducible assumption) | (with_reducible refine Below.setCell ?_ ?_ _) | (with_reducible refine Below.alloc ?_ ?_ _) | (with_reducible refine Below.drew ?_) | (with_reducible refine belowN ?_ _) | (with_reducible refine below_after ?_ (by assumption) ?_) | omega | (simp; done) | (simp; omega)))) (k_text.below (by repeat' (first | (with_reducible exact Below.refl _ _) | (with_reducible assumption) | (with_reducible refine Below.setCell ?_ ?_ _) | (with_reducible refine Below.alloc ?_ ?_ _) | (with_reducible refine Below.drew ?_) | (with_reducible refine belowN ?_ _) | (with_reducible refine below_after ?_ (by assumption) ?_) | omega | (simp; done) | (simp; omega))))).mono ?_
          rintro e w1 ⟨rfl, hb1⟩
          have s1 : w.heap.size + 2 ≤ w1.heap.size := (by have := hb1.size; (try simp at this); omega)
          obtain ⟨hc1, hf1⟩ := bcell hb1
          have z1_0 : w.heap.size < w1.heap.size := (by omega)
          have z1_1 : w.heap.size + 1 < w1.heap.size := (by omega)
          rw [dec_t E_text.out]
          go_wp2
          go_ret
          exact ⟨rfl, (by repeat' (first | (with_reducible exact Below.refl _ _) | (with_reducible assumption) | (with_reducible refine Below.setCell ?_ ?_ _) | (with_reducible refine Below.alloc ?_ ?_ _) | (with_reducible refine Below.drew ?_) | (with_reducible refine belowN ?_ _) | (with_reducible refine below_after ?_ (by assumption) ?_) | omega | (simp; done) | (simp; omega)))⟩
      · rw [dec_f (fun h => e_text (by rw [h]))]
        go_enter Try.func62, Try.ntmps62
        go_wp2_with fail
        refine (spec_SignsSame_c _ _ _ _ _ (h_text.below (by repeat' (first | (with_reducible exact Below.refl _ _) | (with_reducible assumption) | (with_reducible refine Below.setCell ?_ ?_ _) | (with_reducible refine Below.alloc ?_ ?_ _) | (with_reducible refine Below.drew ?_) | (with_reducible refine belowN ?_ _) | (with_reducible refine below_after ?_ (by assumption) ?_) | omega | (simp; done) | (simp; omega)))) (k_text.below (by repeat' (first | (with_reducible exact Below.refl _ _) | (with_reducible assumption) | (with_reducible refine Below.setCell ?_ ?_ _) | (with_reducible refine Below.alloc ?_ ?_ _) | (with_reducible refine Below.drew ?_) | (with_reducible refine belowN ?_ _) | (with_reducible refine below_after ?_ (by assumption) ?_) | omega | (simp; done) | (simp; omega))))).mono ?_
        rintro e w1 ⟨rfl, hb1⟩
        have s1 : w.heap.size + 2 ≤ w1.heap.size := (by have := hb1.size; (try simp at this); omega)
        obtain ⟨hc1, hf1⟩ := bcell hb1
        have z1_0 : w.heap.size < w1.heap.size := (by omega)
        have z1_1 : w.heap.size + 1 < w1.heap.size := (by omega)
        rw [dec_f e_text]
        go_wp2
        go_ret
        exact ⟨rfl, (by repeat' (first | (with_reducible exact Below.refl _ _) | (with_reducible assumption) | (with_reducible refine Below.setCell ?_ ?_ _) | (with_reducible refine Below.alloc ?_ ?_ _) | (with_reducible refine Below.drew ?_) | (with_reducible refine belowN ?_ _) | (with_reducible refine below_after ?_ (by assumption) ?_) | omega | (simp; done) | (simp; omega)))⟩
    · rw [dec_f (fun h => e_rev (by rw [h]))]
      have E2_rev : (x.rev != y.rev) = true := by simpa using e_rev
      clear e_rev
      go_enter Try.func62, Try.ntmps62
      go_wp2
      go_ret
      exact ⟨rfl, (by repeat' (first | (with_reducible exact Below.refl _ _) | (with_reducible assumption) | (with_reducible refine Below.setCell ?_ ?_ _) | (with_reducible refine Below.alloc ?_ ?_ _) | (with_reducible refine Below.drew ?_) | (with_reducible refine belowN ?_ _) | (with_reducible refine below_after ?_ (by assumption) ?_) | omega | (simp; done) | (simp; omega)))⟩
  · rw [dec_f (fun h => e_code (by rw [h]))]
    have E2_code : (x.code != y.code) = true := by simpa using e_code
    clear e_code
    go_enter Try.func62, Try.ntmps62
    go_wp2
    go_ret
    exact ⟨rfl, (by repeat' (first | (with_reducible exact Below.refl _ _) | (with_reducible assumption) | (with_reducible refine Below.setCell ?_ ?_ _) | (with_reducible refine Below.alloc ?_ ?_ _) | (with_reducible refine Below.drew ?_) | (with_reducible refine belowN ?_ _) | (with_reducible refine below_after ?_ (by assumption) ?_) | omega | (simp; done) | (simp; omega)))⟩

end Go.Proofs.Ytihbmefidbmmdaa
