/- The measure that the laws take of their arguments. -/
import Derived.Test.YtihbmefidbmmdaaSz0
namespace Go.Proofs.Ytihbmefidbmmdaa
open Go.RowKit

set_option maxHeartbeats 1000000 in
theorem szPart_c (x : DPart) (v_signs : Value) (w : World) (left : Int) (g0 : 0 ≤ left) (g1 : left ≤ 1048576)  (h_signs : RdSM maxLen w v_signs x.signs) :
    Calls Try.prog 89 #[.agg #[.int .i64 x.kind, .int .i64 x.n, v_signs], .int .i64 left] w (Tells w (.int .i64 (less left (GoS.sz x)))) := by
  have E : GoS.sz x = szL x.signs := rfl
  by_cases c0 : ((szL x.signs : Nat) : Int) ≤ left
  · rw [less_pos (show ((GoS.sz x : Nat) : Int) ≤ left by rw [E]; omega)]
    have E2 : left - (GoS.sz x : Int) = left - ((szL x.signs : Nat) : Int) := by rw [E] <;> omega
    rw [E2]; clear E2 E
    go_enter Try.func89, Try.ntmps89
    go_wp2_with fail
    refine (szIntS_c2 _ _ _ _ (by omega) (by omega) (h_signs.below (by repeat' (first | (with_reducible exact Below.refl _ _) | (with_reducible refine Below.setCell ?_ ?_ _) | (with_reducible refine Below.alloc ?_ ?_ _) | (with_reducible refine Below.drew ?_) | (with_reducible refine belowN ?_ _) | (with_reducible refine below_after ?_ (by assumption) ?_) | omega | (simp; done) | (simp; omega))))).mono ?_
    rintro e w1 ⟨rfl, hb1⟩
    rw [less_pos (by omega)]
    have s1 : w.heap.size + 1 ≤ w1.heap.size := by have := hb1.size; (try simp at this); omega
    obtain ⟨hc1, hf1⟩ := bcell hb1
    have z1_0 : w.heap.size < w1.heap.size := by omega
    go_wp2
    go_ret
    exact ⟨ret_int (by first | rfl | omega), (by repeat' (first | (with_reducible exact Below.refl _ _) | (with_reducible refine Below.setCell ?_ ?_ _) | (with_reducible refine Below.alloc ?_ ?_ _) | (with_reducible refine Below.drew ?_) | (with_reducible refine belowN ?_ _) | (with_reducible refine below_after ?_ (by assumption) ?_) | omega | (simp; done) | (simp; omega)))⟩
  · rw [less_neg (show ¬ ((GoS.sz x : Nat) : Int) ≤ left by rw [E]; omega)]; clear E
    go_enter Try.func89, Try.ntmps89
    go_wp2_with fail
    refine (szIntS_c2 _ _ _ _ (by omega) (by omega) (h_signs.below (by repeat' (first | (with_reducible exact Below.refl _ _) | (with_reducible refine Below.setCell ?_ ?_ _) | (with_reducible refine Below.alloc ?_ ?_ _) | (with_reducible refine Below.drew ?_) | (with_reducible refine belowN ?_ _) | (with_reducible refine below_after ?_ (by assumption) ?_) | omega | (simp; done) | (simp; omega))))).mono ?_
    rintro e w1 ⟨rfl, hb1⟩
    rw [less_neg (by omega)]
    have s1 : w.heap.size + 1 ≤ w1.heap.size := by have := hb1.size; (try simp at this); omega
    obtain ⟨hc1, hf1⟩ := bcell hb1
    have z1_0 : w.heap.size < w1.heap.size := by omega
    go_wp2
    go_ret
    exact ⟨ret_int (by first | rfl | omega), (by repeat' (first | (with_reducible exact Below.refl _ _) | (with_reducible refine Below.setCell ?_ ?_ _) | (with_reducible refine Below.alloc ?_ ?_ _) | (with_reducible refine Below.drew ?_) | (with_reducible refine belowN ?_ _) | (with_reducible refine below_after ?_ (by assumption) ?_) | omega | (simp; done) | (simp; omega)))⟩

set_option maxHeartbeats 1000000 in
theorem szPartS_c (v : Value) (l : List DPart) (w : World) (left : Int) (g0 : 0 ≤ left) (g1 : left ≤ 1048576) (h : RdSM maxLen w v l) :
    Calls Try.prog 51 #[v, .int .i64 left] w (Tells w (.int .i64 (less left (szL l)))) := by
  have hl := fun w1 ty => h.len Try.underlying22 w1 ty
  have hb := h.le
  have E := Lib.hid (show szL l = l.length + szs l from rfl)
  by_cases hle : (l.length : Int) ≤ left
  · go_enter Try.func51, Try.ntmps51
    go_wp2
    go_loopw [1, 5] (fun c i wr => ∃ k : Nat, k ≤ l.length ∧ i = .int .i64 k ∧ ((szs (l.take k) : Nat) : Int) ≤ left - l.length ∧ c = .int .i64 (left - l.length - szs (l.take k)) ∧ Below w.heap.size w wr) (fun _ i _ => l.length - (intOf i).toNat)
    case atStart => exact ⟨0, Nat.zero_le _, rfl, by simp [szs]; omega, by simp [szs], Below.refl _ _⟩
    case round =>
      obtain ⟨k, hk, rfl, hc, rfl, hbw⟩ := hrel
      by_cases hlt : k < l.length
      · obtain ⟨x, hx⟩ := get_some hlt
        have hs := szs_take_succ hx
        have hsl := szs_take_le l (k + 1)
        obtain ⟨b1, o1, cs, h1, h2, h3⟩ := (h.below hbw).idx Try.underlying22 szl_DPart k hx
        obtain ⟨v_signs, rfl, r_signs⟩ := invM_DPart h3
        have q0 := h2.zero
        have q1 := h2 1 _ rfl
        have q2 := h2 2 _ rfl
        have HS := Lib.hid hs
        clear hx
        by_cases hfit : ((GoS.sz x : Nat) : Int) ≤ left - l.length - szs (l.take k)
        · have hs2 : ((szs (l.take (k + 1)) : Nat) : Int) ≤ left - l.length := by omega
          clear hs
          go_wp2_with fail
          refine (szPart_c x _ _ _ (by omega) (by omega) r_signs).mono ?_
          rintro e w2 ⟨rfl, hb2⟩
          rw [less_pos hfit]
          have HBW : Hid (Below w.heap.size w w2) := hbw.trans (hb2.mono hbw.size)
          clear hb2 hbw
          go_wp2
          go_roundw
          case rel => exact ⟨k + 1, by omega, by go_num, hs2, by rw [HS.out]; go_num, HBW.out⟩
          case measure => simp [intOf]; omega
        · have HN : Hid (less left (szL l) = -1) := less_neg (by rw [E.out]; omega)
          clear hs
          go_wp2_with fail
          refine (szPart_c x _ _ _ (by omega) (by omega) r_signs).mono ?_
          rintro e w2 ⟨rfl, hb2⟩
          rw [less_neg (by omega)]
          have HBW : Hid (Below w.heap.size w w2) := hbw.trans (hb2.mono hbw.size)
          clear hb2 hbw
          go_wp2
          go_ret
          exact ⟨ret_int HN.out.symm, HBW.out⟩
      · obtain rfl : k = l.length := by omega
        go_wp2
        go_ret
        rw [List.take_length] at hc
        exact ⟨ret_int (by rw [less_pos (by rw [E.out]; omega), E.out, List.take_length]; omega), hbw⟩
  · rw [less_neg (by rw [E.out]; omega)]
    go_enter Try.func51, Try.ntmps51
    go_wp2
    go_ret
    exact ⟨rfl, Below.refl _ _⟩

set_option maxHeartbeats 1000000 in
theorem szEntry_c (x : DEntry) (v_o : Value) (w : World) (left : Int) (g0 : 0 ≤ left) (g1 : left ≤ 1048576)  (h_o : RdSM maxLen w v_o x.o) :
    Calls Try.prog 12 #[.agg #[.int .i64 x.client, .int .i64 x.seq, v_o], .int .i64 left] w (Tells w (.int .i64 (less left (GoS.sz x)))) := by
  have E : GoS.sz x = szL x.o := rfl
  by_cases c0 : ((szL x.o : Nat) : Int) ≤ left
  · rw [less_pos (show ((GoS.sz x : Nat) : Int) ≤ left by rw [E]; omega)]
    have E2 : left - (GoS.sz x : Int) = left - ((szL x.o : Nat) : Int) := by rw [E] <;> omega
    rw [E2]; clear E2 E
    go_enter Try.func12, Try.ntmps12
    go_wp2_with fail
    refine (szPartS_c _ _ _ _ (by omega) (by omega) (h_o.below (by repeat' (first | (with_reducible exact Below.refl _ _) | (with_reducible refine Below.setCell ?_ ?_ _) | (with_reducible refine Below.alloc ?_ ?_ _) | (with_reducible refine Below.drew ?_) | (with_reducible refine belowN ?_ _) | (with_reducible refine below_after ?_ (by assumption) ?_) | omega | (simp; done) | (simp; omega))))).mono ?_
    rintro e w1 ⟨rfl, hb1⟩
    rw [less_pos (by omega)]
    have s1 : w.heap.size + 1 ≤ w1.heap.size := by have := hb1.size; (try simp at this); omega
    obtain ⟨hc1, hf1⟩ := bcell hb1
    have z1_0 : w.heap.size < w1.heap.size := by omega
    go_wp2
    go_ret
    exact ⟨ret_int (by first | rfl | omega), (by repeat' (first | (with_reducible exact Below.refl _ _) | (with_reducible refine Below.setCell ?_ ?_ _) | (with_reducible refine Below.alloc ?_ ?_ _) | (with_reducible refine Below.drew ?_) | (with_reducible refine belowN ?_ _) | (with_reducible refine below_after ?_ (by assumption) ?_) | omega | (simp; done) | (simp; omega)))⟩
  · rw [less_neg (show ¬ ((GoS.sz x : Nat) : Int) ≤ left by rw [E]; omega)]; clear E
    go_enter Try.func12, Try.ntmps12
    go_wp2_with fail
    refine (szPartS_c _ _ _ _ (by omega) (by omega) (h_o.below (by repeat' (first | (with_reducible exact Below.refl _ _) | (with_reducible refine Below.setCell ?_ ?_ _) | (with_reducible refine Below.alloc ?_ ?_ _) | (with_reducible refine Below.drew ?_) | (with_reducible refine belowN ?_ _) | (with_reducible refine below_after ?_ (by assumption) ?_) | omega | (simp; done) | (simp; omega))))).mono ?_
    rintro e w1 ⟨rfl, hb1⟩
    rw [less_neg (by omega)]
    have s1 : w.heap.size + 1 ≤ w1.heap.size := by have := hb1.size; (try simp at this); omega
    obtain ⟨hc1, hf1⟩ := bcell hb1
    have z1_0 : w.heap.size < w1.heap.size := by omega
    go_wp2
    go_ret
    exact ⟨ret_int (by first | rfl | omega), (by repeat' (first | (with_reducible exact Below.refl _ _) | (with_reducible refine Below.setCell ?_ ?_ _) | (with_reducible refine Below.alloc ?_ ?_ _) | (with_reducible refine Below.drew ?_) | (with_reducible refine belowN ?_ _) | (with_reducible refine below_after ?_ (by assumption) ?_) | omega | (simp; done) | (simp; omega)))⟩

set_option maxHeartbeats 1000000 in
theorem szEntryS_c (v : Value) (l : List DEntry) (w : World) (left : Int) (g0 : 0 ≤ left) (g1 : left ≤ 1048576) (h : RdSM maxLen w v l) :
    Calls Try.prog 58 #[v, .int .i64 left] w (Tells w (.int .i64 (less left (szL l)))) := by
  have hl := fun w1 ty => h.len Try.underlying33 w1 ty
  have hb := h.le
  have E := Lib.hid (show szL l = l.length + szs l from rfl)
  by_cases hle : (l.length : Int) ≤ left
  · go_enter Try.func58, Try.ntmps58
    go_wp2
    go_loopw [1, 5] (fun c i wr => ∃ k : Nat, k ≤ l.length ∧ i = .int .i64 k ∧ ((szs (l.take k) : Nat) : Int) ≤ left - l.length ∧ c = .int .i64 (left - l.length - szs (l.take k)) ∧ Below w.heap.size w wr) (fun _ i _ => l.length - (intOf i).toNat)
    case atStart => exact ⟨0, Nat.zero_le _, rfl, by simp [szs]; omega, by simp [szs], Below.refl _ _⟩
    case round =>
      obtain ⟨k, hk, rfl, hc, rfl, hbw⟩ := hrel
      by_cases hlt : k < l.length
      · obtain ⟨x, hx⟩ := get_some hlt
        have hs := szs_take_succ hx
        have hsl := szs_take_le l (k + 1)
        obtain ⟨b1, o1, cs, h1, h2, h3⟩ := (h.below hbw).idx Try.underlying33 szl_DEntry k hx
        obtain ⟨v_o, rfl, r_o⟩ := invM_DEntry h3
        have q0 := h2.zero
        have q1 := h2 1 _ rfl
        have q2 := h2 2 _ rfl
        have HS := Lib.hid hs
        clear hx
        by_cases hfit : ((GoS.sz x : Nat) : Int) ≤ left - l.length - szs (l.take k)
        · have hs2 : ((szs (l.take (k + 1)) : Nat) : Int) ≤ left - l.length := by omega
          clear hs
          go_wp2_with fail
          refine (szEntry_c x _ _ _ (by omega) (by omega) r_o).mono ?_
          rintro e w2 ⟨rfl, hb2⟩
          rw [less_pos hfit]
          have HBW : Hid (Below w.heap.size w w2) := hbw.trans (hb2.mono hbw.size)
          clear hb2 hbw
          go_wp2
          go_roundw
          case rel => exact ⟨k + 1, by omega, by go_num, hs2, by rw [HS.out]; go_num, HBW.out⟩
          case measure => simp [intOf]; omega
        · have HN : Hid (less left (szL l) = -1) := less_neg (by rw [E.out]; omega)
          clear hs
          go_wp2_with fail
          refine (szEntry_c x _ _ _ (by omega) (by omega) r_o).mono ?_
          rintro e w2 ⟨rfl, hb2⟩
          rw [less_neg (by omega)]
          have HBW : Hid (Below w.heap.size w w2) := hbw.trans (hb2.mono hbw.size)
          clear hb2 hbw
          go_wp2
          go_ret
          exact ⟨ret_int HN.out.symm, HBW.out⟩
      · obtain rfl : k = l.length := by omega
        go_wp2
        go_ret
        rw [List.take_length] at hc
        exact ⟨ret_int (by rw [less_pos (by rw [E.out]; omega), E.out, List.take_length]; omega), hbw⟩
  · rw [less_neg (by rw [E.out]; omega)]
    go_enter Try.func58, Try.ntmps58
    go_wp2
    go_ret
    exact ⟨rfl, Below.refl _ _⟩


end Go.Proofs.Ytihbmefidbmmdaa
