/- The measure that the laws take of their arguments. -/
import Derived.Test.YtfbkhaaijbhadaaSz1
namespace Go.Proofs.Ytfbkhaaijbhadaa
open Go.RowKit

set_option maxHeartbeats 1000000 in
theorem szDoc_c (x : DDoc) (v_text : Value) (v_list : Value) (v_seen : Value) (w : World) (left : Int) (g0 : 0 ≤ left) (g1 : left ≤ 1048576) (n_name : x.name.size ≤ maxLen) (h_text : RdSM maxLen w v_text x.text) (h_list : RdSM maxLen w v_list x.list) (h_seen : RdSM maxLen w v_seen x.seen) :
    Calls Try.prog 165 #[.agg #[.string x.name, .int .i64 x.from_, v_text, v_list, v_seen], .int .i64 left] w (Tells w (.int .i64 (less left (GoS.sz x)))) := by
  have E : GoS.sz x = x.name.size + szL x.text + szL x.list + szL x.seen := rfl
  unfold maxLen at n_name
  by_cases c0 : ((x.name.size : Nat) : Int) ≤ left
  · by_cases c1 : ((szL x.text : Nat) : Int) ≤ left - ((x.name.size : Nat) : Int)
    · by_cases c2 : ((szL x.list : Nat) : Int) ≤ left - ((x.name.size : Nat) : Int) - ((szL x.text : Nat) : Int)
      · by_cases c3 : ((szL x.seen : Nat) : Int) ≤ left - ((x.name.size : Nat) : Int) - ((szL x.text : Nat) : Int) - ((szL x.list : Nat) : Int)
        · rw [less_pos (show ((GoS.sz x : Nat) : Int) ≤ left by rw [E]; omega)]
          have E2 : left - (GoS.sz x : Int) = left - ((x.name.size : Nat) : Int) - ((szL x.text : Nat) : Int) - ((szL x.list : Nat) : Int) - ((szL x.seen : Nat) : Int) := by rw [E] <;> omega
          rw [E2]; clear E2 E
          go_enter Try.func165, Try.ntmps165
          go_wp2_with fail
          refine (szIntS_c2 _ _ _ _ (by omega) (by omega) (h_text.below (by repeat' (first | (with_reducible exact Below.refl _ _) | (with_reducible refine Below.setCell ?_ ?_ _) | (with_reducible refine Below.alloc ?_ ?_ _) | (with_reducible refine Below.drew ?_) | (with_reducible refine belowN ?_ _) | (with_reducible refine below_after ?_ (by assumption) ?_) | omega | (simp; done) | (simp; omega))))).mono ?_
          rintro e w1 ⟨rfl, hb1⟩
          rw [less_pos (by omega)]
          have s1 : w.heap.size + 1 ≤ w1.heap.size := by have := hb1.size; (try simp at this); omega
          obtain ⟨hc1, hf1⟩ := bcell hb1
          have z1_0 : w.heap.size < w1.heap.size := by omega
          go_wp2_with fail
          refine (szEntryS_c _ _ _ _ (by omega) (by omega) (h_list.below (by repeat' (first | (with_reducible exact Below.refl _ _) | (with_reducible refine Below.setCell ?_ ?_ _) | (with_reducible refine Below.alloc ?_ ?_ _) | (with_reducible refine Below.drew ?_) | (with_reducible refine belowN ?_ _) | (with_reducible refine below_after ?_ (by assumption) ?_) | omega | (simp; done) | (simp; omega))))).mono ?_
          rintro e w2 ⟨rfl, hb2⟩
          rw [less_pos (by omega)]
          have s2 : w1.heap.size ≤ w2.heap.size := by have := hb2.size; (try simp at this); omega
          obtain ⟨hc2, hf2⟩ := bcell hb2
          have z2_0 : w.heap.size < w2.heap.size := by omega
          go_wp2_with fail
          refine (szSeenS_c _ _ _ _ (by omega) (by omega) (h_seen.below (by repeat' (first | (with_reducible exact Below.refl _ _) | (with_reducible refine Below.setCell ?_ ?_ _) | (with_reducible refine Below.alloc ?_ ?_ _) | (with_reducible refine Below.drew ?_) | (with_reducible refine belowN ?_ _) | (with_reducible refine below_after ?_ (by assumption) ?_) | omega | (simp; done) | (simp; omega))))).mono ?_
          rintro e w3 ⟨rfl, hb3⟩
          rw [less_pos (by omega)]
          have s3 : w2.heap.size ≤ w3.heap.size := by have := hb3.size; (try simp at this); omega
          obtain ⟨hc3, hf3⟩ := bcell hb3
          have z3_0 : w.heap.size < w3.heap.size := by omega
          go_wp2
          go_ret
          exact ⟨ret_int (by first | rfl | omega), (by repeat' (first | (with_reducible exact Below.refl _ _) | (with_reducible refine Below.setCell ?_ ?_ _) | (with_reducible refine Below.alloc ?_ ?_ _) | (with_reducible refine Below.drew ?_) | (with_reducible refine belowN ?_ _) | (with_reducible refine below_after ?_ (by assumption) ?_) | omega | (simp; done) | (simp; omega)))⟩
        · rw [less_neg (show ¬ ((GoS.sz x : Nat) : Int) ≤ left by rw [E]; omega)]; clear E
          go_enter Try.func165, Try.ntmps165
          go_wp2_with fail
          refine (szIntS_c2 _ _ _ _ (by omega) (by omega) (h_text.below (by repeat' (first | (with_reducible exact Below.refl _ _) | (with_reducible refine Below.setCell ?_ ?_ _) | (with_reducible refine Below.alloc ?_ ?_ _) | (with_reducible refine Below.drew ?_) | (with_reducible refine belowN ?_ _) | (with_reducible refine below_after ?_ (by assumption) ?_) | omega | (simp; done) | (simp; omega))))).mono ?_
          rintro e w1 ⟨rfl, hb1⟩
          rw [less_pos (by omega)]
          have s1 : w.heap.size + 1 ≤ w1.heap.size := by have := hb1.size; (try simp at this); omega
          obtain ⟨hc1, hf1⟩ := bcell hb1
          have z1_0 : w.heap.size < w1.heap.size := by omega
          go_wp2_with fail
          refine (szEntryS_c _ _ _ _ (by omega) (by omega) (h_list.below (by repeat' (first | (with_reducible exact Below.refl _ _) | (with_reducible refine Below.setCell ?_ ?_ _) | (with_reducible refine Below.alloc ?_ ?_ _) | (with_reducible refine Below.drew ?_) | (with_reducible refine belowN ?_ _) | (with_reducible refine below_after ?_ (by assumption) ?_) | omega | (simp; done) | (simp; omega))))).mono ?_
          rintro e w2 ⟨rfl, hb2⟩
          rw [less_pos (by omega)]
          have s2 : w1.heap.size ≤ w2.heap.size := by have := hb2.size; (try simp at this); omega
          obtain ⟨hc2, hf2⟩ := bcell hb2
          have z2_0 : w.heap.size < w2.heap.size := by omega
          go_wp2_with fail
          refine (szSeenS_c _ _ _ _ (by omega) (by omega) (h_seen.below (by repeat' (first | (with_reducible exact Below.refl _ _) | (with_reducible refine Below.setCell ?_ ?_ _) | (with_reducible refine Below.alloc ?_ ?_ _) | (with_reducible refine Below.drew ?_) | (with_reducible refine belowN ?_ _) | (with_reducible refine below_after ?_ (by assumption) ?_) | omega | (simp; done) | (simp; omega))))).mono ?_
          rintro e w3 ⟨rfl, hb3⟩
          rw [less_neg (by omega)]
          have s3 : w2.heap.size ≤ w3.heap.size := by have := hb3.size; (try simp at this); omega
          obtain ⟨hc3, hf3⟩ := bcell hb3
          have z3_0 : w.heap.size < w3.heap.size := by omega
          go_wp2
          go_ret
          exact ⟨ret_int (by first | rfl | omega), (by repeat' (first | (with_reducible exact Below.refl _ _) | (with_reducible refine Below.setCell ?_ ?_ _) | (with_reducible refine Below.alloc ?_ ?_ _) | (with_reducible refine Below.drew ?_) | (with_reducible refine belowN ?_ _) | (with_reducible refine below_after ?_ (by assumption) ?_) | omega | (simp; done) | (simp; omega)))⟩
      · rw [less_neg (show ¬ ((GoS.sz x : Nat) : Int) ≤ left by rw [E]; omega)]; clear E
        go_enter Try.func165, Try.ntmps165
        go_wp2_with fail
        refine (szIntS_c2 _ _ _ _ (by omega) (by omega) (h_text.below (by repeat' (first | (with_reducible exact Below.refl _ _) | (with_reducible refine Below.setCell ?_ ?_ _) | (with_reducible refine Below.alloc ?_ ?_ _) | (with_reducible refine Below.drew ?_) | (with_reducible refine belowN ?_ _) | (with_reducible refine below_after ?_ (by assumption) ?_) | omega | (simp; done) | (simp; omega))))).mono ?_
        rintro e w1 ⟨rfl, hb1⟩
        rw [less_pos (by omega)]
        have s1 : w.heap.size + 1 ≤ w1.heap.size := by have := hb1.size; (try simp at this); omega
        obtain ⟨hc1, hf1⟩ := bcell hb1
        have z1_0 : w.heap.size < w1.heap.size := by omega
        go_wp2_with fail
        refine (szEntryS_c _ _ _ _ (by omega) (by omega) (h_list.below (by repeat' (first | (with_reducible exact Below.refl _ _) | (with_reducible refine Below.setCell ?_ ?_ _) | (with_reducible refine Below.alloc ?_ ?_ _) | (with_reducible refine Below.drew ?_) | (with_reducible refine belowN ?_ _) | (with_reducible refine below_after ?_ (by assumption) ?_) | omega | (simp; done) | (simp; omega))))).mono ?_
        rintro e w2 ⟨rfl, hb2⟩
        rw [less_neg (by omega)]
        have s2 : w1.heap.size ≤ w2.heap.size := by have := hb2.size; (try simp at this); omega
        obtain ⟨hc2, hf2⟩ := bcell hb2
        have z2_0 : w.heap.size < w2.heap.size := by omega
        go_wp2
        go_ret
        exact ⟨ret_int (by first | rfl | omega), (by repeat' (first | (with_reducible exact Below.refl _ _) | (with_reducible refine Below.setCell ?_ ?_ _) | (with_reducible refine Below.alloc ?_ ?_ _) | (with_reducible refine Below.drew ?_) | (with_reducible refine belowN ?_ _) | (with_reducible refine below_after ?_ (by assumption) ?_) | omega | (simp; done) | (simp; omega)))⟩
    · rw [less_neg (show ¬ ((GoS.sz x : Nat) : Int) ≤ left by rw [E]; omega)]; clear E
      go_enter Try.func165, Try.ntmps165
      go_wp2_with fail
      refine (szIntS_c2 _ _ _ _ (by omega) (by omega) (h_text.below (by repeat' (first | (with_reducible exact Below.refl _ _) | (with_reducible refine Below.setCell ?_ ?_ _) | (with_reducible refine Below.alloc ?_ ?_ _) | (with_reducible refine Below.drew ?_) | (with_reducible refine belowN ?_ _) | (with_reducible refine below_after ?_ (by assumption) ?_) | omega | (simp; done) | (simp; omega))))).mono ?_
      rintro e w1 ⟨rfl, hb1⟩
      rw [less_neg (by omega)]
      have s1 : w.heap.size + 1 ≤ w1.heap.size := by have := hb1.size; (try simp at this); omega
      obtain ⟨hc1, hf1⟩ := bcell hb1
      have z1_0 : w.heap.size < w1.heap.size := by omega
      go_wp2
      go_ret
      exact ⟨ret_int (by first | rfl | omega), (by repeat' (first | (with_reducible exact Below.refl _ _) | (with_reducible refine Below.setCell ?_ ?_ _) | (with_reducible refine Below.alloc ?_ ?_ _) | (with_reducible refine Below.drew ?_) | (with_reducible refine belowN ?_ _) | (with_reducible refine below_after ?_ (by assumption) ?_) | omega | (simp; done) | (simp; omega)))⟩
  · rw [less_neg (show ¬ ((GoS.sz x : Nat) : Int) ≤ left by rw [E]; omega)]; clear E
    go_enter Try.func165, Try.ntmps165
    go_wp2
    go_ret
    exact ⟨ret_int (by first | rfl | omega), (by repeat' (first | (with_reducible exact Below.refl _ _) | (with_reducible refine Below.setCell ?_ ?_ _) | (with_reducible refine Below.alloc ?_ ?_ _) | (with_reducible refine Below.drew ?_) | (with_reducible refine belowN ?_ _) | (with_reducible refine below_after ?_ (by assumption) ?_) | omega | (simp; done) | (simp; omega)))⟩

set_option maxHeartbeats 1000000 in
theorem szDocS_c (v : Value) (l : List DDoc) (w : World) (left : Int) (g0 : 0 ≤ left) (g1 : left ≤ 1048576) (h : RdSM maxLen w v l) :
    Calls Try.prog 130 #[v, .int .i64 left] w (Tells w (.int .i64 (less left (szL l)))) := by
  have hl := fun w1 ty => h.len Try.underlying75 w1 ty
  have hb := h.le
  have E := Lib.hid (show szL l = l.length + szs l from rfl)
  by_cases hle : (l.length : Int) ≤ left
  · go_enter Try.func130, Try.ntmps130
    go_wp2
    go_loopw [1, 5] (fun c i wr => ∃ k : Nat, k ≤ l.length ∧ i = .int .i64 k ∧ ((szs (l.take k) : Nat) : Int) ≤ left - l.length ∧ c = .int .i64 (left - l.length - szs (l.take k)) ∧ Below w.heap.size w wr) (fun _ i _ => l.length - (intOf i).toNat)
    case atStart => exact ⟨0, Nat.zero_le _, rfl, by simp [szs]; omega, by simp [szs], Below.refl _ _⟩
    case round =>
      obtain ⟨k, hk, rfl, hc, rfl, hbw⟩ := hrel
      by_cases hlt : k < l.length
      · obtain ⟨x, hx⟩ := get_some hlt
        have hs := szs_take_succ hx
        have hsl := szs_take_le l (k + 1)
        obtain ⟨b1, o1, cs, h1, h2, h3⟩ := (h.below hbw).idx Try.underlying75 szl_DDoc k hx
        obtain ⟨v_text, v_list, v_seen, rfl, n_name, r_text, r_list, r_seen⟩ := invM_DDoc h3
        have q0 := h2.zero
        have q1 := h2 1 _ rfl
        have q2 := h2 2 _ rfl
        have q3 := h2 3 _ rfl
        have q4 := h2 4 _ rfl
        have HS := Lib.hid hs
        clear hx
        by_cases hfit : ((GoS.sz x : Nat) : Int) ≤ left - l.length - szs (l.take k)
        · have hs2 : ((szs (l.take (k + 1)) : Nat) : Int) ≤ left - l.length := by omega
          clear hs
          go_wp2_with fail
          refine (szDoc_c x _ _ _ _ _ (by omega) (by omega) n_name r_text r_list r_seen).mono ?_
          rintro e w2 ⟨rfl, hb2⟩
          rw [less_pos hfit]
          have HBW : Hid (Below w.heap.size w w2) := hbw.trans (hb2.mono hbw.size)
          clear hb2 hbw
          go_wp2
          go_roundw
          case rel => exact ⟨k + 1, by omega, by go_num, hs2, by rw [HS.out]; go_num, HBW.out⟩
          case measure => simp [intOf]; omega
        · have HN : Hid (less left (szL l) = -1) := less_neg (by rw [E.out]; omega)
          clear hs
          go_wp2_with fail
          refine (szDoc_c x _ _ _ _ _ (by omega) (by omega) n_name r_text r_list r_seen).mono ?_
          rintro e w2 ⟨rfl, hb2⟩
          rw [less_neg (by omega)]
          have HBW : Hid (Below w.heap.size w w2) := hbw.trans (hb2.mono hbw.size)
          clear hb2 hbw
          go_wp2
          go_ret
          exact ⟨ret_int HN.out.symm, HBW.out⟩
      · obtain rfl : k = l.length := by omega
        go_wp2
        go_ret
        rw [List.take_length] at hc
        exact ⟨ret_int (by rw [less_pos (by rw [E.out]; omega), E.out, List.take_length]; omega), hbw⟩
  · rw [less_neg (by rw [E.out]; omega)]
    go_enter Try.func130, Try.ntmps130
    go_wp2
    go_ret
    exact ⟨rfl, Below.refl _ _⟩

set_option maxHeartbeats 1000000 in
theorem szRing_c (x : DRing) (v_list : Value) (w : World) (left : Int) (g0 : 0 ≤ left) (g1 : left ≤ 1048576)  (h_list : RdSM maxLen w v_list x.list) :
    Calls Try.prog 18 #[.agg #[.int .i64 x.cap, .int .i64 x.next, .bool x.out, v_list], .int .i64 left] w (Tells w (.int .i64 (less left (GoS.sz x)))) := by
  have E : GoS.sz x = szL x.list := rfl
  by_cases c0 : ((szL x.list : Nat) : Int) ≤ left
  · rw [less_pos (show ((GoS.sz x : Nat) : Int) ≤ left by rw [E]; omega)]
    have E2 : left - (GoS.sz x : Int) = left - ((szL x.list : Nat) : Int) := by rw [E] <;> omega
    rw [E2]; clear E2 E
    go_enter Try.func18, Try.ntmps18
    go_wp2_with fail
    refine (szEntryS_c _ _ _ _ (by omega) (by omega) (h_list.below (by repeat' (first | (with_reducible exact Below.refl _ _) | (with_reducible refine Below.setCell ?_ ?_ _) | (with_reducible refine Below.alloc ?_ ?_ _) | (with_reducible refine Below.drew ?_) | (with_reducible refine belowN ?_ _) | (with_reducible refine below_after ?_ (by assumption) ?_) | omega | (simp; done) | (simp; omega))))).mono ?_
    rintro e w1 ⟨rfl, hb1⟩
    rw [less_pos (by omega)]
    have s1 : w.heap.size + 1 ≤ w1.heap.size := by have := hb1.size; (try simp at this); omega
    obtain ⟨hc1, hf1⟩ := bcell hb1
    have z1_0 : w.heap.size < w1.heap.size := by omega
    go_wp2
    go_ret
    exact ⟨ret_int (by first | rfl | omega), (by repeat' (first | (with_reducible exact Below.refl _ _) | (with_reducible refine Below.setCell ?_ ?_ _) | (with_reducible refine Below.alloc ?_ ?_ _) | (with_reducible refine Below.drew ?_) | (with_reducible refine belowN ?_ _) | (with_reducible refine below_after ?_ (by assumption) ?_) | omega | (simp; done) | (simp; omega)))⟩
  · rw [less_neg (show ¬ ((GoS.sz x : Nat) : Int) ≤ left by rw [E]; omega)]; clear E
    go_enter Try.func18, Try.ntmps18
    go_wp2_with fail
    refine (szEntryS_c _ _ _ _ (by omega) (by omega) (h_list.below (by repeat' (first | (with_reducible exact Below.refl _ _) | (with_reducible refine Below.setCell ?_ ?_ _) | (with_reducible refine Below.alloc ?_ ?_ _) | (with_reducible refine Below.drew ?_) | (with_reducible refine belowN ?_ _) | (with_reducible refine below_after ?_ (by assumption) ?_) | omega | (simp; done) | (simp; omega))))).mono ?_
    rintro e w1 ⟨rfl, hb1⟩
    rw [less_neg (by omega)]
    have s1 : w.heap.size + 1 ≤ w1.heap.size := by have := hb1.size; (try simp at this); omega
    obtain ⟨hc1, hf1⟩ := bcell hb1
    have z1_0 : w.heap.size < w1.heap.size := by omega
    go_wp2
    go_ret
    exact ⟨ret_int (by first | rfl | omega), (by repeat' (first | (with_reducible exact Below.refl _ _) | (with_reducible refine Below.setCell ?_ ?_ _) | (with_reducible refine Below.alloc ?_ ?_ _) | (with_reducible refine Below.drew ?_) | (with_reducible refine belowN ?_ _) | (with_reducible refine below_after ?_ (by assumption) ?_) | omega | (simp; done) | (simp; omega)))⟩

set_option maxHeartbeats 1000000 in
theorem szSub_c (x : DSub) (v_r_list : Value) (w : World) (left : Int) (g0 : 0 ≤ left) (g1 : left ≤ 1048576) (n_doc : x.doc.size ≤ maxLen) (h_r_list : RdSM maxLen w v_r_list x.r.list) :
    Calls Try.prog 166 #[.agg #[.int .i64 x.id, .string x.doc, .int .i64 x.r.cap, .int .i64 x.r.next, .bool x.r.out, v_r_list], .int .i64 left] w (Tells w (.int .i64 (less left (GoS.sz x)))) := by
  have E : GoS.sz x = x.doc.size + GoS.sz x.r := rfl
  unfold maxLen at n_doc
  by_cases c0 : ((x.doc.size : Nat) : Int) ≤ left
  · by_cases c1 : ((GoS.sz x.r : Nat) : Int) ≤ left - ((x.doc.size : Nat) : Int)
    · rw [less_pos (show ((GoS.sz x : Nat) : Int) ≤ left by rw [E]; omega)]
      have E2 : left - (GoS.sz x : Int) = left - ((x.doc.size : Nat) : Int) - ((GoS.sz x.r : Nat) : Int) := by rw [E] <;> omega
      rw [E2]; clear E2 E
      go_enter Try.func166, Try.ntmps166
      go_wp2_with fail
      refine (szRing_c x.r _ _ _ (by omega) (by omega)  (h_r_list.below (by repeat' (first | (with_reducible exact Below.refl _ _) | (with_reducible refine Below.setCell ?_ ?_ _) | (with_reducible refine Below.alloc ?_ ?_ _) | (with_reducible refine Below.drew ?_) | (with_reducible refine belowN ?_ _) | (with_reducible refine below_after ?_ (by assumption) ?_) | omega | (simp; done) | (simp; omega))))).mono ?_
      rintro e w1 ⟨rfl, hb1⟩
      rw [less_pos (by omega)]
      have s1 : w.heap.size + 1 ≤ w1.heap.size := by have := hb1.size; (try simp at this); omega
      obtain ⟨hc1, hf1⟩ := bcell hb1
      have z1_0 : w.heap.size < w1.heap.size := by omega
      go_wp2
      go_ret
      exact ⟨ret_int (by first | rfl | omega), (by repeat' (first | (with_reducible exact Below.refl _ _) | (with_reducible refine Below.setCell ?_ ?_ _) | (with_reducible refine Below.alloc ?_ ?_ _) | (with_reducible refine Below.drew ?_) | (with_reducible refine belowN ?_ _) | (with_reducible refine below_after ?_ (by assumption) ?_) | omega | (simp; done) | (simp; omega)))⟩
    · rw [less_neg (show ¬ ((GoS.sz x : Nat) : Int) ≤ left by rw [E]; omega)]; clear E
      go_enter Try.func166, Try.ntmps166
      go_wp2_with fail
      refine (szRing_c x.r _ _ _ (by omega) (by omega)  (h_r_list.below (by repeat' (first | (with_reducible exact Below.refl _ _) | (with_reducible refine Below.setCell ?_ ?_ _) | (with_reducible refine Below.alloc ?_ ?_ _) | (with_reducible refine Below.drew ?_) | (with_reducible refine belowN ?_ _) | (with_reducible refine below_after ?_ (by assumption) ?_) | omega | (simp; done) | (simp; omega))))).mono ?_
      rintro e w1 ⟨rfl, hb1⟩
      rw [less_neg (by omega)]
      have s1 : w.heap.size + 1 ≤ w1.heap.size := by have := hb1.size; (try simp at this); omega
      obtain ⟨hc1, hf1⟩ := bcell hb1
      have z1_0 : w.heap.size < w1.heap.size := by omega
      go_wp2
      go_ret
      exact ⟨ret_int (by first | rfl | omega), (by repeat' (first | (with_reducible exact Below.refl _ _) | (with_reducible refine Below.setCell ?_ ?_ _) | (with_reducible refine Below.alloc ?_ ?_ _) | (with_reducible refine Below.drew ?_) | (with_reducible refine belowN ?_ _) | (with_reducible refine below_after ?_ (by assumption) ?_) | omega | (simp; done) | (simp; omega)))⟩
  · rw [less_neg (show ¬ ((GoS.sz x : Nat) : Int) ≤ left by rw [E]; omega)]; clear E
    go_enter Try.func166, Try.ntmps166
    go_wp2
    go_ret
    exact ⟨ret_int (by first | rfl | omega), (by repeat' (first | (with_reducible exact Below.refl _ _) | (with_reducible refine Below.setCell ?_ ?_ _) | (with_reducible refine Below.alloc ?_ ?_ _) | (with_reducible refine Below.drew ?_) | (with_reducible refine belowN ?_ _) | (with_reducible refine below_after ?_ (by assumption) ?_) | omega | (simp; done) | (simp; omega)))⟩

set_option maxHeartbeats 1000000 in
theorem szSubS_c (v : Value) (l : List DSub) (w : World) (left : Int) (g0 : 0 ≤ left) (g1 : left ≤ 1048576) (h : RdSM maxLen w v l) :
    Calls Try.prog 131 #[v, .int .i64 left] w (Tells w (.int .i64 (less left (szL l)))) := by
  have hl := fun w1 ty => h.len Try.underlying76 w1 ty
  have hb := h.le
  have E := Lib.hid (show szL l = l.length + szs l from rfl)
  by_cases hle : (l.length : Int) ≤ left
  · go_enter Try.func131, Try.ntmps131
    go_wp2
    go_loopw [1, 5] (fun c i wr => ∃ k : Nat, k ≤ l.length ∧ i = .int .i64 k ∧ ((szs (l.take k) : Nat) : Int) ≤ left - l.length ∧ c = .int .i64 (left - l.length - szs (l.take k)) ∧ Below w.heap.size w wr) (fun _ i _ => l.length - (intOf i).toNat)
    case atStart => exact ⟨0, Nat.zero_le _, rfl, by simp [szs]; omega, by simp [szs], Below.refl _ _⟩
    case round =>
      obtain ⟨k, hk, rfl, hc, rfl, hbw⟩ := hrel
      by_cases hlt : k < l.length
      · obtain ⟨x, hx⟩ := get_some hlt
        have hs := szs_take_succ hx
        have hsl := szs_take_le l (k + 1)
        obtain ⟨b1, o1, cs, h1, h2, h3⟩ := (h.below hbw).idx Try.underlying76 szl_DSub k hx
        obtain ⟨v_r_list, rfl, n_doc, r_r_list⟩ := invM_DSub h3
        have q0 := h2.zero
        have q1 := h2 1 _ rfl
        have q2 := h2 2 _ rfl
        have q3 := h2 3 _ rfl
        have q4 := h2 4 _ rfl
        have q5 := h2 5 _ rfl
        have HS := Lib.hid hs
        clear hx
        by_cases hfit : ((GoS.sz x : Nat) : Int) ≤ left - l.length - szs (l.take k)
        · have hs2 : ((szs (l.take (k + 1)) : Nat) : Int) ≤ left - l.length := by omega
          clear hs
          go_wp2_with fail
          refine (szSub_c x _ _ _ (by omega) (by omega) n_doc r_r_list).mono ?_
          rintro e w2 ⟨rfl, hb2⟩
          rw [less_pos hfit]
          have HBW : Hid (Below w.heap.size w w2) := hbw.trans (hb2.mono hbw.size)
          clear hb2 hbw
          go_wp2
          go_roundw
          case rel => exact ⟨k + 1, by omega, by go_num, hs2, by rw [HS.out]; go_num, HBW.out⟩
          case measure => simp [intOf]; omega
        · have HN : Hid (less left (szL l) = -1) := less_neg (by rw [E.out]; omega)
          clear hs
          go_wp2_with fail
          refine (szSub_c x _ _ _ (by omega) (by omega) n_doc r_r_list).mono ?_
          rintro e w2 ⟨rfl, hb2⟩
          rw [less_neg (by omega)]
          have HBW : Hid (Below w.heap.size w w2) := hbw.trans (hb2.mono hbw.size)
          clear hb2 hbw
          go_wp2
          go_ret
          exact ⟨ret_int HN.out.symm, HBW.out⟩
      · obtain rfl : k = l.length := by omega
        go_wp2
        go_ret
        rw [List.take_length] at hc
        exact ⟨ret_int (by rw [less_pos (by rw [E.out]; omega), E.out, List.take_length]; omega), hbw⟩
  · rw [less_neg (by rw [E.out]; omega)]
    go_enter Try.func131, Try.ntmps131
    go_wp2
    go_ret
    exact ⟨rfl, Below.refl _ _⟩

end Go.Proofs.Ytfbkhaaijbhadaa
