/- The measure that the laws take of their arguments. -/
import Derived.Test.YtfbkhaaijbhadaaSz3
import Derived.Test.YtfbkhaaijbhadaaTo4
namespace Go.Proofs.Ytfbkhaaijbhadaa
open Go.RowKit

set_option maxHeartbeats 1000000 in
theorem szTask_c (x : DTask) (v_c_o : Value) (v_c_text : Value) (v_a_text : Value) (v_a_list : Value) (w : World) (left : Int) (g0 : 0 ≤ left) (g1 : left ≤ 1048576) (n_c_doc : x.c.doc.size ≤ maxLen) (h_c_o : RdSM maxLen w v_c_o x.c.o) (h_c_text : RdSM maxLen w v_c_text x.c.text) (h_a_text : RdSM maxLen w v_a_text x.a.text) (h_a_list : RdSM maxLen w v_a_list x.a.list) :
    Calls Try.prog 27 #[.agg #[.int .i64 x.c.kind, .string x.c.doc, .int .i64 x.c.client, .int .i64 x.c.seq, .int .i64 x.c.n, v_c_o, v_c_text, .int .i64 x.pc, .int .i64 x.inv, .int .i64 x.lin, .int .i64 x.res, .int .i64 x.a.code, .int .i64 x.a.rev, v_a_text, v_a_list], .int .i64 left] w (Tells w (.int .i64 (less left (GoS.sz x)))) := by
  have E : GoS.sz x = GoS.sz x.c + GoS.sz x.a := rfl
  unfold maxLen at n_c_doc
  by_cases c0 : ((GoS.sz x.c : Nat) : Int) ≤ left
  · by_cases c1 : ((GoS.sz x.a : Nat) : Int) ≤ left - ((GoS.sz x.c : Nat) : Int)
    · rw [less_pos (show ((GoS.sz x : Nat) : Int) ≤ left by rw [E]; omega)]
      have E2 : left - (GoS.sz x : Int) = left - ((GoS.sz x.c : Nat) : Int) - ((GoS.sz x.a : Nat) : Int) := by rw [E] <;> omega
      rw [E2]; clear E2 E
      go_enter Try.func27, Try.ntmps27
      go_wp2_with fail
      refine (szCall_c x.c _ _ _ _ (by omega) (by omega) n_c_doc (h_c_o.below (by repeat' (first | (with_reducible exact Below.refl _ _) | (with_reducible assumption) | (with_reducible refine Below.setCell ?_ ?_ _) | (with_reducible refine Below.alloc ?_ ?_ _) | (with_reducible refine Below.drew ?_) | (with_reducible refine belowN ?_ _) | (with_reducible refine below_after ?_ (by assumption) ?_) | omega | (simp; done) | (simp; omega)))) (h_c_text.below (by repeat' (first | (with_reducible exact Below.refl _ _) | (with_reducible assumption) | (with_reducible refine Below.setCell ?_ ?_ _) | (with_reducible refine Below.alloc ?_ ?_ _) | (with_reducible refine Below.drew ?_) | (with_reducible refine belowN ?_ _) | (with_reducible refine below_after ?_ (by assumption) ?_) | omega | (simp; done) | (simp; omega))))).mono ?_
      rintro e w1 ⟨rfl, hb1⟩
      rw [less_pos (by omega)]
      have s1 : w.heap.size + 1 ≤ w1.heap.size := by have := hb1.size; (try simp at this); omega
      obtain ⟨hc1, hf1⟩ := bcell hb1
      have z1_0 : w.heap.size < w1.heap.size := by omega
      go_wp2_with fail
      refine (szAnswer_c x.a _ _ _ _ (by omega) (by omega)  (h_a_text.below (by repeat' (first | (with_reducible exact Below.refl _ _) | (with_reducible assumption) | (with_reducible refine Below.setCell ?_ ?_ _) | (with_reducible refine Below.alloc ?_ ?_ _) | (with_reducible refine Below.drew ?_) | (with_reducible refine belowN ?_ _) | (with_reducible refine below_after ?_ (by assumption) ?_) | omega | (simp; done) | (simp; omega)))) (h_a_list.below (by repeat' (first | (with_reducible exact Below.refl _ _) | (with_reducible assumption) | (with_reducible refine Below.setCell ?_ ?_ _) | (with_reducible refine Below.alloc ?_ ?_ _) | (with_reducible refine Below.drew ?_) | (with_reducible refine belowN ?_ _) | (with_reducible refine below_after ?_ (by assumption) ?_) | omega | (simp; done) | (simp; omega))))).mono ?_
      rintro e w2 ⟨rfl, hb2⟩
      rw [less_pos (by omega)]
      have s2 : w1.heap.size ≤ w2.heap.size := by have := hb2.size; (try simp at this); omega
      obtain ⟨hc2, hf2⟩ := bcell hb2
      have z2_0 : w.heap.size < w2.heap.size := by omega
      go_wp2
      go_ret
      exact ⟨ret_int (by first | rfl | omega), (by repeat' (first | (with_reducible exact Below.refl _ _) | (with_reducible assumption) | (with_reducible refine Below.setCell ?_ ?_ _) | (with_reducible refine Below.alloc ?_ ?_ _) | (with_reducible refine Below.drew ?_) | (with_reducible refine belowN ?_ _) | (with_reducible refine below_after ?_ (by assumption) ?_) | omega | (simp; done) | (simp; omega)))⟩
    · rw [less_neg (show ¬ ((GoS.sz x : Nat) : Int) ≤ left by rw [E]; omega)]; clear E
      go_enter Try.func27, Try.ntmps27
      go_wp2_with fail
      refine (szCall_c x.c _ _ _ _ (by omega) (by omega) n_c_doc (h_c_o.below (by repeat' (first | (with_reducible exact Below.refl _ _) | (with_reducible assumption) | (with_reducible refine Below.setCell ?_ ?_ _) | (with_reducible refine Below.alloc ?_ ?_ _) | (with_reducible refine Below.drew ?_) | (with_reducible refine belowN ?_ _) | (with_reducible refine below_after ?_ (by assumption) ?_) | omega | (simp; done) | (simp; omega)))) (h_c_text.below (by repeat' (first | (with_reducible exact Below.refl _ _) | (with_reducible assumption) | (with_reducible refine Below.setCell ?_ ?_ _) | (with_reducible refine Below.alloc ?_ ?_ _) | (with_reducible refine Below.drew ?_) | (with_reducible refine belowN ?_ _) | (with_reducible refine below_after ?_ (by assumption) ?_) | omega | (simp; done) | (simp; omega))))).mono ?_
      rintro e w1 ⟨rfl, hb1⟩
      rw [less_pos (by omega)]
      have s1 : w.heap.size + 1 ≤ w1.heap.size := by have := hb1.size; (try simp at this); omega
      obtain ⟨hc1, hf1⟩ := bcell hb1
      have z1_0 : w.heap.size < w1.heap.size := by omega
      go_wp2_with fail
      refine (szAnswer_c x.a _ _ _ _ (by omega) (by omega)  (h_a_text.below (by repeat' (first | (with_reducible exact Below.refl _ _) | (with_reducible assumption) | (with_reducible refine Below.setCell ?_ ?_ _) | (with_reducible refine Below.alloc ?_ ?_ _) | (with_reducible refine Below.drew ?_) | (with_reducible refine belowN ?_ _) | (with_reducible refine below_after ?_ (by assumption) ?_) | omega | (simp; done) | (simp; omega)))) (h_a_list.below (by repeat' (first | (with_reducible exact Below.refl _ _) | (with_reducible assumption) | (with_reducible refine Below.setCell ?_ ?_ _) | (with_reducible refine Below.alloc ?_ ?_ _) | (with_reducible refine Below.drew ?_) | (with_reducible refine belowN ?_ _) | (with_reducible refine below_after ?_ (by assumption) ?_) | omega | (simp; done) | (simp; omega))))).mono ?_
      rintro e w2 ⟨rfl, hb2⟩
      rw [less_neg (by omega)]
      have s2 : w1.heap.size ≤ w2.heap.size := by have := hb2.size; (try simp at this); omega
      obtain ⟨hc2, hf2⟩ := bcell hb2
      have z2_0 : w.heap.size < w2.heap.size := by omega
      go_wp2
      go_ret
      exact ⟨ret_int (by first | rfl | omega), (by repeat' (first | (with_reducible exact Below.refl _ _) | (with_reducible assumption) | (with_reducible refine Below.setCell ?_ ?_ _) | (with_reducible refine Below.alloc ?_ ?_ _) | (with_reducible refine Below.drew ?_) | (with_reducible refine belowN ?_ _) | (with_reducible refine below_after ?_ (by assumption) ?_) | omega | (simp; done) | (simp; omega)))⟩
  · rw [less_neg (show ¬ ((GoS.sz x : Nat) : Int) ≤ left by rw [E]; omega)]; clear E
    go_enter Try.func27, Try.ntmps27
    go_wp2_with fail
    refine (szCall_c x.c _ _ _ _ (by omega) (by omega) n_c_doc (h_c_o.below (by repeat' (first | (with_reducible exact Below.refl _ _) | (with_reducible assumption) | (with_reducible refine Below.setCell ?_ ?_ _) | (with_reducible refine Below.alloc ?_ ?_ _) | (with_reducible refine Below.drew ?_) | (with_reducible refine belowN ?_ _) | (with_reducible refine below_after ?_ (by assumption) ?_) | omega | (simp; done) | (simp; omega)))) (h_c_text.below (by repeat' (first | (with_reducible exact Below.refl _ _) | (with_reducible assumption) | (with_reducible refine Below.setCell ?_ ?_ _) | (with_reducible refine Below.alloc ?_ ?_ _) | (with_reducible refine Below.drew ?_) | (with_reducible refine belowN ?_ _) | (with_reducible refine below_after ?_ (by assumption) ?_) | omega | (simp; done) | (simp; omega))))).mono ?_
    rintro e w1 ⟨rfl, hb1⟩
    rw [less_neg (by omega)]
    have s1 : w.heap.size + 1 ≤ w1.heap.size := by have := hb1.size; (try simp at this); omega
    obtain ⟨hc1, hf1⟩ := bcell hb1
    have z1_0 : w.heap.size < w1.heap.size := by omega
    go_wp2
    go_ret
    exact ⟨ret_int (by first | rfl | omega), (by repeat' (first | (with_reducible exact Below.refl _ _) | (with_reducible assumption) | (with_reducible refine Below.setCell ?_ ?_ _) | (with_reducible refine Below.alloc ?_ ?_ _) | (with_reducible refine Below.drew ?_) | (with_reducible refine belowN ?_ _) | (with_reducible refine below_after ?_ (by assumption) ?_) | omega | (simp; done) | (simp; omega)))⟩

set_option maxHeartbeats 1000000 in
theorem szTaskS_c (v : Value) (l : List DTask) (w : World) (left : Int) (g0 : 0 ≤ left) (g1 : left ≤ 1048576) (h : RdSM maxLen w v l) :
    Calls Try.prog 85 #[v, .int .i64 left] w (Tells w (.int .i64 (less left (szL l)))) := by
  have hl := fun w1 ty => h.len Try.underlying80 w1 ty
  have hb := h.le
  have E := Lib.hid (show szL l = l.length + szs l from rfl)
  by_cases hle : (l.length : Int) ≤ left
  · go_enter Try.func85, Try.ntmps85
    go_wp2
    go_loopw [1, 5] (fun c i wr => ∃ k : Nat, k ≤ l.length ∧ i = .int .i64 k ∧ ((szs (l.take k) : Nat) : Int) ≤ left - l.length ∧ c = .int .i64 (left - l.length - szs (l.take k)) ∧ Below w.heap.size w wr) (fun _ i _ => l.length - (intOf i).toNat)
    case atStart => exact ⟨0, Nat.zero_le _, rfl, by simp [szs]; omega, by simp [szs], Below.refl _ _⟩
    case round =>
      obtain ⟨k, hk, rfl, hc, rfl, hbw⟩ := hrel
      by_cases hlt : k < l.length
      · obtain ⟨x, hx⟩ := get_some hlt
        have hs := szs_take_succ hx
        have hsl := szs_take_le l (k + 1)
        obtain ⟨b1, o1, cs, h1, h2, h3⟩ := (h.below hbw).idx Try.underlying80 szl_DTask k hx
        obtain ⟨v_c_o, v_c_text, v_a_text, v_a_list, rfl, n_c_doc, r_c_o, r_c_text, r_a_text, r_a_list⟩ := invM_DTask h3
        have q0 := h2.zero
        have q1 := h2 1 _ rfl
        have q2 := h2 2 _ rfl
        have q3 := h2 3 _ rfl
        have q4 := h2 4 _ rfl
        have q5 := h2 5 _ rfl
        have q6 := h2 6 _ rfl
        have q7 := h2 7 _ rfl
        have q8 := h2 8 _ rfl
        have q9 := h2 9 _ rfl
        have q10 := h2 10 _ rfl
        have q11 := h2 11 _ rfl
        have q12 := h2 12 _ rfl
        have q13 := h2 13 _ rfl
        have q14 := h2 14 _ rfl
        have HS := Lib.hid hs
        clear hx
        by_cases hfit : ((GoS.sz x : Nat) : Int) ≤ left - l.length - szs (l.take k)
        · have hs2 : ((szs (l.take (k + 1)) : Nat) : Int) ≤ left - l.length := by omega
          clear hs
          go_wp2_with fail
          refine (szTask_c x _ _ _ _ _ _ (by omega) (by omega) n_c_doc r_c_o r_c_text r_a_text r_a_list).mono ?_
          rintro e w2 ⟨rfl, hb2⟩
          rw [less_pos hfit]
          have HBW : Hid (Below w.heap.size w w2) := hbw.trans (hb2.mono hbw.size)
          clear hb2 hbw
          go_wp2
          go_roundw
          case rel => exact ⟨k + 1, by omega, by go_num, hs2, by rw [HS.out]; go_num, HBW.out⟩
          case measure => simp [intOf]; omega
        · have HN : Hid (less left (szL l) = -1) := less_neg (by rw [E.out]; omega)
          clear hs
          go_wp2_with fail
          refine (szTask_c x _ _ _ _ _ _ (by omega) (by omega) n_c_doc r_c_o r_c_text r_a_text r_a_list).mono ?_
          rintro e w2 ⟨rfl, hb2⟩
          rw [less_neg (by omega)]
          have HBW : Hid (Below w.heap.size w w2) := hbw.trans (hb2.mono hbw.size)
          clear hb2 hbw
          go_wp2
          go_ret
          exact ⟨ret_int HN.out.symm, HBW.out⟩
      · obtain rfl : k = l.length := by omega
        go_wp2
        go_ret
        rw [List.take_length] at hc
        exact ⟨ret_int (by rw [less_pos (by rw [E.out]; omega), E.out, List.take_length]; omega), hbw⟩
  · rw [less_neg (by rw [E.out]; omega)]
    go_enter Try.func85, Try.ntmps85
    go_wp2
    go_ret
    exact ⟨rfl, Below.refl _ _⟩

set_option maxHeartbeats 1000000 in
theorem szQueue_c (x : DQueue) (v_list : Value) (w : World) (left : Int) (g0 : 0 ≤ left) (g1 : left ≤ 1048576) (n_doc : x.doc.size ≤ maxLen) (h_list : RdSM maxLen w v_list x.list) :
    Calls Try.prog 132 #[.agg #[.string x.doc, v_list], .int .i64 left] w (Tells w (.int .i64 (less left (GoS.sz x)))) := by
  have E : GoS.sz x = x.doc.size + szL x.list := rfl
  unfold maxLen at n_doc
  by_cases c0 : ((x.doc.size : Nat) : Int) ≤ left
  · by_cases c1 : ((szL x.list : Nat) : Int) ≤ left - ((x.doc.size : Nat) : Int)
    · rw [less_pos (show ((GoS.sz x : Nat) : Int) ≤ left by rw [E]; omega)]
      have E2 : left - (GoS.sz x : Int) = left - ((x.doc.size : Nat) : Int) - ((szL x.list : Nat) : Int) := by rw [E] <;> omega
      rw [E2]; clear E2 E
      go_enter Try.func132, Try.ntmps132
      go_wp2_with fail
      refine (szIntS_c2 _ _ _ _ (by omega) (by omega) (h_list.below (by repeat' (first | (with_reducible exact Below.refl _ _) | (with_reducible assumption) | (with_reducible refine Below.setCell ?_ ?_ _) | (with_reducible refine Below.alloc ?_ ?_ _) | (with_reducible refine Below.drew ?_) | (with_reducible refine belowN ?_ _) | (with_reducible refine below_after ?_ (by assumption) ?_) | omega | (simp; done) | (simp; omega))))).mono ?_
      rintro e w1 ⟨rfl, hb1⟩
      rw [less_pos (by omega)]
      have s1 : w.heap.size + 1 ≤ w1.heap.size := by have := hb1.size; (try simp at this); omega
      obtain ⟨hc1, hf1⟩ := bcell hb1
      have z1_0 : w.heap.size < w1.heap.size := by omega
      go_wp2
      go_ret
      exact ⟨ret_int (by first | rfl | omega), (by repeat' (first | (with_reducible exact Below.refl _ _) | (with_reducible assumption) | (with_reducible refine Below.setCell ?_ ?_ _) | (with_reducible refine Below.alloc ?_ ?_ _) | (with_reducible refine Below.drew ?_) | (with_reducible refine belowN ?_ _) | (with_reducible refine below_after ?_ (by assumption) ?_) | omega | (simp; done) | (simp; omega)))⟩
    · rw [less_neg (show ¬ ((GoS.sz x : Nat) : Int) ≤ left by rw [E]; omega)]; clear E
      go_enter Try.func132, Try.ntmps132
      go_wp2_with fail
      refine (szIntS_c2 _ _ _ _ (by omega) (by omega) (h_list.below (by repeat' (first | (with_reducible exact Below.refl _ _) | (with_reducible assumption) | (with_reducible refine Below.setCell ?_ ?_ _) | (with_reducible refine Below.alloc ?_ ?_ _) | (with_reducible refine Below.drew ?_) | (with_reducible refine belowN ?_ _) | (with_reducible refine below_after ?_ (by assumption) ?_) | omega | (simp; done) | (simp; omega))))).mono ?_
      rintro e w1 ⟨rfl, hb1⟩
      rw [less_neg (by omega)]
      have s1 : w.heap.size + 1 ≤ w1.heap.size := by have := hb1.size; (try simp at this); omega
      obtain ⟨hc1, hf1⟩ := bcell hb1
      have z1_0 : w.heap.size < w1.heap.size := by omega
      go_wp2
      go_ret
      exact ⟨ret_int (by first | rfl | omega), (by repeat' (first | (with_reducible exact Below.refl _ _) | (with_reducible assumption) | (with_reducible refine Below.setCell ?_ ?_ _) | (with_reducible refine Below.alloc ?_ ?_ _) | (with_reducible refine Below.drew ?_) | (with_reducible refine belowN ?_ _) | (with_reducible refine below_after ?_ (by assumption) ?_) | omega | (simp; done) | (simp; omega)))⟩
  · rw [less_neg (show ¬ ((GoS.sz x : Nat) : Int) ≤ left by rw [E]; omega)]; clear E
    go_enter Try.func132, Try.ntmps132
    go_wp2
    go_ret
    exact ⟨ret_int (by first | rfl | omega), (by repeat' (first | (with_reducible exact Below.refl _ _) | (with_reducible assumption) | (with_reducible refine Below.setCell ?_ ?_ _) | (with_reducible refine Below.alloc ?_ ?_ _) | (with_reducible refine Below.drew ?_) | (with_reducible refine belowN ?_ _) | (with_reducible refine below_after ?_ (by assumption) ?_) | omega | (simp; done) | (simp; omega)))⟩

set_option maxHeartbeats 1000000 in
theorem szQueueS_c (v : Value) (l : List DQueue) (w : World) (left : Int) (g0 : 0 ≤ left) (g1 : left ≤ 1048576) (h : RdSM maxLen w v l) :
    Calls Try.prog 84 #[v, .int .i64 left] w (Tells w (.int .i64 (less left (szL l)))) := by
  have hl := fun w1 ty => h.len Try.underlying79 w1 ty
  have hb := h.le
  have E := Lib.hid (show szL l = l.length + szs l from rfl)
  by_cases hle : (l.length : Int) ≤ left
  · go_enter Try.func84, Try.ntmps84
    go_wp2
    go_loopw [1, 5] (fun c i wr => ∃ k : Nat, k ≤ l.length ∧ i = .int .i64 k ∧ ((szs (l.take k) : Nat) : Int) ≤ left - l.length ∧ c = .int .i64 (left - l.length - szs (l.take k)) ∧ Below w.heap.size w wr) (fun _ i _ => l.length - (intOf i).toNat)
    case atStart => exact ⟨0, Nat.zero_le _, rfl, by simp [szs]; omega, by simp [szs], Below.refl _ _⟩
    case round =>
      obtain ⟨k, hk, rfl, hc, rfl, hbw⟩ := hrel
      by_cases hlt : k < l.length
      · obtain ⟨x, hx⟩ := get_some hlt
        have hs := szs_take_succ hx
        have hsl := szs_take_le l (k + 1)
        obtain ⟨b1, o1, cs, h1, h2, h3⟩ := (h.below hbw).idx Try.underlying79 szl_DQueue k hx
        obtain ⟨v_list, rfl, n_doc, r_list⟩ := invM_DQueue h3
        have q0 := h2.zero
        have q1 := h2 1 _ rfl
        have HS := Lib.hid hs
        clear hx
        by_cases hfit : ((GoS.sz x : Nat) : Int) ≤ left - l.length - szs (l.take k)
        · have hs2 : ((szs (l.take (k + 1)) : Nat) : Int) ≤ left - l.length := by omega
          clear hs
          go_wp2_with fail
          refine (szQueue_c x _ _ _ (by omega) (by omega) n_doc r_list).mono ?_
          rintro e w2 ⟨rfl, hb2⟩
          rw [less_pos hfit]
          have HBW : Hid (Below w.heap.size w w2) := hbw.trans (hb2.mono hbw.size)
          clear hb2 hbw
          go_wp2
          go_roundw
          case rel => exact ⟨k + 1, by omega, by go_num, hs2, by rw [HS.out]; go_num, HBW.out⟩
          case measure => simp [intOf]; omega
        · have HN : Hid (less left (szL l) = -1) := less_neg (by rw [E.out]; omega)
          clear hs
          go_wp2_with fail
          refine (szQueue_c x _ _ _ (by omega) (by omega) n_doc r_list).mono ?_
          rintro e w2 ⟨rfl, hb2⟩
          rw [less_neg (by omega)]
          have HBW : Hid (Below w.heap.size w w2) := hbw.trans (hb2.mono hbw.size)
          clear hb2 hbw
          go_wp2
          go_ret
          exact ⟨ret_int HN.out.symm, HBW.out⟩
      · obtain rfl : k = l.length := by omega
        go_wp2
        go_ret
        rw [List.take_length] at hc
        exact ⟨ret_int (by rw [less_pos (by rw [E.out]; omega), E.out, List.take_length]; omega), hbw⟩
  · rw [less_neg (by rw [E.out]; omega)]
    go_enter Try.func84, Try.ntmps84
    go_wp2
    go_ret
    exact ⟨rfl, Below.refl _ _⟩

set_option maxHeartbeats 1000000 in
theorem szWorld_c (x : DWorld) (v_h_docs : Value) (v_h_subs : Value) (v_locks : Value) (v_queues : Value) (v_tasks : Value) (w : World) (left : Int) (g0 : 0 ≤ left) (g1 : left ≤ 1048576)  (h_h_docs : RdSM maxLen w v_h_docs x.h.docs) (h_h_subs : RdSM maxLen w v_h_subs x.h.subs) (h_locks : RdSM maxLen w v_locks x.locks) (h_queues : RdSM maxLen w v_queues x.queues) (h_tasks : RdSM maxLen w v_tasks x.tasks) :
    Calls Try.prog 42 #[.agg #[.bool x.h.shut, v_h_docs, v_h_subs, .int .i64 x.h.last, v_locks, v_queues, v_tasks, .int .i64 x.step], .int .i64 left] w (Tells w (.int .i64 (less left (GoS.sz x)))) := by
  have E : GoS.sz x = GoS.sz x.h + szL x.locks + szL x.queues + szL x.tasks := rfl
  by_cases c0 : ((GoS.sz x.h : Nat) : Int) ≤ left
  · by_cases c1 : ((szL x.locks : Nat) : Int) ≤ left - ((GoS.sz x.h : Nat) : Int)
    · by_cases c2 : ((szL x.queues : Nat) : Int) ≤ left - ((GoS.sz x.h : Nat) : Int) - ((szL x.locks : Nat) : Int)
      · by_cases c3 : ((szL x.tasks : Nat) : Int) ≤ left - ((GoS.sz x.h : Nat) : Int) - ((szL x.locks : Nat) : Int) - ((szL x.queues : Nat) : Int)
        · rw [less_pos (show ((GoS.sz x : Nat) : Int) ≤ left by rw [E]; omega)]
          have E2 : left - (GoS.sz x : Int) = left - ((GoS.sz x.h : Nat) : Int) - ((szL x.locks : Nat) : Int) - ((szL x.queues : Nat) : Int) - ((szL x.tasks : Nat) : Int) := by rw [E] <;> omega
          rw [E2]; clear E2 E
          go_enter Try.func42, Try.ntmps42
          go_wp2_with fail
          refine (szHub_c x.h _ _ _ _ (by omega) (by omega)  (h_h_docs.below (by repeat' (first | (with_reducible exact Below.refl _ _) | (with_reducible assumption) | (with_reducible refine Below.setCell ?_ ?_ _) | (with_reducible refine Below.alloc ?_ ?_ _) | (with_reducible refine Below.drew ?_) | (with_reducible refine belowN ?_ _) | (with_reducible refine below_after ?_ (by assumption) ?_) | omega | (simp; done) | (simp; omega)))) (h_h_subs.below (by repeat' (first | (with_reducible exact Below.refl _ _) | (with_reducible assumption) | (with_reducible refine Below.setCell ?_ ?_ _) | (with_reducible refine Below.alloc ?_ ?_ _) | (with_reducible refine Below.drew ?_) | (with_reducible refine belowN ?_ _) | (with_reducible refine below_after ?_ (by assumption) ?_) | omega | (simp; done) | (simp; omega))))).mono ?_
          rintro e w1 ⟨rfl, hb1⟩
          rw [less_pos (by omega)]
          have s1 : w.heap.size + 1 ≤ w1.heap.size := by have := hb1.size; (try simp at this); omega
          obtain ⟨hc1, hf1⟩ := bcell hb1
          have z1_0 : w.heap.size < w1.heap.size := by omega
          go_wp2_with fail
          refine (szIntS_c2 _ _ _ _ (by omega) (by omega) (h_locks.below (by repeat' (first | (with_reducible exact Below.refl _ _) | (with_reducible assumption) | (with_reducible refine Below.setCell ?_ ?_ _) | (with_reducible refine Below.alloc ?_ ?_ _) | (with_reducible refine Below.drew ?_) | (with_reducible refine belowN ?_ _) | (with_reducible refine below_after ?_ (by assumption) ?_) | omega | (simp; done) | (simp; omega))))).mono ?_
          rintro e w2 ⟨rfl, hb2⟩
          rw [less_pos (by omega)]
          have s2 : w1.heap.size ≤ w2.heap.size := by have := hb2.size; (try simp at this); omega
          obtain ⟨hc2, hf2⟩ := bcell hb2
          have z2_0 : w.heap.size < w2.heap.size := by omega
          go_wp2_with fail
          refine (szQueueS_c _ _ _ _ (by omega) (by omega) (h_queues.below (by repeat' (first | (with_reducible exact Below.refl _ _) | (with_reducible assumption) | (with_reducible refine Below.setCell ?_ ?_ _) | (with_reducible refine Below.alloc ?_ ?_ _) | (with_reducible refine Below.drew ?_) | (with_reducible refine belowN ?_ _) | (with_reducible refine below_after ?_ (by assumption) ?_) | omega | (simp; done) | (simp; omega))))).mono ?_
          rintro e w3 ⟨rfl, hb3⟩
          rw [less_pos (by omega)]
          have s3 : w2.heap.size ≤ w3.heap.size := by have := hb3.size; (try simp at this); omega
          obtain ⟨hc3, hf3⟩ := bcell hb3
          have z3_0 : w.heap.size < w3.heap.size := by omega
          go_wp2_with fail
          refine (szTaskS_c _ _ _ _ (by omega) (by omega) (h_tasks.below (by repeat' (first | (with_reducible exact Below.refl _ _) | (with_reducible assumption) | (with_reducible refine Below.setCell ?_ ?_ _) | (with_reducible refine Below.alloc ?_ ?_ _) | (with_reducible refine Below.drew ?_) | (with_reducible refine belowN ?_ _) | (with_reducible refine below_after ?_ (by assumption) ?_) | omega | (simp; done) | (simp; omega))))).mono ?_
          rintro e w4 ⟨rfl, hb4⟩
          rw [less_pos (by omega)]
          have s4 : w3.heap.size ≤ w4.heap.size := by have := hb4.size; (try simp at this); omega
          obtain ⟨hc4, hf4⟩ := bcell hb4
          have z4_0 : w.heap.size < w4.heap.size := by omega
          go_wp2
          go_ret
          exact ⟨ret_int (by first | rfl | omega), (by repeat' (first | (with_reducible exact Below.refl _ _) | (with_reducible assumption) | (with_reducible refine Below.setCell ?_ ?_ _) | (with_reducible refine Below.alloc ?_ ?_ _) | (with_reducible refine Below.drew ?_) | (with_reducible refine belowN ?_ _) | (with_reducible refine below_after ?_ (by assumption) ?_) | omega | (simp; done) | (simp; omega)))⟩
        · rw [less_neg (show ¬ ((GoS.sz x : Nat) : Int) ≤ left by rw [E]; omega)]; clear E
          go_enter Try.func42, Try.ntmps42
          go_wp2_with fail
          refine (szHub_c x.h _ _ _ _ (by omega) (by omega)  (h_h_docs.below (by repeat' (first | (with_reducible exact Below.refl _ _) | (with_reducible assumption) | (with_reducible refine Below.setCell ?_ ?_ _) | (with_reducible refine Below.alloc ?_ ?_ _) | (with_reducible refine Below.drew ?_) | (with_reducible refine belowN ?_ _) | (with_reducible refine below_after ?_ (by assumption) ?_) | omega | (simp; done) | (simp; omega)))) (h_h_subs.below (by repeat' (first | (with_reducible exact Below.refl _ _) | (with_reducible assumption) | (with_reducible refine Below.setCell ?_ ?_ _) | (with_reducible refine Below.alloc ?_ ?_ _) | (with_reducible refine Below.drew ?_) | (with_reducible refine belowN ?_ _) | (with_reducible refine below_after ?_ (by assumption) ?_) | omega | (simp; done) | (simp; omega))))).mono ?_
          rintro e w1 ⟨rfl, hb1⟩
          rw [less_pos (by omega)]
          have s1 : w.heap.size + 1 ≤ w1.heap.size := by have := hb1.size; (try simp at this); omega
          obtain ⟨hc1, hf1⟩ := bcell hb1
          have z1_0 : w.heap.size < w1.heap.size := by omega
          go_wp2_with fail
          refine (szIntS_c2 _ _ _ _ (by omega) (by omega) (h_locks.below (by repeat' (first | (with_reducible exact Below.refl _ _) | (with_reducible assumption) | (with_reducible refine Below.setCell ?_ ?_ _) | (with_reducible refine Below.alloc ?_ ?_ _) | (with_reducible refine Below.drew ?_) | (with_reducible refine belowN ?_ _) | (with_reducible refine below_after ?_ (by assumption) ?_) | omega | (simp; done) | (simp; omega))))).mono ?_
          rintro e w2 ⟨rfl, hb2⟩
          rw [less_pos (by omega)]
          have s2 : w1.heap.size ≤ w2.heap.size := by have := hb2.size; (try simp at this); omega
          obtain ⟨hc2, hf2⟩ := bcell hb2
          have z2_0 : w.heap.size < w2.heap.size := by omega
          go_wp2_with fail
          refine (szQueueS_c _ _ _ _ (by omega) (by omega) (h_queues.below (by repeat' (first | (with_reducible exact Below.refl _ _) | (with_reducible assumption) | (with_reducible refine Below.setCell ?_ ?_ _) | (with_reducible refine Below.alloc ?_ ?_ _) | (with_reducible refine Below.drew ?_) | (with_reducible refine belowN ?_ _) | (with_reducible refine below_after ?_ (by assumption) ?_) | omega | (simp; done) | (simp; omega))))).mono ?_
          rintro e w3 ⟨rfl, hb3⟩
          rw [less_pos (by omega)]
          have s3 : w2.heap.size ≤ w3.heap.size := by have := hb3.size; (try simp at this); omega
          obtain ⟨hc3, hf3⟩ := bcell hb3
          have z3_0 : w.heap.size < w3.heap.size := by omega
          go_wp2_with fail
          refine (szTaskS_c _ _ _ _ (by omega) (by omega) (h_tasks.below (by repeat' (first | (with_reducible exact Below.refl _ _) | (with_reducible assumption) | (with_reducible refine Below.setCell ?_ ?_ _) | (with_reducible refine Below.alloc ?_ ?_ _) | (with_reducible refine Below.drew ?_) | (with_reducible refine belowN ?_ _) | (with_reducible refine below_after ?_ (by assumption) ?_) | omega | (simp; done) | (simp; omega))))).mono ?_
          rintro e w4 ⟨rfl, hb4⟩
          rw [less_neg (by omega)]
          have s4 : w3.heap.size ≤ w4.heap.size := by have := hb4.size; (try simp at this); omega
          obtain ⟨hc4, hf4⟩ := bcell hb4
          have z4_0 : w.heap.size < w4.heap.size := by omega
          go_wp2
          go_ret
          exact ⟨ret_int (by first | rfl | omega), (by repeat' (first | (with_reducible exact Below.refl _ _) | (with_reducible assumption) | (with_reducible refine Below.setCell ?_ ?_ _) | (with_reducible refine Below.alloc ?_ ?_ _) | (with_reducible refine Below.drew ?_) | (with_reducible refine belowN ?_ _) | (with_reducible refine below_after ?_ (by assumption) ?_) | omega | (simp; done) | (simp; omega)))⟩
      · rw [less_neg (show ¬ ((GoS.sz x : Nat) : Int) ≤ left by rw [E]; omega)]; clear E
        go_enter Try.func42, Try.ntmps42
        go_wp2_with fail
        refine (szHub_c x.h _ _ _ _ (by omega) (by omega)  (h_h_docs.below (by repeat' (first | (with_reducible exact Below.refl _ _) | (with_reducible assumption) | (with_reducible refine Below.setCell ?_ ?_ _) | (with_reducible refine Below.alloc ?_ ?_ _) | (with_reducible refine Below.drew ?_) | (with_reducible refine belowN ?_ _) | (with_reducible refine below_after ?_ (by assumption) ?_) | omega | (simp; done) | (simp; omega)))) (h_h_subs.below (by repeat' (first | (with_reducible exact Below.refl _ _) | (with_reducible assumption) | (with_reducible refine Below.setCell ?_ ?_ _) | (with_reducible refine Below.alloc ?_ ?_ _) | (with_reducible refine Below.drew ?_) | (with_reducible refine belowN ?_ _) | (with_reducible refine below_after ?_ (by assumption) ?_) | omega | (simp; done) | (simp; omega))))).mono ?_
        rintro e w1 ⟨rfl, hb1⟩
        rw [less_pos (by omega)]
        have s1 : w.heap.size + 1 ≤ w1.heap.size := by have := hb1.size; (try simp at this); omega
        obtain ⟨hc1, hf1⟩ := bcell hb1
        have z1_0 : w.heap.size < w1.heap.size := by omega
        go_wp2_with fail
        refine (szIntS_c2 _ _ _ _ (by omega) (by omega) (h_locks.below (by repeat' (first | (with_reducible exact Below.refl _ _) | (with_reducible assumption) | (with_reducible refine Below.setCell ?_ ?_ _) | (with_reducible refine Below.alloc ?_ ?_ _) | (with_reducible refine Below.drew ?_) | (with_reducible refine belowN ?_ _) | (with_reducible refine below_after ?_ (by assumption) ?_) | omega | (simp; done) | (simp; omega))))).mono ?_
        rintro e w2 ⟨rfl, hb2⟩
        rw [less_pos (by omega)]
        have s2 : w1.heap.size ≤ w2.heap.size := by have := hb2.size; (try simp at this); omega
        obtain ⟨hc2, hf2⟩ := bcell hb2
        have z2_0 : w.heap.size < w2.heap.size := by omega
        go_wp2_with fail
        refine (szQueueS_c _ _ _ _ (by omega) (by omega) (h_queues.below (by repeat' (first | (with_reducible exact Below.refl _ _) | (with_reducible assumption) | (with_reducible refine Below.setCell ?_ ?_ _) | (with_reducible refine Below.alloc ?_ ?_ _) | (with_reducible refine Below.drew ?_) | (with_reducible refine belowN ?_ _) | (with_reducible refine below_after ?_ (by assumption) ?_) | omega | (simp; done) | (simp; omega))))).mono ?_
        rintro e w3 ⟨rfl, hb3⟩
        rw [less_neg (by omega)]
        have s3 : w2.heap.size ≤ w3.heap.size := by have := hb3.size; (try simp at this); omega
        obtain ⟨hc3, hf3⟩ := bcell hb3
        have z3_0 : w.heap.size < w3.heap.size := by omega
        go_wp2
        go_ret
        exact ⟨ret_int (by first | rfl | omega), (by repeat' (first | (with_reducible exact Below.refl _ _) | (with_reducible assumption) | (with_reducible refine Below.setCell ?_ ?_ _) | (with_reducible refine Below.alloc ?_ ?_ _) | (with_reducible refine Below.drew ?_) | (with_reducible refine belowN ?_ _) | (with_reducible refine below_after ?_ (by assumption) ?_) | omega | (simp; done) | (simp; omega)))⟩
    · rw [less_neg (show ¬ ((GoS.sz x : Nat) : Int) ≤ left by rw [E]; omega)]; clear E
      go_enter Try.func42, Try.ntmps42
      go_wp2_with fail
      refine (szHub_c x.h _ _ _ _ (by omega) (by omega)  (h_h_docs.below (by repeat' (first | (with_reducible exact Below.refl _ _) | (with_reducible assumption) | (with_reducible refine Below.setCell ?_ ?_ _) | (with_reducible refine Below.alloc ?_ ?_ _) | (with_reducible refine Below.drew ?_) | (with_reducible refine belowN ?_ _) | (with_reducible refine below_after ?_ (by assumption) ?_) | omega | (simp; done) | (simp; omega)))) (h_h_subs.below (by repeat' (first | (with_reducible exact Below.refl _ _) | (with_reducible assumption) | (with_reducible refine Below.setCell ?_ ?_ _) | (with_reducible refine Below.alloc ?_ ?_ _) | (with_reducible refine Below.drew ?_) | (with_reducible refine belowN ?_ _) | (with_reducible refine below_after ?_ (by assumption) ?_) | omega | (simp; done) | (simp; omega))))).mono ?_
      rintro e w1 ⟨rfl, hb1⟩
      rw [less_pos (by omega)]
      have s1 : w.heap.size + 1 ≤ w1.heap.size := by have := hb1.size; (try simp at this); omega
      obtain ⟨hc1, hf1⟩ := bcell hb1
      have z1_0 : w.heap.size < w1.heap.size := by omega
      go_wp2_with fail
      refine (szIntS_c2 _ _ _ _ (by omega) (by omega) (h_locks.below (by repeat' (first | (with_reducible exact Below.refl _ _) | (with_reducible assumption) | (with_reducible refine Below.setCell ?_ ?_ _) | (with_reducible refine Below.alloc ?_ ?_ _) | (with_reducible refine Below.drew ?_) | (with_reducible refine belowN ?_ _) | (with_reducible refine below_after ?_ (by assumption) ?_) | omega | (simp; done) | (simp; omega))))).mono ?_
      rintro e w2 ⟨rfl, hb2⟩
      rw [less_neg (by omega)]
      have s2 : w1.heap.size ≤ w2.heap.size := by have := hb2.size; (try simp at this); omega
      obtain ⟨hc2, hf2⟩ := bcell hb2
      have z2_0 : w.heap.size < w2.heap.size := by omega
      go_wp2
      go_ret
      exact ⟨ret_int (by first | rfl | omega), (by repeat' (first | (with_reducible exact Below.refl _ _) | (with_reducible assumption) | (with_reducible refine Below.setCell ?_ ?_ _) | (with_reducible refine Below.alloc ?_ ?_ _) | (with_reducible refine Below.drew ?_) | (with_reducible refine belowN ?_ _) | (with_reducible refine below_after ?_ (by assumption) ?_) | omega | (simp; done) | (simp; omega)))⟩
  · rw [less_neg (show ¬ ((GoS.sz x : Nat) : Int) ≤ left by rw [E]; omega)]; clear E
    go_enter Try.func42, Try.ntmps42
    go_wp2_with fail
    refine (szHub_c x.h _ _ _ _ (by omega) (by omega)  (h_h_docs.below (by repeat' (first | (with_reducible exact Below.refl _ _) | (with_reducible assumption) | (with_reducible refine Below.setCell ?_ ?_ _) | (with_reducible refine Below.alloc ?_ ?_ _) | (with_reducible refine Below.drew ?_) | (with_reducible refine belowN ?_ _) | (with_reducible refine below_after ?_ (by assumption) ?_) | omega | (simp; done) | (simp; omega)))) (h_h_subs.below (by repeat' (first | (with_reducible exact Below.refl _ _) | (with_reducible assumption) | (with_reducible refine Below.setCell ?_ ?_ _) | (with_reducible refine Below.alloc ?_ ?_ _) | (with_reducible refine Below.drew ?_) | (with_reducible refine belowN ?_ _) | (with_reducible refine below_after ?_ (by assumption) ?_) | omega | (simp; done) | (simp; omega))))).mono ?_
    rintro e w1 ⟨rfl, hb1⟩
    rw [less_neg (by omega)]
    have s1 : w.heap.size + 1 ≤ w1.heap.size := by have := hb1.size; (try simp at this); omega
    obtain ⟨hc1, hf1⟩ := bcell hb1
    have z1_0 : w.heap.size < w1.heap.size := by omega
    go_wp2
    go_ret
    exact ⟨ret_int (by first | rfl | omega), (by repeat' (first | (with_reducible exact Below.refl _ _) | (with_reducible assumption) | (with_reducible refine Below.setCell ?_ ?_ _) | (with_reducible refine Below.alloc ?_ ?_ _) | (with_reducible refine Below.drew ?_) | (with_reducible refine belowN ?_ _) | (with_reducible refine below_after ?_ (by assumption) ?_) | omega | (simp; done) | (simp; omega)))⟩

end Go.Proofs.Ytfbkhaaijbhadaa
