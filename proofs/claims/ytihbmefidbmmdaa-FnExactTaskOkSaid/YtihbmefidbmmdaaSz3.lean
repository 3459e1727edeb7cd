/- The measure that the laws take of their arguments. -/
import Derived.Test.YtihbmefidbmmdaaSz2
namespace Go.Proofs.Ytihbmefidbmmdaa
open Go.RowKit


set_option maxHeartbeats 1000000 in
theorem szCall_c (x : DCall) (v_o : Value) (v_text : Value) (w : World) (left : Int) (g0 : 0 ≤ left) (g1 : left ≤ 1048576) (n_doc : x.doc.size ≤ maxLen) (h_o : RdSM maxLen w v_o x.o) (h_text : RdSM maxLen w v_text x.text) :
    Calls Try.prog 46 #[.agg #[.int .i64 x.kind, .string x.doc, .int .i64 x.client, .int .i64 x.seq, .int .i64 x.n, v_o, v_text], .int .i64 left] w (Tells w (.int .i64 (less left (GoS.sz x)))) := by
  have E : GoS.sz x = x.doc.size + szL x.o + szL x.text := rfl
  unfold maxLen at n_doc
  by_cases c0 : ((x.doc.size : Nat) : Int) ≤ left
  · by_cases c1 : ((szL x.o : Nat) : Int) ≤ left - ((x.doc.size : Nat) : Int)
    · by_cases c2 : ((szL x.text : Nat) : Int) ≤ left - ((x.doc.size : Nat) : Int) - ((szL x.o : Nat) : Int)
      · rw [less_pos (show ((GoS.sz x : Nat) : Int) ≤ left by rw [E]; omega)]
        have E2 : left - (GoS.sz x : Int) = left - ((x.doc.size : Nat) : Int) - ((szL x.o : Nat) : Int) - ((szL x.text : Nat) : Int) := by rw [E] <;> omega
        rw [E2]; clear E2 E
        go_enter Try.func46, Try.ntmps46
        go_wp2_with fail
        refine (szPartS_c _ _ _ _ (by omega) (by omega) (h_o.below (by repeat' (first | (with_reducible exact Below.refl _ _) | (with_reducible refine Below.setCell ?_ ?_ _) | (with_reducible refine Below.alloc ?_ ?_ _) | (with_reducible refine Below.drew ?_) | (with_reducible refine belowN ?_ _) | (with_reducible refine below_after ?_ (by assumption) ?_) | omega | (simp; done) | (simp; omega))))).mono ?_
        rintro e w1 ⟨rfl, hb1⟩
        rw [less_pos (by omega)]
        have s1 : w.heap.size + 1 ≤ w1.heap.size := by have := hb1.size; (try simp at this); omega
        obtain ⟨hc1, hf1⟩ := bcell hb1
        have z1_0 : w.heap.size < w1.heap.size := by omega
        go_wp2_with fail
        refine (szIntS_c2 _ _ _ _ (by omega) (by omega) (h_text.below (by repeat' (first | (with_reducible exact Below.refl _ _) | (with_reducible refine Below.setCell ?_ ?_ _) | (with_reducible refine Below.alloc ?_ ?_ _) | (with_reducible refine Below.drew ?_) | (with_reducible refine belowN ?_ _) | (with_reducible refine below_after ?_ (by assumption) ?_) | omega | (simp; done) | (simp; omega))))).mono ?_
        rintro e w2 ⟨rfl, hb2⟩
        rw [less_pos (by omega)]
        have s2 : w1.heap.size ≤ w2.heap.size := by have := hb2.size; (try simp at this); omega
        obtain ⟨hc2, hf2⟩ := bcell hb2
        have z2_0 : w.heap.size < w2.heap.size := by omega
        go_wp2
        go_ret
        exact ⟨ret_int (by first | rfl | omega), (by repeat' (first | (with_reducible exact Below.refl _ _) | (with_reducible refine Below.setCell ?_ ?_ _) | (with_reducible refine Below.alloc ?_ ?_ _) | (with_reducible refine Below.drew ?_) | (with_reducible refine belowN ?_ _) | (with_reducible refine below_after ?_ (by assumption) ?_) | omega | (simp; done) | (simp; omega)))⟩
      · rw [less_neg (show ¬ ((GoS.sz x : Nat) : Int) ≤ left by rw [E]; omega)]; clear E
        go_enter Try.func46, Try.ntmps46
        go_wp2_with fail
        refine (szPartS_c _ _ _ _ (by omega) (by omega) (h_o.below (by repeat' (first | (with_reducible exact Below.refl _ _) | (with_reducible refine Below.setCell ?_ ?_ _) | (with_reducible refine Below.alloc ?_ ?_ _) | (with_reducible refine Below.drew ?_) | (with_reducible refine belowN ?_ _) | (with_reducible refine below_after ?_ (by assumption) ?_) | omega | (simp; done) | (simp; omega))))).mono ?_
        rintro e w1 ⟨rfl, hb1⟩
        rw [less_pos (by omega)]
        have s1 : w.heap.size + 1 ≤ w1.heap.size := by have := hb1.size; (try simp at this); omega
        obtain ⟨hc1, hf1⟩ := bcell hb1
        have z1_0 : w.heap.size < w1.heap.size := by omega
        go_wp2_with fail
        refine (szIntS_c2 _ _ _ _ (by omega) (by omega) (h_text.below (by repeat' (first | (with_reducible exact Below.refl _ _) | (with_reducible refine Below.setCell ?_ ?_ _) | (with_reducible refine Below.alloc ?_ ?_ _) | (with_reducible refine Below.drew ?_) | (with_reducible refine belowN ?_ _) | (with_reducible refine below_after ?_ (by assumption) ?_) | omega | (simp; done) | (simp; omega))))).mono ?_
        rintro e w2 ⟨rfl, hb2⟩
        rw [less_neg (by omega)]
        have s2 : w1.heap.size ≤ w2.heap.size := by have := hb2.size; (try simp at this); omega
        obtain ⟨hc2, hf2⟩ := bcell hb2
        have z2_0 : w.heap.size < w2.heap.size := by omega
        go_wp2
        go_ret
        exact ⟨ret_int (by first | rfl | omega), (by repeat' (first | (with_reducible exact Below.refl _ _) | (with_reducible refine Below.setCell ?_ ?_ _) | (with_reducible refine Below.alloc ?_ ?_ _) | (with_reducible refine Below.drew ?_) | (with_reducible refine belowN ?_ _) | (with_reducible refine below_after ?_ (by assumption) ?_) | omega | (simp; done) | (simp; omega)))⟩
    · rw [less_neg (show ¬ ((GoS.sz x : Nat) : Int) ≤ left by rw [E]; omega)]; clear E
      go_enter Try.func46, Try.ntmps46
      go_wp2_with fail
      refine (szPartS_c _ _ _ _ (by omega) (by omega) (h_o.below (by repeat' (first | (with_reducible exact Below.refl _ _) | (with_reducible refine Below.setCell ?_ ?_ _) | (with_reducible refine Below.alloc ?_ ?_ _) | (with_reducible refine Below.drew ?_) | (with_reducible refine belowN ?_ _) | (with_reducible refine below_after ?_ (by assumption) ?_) | omega | (simp; done) | (simp; omega))))).mono ?_
      rintro e w1 ⟨rfl, hb1⟩
      rw [less_neg (by omega)]
      have s1 : w.heap.size + 1 ≤ w1.heap.size := by have := hb1.size; (try simp at this); omega
      obtain ⟨hc1, hf1⟩ := bcell hb1
      have z1_0 : w.heap.size < w1.heap.size := by omega
      go_wp2
      go_ret
      exact ⟨ret_int (by first | rfl | omega), (by repeat' (first | (with_reducible exact Below.refl _ _) | (with_reducible refine Below.setCell ?_ ?_ _) | (with_reducible refine Below.alloc ?_ ?_ _) | (with_reducible refine Below.drew ?_) | (with_reducible refine belowN ?_ _) | (with_reducible refine below_after ?_ (by assumption) ?_) | omega | (simp; done) | (simp; omega)))⟩
  · rw [less_neg (show ¬ ((GoS.sz x : Nat) : Int) ≤ left by rw [E]; omega)]; clear E
    go_enter Try.func46, Try.ntmps46
    go_wp2
    go_ret
    exact ⟨ret_int (by first | rfl | omega), (by repeat' (first | (with_reducible exact Below.refl _ _) | (with_reducible refine Below.setCell ?_ ?_ _) | (with_reducible refine Below.alloc ?_ ?_ _) | (with_reducible refine Below.drew ?_) | (with_reducible refine belowN ?_ _) | (with_reducible refine below_after ?_ (by assumption) ?_) | omega | (simp; done) | (simp; omega)))⟩

set_option maxHeartbeats 1000000 in
theorem szAnswer_c (x : DAnswer) (v_text : Value) (v_list : Value) (w : World) (left : Int) (g0 : 0 ≤ left) (g1 : left ≤ 1048576)  (h_text : RdSM maxLen w v_text x.text) (h_list : RdSM maxLen w v_list x.list) :
    Calls Try.prog 60 #[.agg #[.int .i64 x.code, .int .i64 x.rev, v_text, v_list], .int .i64 left] w (Tells w (.int .i64 (less left (GoS.sz x)))) := by
  have E : GoS.sz x = szL x.text + szL x.list := rfl
  by_cases c0 : ((szL x.text : Nat) : Int) ≤ left
  · by_cases c1 : ((szL x.list : Nat) : Int) ≤ left - ((szL x.text : Nat) : Int)
    · rw [less_pos (show ((GoS.sz x : Nat) : Int) ≤ left by rw [E]; omega)]
      have E2 : left - (GoS.sz x : Int) = left - ((szL x.text : Nat) : Int) - ((szL x.list : Nat) : Int) := by rw [E] <;> omega
      rw [E2]; clear E2 E
      go_enter Try.func60, Try.ntmps60
      go_wp2_with fail
      refine (szIntS_c2 _ _ _ _ (by omega) (by omega) (h_text.below (by repeat' (first | (with_reducible exact Below.refl _ _) | (with_reducible refine Below.setCell ?_ ?_ _) | (with_reducible refine Below.alloc ?_ ?_ _) | (with_reducible refine Below.drew ?_) | (with_reducible refine belowN ?_ _) | (with_reducible refine below_after ?_ (by assumption) ?_) | omega | (simp; done) | (simp; omega))))).mono ?_
      rintro e w1 ⟨rfl, hb1⟩
      rw [less_pos (by omega)]
      have s1 : w.heap.size + 1 ≤ w1.heap.size := by have := hb1.size; (try simp at this); omega
      obtain ⟨hc1, hf1⟩ := bcell hb1
      have z1_0 : w.heap.size < w1.heap.size := by omega
      go_wp2_with fail
      refine (szEntryS_c _ _ _ _ (by omega) (by omega) (h_list.below (by repeat' (first | (with_reducible exact Below.refl _ _) | (with_reducible refine Below.setCell ?_ ?_ _) | (with_reducible refine Below.alloc ?_ ?_ _) | (with_reducible refine Below.drew ?_) | (with_reducible refine belowN ?_ _) | (with_reducible refine below_after ?_ (by assumption) ?_) | omega | (simp; done) | (simp; omega))))).mono ?_
      rintro e w2 ⟨rfl, hb2⟩
      rw [less_pos (by omega)]
      have s2 : w1.heap.size ≤ w2.heap.size := by have := hb2.size; (try simp at this); omega
      obtain ⟨hc2, hf2⟩ := bcell hb2
      have z2_0 : w.heap.size < w2.heap.size := by omega
      go_wp2
      go_ret
      exact ⟨ret_int (by first | rfl | omega), (by repeat' (first | (with_reducible exact Below.refl _ _) | (with_reducible refine Below.setCell ?_ ?_ _) | (with_reducible refine Below.alloc ?_ ?_ _) | (with_reducible refine Below.drew ?_) | (with_reducible refine belowN ?_ _) | (with_reducible refine below_after ?_ (by assumption) ?_) | omega | (simp; done) | (simp; omega)))⟩
    · rw [less_neg (show ¬ ((GoS.sz x : Nat) : Int) ≤ left by rw [E]; omega)]; clear E
      go_enter Try.func60, Try.ntmps60
      go_wp2_with fail
      refine (szIntS_c2 _ _ _ _ (by omega) (by omega) (h_text.below (by repeat' (first | (with_reducible exact Below.refl _ _) | (with_reducible refine Below.setCell ?_ ?_ _) | (with_reducible refine Below.alloc ?_ ?_ _) | (with_reducible refine Below.drew ?_) | (with_reducible refine belowN ?_ _) | (with_reducible refine below_after ?_ (by assumption) ?_) | omega | (simp; done) | (simp; omega))))).mono ?_
      rintro e w1 ⟨rfl, hb1⟩
      rw [less_pos (by omega)]
      have s1 : w.heap.size + 1 ≤ w1.heap.size := by have := hb1.size; (try simp at this); omega
      obtain ⟨hc1, hf1⟩ := bcell hb1
      have z1_0 : w.heap.size < w1.heap.size := by omega
      go_wp2_with fail
      refine (szEntryS_c _ _ _ _ (by omega) (by omega) (h_list.below (by repeat' (first | (with_reducible exact Below.refl _ _) | (with_reducible refine Below.setCell ?_ ?_ _) | (with_reducible refine Below.alloc ?_ ?_ _) | (with_reducible refine Below.drew ?_) | (with_reducible refine belowN ?_ _) | (with_reducible refine below_after ?_ (by assumption) ?_) | omega | (simp; done) | (simp; omega))))).mono ?_
      rintro e w2 ⟨rfl, hb2⟩
      rw [less_neg (by omega)]
      have s2 : w1.heap.size ≤ w2.heap.size := by have := hb2.size; (try simp at this); omega
      obtain ⟨hc2, hf2⟩ := bcell hb2
      have z2_0 : w.heap.size < w2.heap.size := by omega
      go_wp2
      go_ret
      exact ⟨ret_int (by first | rfl | omega), (by repeat' (first | (with_reducible exact Below.refl _ _) | (with_reducible refine Below.setCell ?_ ?_ _) | (with_reducible refine Below.alloc ?_ ?_ _) | (with_reducible refine Below.drew ?_) | (with_reducible refine belowN ?_ _) | (with_reducible refine below_after ?_ (by assumption) ?_) | omega | (simp; done) | (simp; omega)))⟩
  · rw [less_neg (show ¬ ((GoS.sz x : Nat) : Int) ≤ left by rw [E]; omega)]; clear E
    go_enter Try.func60, Try.ntmps60
    go_wp2_with fail
    refine (szIntS_c2 _ _ _ _ (by omega) (by omega) (h_text.below (by repeat' (first | (with_reducible exact Below.refl _ _) | (with_reducible refine Below.setCell ?_ ?_ _) | (with_reducible refine Below.alloc ?_ ?_ _) | (with_reducible refine Below.drew ?_) | (with_reducible refine belowN ?_ _) | (with_reducible refine below_after ?_ (by assumption) ?_) | omega | (simp; done) | (simp; omega))))).mono ?_
    rintro e w1 ⟨rfl, hb1⟩
    rw [less_neg (by omega)]
    have s1 : w.heap.size + 1 ≤ w1.heap.size := by have := hb1.size; (try simp at this); omega
    obtain ⟨hc1, hf1⟩ := bcell hb1
    have z1_0 : w.heap.size < w1.heap.size := by omega
    go_wp2
    go_ret
    exact ⟨ret_int (by first | rfl | omega), (by repeat' (first | (with_reducible exact Below.refl _ _) | (with_reducible refine Below.setCell ?_ ?_ _) | (with_reducible refine Below.alloc ?_ ?_ _) | (with_reducible refine Below.drew ?_) | (with_reducible refine belowN ?_ _) | (with_reducible refine below_after ?_ (by assumption) ?_) | omega | (simp; done) | (simp; omega)))⟩


end Go.Proofs.Ytihbmefidbmmdaa
