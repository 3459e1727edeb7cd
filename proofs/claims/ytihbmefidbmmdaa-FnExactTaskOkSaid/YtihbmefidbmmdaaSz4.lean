/- The measure that the laws take of their arguments. -/
import Derived.Test.YtihbmefidbmmdaaSz3
import Derived.Test.YtihbmefidbmmdaaTo4
namespace Go.Proofs.Ytihbmefidbmmdaa
open Go.RowKit

set_option maxHeartbeats 1000000 in
theorem szTask_c (x : DTask) (v_c_o : Value) (v_c_text : Value) (v_a_text : Value) (v_a_list : Value) (w : World) (left : Int) (g0 : 0 ≤ left) (g1 : left ≤ 1048576) (n_c_doc : x.c.doc.size ≤ maxLen) (h_c_o : RdSM maxLen w v_c_o x.c.o) (h_c_text : RdSM maxLen w v_c_text x.c.text) (h_a_text : RdSM maxLen w v_a_text x.a.text) (h_a_list : RdSM maxLen w v_a_list x.a.list) :
    Calls Try.prog 26 #[.agg #[.int .i64 x.c.kind, .string x.c.doc, .int .i64 x.c.client, .int .i64 x.c.seq, .int .i64 x.c.n, v_c_o, v_c_text, .int .i64 x.pc, .int .i64 x.inv, .int .i64 x.lin, .int .i64 x.res, .int .i64 x.a.code, .int .i64 x.a.rev, v_a_text, v_a_list], .int .i64 left] w (Tells w (.int .i64 (less left (GoS.sz x)))) := by
  have E : GoS.sz x = GoS.sz x.c + GoS.sz x.a := rfl
  unfold maxLen at n_c_doc
  by_cases c0 : ((GoS.sz x.c : Nat) : Int) ≤ left
  · by_cases c1 : ((GoS.sz x.a : Nat) : Int) ≤ left - ((GoS.sz x.c : Nat) : Int)
    · rw [less_pos (show ((GoS.sz x : Nat) : Int) ≤ left by rw [E]; omega)]
      have E2 : left - (GoS.sz x : Int) = left - ((GoS.sz x.c : Nat) : Int) - ((GoS.sz x.a : Nat) : Int) := by rw [E] <;> omega
      rw [E2]; clear E2 E
      go_enter Try.func26, Try.ntmps26
      go_wp2_with fail
      refine (szCall_c x.c _ _ _ _ (by omega) (by omega) n_c_doc (h_c_o.below (by repeat' (first | (with_reducible exact Below.refl _ _) | (with_reducible assumption) | (with_reducible refine Below.setCell ?_ ?_ _) | (with_reducible refine Below.alloc ?_ ?_ _) | (with_reducible refine Below.drew ?_) | (with_reducible refine belowN ?_ _) | (with_reducible refine below_after ?_ (by assumption) ?_) | omega | (simp; done) | (simp; omega)))) (h_c_text.below (by repeat' (first | (with_reducible exact Below.refl _ _) | (with_reducible assumption) | (with_reducible refine Below.setCell ?_ ?_ _) | (with_reducible refine Below.alloc ?_ ?_ _) | (with_reducible refine Below.drew ?_) | (with_reducible refine belowN ?_ _) | (with_reducible refine below_after ?_ (by assumption) ?_) | omega | (simp; done) | (simp; omega))))).mono ?_
      rintro e w1 ⟨rfl, hb1⟩
      rw [less_pos (by omega)]
      have s1 : w.heap.size + 1 ≤ w1.heap.size := by have := hb1.size; (try simp at this); omega
      obtain ⟨hc1, hf1⟩ := bcell hb1
      have z1_0 : w.heap.size < w1.heap.size := by omega
      go_wp2_with fail
      refine (szAnswer_c x.a _ _ _ _ (by omega) (by omega)  (h_a_text.below (by repeat' (first | (with_reducible exact Below.refl _ _) | (with_reducible assumption) | (with_reducible refine Below.setCell ?_ ?_ _) | (with_reducible refine Below.alloc ?_ ?_ _) | (with_reducible refine Below.drew ?_) | (with_reducible refine belowN ?_ _) | (with_reducible refine below_after ?_ (by assumption) ?_) | omega | (simp; done) | (simp; omega)))) (h_a_list.below (by repeat' (first | (with_reducible exact Below.refl _ _) | (with_reducible assumption) | (with_reducible refine Below.setCell ?_ ?_ _) | (with_reducible refine Below.alloc ?_ ?_ _) | (with_reducible refine Below.drew ?_) | (with_reducible refine belowN ?_ _) | (with_reducible refine below_after ?_ (by assumption) ?_) | omega | (simp; done) | (simp; omega))))).mono ?_
      rintro e w2 ⟨rfl, hb2⟩
      rw [less_pos (by omega)]
      have s2 : w1.heap.size ≤ w2.heap.size := by have := hb2.size; (try simp at this); omega
      obtain ⟨hc2, hf2⟩ := bcell hb2
      have z2_0 : w.heap.size < w2.heap.size := by omega
      go_wp2
      go_ret
      exact ⟨ret_int (by first | rfl | omega), (by repeat' (first | (with_reducible exact Below.refl _ _) | (with_reducible assumption) | (with_reducible refine Below.setCell ?_ ?_ _) | (with_reducible refine Below.alloc ?_ ?_ _) | (with_reducible refine Below.drew ?_) | (with_reducible refine belowN ?_ _) | (with_reducible refine below_after ?_ (by assumption) ?_) | omega | (simp; done) | (simp; omega)))⟩
    · rw [less_neg (show ¬ ((GoS.sz x : Nat) : Int) ≤ left by rw [E]; omega)]; clear E
      go_enter Try.func26, Try.ntmps26
      go_wp2_with fail
      refine (szCall_c x.c _ _ _ _ (by omega) (by omega) n_c_doc (h_c_o.below (by repeat' (first | (with_reducible exact Below.refl _ _) | (with_reducible assumption) | (with_reducible refine Below.setCell ?_ ?_ _) | (with_reducible refine Below.alloc ?_ ?_ _) | (with_reducible refine Below.drew ?_) | (with_reducible refine belowN ?_ _) | (with_reducible refine below_after ?_ (by assumption) ?_) | omega | (simp; done) | (simp; omega)))) (h_c_text.below (by repeat' (first | (with_reducible exact Below.refl _ _) | (with_reducible assumption) | (with_reducible refine Below.setCell ?_ ?_ _) | (with_reducible refine Below.alloc ?_ ?_ _) | (with_reducible refine Below.drew ?_) | (with_reducible refine belowN ?_ _) | (with_reducible refine below_after ?_ (by assumption) ?_) | omega | (simp; done) | (simp; omega))))).mono ?_
      rintro e w1 ⟨rfl, hb1⟩
      rw [less_pos (by omega)]
      have s1 : w.heap.size + 1 ≤ w1.heap.size := by have := hb1.size; (try simp at this); omega
      obtain ⟨hc1, hf1⟩ := bcell hb1
      have z1_0 : w.heap.size < w1.heap.size := by omega
      go_wp2_with fail
      refine (szAnswer_c x.a _ _ _ _ (by omega) (by omega)  (h_a_text.below (by repeat' (first | (with_reducible exact Below.refl _ _) | (with_reducible assumption) | (with_reducible refine Below.setCell ?_ ?_ _) | (with_reducible refine Below.alloc ?_ ?_ _) | (with_reducible refine Below.drew ?_) | (with_reducible refine belowN ?_ _) | (with_reducible refine below_after ?_ (by assumption) ?_) | omega | (simp; done) | (simp; omega)))) (h_a_list.below (by repeat' (first | (with_reducible exact Below.refl _ _) | (with_reducible assumption) | (with_reducible refine Below.setCell ?_ ?_ _) | (with_reducible refine Below.alloc ?_ ?_ _) | (with_reducible refine Below.drew ?_) | (with_reducible refine belowN ?_ _) | (with_reducible refine below_after ?_ (by assumption) ?_) | omega | (simp; done) | (simp; omega))))).mono ?_
      rintro e w2 ⟨rfl, hb2⟩
      rw [less_neg (by omega)]
      have s2 : w1.heap.size ≤ w2.heap.size := by have := hb2.size; (try simp at this); omega
      obtain ⟨hc2, hf2⟩ := bcell hb2
      have z2_0 : w.heap.size < w2.heap.size := by omega
      go_wp2
      go_ret
      exact ⟨ret_int (by first | rfl | omega), (by repeat' (first | (with_reducible exact Below.refl _ _) | (with_reducible assumption) | (with_reducible refine Below.setCell ?_ ?_ _) | (with_reducible refine Below.alloc ?_ ?_ _) | (with_reducible refine Below.drew ?_) | (with_reducible refine belowN ?_ _) | (with_reducible refine below_after ?_ (by assumption) ?_) | omega | (simp; done) | (simp; omega)))⟩
  · rw [less_neg (show ¬ ((GoS.sz x : Nat) : Int) ≤ left by rw [E]; omega)]; clear E
    go_enter Try.func26, Try.ntmps26
    go_wp2_with fail
    refine (szCall_c x.c _ _ _ _ (by omega) (by omega) n_c_doc (h_c_o.below (by repeat' (first | (with_reducible exact Below.refl _ _) | (with_reducible assumption) | (with_reducible refine Below.setCell ?_ ?_ _) | (with_reducible refine Below.alloc ?_ ?_ _) | (with_reducible refine Below.drew ?_) | (with_reducible refine belowN ?_ _) | (with_reducible refine below_after ?_ (by assumption) ?_) | omega | (simp; done) | (simp; omega)))) (h_c_text.below (by repeat' (first | (with_reducible exact Below.refl _ _) | (with_reducible assumption) | (with_reducible refine Below.setCell ?_ ?_ _) | (with_reducible refine Below.alloc ?_ ?_ _) | (with_reducible refine Below.drew ?_) | (with_reducible refine belowN ?_ _) | (with_reducible refine below_after ?_ (by assumption) ?_) | omega | (simp; done) | (simp; omega))))).mono ?_
    rintro e w1 ⟨rfl, hb1⟩
    rw [less_neg (by omega)]
    have s1 : w.heap.size + 1 ≤ w1.heap.size := by have := hb1.size; (try simp at this); omega
    obtain ⟨hc1, hf1⟩ := bcell hb1
    have z1_0 : w.heap.size < w1.heap.size := by omega
    go_wp2
    go_ret
    exact ⟨ret_int (by first | rfl | omega), (by repeat' (first | (with_reducible exact Below.refl _ _) | (with_reducible assumption) | (with_reducible refine Below.setCell ?_ ?_ _) | (with_reducible refine Below.alloc ?_ ?_ _) | (with_reducible refine Below.drew ?_) | (with_reducible refine belowN ?_ _) | (with_reducible refine below_after ?_ (by assumption) ?_) | omega | (simp; done) | (simp; omega)))⟩





end Go.Proofs.Ytihbmefidbmmdaa
