/- The laws' comparisons, where both sides read as one datum. -/
import Derived.Test.YtihbmefidbmmdaaEq3
import Derived.Test.YtihbmefidbmmdaaTo4
import Derived.StillTailTactics
namespace Go.Proofs.Ytihbmefidbmmdaa
open Go.RowKit

set_option maxHeartbeats 1000000 in
theorem eqTask_c (x : DTask) (v_c_o u_c_o : Value) (v_c_text u_c_text : Value) (v_a_text u_a_text : Value) (v_a_list u_a_list : Value) (w : World) (h_c_o : RdS w v_c_o x.c.o) (k_c_o : RdS w u_c_o x.c.o) (h_c_text : RdS w v_c_text x.c.text) (k_c_text : RdS w u_c_text x.c.text) (h_a_text : RdS w v_a_text x.a.text) (k_a_text : RdS w u_a_text x.a.text) (h_a_list : RdS w v_a_list x.a.list) (k_a_list : RdS w u_a_list x.a.list) :
    Calls Try.prog 30 #[.agg #[.int .i64 x.c.kind, .string x.c.doc, .int .i64 x.c.client, .int .i64 x.c.seq, .int .i64 x.c.n, v_c_o, v_c_text, .int .i64 x.pc, .int .i64 x.inv, .int .i64 x.lin, .int .i64 x.res, .int .i64 x.a.code, .int .i64 x.a.rev, v_a_text, v_a_list], .agg #[.int .i64 x.c.kind, .string x.c.doc, .int .i64 x.c.client, .int .i64 x.c.seq, .int .i64 x.c.n, u_c_o, u_c_text, .int .i64 x.pc, .int .i64 x.inv, .int .i64 x.lin, .int .i64 x.res, .int .i64 x.a.code, .int .i64 x.a.rev, u_a_text, u_a_list]] w (Tells w (.bool true)) := by
  go_enter Try.func30, Try.ntmps30
  go_wp2_with fail
  refine (eqCall_c x.c _ _ _ _ _ (h_c_o.below (by repeat' (first | (with_reducible exact Below.refl _ _) | (with_reducible assumption) | (with_reducible refine Below.setCell ?_ ?_ _) | (with_reducible refine Below.alloc ?_ ?_ _) | (with_reducible refine Below.drew ?_) | (with_reducible refine belowN ?_ _) | (with_reducible refine below_after ?_ (by assumption) ?_) | omega | (simp; done) | (simp; omega)))) (k_c_o.below (by repeat' (first | (with_reducible exact Below.refl _ _) | (with_reducible assumption) | (with_reducible refine Below.setCell ?_ ?_ _) | (with_reducible refine Below.alloc ?_ ?_ _) | (with_reducible refine Below.drew ?_) | (with_reducible refine belowN ?_ _) | (with_reducible refine below_after ?_ (by assumption) ?_) | omega | (simp; done) | (simp; omega)))) (h_c_text.below (by repeat' (first | (with_reducible exact Below.refl _ _) | (with_reducible assumption) | (with_reducible refine Below.setCell ?_ ?_ _) | (with_reducible refine Below.alloc ?_ ?_ _) | (with_reducible refine Below.drew ?_) | (with_reducible refine belowN ?_ _) | (with_reducible refine below_after ?_ (by assumption) ?_) | omega | (simp; done) | (simp; omega)))) (k_c_text.below (by repeat' (first | (with_reducible exact Below.refl _ _) | (with_reducible assumption) | (with_reducible refine Below.setCell ?_ ?_ _) | (with_reducible refine Below.alloc ?_ ?_ _) | (with_reducible refine Below.drew ?_) | (with_reducible refine belowN ?_ _) | (with_reducible refine below_after ?_ (by assumption) ?_) | omega | (simp; done) | (simp; omega))))).mono ?_
  rintro e w1 ⟨rfl, hb1⟩
  have s1 : w.heap.size + 2 ≤ w1.heap.size := by have := hb1.size; (try simp at this); omega
  obtain ⟨hc1, hf1⟩ := bcell hb1
  have z1_0 : w.heap.size < w1.heap.size := by omega
  have z1_1 : w.heap.size + 1 < w1.heap.size := by omega
  go_wp2_with fail
  refine (eqAnswer_c x.a _ _ _ _ _ (h_a_text.below (by repeat' (first | (with_reducible exact Below.refl _ _) | (with_reducible assumption) | (with_reducible refine Below.setCell ?_ ?_ _) | (with_reducible refine Below.alloc ?_ ?_ _) | (with_reducible refine Below.drew ?_) | (with_reducible refine belowN ?_ _) | (with_reducible refine below_after ?_ (by assumption) ?_) | omega | (simp; done) | (simp; omega)))) (k_a_text.below (by repeat' (first | (with_reducible exact Below.refl _ _) | (with_reducible assumption) | (with_reducible refine Below.setCell ?_ ?_ _) | (with_reducible refine Below.alloc ?_ ?_ _) | (with_reducible refine Below.drew ?_) | (with_reducible refine belowN ?_ _) | (with_reducible refine below_after ?_ (by assumption) ?_) | omega | (simp; done) | (simp; omega)))) (h_a_list.below (by repeat' (first | (with_reducible exact Below.refl _ _) | (with_reducible assumption) | (with_reducible refine Below.setCell ?_ ?_ _) | (with_reducible refine Below.alloc ?_ ?_ _) | (with_reducible refine Below.drew ?_) | (with_reducible refine belowN ?_ _) | (with_reducible refine below_after ?_ (by assumption) ?_) | omega | (simp; done) | (simp; omega)))) (k_a_list.below (by repeat' (first | (with_reducible exact Below.refl _ _) | (with_reducible assumption) | (with_reducible refine Below.setCell ?_ ?_ _) | (with_reducible refine Below.alloc ?_ ?_ _) | (with_reducible refine Below.drew ?_) | (with_reducible refine belowN ?_ _) | (with_reducible refine below_after ?_ (by assumption) ?_) | omega | (simp; done) | (simp; omega))))).mono ?_
  rintro e w2 ⟨rfl, hb2⟩
  have s2 : w1.heap.size ≤ w2.heap.size := by have := hb2.size; (try simp at this); omega
  obtain ⟨hc2, hf2⟩ := bcell hb2
  have z2_0 : w.heap.size < w2.heap.size := by omega
  have z2_1 : w.heap.size + 1 < w2.heap.size := by omega
  go_wp2
  go_ret
  exact ⟨rfl, (by repeat' (first | (with_reducible exact Below.refl _ _) | (with_reducible assumption) | (with_reducible refine Below.setCell ?_ ?_ _) | (with_reducible refine Below.alloc ?_ ?_ _) | (with_reducible refine Below.drew ?_) | (with_reducible refine belowN ?_ _) | (with_reducible refine below_after ?_ (by assumption) ?_) | omega | (simp; done) | (simp; omega)))⟩





end Go.Proofs.Ytihbmefidbmmdaa
