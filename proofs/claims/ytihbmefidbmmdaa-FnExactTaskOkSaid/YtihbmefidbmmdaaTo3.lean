/- The copies that the laws make of their arguments. -/
import Derived.Test.YtihbmefidbmmdaaTo2
import Derived.Handy
namespace Go.Proofs.Ytihbmefidbmmdaa
open Go.RowKit


set_option maxHeartbeats 1000000 in
theorem toCall_c (x : DCall) (v_o : Value) (v_text : Value) (w : World) (n_doc : x.doc.size ≤ BIG) (h_o : RdS w v_o x.o) (h_text : RdS w v_text x.text) :
    Calls Try.prog 48 #[.agg #[.int .i64 x.kind, .string x.doc, .int .i64 x.client, .int .i64 x.seq, .int .i64 x.n, v_o, v_text]] w (Gives w x) := by
  go_enter Try.func48, Try.ntmps48
  go_wp2_with fail
  refine (toPartS_c _ _ _ (h_o.below (by repeat' (first | (with_reducible exact Below.refl _ _) | (with_reducible refine Below.setCell ?_ ?_ _) | (with_reducible refine Below.alloc ?_ ?_ _) | (with_reducible refine Below.drew ?_) | (with_reducible refine belowN ?_ _) | (with_reducible refine below_after ?_ (by assumption) ?_) | omega | (simp; done) | (simp; omega))))).mono ?_
  rintro e w1 ⟨v1, rfl, ho0, hb1⟩
  have s1 : w.heap.size + 3 ≤ w1.heap.size := by have := hb1.size; (try simp at this); omega
  obtain ⟨a1_0, c1_0, rfl⟩ := ho0.rd.isSlice
  obtain ⟨C1_0, D1_0, HO1_0, jc1_0, jd1_0, je1_0⟩ := ho0.ex (m := w.heap.size + 3) (by simp) hb1.size
  clear ho0
  obtain ⟨hc1, hf1⟩ := bcell hb1
  have z1_0 : w.heap.size < w1.heap.size := by omega
  have z1_1 : w.heap.size + 1 < w1.heap.size := by omega
  have z1_2 : w.heap.size + 1 + 1 < w1.heap.size := by omega
  go_wp2_with fail
  refine (toIntS_c _ _ _ (h_text.below (by repeat' (first | (with_reducible exact Below.refl _ _) | (with_reducible refine Below.setCell ?_ ?_ _) | (with_reducible refine Below.alloc ?_ ?_ _) | (with_reducible refine Below.drew ?_) | (with_reducible refine belowN ?_ _) | (with_reducible refine below_after ?_ (by assumption) ?_) | omega | (simp; done) | (simp; omega))))).mono ?_
  rintro e w2 ⟨v2, rfl, ho0, hb2⟩
  have s2 : w1.heap.size ≤ w2.heap.size := by have := hb2.size; (try simp at this); omega
  obtain ⟨a2_0, c2_0, rfl⟩ := ho0.rd.isSlice
  obtain ⟨C2_0, D2_0, HO2_0, jc2_0, jd2_0, je2_0⟩ := ho0.ex (m := w1.heap.size) (by simp) hb2.size
  clear ho0
  obtain ⟨hc2, hf2⟩ := bcell hb2
  have z2_0 : w.heap.size < w2.heap.size := by omega
  have z2_1 : w.heap.size + 1 < w2.heap.size := by omega
  have z2_2 : w.heap.size + 1 + 1 < w2.heap.size := by omega
  go_wp2
  refine bodyPost_ret (v := .agg #[.int .i64 x.kind, .string x.doc, .int .i64 x.client, .int .i64 x.seq, .int .i64 x.n, .slice a1_0 x.o.length c1_0, .slice a2_0 x.text.length c2_0]) (by simp [results, Try.results48, go_sem, cell_setCell, *]) rfl ?_
  exact ⟨_, rfl, own_DCall (C0 := C1_0) (D0 := D1_0) (C1 := C2_0) (D1 := D2_0) x n_doc (by repeat' (first | (with_reducible exact HO1_0) | (with_reducible refine OwnB.setCell ?_ ?_ _) | (with_reducible refine OwnB.drew ?_) | (with_reducible refine OwnB.drewN ?_ _) | (with_reducible refine OwnB.below ?_ (by assumption)) | (with_reducible refine OwnB.alloc ?_ _) | omega)) (by repeat' (first | (with_reducible exact HO2_0) | (with_reducible refine OwnB.setCell ?_ ?_ _) | (with_reducible refine OwnB.drew ?_) | (with_reducible refine OwnB.drewN ?_ _) | (with_reducible refine OwnB.below ?_ (by assumption)) | (with_reducible refine OwnB.alloc ?_ _) | omega)) (by omega) (by omega) (by omega), (by repeat' (first | (with_reducible exact Below.refl _ _) | (with_reducible refine Below.setCell ?_ ?_ _) | (with_reducible refine Below.alloc ?_ ?_ _) | (with_reducible refine Below.drew ?_) | (with_reducible refine belowN ?_ _) | (with_reducible refine below_after ?_ (by assumption) ?_) | omega | (simp; done) | (simp; omega)))⟩

set_option maxHeartbeats 1000000 in
theorem toAnswer_c (x : DAnswer) (v_text : Value) (v_list : Value) (w : World)  (h_text : RdS w v_text x.text) (h_list : RdS w v_list x.list) :
    Calls Try.prog 63 #[.agg #[.int .i64 x.code, .int .i64 x.rev, v_text, v_list]] w (Gives w x) := by
  go_enter Try.func63, Try.ntmps63
  go_wp2_with fail
  refine (toIntS_c _ _ _ (h_text.below (by repeat' (first | (with_reducible exact Below.refl _ _) | (with_reducible refine Below.setCell ?_ ?_ _) | (with_reducible refine Below.alloc ?_ ?_ _) | (with_reducible refine Below.drew ?_) | (with_reducible refine belowN ?_ _) | (with_reducible refine below_after ?_ (by assumption) ?_) | omega | (simp; done) | (simp; omega))))).mono ?_
  rintro e w1 ⟨v1, rfl, ho0, hb1⟩
  have s1 : w.heap.size + 3 ≤ w1.heap.size := by have := hb1.size; (try simp at this); omega
  obtain ⟨a1_0, c1_0, rfl⟩ := ho0.rd.isSlice
  obtain ⟨C1_0, D1_0, HO1_0, jc1_0, jd1_0, je1_0⟩ := ho0.ex (m := w.heap.size + 3) (by simp) hb1.size
  clear ho0
  obtain ⟨hc1, hf1⟩ := bcell hb1
  have z1_0 : w.heap.size < w1.heap.size := by omega
  have z1_1 : w.heap.size + 1 < w1.heap.size := by omega
  have z1_2 : w.heap.size + 1 + 1 < w1.heap.size := by omega
  go_wp2_with fail
  refine (toEntryS_c _ _ _ (h_list.below (by repeat' (first | (with_reducible exact Below.refl _ _) | (with_reducible refine Below.setCell ?_ ?_ _) | (with_reducible refine Below.alloc ?_ ?_ _) | (with_reducible refine Below.drew ?_) | (with_reducible refine belowN ?_ _) | (with_reducible refine below_after ?_ (by assumption) ?_) | omega | (simp; done) | (simp; omega))))).mono ?_
  rintro e w2 ⟨v2, rfl, ho0, hb2⟩
  have s2 : w1.heap.size ≤ w2.heap.size := by have := hb2.size; (try simp at this); omega
  obtain ⟨a2_0, c2_0, rfl⟩ := ho0.rd.isSlice
  obtain ⟨C2_0, D2_0, HO2_0, jc2_0, jd2_0, je2_0⟩ := ho0.ex (m := w1.heap.size) (by simp) hb2.size
  clear ho0
  obtain ⟨hc2, hf2⟩ := bcell hb2
  have z2_0 : w.heap.size < w2.heap.size := by omega
  have z2_1 : w.heap.size + 1 < w2.heap.size := by omega
  have z2_2 : w.heap.size + 1 + 1 < w2.heap.size := by omega
  go_wp2
  refine bodyPost_ret (v := .agg #[.int .i64 x.code, .int .i64 x.rev, .slice a1_0 x.text.length c1_0, .slice a2_0 x.list.length c2_0]) (by simp [results, Try.results63, go_sem, cell_setCell, *]) rfl ?_
  exact ⟨_, rfl, own_DAnswer (C0 := C1_0) (D0 := D1_0) (C1 := C2_0) (D1 := D2_0) x  (by repeat' (first | (with_reducible exact HO1_0) | (with_reducible refine OwnB.setCell ?_ ?_ _) | (with_reducible refine OwnB.drew ?_) | (with_reducible refine OwnB.drewN ?_ _) | (with_reducible refine OwnB.below ?_ (by assumption)) | (with_reducible refine OwnB.alloc ?_ _) | omega)) (by repeat' (first | (with_reducible exact HO2_0) | (with_reducible refine OwnB.setCell ?_ ?_ _) | (with_reducible refine OwnB.drew ?_) | (with_reducible refine OwnB.drewN ?_ _) | (with_reducible refine OwnB.below ?_ (by assumption)) | (with_reducible refine OwnB.alloc ?_ _) | omega)) (by omega) (by omega) (by omega), (by repeat' (first | (with_reducible exact Below.refl _ _) | (with_reducible refine Below.setCell ?_ ?_ _) | (with_reducible refine Below.alloc ?_ ?_ _) | (with_reducible refine Below.drew ?_) | (with_reducible refine belowN ?_ _) | (with_reducible refine below_after ?_ (by assumption) ?_) | omega | (simp; done) | (simp; omega)))⟩


end Go.Proofs.Ytihbmefidbmmdaa
