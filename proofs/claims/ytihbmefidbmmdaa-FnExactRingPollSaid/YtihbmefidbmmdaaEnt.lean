/- Normal operations and entries: what both packages ask. -/
import Derived.Test.YtihbmefidbmmdaaNml
import Derived.Test.YtihbmefidbmmdaaCmp3
namespace Go.Proofs.Ytihbmefidbmmdaa
open Go.RowKit
def entryOk (e : DEntry) : Bool := within e.client 1 8 && within e.seq 1 1000000000 && isNorm e.o
theorem isNorm_yes {o : List DPart} (h : opOk o = true) : isNorm o = decide (opNorm o = o) := by simp [isNorm, h]
theorem isNorm_no {o : List DPart} (h : opOk o = false) : isNorm o = false := by simp [isNorm, h]
theorem isNorm_iff {o : List DPart} : isNorm o = true ↔ opOk o = true ∧ opNorm o = o := by simp [isNorm]
theorem spec_IsNorm_c (v : Value) (o : List DPart) (w : World) (h : RdS w v o) : Calls Try.prog 53 #[v] w (Tells w (.bool (isNorm o))) := by
  by_cases h1 : opOk o = true
  · have HV := Lib.hid (isNorm_yes h1)
    go_enter Try.func53, Try.ntmps53
    go_wp2_with fail
    refine (spec_OpOk_c _ o _ (h.below (by repeat' (first | (with_reducible exact Below.refl _ _) | (with_reducible assumption) | (with_reducible refine Below.setCell ?_ ?_ _) | (with_reducible refine Below.alloc ?_ ?_ _) | (with_reducible refine Below.drew ?_) | (with_reducible refine belowN ?_ _) | (with_reducible refine below_after ?_ (by assumption) ?_) | omega | (simp; done) | (simp; omega))))).mono ?_
    rintro e w1 ⟨rfl, hb1⟩
    have s1 := hb1.size
    (try simp at s1)
    obtain ⟨hc1, hf1⟩ := bcell hb1
    go_wp2_with fail
    refine (spec_OpNorm_c _ o _ (h.below (by repeat' (first | (with_reducible exact Below.refl _ _) | (with_reducible assumption) | (with_reducible refine Below.setCell ?_ ?_ _) | (with_reducible refine Below.alloc ?_ ?_ _) | (with_reducible refine Below.drew ?_) | (with_reducible refine belowN ?_ _) | (with_reducible refine below_after ?_ (by assumption) ?_) | omega | (simp; done) | (simp; omega))))).mono ?_
    rintro e w2 ⟨v2, rfl, ho, hb2⟩
    have s2 := hb2.size
    go_wp2_with fail
    refine (spec_OpSame_c _ _ _ _ _ (ho.rd.below (by repeat' (first | (with_reducible exact Below.refl _ _) | (with_reducible assumption) | (with_reducible refine Below.setCell ?_ ?_ _) | (with_reducible refine Below.alloc ?_ ?_ _) | (with_reducible refine Below.drew ?_) | (with_reducible refine belowN ?_ _) | (with_reducible refine below_after ?_ (by assumption) ?_) | omega | (simp; done) | (simp; omega)))) (h.below (by repeat' (first | (with_reducible exact Below.refl _ _) | (with_reducible assumption) | (with_reducible refine Below.setCell ?_ ?_ _) | (with_reducible refine Below.alloc ?_ ?_ _) | (with_reducible refine Below.drew ?_) | (with_reducible refine belowN ?_ _) | (with_reducible refine below_after ?_ (by assumption) ?_) | omega | (simp; done) | (simp; omega))))).mono ?_
    rintro e w3 ⟨rfl, hb3⟩
    have s3 := hb3.size
    (try simp at s3)
    obtain ⟨hc3, hf3⟩ := bcell hb3
    go_wp2
    go_ret
    exact ⟨ret_bool (by rw [HV.out]), (by repeat' (first | (with_reducible exact Below.refl _ _) | (with_reducible assumption) | (with_reducible refine Below.setCell ?_ ?_ _) | (with_reducible refine Below.alloc ?_ ?_ _) | (with_reducible refine Below.drew ?_) | (with_reducible refine belowN ?_ _) | (with_reducible refine below_after ?_ (by assumption) ?_) | omega | (simp; done) | (simp; omega)))⟩
  · have h1 : opOk o = false := by simpa using h1
    have HV := Lib.hid (isNorm_no h1)
    go_enter Try.func53, Try.ntmps53
    go_wp2_with fail
    refine (spec_OpOk_c _ o _ (h.below (by repeat' (first | (with_reducible exact Below.refl _ _) | (with_reducible assumption) | (with_reducible refine Below.setCell ?_ ?_ _) | (with_reducible refine Below.alloc ?_ ?_ _) | (with_reducible refine Below.drew ?_) | (with_reducible refine belowN ?_ _) | (with_reducible refine below_after ?_ (by assumption) ?_) | omega | (simp; done) | (simp; omega))))).mono ?_
    rintro e w1 ⟨rfl, hb1⟩
    have s1 := hb1.size
    (try simp at s1)
    obtain ⟨hc1, hf1⟩ := bcell hb1
    go_wp2
    go_ret
    exact ⟨ret_bool HV.out.symm, (by repeat' (first | (with_reducible exact Below.refl _ _) | (with_reducible assumption) | (with_reducible refine Below.setCell ?_ ?_ _) | (with_reducible refine Below.alloc ?_ ?_ _) | (with_reducible refine Below.drew ?_) | (with_reducible refine belowN ?_ _) | (with_reducible refine below_after ?_ (by assumption) ?_) | omega | (simp; done) | (simp; omega)))⟩
set_option maxRecDepth 100000 in
theorem spec_EntryOk_c (e : DEntry) (v_o : Value) (w : World) (h_o : RdS w v_o e.o) : Calls Try.prog 13 #[.agg #[.int .i64 e.client, .int .i64 e.seq, v_o]] w (Tells w (.bool (entryOk e))) := by
  by_cases h1 : within e.client 1 8 = true
  rotate_left
  · have h1 : within e.client 1 8 = false := by simpa using h1
    have HV : Hid (entryOk e = false) := Lib.hid (by simp [entryOk, h1])
    go_enter Try.func13, Try.ntmps13
    go_wp2_with fail
    refine (spec_within_c _ _ _ _).mono ?_
    rintro e w1 ⟨rfl, hb1⟩
    have s1 := hb1.size
    (try simp at s1)
    obtain ⟨hc1, hf1⟩ := bcell hb1
    have z1 : w.heap.size < w1.heap.size := by omega
    go_wp2
    go_ret
    exact ⟨ret_bool HV.out.symm, (by repeat' (first | (with_reducible exact Below.refl _ _) | (with_reducible assumption) | (with_reducible refine Below.setCell ?_ ?_ _) | (with_reducible refine Below.alloc ?_ ?_ _) | (with_reducible refine Below.drew ?_) | (with_reducible refine belowN ?_ _) | (with_reducible refine below_after ?_ (by assumption) ?_) | omega | (simp; done) | (simp; omega)))⟩
  by_cases h2 : within e.seq 1 1000000000 = true
  rotate_left
  · have h2 : within e.seq 1 1000000000 = false := by simpa using h2
    have HV : Hid (entryOk e = false) := Lib.hid (by simp [entryOk, h2])
    go_enter Try.func13, Try.ntmps13
    go_wp2_with fail
    refine (spec_within_c _ _ _ _).mono ?_
    rintro e w1 ⟨rfl, hb1⟩
    have s1 := hb1.size
    (try simp at s1)
    obtain ⟨hc1, hf1⟩ := bcell hb1
    have z1 : w.heap.size < w1.heap.size := by omega
    go_wp2_with fail
    refine (spec_within_c _ _ _ _).mono ?_
    rintro e w2 ⟨rfl, hb2⟩
    have s2 := hb2.size
    (try simp at s2)
    obtain ⟨hc2, hf2⟩ := bcell hb2
    have z2 : w.heap.size < w2.heap.size := by omega
    go_wp2
    go_ret
    exact ⟨ret_bool HV.out.symm, (by repeat' (first | (with_reducible exact Below.refl _ _) | (with_reducible assumption) | (with_reducible refine Below.setCell ?_ ?_ _) | (with_reducible refine Below.alloc ?_ ?_ _) | (with_reducible refine Below.drew ?_) | (with_reducible refine belowN ?_ _) | (with_reducible refine below_after ?_ (by assumption) ?_) | omega | (simp; done) | (simp; omega)))⟩
  have HV : Hid (entryOk e = isNorm e.o) := Lib.hid (by simp [entryOk, h1, h2])
  go_enter Try.func13, Try.ntmps13
  go_wp2_with fail
  refine (spec_within_c _ _ _ _).mono ?_
  rintro e w1 ⟨rfl, hb1⟩
  have s1 := hb1.size
  (try simp at s1)
  obtain ⟨hc1, hf1⟩ := bcell hb1
  have z1 : w.heap.size < w1.heap.size := by omega
  go_wp2_with fail
  refine (spec_within_c _ _ _ _).mono ?_
  rintro e w2 ⟨rfl, hb2⟩
  have s2 := hb2.size
  (try simp at s2)
  obtain ⟨hc2, hf2⟩ := bcell hb2
  have z2 : w.heap.size < w2.heap.size := by omega
  go_wp2_with fail
  refine (spec_IsNorm_c _ e.o _ (h_o.below (by repeat' (first | (with_reducible exact Below.refl _ _) | (with_reducible assumption) | (with_reducible refine Below.setCell ?_ ?_ _) | (with_reducible refine Below.alloc ?_ ?_ _) | (with_reducible refine Below.drew ?_) | (with_reducible refine belowN ?_ _) | (with_reducible refine below_after ?_ (by assumption) ?_) | omega | (simp; done) | (simp; omega))))).mono ?_
  rintro e w3 ⟨rfl, hb3⟩
  have s3 := hb3.size
  (try simp at s3)
  obtain ⟨hc3, hf3⟩ := bcell hb3
  go_wp2
  go_ret
  exact ⟨ret_bool HV.out.symm, (by repeat' (first | (with_reducible exact Below.refl _ _) | (with_reducible assumption) | (with_reducible refine Below.setCell ?_ ?_ _) | (with_reducible refine Below.alloc ?_ ?_ _) | (with_reducible refine Below.drew ?_) | (with_reducible refine belowN ?_ _) | (with_reducible refine below_after ?_ (by assumption) ?_) | omega | (simp; done) | (simp; omega)))⟩
theorem impl_IsNorm_c (v : Value) (o : List DPart) (w : World) (h : RdS w v o) : Calls Try.prog 56 #[v] w (Tells w (.bool (isNorm o))) := by
  by_cases h1 : opOk o = true
  · have HV := Lib.hid (isNorm_yes h1)
    go_enter Try.func56, Try.ntmps56
    go_wp2_with fail
    refine (impl_OpOk_c _ o _ (h.below (by repeat' (first | (with_reducible exact Below.refl _ _) | (with_reducible assumption) | (with_reducible refine Below.setCell ?_ ?_ _) | (with_reducible refine Below.alloc ?_ ?_ _) | (with_reducible refine Below.drew ?_) | (with_reducible refine belowN ?_ _) | (with_reducible refine below_after ?_ (by assumption) ?_) | omega | (simp; done) | (simp; omega))))).mono ?_
    rintro e w1 ⟨rfl, hb1⟩
    have s1 := hb1.size
    (try simp at s1)
    obtain ⟨hc1, hf1⟩ := bcell hb1
    go_wp2_with fail
    refine (impl_OpNorm_c _ o _ (h.below (by repeat' (first | (with_reducible exact Below.refl _ _) | (with_reducible assumption) | (with_reducible refine Below.setCell ?_ ?_ _) | (with_reducible refine Below.alloc ?_ ?_ _) | (with_reducible refine Below.drew ?_) | (with_reducible refine belowN ?_ _) | (with_reducible refine below_after ?_ (by assumption) ?_) | omega | (simp; done) | (simp; omega))))).mono ?_
    rintro e w2 ⟨v2, rfl, ho, hb2⟩
    have s2 := hb2.size
    go_wp2_with fail
    refine (impl_OpSame_c _ _ _ _ _ (h.below (by repeat' (first | (with_reducible exact Below.refl _ _) | (with_reducible assumption) | (with_reducible refine Below.setCell ?_ ?_ _) | (with_reducible refine Below.alloc ?_ ?_ _) | (with_reducible refine Below.drew ?_) | (with_reducible refine belowN ?_ _) | (with_reducible refine below_after ?_ (by assumption) ?_) | omega | (simp; done) | (simp; omega)))) (ho.rd.below (by repeat' (first | (with_reducible exact Below.refl _ _) | (with_reducible assumption) | (with_reducible refine Below.setCell ?_ ?_ _) | (with_reducible refine Below.alloc ?_ ?_ _) | (with_reducible refine Below.drew ?_) | (with_reducible refine belowN ?_ _) | (with_reducible refine below_after ?_ (by assumption) ?_) | omega | (simp; done) | (simp; omega))))).mono ?_
    rintro e w3 ⟨rfl, hb3⟩
    have s3 := hb3.size
    (try simp at s3)
    obtain ⟨hc3, hf3⟩ := bcell hb3
    go_wp2
    go_ret
    exact ⟨ret_bool (by rw [HV.out]; exact decide_eq_decide.2 eq_comm), (by repeat' (first | (with_reducible exact Below.refl _ _) | (with_reducible assumption) | (with_reducible refine Below.setCell ?_ ?_ _) | (with_reducible refine Below.alloc ?_ ?_ _) | (with_reducible refine Below.drew ?_) | (with_reducible refine belowN ?_ _) | (with_reducible refine below_after ?_ (by assumption) ?_) | omega | (simp; done) | (simp; omega)))⟩
  · have h1 : opOk o = false := by simpa using h1
    have HV := Lib.hid (isNorm_no h1)
    go_enter Try.func56, Try.ntmps56
    go_wp2_with fail
    refine (impl_OpOk_c _ o _ (h.below (by repeat' (first | (with_reducible exact Below.refl _ _) | (with_reducible assumption) | (with_reducible refine Below.setCell ?_ ?_ _) | (with_reducible refine Below.alloc ?_ ?_ _) | (with_reducible refine Below.drew ?_) | (with_reducible refine belowN ?_ _) | (with_reducible refine below_after ?_ (by assumption) ?_) | omega | (simp; done) | (simp; omega))))).mono ?_
    rintro e w1 ⟨rfl, hb1⟩
    have s1 := hb1.size
    (try simp at s1)
    obtain ⟨hc1, hf1⟩ := bcell hb1
    go_wp2
    go_ret
    exact ⟨ret_bool HV.out.symm, (by repeat' (first | (with_reducible exact Below.refl _ _) | (with_reducible assumption) | (with_reducible refine Below.setCell ?_ ?_ _) | (with_reducible refine Below.alloc ?_ ?_ _) | (with_reducible refine Below.drew ?_) | (with_reducible refine belowN ?_ _) | (with_reducible refine below_after ?_ (by assumption) ?_) | omega | (simp; done) | (simp; omega)))⟩
set_option maxRecDepth 100000 in
theorem impl_EntryOk_c (e : DEntry) (v_o : Value) (w : World) (h_o : RdS w v_o e.o) : Calls Try.prog 15 #[.agg #[.int .i64 e.client, .int .i64 e.seq, v_o]] w (Tells w (.bool (entryOk e))) := by
  by_cases h1 : within e.client 1 8 = true
  rotate_left
  · have h1 : within e.client 1 8 = false := by simpa using h1
    have HV : Hid (entryOk e = false) := Lib.hid (by simp [entryOk, h1])
    go_enter Try.func15, Try.ntmps15
    go_wp2_with fail
    refine (impl_within_c _ _ _ _).mono ?_
    rintro e w1 ⟨rfl, hb1⟩
    have s1 := hb1.size
    (try simp at s1)
    obtain ⟨hc1, hf1⟩ := bcell hb1
    have z1 : w.heap.size < w1.heap.size := by omega
    go_wp2
    go_ret
    exact ⟨ret_bool HV.out.symm, (by repeat' (first | (with_reducible exact Below.refl _ _) | (with_reducible assumption) | (with_reducible refine Below.setCell ?_ ?_ _) | (with_reducible refine Below.alloc ?_ ?_ _) | (with_reducible refine Below.drew ?_) | (with_reducible refine belowN ?_ _) | (with_reducible refine below_after ?_ (by assumption) ?_) | omega | (simp; done) | (simp; omega)))⟩
  by_cases h2 : within e.seq 1 1000000000 = true
  rotate_left
  · have h2 : within e.seq 1 1000000000 = false := by simpa using h2
    have HV : Hid (entryOk e = false) := Lib.hid (by simp [entryOk, h2])
    go_enter Try.func15, Try.ntmps15
    go_wp2_with fail
    refine (impl_within_c _ _ _ _).mono ?_
    rintro e w1 ⟨rfl, hb1⟩
    have s1 := hb1.size
    (try simp at s1)
    obtain ⟨hc1, hf1⟩ := bcell hb1
    have z1 : w.heap.size < w1.heap.size := by omega
    go_wp2_with fail
    refine (impl_within_c _ _ _ _).mono ?_
    rintro e w2 ⟨rfl, hb2⟩
    have s2 := hb2.size
    (try simp at s2)
    obtain ⟨hc2, hf2⟩ := bcell hb2
    have z2 : w.heap.size < w2.heap.size := by omega
    go_wp2
    go_ret
    exact ⟨ret_bool HV.out.symm, (by repeat' (first | (with_reducible exact Below.refl _ _) | (with_reducible assumption) | (with_reducible refine Below.setCell ?_ ?_ _) | (with_reducible refine Below.alloc ?_ ?_ _) | (with_reducible refine Below.drew ?_) | (with_reducible refine belowN ?_ _) | (with_reducible refine below_after ?_ (by assumption) ?_) | omega | (simp; done) | (simp; omega)))⟩
  have HV : Hid (entryOk e = isNorm e.o) := Lib.hid (by simp [entryOk, h1, h2])
  go_enter Try.func15, Try.ntmps15
  go_wp2_with fail
  refine (impl_within_c _ _ _ _).mono ?_
  rintro e w1 ⟨rfl, hb1⟩
  have s1 := hb1.size
  (try simp at s1)
  obtain ⟨hc1, hf1⟩ := bcell hb1
  have z1 : w.heap.size < w1.heap.size := by omega
  go_wp2_with fail
  refine (impl_within_c _ _ _ _).mono ?_
  rintro e w2 ⟨rfl, hb2⟩
  have s2 := hb2.size
  (try simp at s2)
  obtain ⟨hc2, hf2⟩ := bcell hb2
  have z2 : w.heap.size < w2.heap.size := by omega
  go_wp2_with fail
  refine (impl_IsNorm_c _ e.o _ (h_o.below (by repeat' (first | (with_reducible exact Below.refl _ _) | (with_reducible assumption) | (with_reducible refine Below.setCell ?_ ?_ _) | (with_reducible refine Below.alloc ?_ ?_ _) | (with_reducible refine Below.drew ?_) | (with_reducible refine belowN ?_ _) | (with_reducible refine below_after ?_ (by assumption) ?_) | omega | (simp; done) | (simp; omega))))).mono ?_
  rintro e w3 ⟨rfl, hb3⟩
  have s3 := hb3.size
  (try simp at s3)
  obtain ⟨hc3, hf3⟩ := bcell hb3
  go_wp2
  go_ret
  exact ⟨ret_bool HV.out.symm, (by repeat' (first | (with_reducible exact Below.refl _ _) | (with_reducible assumption) | (with_reducible refine Below.setCell ?_ ?_ _) | (with_reducible refine Below.alloc ?_ ?_ _) | (with_reducible refine Below.drew ?_) | (with_reducible refine belowN ?_ _) | (with_reducible refine below_after ?_ (by assumption) ?_) | omega | (simp; done) | (simp; omega)))⟩
end Go.Proofs.Ytihbmefidbmmdaa
