/- Calls that are in order: what the reference and the program ask. -/
import Derived.Test.YtihbmefidbmmdaaPr2
import Derived.Test.YtihbmefidbmmdaaCmp3
import Derived.Test.YtihbmefidbmmdaaOut
import Derived.Deep.RegionHeld3
import Derived.RegionTactic
namespace Go.Proofs.Ytihbmefidbmmdaa
open Go.RowKit
def onDoc (k : Int) : Bool := within k 1 5
/-- a call with the fields alone that its kind uses -/
def usedD (c : DCall) : DCall :=
  ⟨c.kind, if onDoc c.kind = true then c.doc else ByteArray.empty, if c.kind = 2 ∨ c.kind = 6 ∨ c.kind = 7 then c.client else 0, if c.kind = 2 then c.seq else 0,
    if c.kind = 2 ∨ c.kind = 3 ∨ c.kind = 5 ∨ c.kind = 6 then c.n else 0, if c.kind = 2 then c.o else [], if c.kind = 1 then c.text else []⟩
def callOk (c : DCall) : Bool := within c.kind 1 8 && decide (c.doc.size ≤ 8) && partsOk c.o && textOk c.text && decide (c = usedD c)
theorem callOk_same {c : DCall} (h1 : within c.kind 1 8 = true) (h2 : c.doc.size ≤ 8) (h3 : partsOk c.o = true) (h4 : textOk c.text = true) : callOk c = decide (c = usedD c) := by simp [callOk, h1, h2, h3, h4]
theorem kinds {k : Int} (h : within k 1 8 = true) : k = 1 ∨ k = 2 ∨ k = 3 ∨ k = 4 ∨ k = 5 ∨ k = 6 ∨ k = 7 ∨ k = 8 := by
  rw [within_iff] at h
  omega
theorem ba_empty {d : ByteArray} (h : d = ByteArray.empty) : (d.toList == []) = true := by rw [h]; simp

theorem spec_OnDoc_c (k : Int) (w : World) : Calls Try.prog 61 #[.int .i64 k] w (Tells w (.bool (onDoc k))) := by
  go_enter Try.func61, Try.ntmps61
  go_wp2_with fail
  refine (spec_within_c k 1 5 _).mono ?_
  rintro e w1 ⟨rfl, hb1⟩
  go_wp2
  go_ret
  exact ⟨rfl, (by repeat' (first | (with_reducible exact Below.refl _ _) | (with_reducible assumption) | (with_reducible refine Below.setCell ?_ ?_ _) | (with_reducible refine Below.alloc ?_ ?_ _) | (with_reducible refine Below.drew ?_) | (with_reducible refine belowN ?_ _) | (with_reducible refine below_after ?_ (by assumption) ?_) | omega | (simp; done) | (simp; omega)))⟩
theorem impl_OnDoc_c (k : Int) (w : World) : Calls Try.prog 64 #[.int .i64 k] w (Tells w (.bool (onDoc k))) := by
  go_enter Try.func64, Try.ntmps64
  go_wp2_with fail
  refine (impl_within_c k 1 5 _).mono ?_
  rintro e w1 ⟨rfl, hb1⟩
  go_wp2
  go_ret
  exact ⟨rfl, (by repeat' (first | (with_reducible exact Below.refl _ _) | (with_reducible assumption) | (with_reducible refine Below.setCell ?_ ?_ _) | (with_reducible refine Below.alloc ?_ ?_ _) | (with_reducible refine Below.drew ?_) | (with_reducible refine belowN ?_ _) | (with_reducible refine below_after ?_ (by assumption) ?_) | omega | (simp; done) | (simp; omega)))⟩
theorem spec_l12Kind_c (k : Int) (w : World) : Calls Try.prog 80 #[.int .i64 k] w (Tells w (.bool (within k 1 8))) := by
  go_enter Try.func80, Try.ntmps80
  go_wp2_with fail
  refine (spec_within_c k 1 8 _).mono ?_
  rintro e w1 ⟨rfl, hb1⟩
  go_wp2
  go_ret
  exact ⟨rfl, (by repeat' (first | (with_reducible exact Below.refl _ _) | (with_reducible assumption) | (with_reducible refine Below.setCell ?_ ?_ _) | (with_reducible refine Below.alloc ?_ ?_ _) | (with_reducible refine Below.drew ?_) | (with_reducible refine belowN ?_ _) | (with_reducible refine below_after ?_ (by assumption) ?_) | omega | (simp; done) | (simp; omega)))⟩
set_option maxHeartbeats 8000000 in
set_option maxRecDepth 100000 in
theorem spec_CallOk_c (c : DCall) (v_o v_text : Value) (w : World) (h_o : RdS w v_o c.o) (h_text : RdS w v_text c.text) :
    Calls Try.prog 47 #[.agg #[.int .i64 c.kind, .string c.doc, .int .i64 c.client, .int .i64 c.seq, .int .i64 c.n, v_o, v_text]] w (Tells w (.bool (callOk c))) := by
  have hlo := fun w1 ty => h_o.len Try.underlying27 w1 ty
  have hlt := fun w1 ty => h_text.len Try.underlying48 w1 ty
  have blo := h_o.le
  have blt := h_text.le
  obtain ⟨kind, doc, client, seq, n, po, text⟩ := c
  simp only at h_o h_text hlo hlt blo blt
  show Calls _ _ #[.agg #[.int .i64 kind, .string doc, .int .i64 client, .int .i64 seq, .int .i64 n, v_o, v_text]] w _
  by_cases h1 : within kind 1 8 = true
  rotate_left
  · have h1 : within kind 1 8 = false := by simpa using h1
    have HV : Hid (callOk ⟨kind, doc, client, seq, n, po, text⟩ = false) := Lib.hid (by simp [callOk, h1])
    go_enter Try.func47, Try.ntmps47
    go_wp2_with fail
    refine (spec_l12Kind_c _ _).mono ?_
    rintro e w1 ⟨rfl, hb1⟩
    have s1 : w.heap.size + 1 ≤ w1.heap.size := (by have := hb1.size; (try simp at this); omega)
    obtain ⟨hc1, hf1⟩ := bcell hb1
    have z1 : w.heap.size < w1.heap.size := (by omega)
    go_wp2
    go_ret
    exact ⟨ret_bool (by rw [HV.out]; first | done | (simp; done) | (simp; omega)), (by repeat' (first | (with_reducible exact Below.refl _ _) | (with_reducible assumption) | (with_reducible refine Below.setCell ?_ ?_ _) | (with_reducible refine Below.alloc ?_ ?_ _) | (with_reducible refine Below.drew ?_) | (with_reducible refine belowN ?_ _) | (with_reducible refine below_after ?_ (by assumption) ?_) | omega | (simp; done) | (simp; omega)))⟩
  by_cases h2 : doc.size ≤ 8
  rotate_left
  · have HV : Hid (callOk ⟨kind, doc, client, seq, n, po, text⟩ = false) := Lib.hid (by simp [callOk, h2])
    go_enter Try.func47, Try.ntmps47
    go_wp2_with fail
    refine (spec_l12Kind_c _ _).mono ?_
    rintro e w1 ⟨rfl, hb1⟩
    have s1 : w.heap.size + 1 ≤ w1.heap.size := (by have := hb1.size; (try simp at this); omega)
    obtain ⟨hc1, hf1⟩ := bcell hb1
    have z1 : w.heap.size < w1.heap.size := (by omega)
    go_wp2
    go_ret
    exact ⟨ret_bool (by rw [HV.out]; first | done | (simp; done) | (simp; omega)), (by repeat' (first | (with_reducible exact Below.refl _ _) | (with_reducible assumption) | (with_reducible refine Below.setCell ?_ ?_ _) | (with_reducible refine Below.alloc ?_ ?_ _) | (with_reducible refine Below.drew ?_) | (with_reducible refine belowN ?_ _) | (with_reducible refine below_after ?_ (by assumption) ?_) | omega | (simp; done) | (simp; omega)))⟩
  by_cases h3 : partsOk po = true
  rotate_left
  · have h3 : partsOk po = false := by simpa using h3
    have HV : Hid (callOk ⟨kind, doc, client, seq, n, po, text⟩ = false) := Lib.hid (by simp [callOk, h3])
    go_enter Try.func47, Try.ntmps47
    go_wp2_with fail
    refine (spec_l12Kind_c _ _).mono ?_
    rintro e w1 ⟨rfl, hb1⟩
    have s1 : w.heap.size + 1 ≤ w1.heap.size := (by have := hb1.size; (try simp at this); omega)
    obtain ⟨hc1, hf1⟩ := bcell hb1
    have z1 : w.heap.size < w1.heap.size := (by omega)
    go_wp2_with fail
    refine (spec_partsOk_c _ po _ (h_o.below (by repeat' (first | (with_reducible exact Below.refl _ _) | (with_reducible assumption) | (with_reducible refine Below.setCell ?_ ?_ _) | (with_reducible refine Below.alloc ?_ ?_ _) | (with_reducible refine Below.drew ?_) | (with_reducible refine belowN ?_ _) | (with_reducible refine below_after ?_ (by assumption) ?_) | omega | (simp; done) | (simp; omega))))).mono ?_
    rintro e w2 ⟨rfl, hb2⟩
    have s2 : w1.heap.size ≤ w2.heap.size := (by have := hb2.size; (try simp at this); omega)
    obtain ⟨hc2, hf2⟩ := bcell hb2
    have z2 : w.heap.size < w2.heap.size := (by omega)
    go_wp2
    go_ret
    exact ⟨ret_bool (by rw [HV.out]; first | done | (simp; done) | (simp; omega)), (by repeat' (first | (with_reducible exact Below.refl _ _) | (with_reducible assumption) | (with_reducible refine Below.setCell ?_ ?_ _) | (with_reducible refine Below.alloc ?_ ?_ _) | (with_reducible refine Below.drew ?_) | (with_reducible refine belowN ?_ _) | (with_reducible refine below_after ?_ (by assumption) ?_) | omega | (simp; done) | (simp; omega)))⟩
  by_cases h4 : textOk text = true
  rotate_left
  · have h4 : textOk text = false := by simpa using h4
    have HV : Hid (callOk ⟨kind, doc, client, seq, n, po, text⟩ = false) := Lib.hid (by simp [callOk, h4])
    go_enter Try.func47, Try.ntmps47
    go_wp2_with fail
    refine (spec_l12Kind_c _ _).mono ?_
    rintro e w1 ⟨rfl, hb1⟩
    have s1 : w.heap.size + 1 ≤ w1.heap.size := (by have := hb1.size; (try simp at this); omega)
    obtain ⟨hc1, hf1⟩ := bcell hb1
    have z1 : w.heap.size < w1.heap.size := (by omega)
    go_wp2_with fail
    refine (spec_partsOk_c _ po _ (h_o.below (by repeat' (first | (with_reducible exact Below.refl _ _) | (with_reducible assumption) | (with_reducible refine Below.setCell ?_ ?_ _) | (with_reducible refine Below.alloc ?_ ?_ _) | (with_reducible refine Below.drew ?_) | (with_reducible refine belowN ?_ _) | (with_reducible refine below_after ?_ (by assumption) ?_) | omega | (simp; done) | (simp; omega))))).mono ?_
    rintro e w2 ⟨rfl, hb2⟩
    have s2 : w1.heap.size ≤ w2.heap.size := (by have := hb2.size; (try simp at this); omega)
    obtain ⟨hc2, hf2⟩ := bcell hb2
    have z2 : w.heap.size < w2.heap.size := (by omega)
    go_wp2_with fail
    refine (spec_TextOk_c _ text _ (h_text.below (by repeat' (first | (with_reducible exact Below.refl _ _) | (with_reducible assumption) | (with_reducible refine Below.setCell ?_ ?_ _) | (with_reducible refine Below.alloc ?_ ?_ _) | (with_reducible refine Below.drew ?_) | (with_reducible refine belowN ?_ _) | (with_reducible refine below_after ?_ (by assumption) ?_) | omega | (simp; done) | (simp; omega))))).mono ?_
    rintro e w3 ⟨rfl, hb3⟩
    have s3 : w2.heap.size ≤ w3.heap.size := (by have := hb3.size; (try simp at this); omega)
    obtain ⟨hc3, hf3⟩ := bcell hb3
    have z3 : w.heap.size < w3.heap.size := (by omega)
    go_wp2
    go_ret
    exact ⟨ret_bool (by rw [HV.out]; first | done | (simp; done) | (simp; omega)), (by repeat' (first | (with_reducible exact Below.refl _ _) | (with_reducible assumption) | (with_reducible refine Below.setCell ?_ ?_ _) | (with_reducible refine Below.alloc ?_ ?_ _) | (with_reducible refine Below.drew ?_) | (with_reducible refine belowN ?_ _) | (with_reducible refine below_after ?_ (by assumption) ?_) | omega | (simp; done) | (simp; omega)))⟩
  have HC := Lib.hid (callOk_same (c := ⟨kind, doc, client, seq, n, po, text⟩) h1 h2 h3 h4)
  rcases kinds h1 with rfl | rfl | rfl | rfl | rfl | rfl | rfl | rfl
  · have hon : onDoc 1 = true := by decide
    have h1 : within 1 1 8 = true := by decide
    by_cases tO : po = []
    rotate_left
    · have HV : Hid (callOk ⟨1, doc, client, seq, n, po, text⟩ = false) := Lib.hid (by rw [HC.out]; simp [usedD, hon, tO])
      have gO : 0 < po.length := List.length_pos_iff.2 tO
      clear tO
      go_enter Try.func47, Try.ntmps47
      go_wp2_with fail
      refine (spec_l12Kind_c _ _).mono ?_
      rintro e w1 ⟨rfl, hb1⟩
      have s1 : w.heap.size + 1 ≤ w1.heap.size := (by have := hb1.size; (try simp at this); omega)
      obtain ⟨hc1, hf1⟩ := bcell hb1
      have z1 : w.heap.size < w1.heap.size := (by omega)
      go_wp2_with fail
      refine (spec_partsOk_c _ po _ (h_o.below (by repeat' (first | (with_reducible exact Below.refl _ _) | (with_reducible assumption) | (with_reducible refine Below.setCell ?_ ?_ _) | (with_reducible refine Below.alloc ?_ ?_ _) | (with_reducible refine Below.drew ?_) | (with_reducible refine belowN ?_ _) | (with_reducible refine below_after ?_ (by assumption) ?_) | omega | (simp; done) | (simp; omega))))).mono ?_
      rintro e w2 ⟨rfl, hb2⟩
      have s2 : w1.heap.size ≤ w2.heap.size := (by have := hb2.size; (try simp at this); omega)
      obtain ⟨hc2, hf2⟩ := bcell hb2
      have z2 : w.heap.size < w2.heap.size := (by omega)
      go_wp2_with fail
      refine (spec_TextOk_c _ text _ (h_text.below (by repeat' (first | (with_reducible exact Below.refl _ _) | (with_reducible assumption) | (with_reducible refine Below.setCell ?_ ?_ _) | (with_reducible refine Below.alloc ?_ ?_ _) | (with_reducible refine Below.drew ?_) | (with_reducible refine belowN ?_ _) | (with_reducible refine below_after ?_ (by assumption) ?_) | omega | (simp; done) | (simp; omega))))).mono ?_
      rintro e w3 ⟨rfl, hb3⟩
      have s3 : w2.heap.size ≤ w3.heap.size := (by have := hb3.size; (try simp at this); omega)
      obtain ⟨hc3, hf3⟩ := bcell hb3
      have z3 : w.heap.size < w3.heap.size := (by omega)
      go_wp2_with fail
      refine (spec_OnDoc_c _ _).mono ?_
      rintro e w4 ⟨rfl, hb4⟩
      have s4 : w3.heap.size ≤ w4.heap.size := (by have := hb4.size; (try simp at this); omega)
      obtain ⟨hc4, hf4⟩ := bcell hb4
      have z4 : w.heap.size < w4.heap.size := (by omega)
      go_wp2
      go_ret
      exact ⟨ret_bool (by rw [HV.out]; first | done | (simp; done) | (simp; omega)), (by repeat' (first | (with_reducible exact Below.refl _ _) | (with_reducible assumption) | (with_reducible refine Below.setCell ?_ ?_ _) | (with_reducible refine Below.alloc ?_ ?_ _) | (with_reducible refine Below.drew ?_) | (with_reducible refine belowN ?_ _) | (with_reducible refine below_after ?_ (by assumption) ?_) | omega | (simp; done) | (simp; omega)))⟩
    by_cases tS : seq = 0
    rotate_left
    · have HV : Hid (callOk ⟨1, doc, client, seq, n, po, text⟩ = false) := Lib.hid (by rw [HC.out]; simp [usedD, hon, tS])
      have gO : po.length = 0 := by rw [tO]; rfl
      have gS : (seq != 0) = true := by simpa using tS
      clear tO tS
      go_enter Try.func47, Try.ntmps47
      go_wp2_with fail
      refine (spec_l12Kind_c _ _).mono ?_
      rintro e w1 ⟨rfl, hb1⟩
      have s1 : w.heap.size + 1 ≤ w1.heap.size := (by have := hb1.size; (try simp at this); omega)
      obtain ⟨hc1, hf1⟩ := bcell hb1
      have z1 : w.heap.size < w1.heap.size := (by omega)
      go_wp2_with fail
      refine (spec_partsOk_c _ po _ (h_o.below (by repeat' (first | (with_reducible exact Below.refl _ _) | (with_reducible assumption) | (with_reducible refine Below.setCell ?_ ?_ _) | (with_reducible refine Below.alloc ?_ ?_ _) | (with_reducible refine Below.drew ?_) | (with_reducible refine belowN ?_ _) | (with_reducible refine below_after ?_ (by assumption) ?_) | omega | (simp; done) | (simp; omega))))).mono ?_
      rintro e w2 ⟨rfl, hb2⟩
      have s2 : w1.heap.size ≤ w2.heap.size := (by have := hb2.size; (try simp at this); omega)
      obtain ⟨hc2, hf2⟩ := bcell hb2
      have z2 : w.heap.size < w2.heap.size := (by omega)
      go_wp2_with fail
      refine (spec_TextOk_c _ text _ (h_text.below (by repeat' (first | (with_reducible exact Below.refl _ _) | (with_reducible assumption) | (with_reducible refine Below.setCell ?_ ?_ _) | (with_reducible refine Below.alloc ?_ ?_ _) | (with_reducible refine Below.drew ?_) | (with_reducible refine belowN ?_ _) | (with_reducible refine below_after ?_ (by assumption) ?_) | omega | (simp; done) | (simp; omega))))).mono ?_
      rintro e w3 ⟨rfl, hb3⟩
      have s3 : w2.heap.size ≤ w3.heap.size := (by have := hb3.size; (try simp at this); omega)
      obtain ⟨hc3, hf3⟩ := bcell hb3
      have z3 : w.heap.size < w3.heap.size := (by omega)
      go_wp2_with fail
      refine (spec_OnDoc_c _ _).mono ?_
      rintro e w4 ⟨rfl, hb4⟩
      have s4 : w3.heap.size ≤ w4.heap.size := (by have := hb4.size; (try simp at this); omega)
      obtain ⟨hc4, hf4⟩ := bcell hb4
      have z4 : w.heap.size < w4.heap.size := (by omega)
      go_wp2
      go_ret
      exact ⟨ret_bool (by rw [HV.out]; first | done | (simp; done) | (simp; omega)), (by repeat' (first | (with_reducible exact Below.refl _ _) | (with_reducible assumption) | (with_reducible refine Below.setCell ?_ ?_ _) | (with_reducible refine Below.alloc ?_ ?_ _) | (with_reducible refine Below.drew ?_) | (with_reducible refine belowN ?_ _) | (with_reducible refine below_after ?_ (by assumption) ?_) | omega | (simp; done) | (simp; omega)))⟩
    by_cases tC : client = 0
    rotate_left
    · have HV : Hid (callOk ⟨1, doc, client, seq, n, po, text⟩ = false) := Lib.hid (by rw [HC.out]; simp [usedD, hon, tC])
      have gO : po.length = 0 := by rw [tO]; rfl
      have gS : (seq != 0) = false := by rw [tS]; simp
      have gC : (client == 0) = false := by simpa using tC
      clear tO tS tC
      go_enter Try.func47, Try.ntmps47
      go_wp2_with fail
      refine (spec_l12Kind_c _ _).mono ?_
      rintro e w1 ⟨rfl, hb1⟩
      have s1 : w.heap.size + 1 ≤ w1.heap.size := (by have := hb1.size; (try simp at this); omega)
      obtain ⟨hc1, hf1⟩ := bcell hb1
      have z1 : w.heap.size < w1.heap.size := (by omega)
      go_wp2_with fail
      refine (spec_partsOk_c _ po _ (h_o.below (by repeat' (first | (with_reducible exact Below.refl _ _) | (with_reducible assumption) | (with_reducible refine Below.setCell ?_ ?_ _) | (with_reducible refine Below.alloc ?_ ?_ _) | (with_reducible refine Below.drew ?_) | (with_reducible refine belowN ?_ _) | (with_reducible refine below_after ?_ (by assumption) ?_) | omega | (simp; done) | (simp; omega))))).mono ?_
      rintro e w2 ⟨rfl, hb2⟩
      have s2 : w1.heap.size ≤ w2.heap.size := (by have := hb2.size; (try simp at this); omega)
      obtain ⟨hc2, hf2⟩ := bcell hb2
      have z2 : w.heap.size < w2.heap.size := (by omega)
      go_wp2_with fail
      refine (spec_TextOk_c _ text _ (h_text.below (by repeat' (first | (with_reducible exact Below.refl _ _) | (with_reducible assumption) | (with_reducible refine Below.setCell ?_ ?_ _) | (with_reducible refine Below.alloc ?_ ?_ _) | (with_reducible refine Below.drew ?_) | (with_reducible refine belowN ?_ _) | (with_reducible refine below_after ?_ (by assumption) ?_) | omega | (simp; done) | (simp; omega))))).mono ?_
      rintro e w3 ⟨rfl, hb3⟩
      have s3 : w2.heap.size ≤ w3.heap.size := (by have := hb3.size; (try simp at this); omega)
      obtain ⟨hc3, hf3⟩ := bcell hb3
      have z3 : w.heap.size < w3.heap.size := (by omega)
      go_wp2_with fail
      refine (spec_OnDoc_c _ _).mono ?_
      rintro e w4 ⟨rfl, hb4⟩
      have s4 : w3.heap.size ≤ w4.heap.size := (by have := hb4.size; (try simp at this); omega)
      obtain ⟨hc4, hf4⟩ := bcell hb4
      have z4 : w.heap.size < w4.heap.size := (by omega)
      go_wp2
      go_ret
      exact ⟨ret_bool (by rw [HV.out]; first | done | (simp; done) | (simp; omega)), (by repeat' (first | (with_reducible exact Below.refl _ _) | (with_reducible assumption) | (with_reducible refine Below.setCell ?_ ?_ _) | (with_reducible refine Below.alloc ?_ ?_ _) | (with_reducible refine Below.drew ?_) | (with_reducible refine belowN ?_ _) | (with_reducible refine below_after ?_ (by assumption) ?_) | omega | (simp; done) | (simp; omega)))⟩
    by_cases tN : n = 0
    rotate_left
    · have HV : Hid (callOk ⟨1, doc, client, seq, n, po, text⟩ = false) := Lib.hid (by rw [HC.out]; simp [usedD, hon, tN])
      have gO : po.length = 0 := by rw [tO]; rfl
      have gS : (seq != 0) = false := by rw [tS]; simp
      have gC : (client == 0) = true := by rw [tC]; simp
      have gN : (n == 0) = false := by simpa using tN
      clear tO tS tC tN
      go_enter Try.func47, Try.ntmps47
      go_wp2_with fail
      refine (spec_l12Kind_c _ _).mono ?_
      rintro e w1 ⟨rfl, hb1⟩
      have s1 : w.heap.size + 1 ≤ w1.heap.size := (by have := hb1.size; (try simp at this); omega)
      obtain ⟨hc1, hf1⟩ := bcell hb1
      have z1 : w.heap.size < w1.heap.size := (by omega)
      go_wp2_with fail
      refine (spec_partsOk_c _ po _ (h_o.below (by repeat' (first | (with_reducible exact Below.refl _ _) | (with_reducible assumption) | (with_reducible refine Below.setCell ?_ ?_ _) | (with_reducible refine Below.alloc ?_ ?_ _) | (with_reducible refine Below.drew ?_) | (with_reducible refine belowN ?_ _) | (with_reducible refine below_after ?_ (by assumption) ?_) | omega | (simp; done) | (simp; omega))))).mono ?_
      rintro e w2 ⟨rfl, hb2⟩
      have s2 : w1.heap.size ≤ w2.heap.size := (by have := hb2.size; (try simp at this); omega)
      obtain ⟨hc2, hf2⟩ := bcell hb2
      have z2 : w.heap.size < w2.heap.size := (by omega)
      go_wp2_with fail
      refine (spec_TextOk_c _ text _ (h_text.below (by repeat' (first | (with_reducible exact Below.refl _ _) | (with_reducible assumption) | (with_reducible refine Below.setCell ?_ ?_ _) | (with_reducible refine Below.alloc ?_ ?_ _) | (with_reducible refine Below.drew ?_) | (with_reducible refine belowN ?_ _) | (with_reducible refine below_after ?_ (by assumption) ?_) | omega | (simp; done) | (simp; omega))))).mono ?_
      rintro e w3 ⟨rfl, hb3⟩
      have s3 : w2.heap.size ≤ w3.heap.size := (by have := hb3.size; (try simp at this); omega)
      obtain ⟨hc3, hf3⟩ := bcell hb3
      have z3 : w.heap.size < w3.heap.size := (by omega)
      go_wp2_with fail
      refine (spec_OnDoc_c _ _).mono ?_
      rintro e w4 ⟨rfl, hb4⟩
      have s4 : w3.heap.size ≤ w4.heap.size := (by have := hb4.size; (try simp at this); omega)
      obtain ⟨hc4, hf4⟩ := bcell hb4
      have z4 : w.heap.size < w4.heap.size := (by omega)
      go_wp2
      go_ret
      exact ⟨ret_bool (by rw [HV.out]; first | done | (simp; done) | (simp; omega)), (by repeat' (first | (with_reducible exact Below.refl _ _) | (with_reducible assumption) | (with_reducible refine Below.setCell ?_ ?_ _) | (with_reducible refine Below.alloc ?_ ?_ _) | (with_reducible refine Below.drew ?_) | (with_reducible refine belowN ?_ _) | (with_reducible refine below_after ?_ (by assumption) ?_) | omega | (simp; done) | (simp; omega)))⟩
    have HV : Hid (callOk ⟨1, doc, client, seq, n, po, text⟩ = true) := Lib.hid (by rw [HC.out]; simp [usedD, hon, tO, tS, tC, tN])
    have gO : po.length = 0 := by rw [tO]; rfl
    have gS : (seq != 0) = false := by rw [tS]; simp
    have gC : (client == 0) = true := by rw [tC]; simp
    have gN : (n == 0) = true := by rw [tN]; simp
    clear tO tS tC tN
    go_enter Try.func47, Try.ntmps47
    go_wp2_with fail
    refine (spec_l12Kind_c _ _).mono ?_
    rintro e w1 ⟨rfl, hb1⟩
    have s1 : w.heap.size + 1 ≤ w1.heap.size := (by have := hb1.size; (try simp at this); omega)
    obtain ⟨hc1, hf1⟩ := bcell hb1
    have z1 : w.heap.size < w1.heap.size := (by omega)
    go_wp2_with fail
    refine (spec_partsOk_c _ po _ (h_o.below (by repeat' (first | (with_reducible exact Below.refl _ _) | (with_reducible assumption) | (with_reducible refine Below.setCell ?_ ?_ _) | (with_reducible refine Below.alloc ?_ ?_ _) | (with_reducible refine Below.drew ?_) | (with_reducible refine belowN ?_ _) | (with_reducible refine below_after ?_ (by assumption) ?_) | omega | (simp; done) | (simp; omega))))).mono ?_
    rintro e w2 ⟨rfl, hb2⟩
    have s2 : w1.heap.size ≤ w2.heap.size := (by have := hb2.size; (try simp at this); omega)
    obtain ⟨hc2, hf2⟩ := bcell hb2
    have z2 : w.heap.size < w2.heap.size := (by omega)
    go_wp2_with fail
    refine (spec_TextOk_c _ text _ (h_text.below (by repeat' (first | (with_reducible exact Below.refl _ _) | (with_reducible assumption) | (with_reducible refine Below.setCell ?_ ?_ _) | (with_reducible refine Below.alloc ?_ ?_ _) | (with_reducible refine Below.drew ?_) | (with_reducible refine belowN ?_ _) | (with_reducible refine below_after ?_ (by assumption) ?_) | omega | (simp; done) | (simp; omega))))).mono ?_
    rintro e w3 ⟨rfl, hb3⟩
    have s3 : w2.heap.size ≤ w3.heap.size := (by have := hb3.size; (try simp at this); omega)
    obtain ⟨hc3, hf3⟩ := bcell hb3
    have z3 : w.heap.size < w3.heap.size := (by omega)
    go_wp2_with fail
    refine (spec_OnDoc_c _ _).mono ?_
    rintro e w4 ⟨rfl, hb4⟩
    have s4 : w3.heap.size ≤ w4.heap.size := (by have := hb4.size; (try simp at this); omega)
    obtain ⟨hc4, hf4⟩ := bcell hb4
    have z4 : w.heap.size < w4.heap.size := (by omega)
    go_wp2
    go_ret
    exact ⟨ret_bool (by rw [HV.out]; first | done | (simp; done) | (simp; omega)), (by repeat' (first | (with_reducible exact Below.refl _ _) | (with_reducible assumption) | (with_reducible refine Below.setCell ?_ ?_ _) | (with_reducible refine Below.alloc ?_ ?_ _) | (with_reducible refine Below.drew ?_) | (with_reducible refine belowN ?_ _) | (with_reducible refine below_after ?_ (by assumption) ?_) | omega | (simp; done) | (simp; omega)))⟩
  · have hon : onDoc 2 = true := by decide
    have h1 : within 2 1 8 = true := by decide
    by_cases tX : text = []
    rotate_left
    · have HV : Hid (callOk ⟨2, doc, client, seq, n, po, text⟩ = false) := Lib.hid (by rw [HC.out]; simp [usedD, hon, tX])
      have gX : 0 < text.length := List.length_pos_iff.2 tX
      clear tX
      go_enter Try.func47, Try.ntmps47
      go_wp2_with fail
      refine (spec_l12Kind_c _ _).mono ?_
      rintro e w1 ⟨rfl, hb1⟩
      have s1 : w.heap.size + 1 ≤ w1.heap.size := (by have := hb1.size; (try simp at this); omega)
      obtain ⟨hc1, hf1⟩ := bcell hb1
      have z1 : w.heap.size < w1.heap.size := (by omega)
      go_wp2_with fail
      refine (spec_partsOk_c _ po _ (h_o.below (by repeat' (first | (with_reducible exact Below.refl _ _) | (with_reducible assumption) | (with_reducible refine Below.setCell ?_ ?_ _) | (with_reducible refine Below.alloc ?_ ?_ _) | (with_reducible refine Below.drew ?_) | (with_reducible refine belowN ?_ _) | (with_reducible refine below_after ?_ (by assumption) ?_) | omega | (simp; done) | (simp; omega))))).mono ?_
      rintro e w2 ⟨rfl, hb2⟩
      have s2 : w1.heap.size ≤ w2.heap.size := (by have := hb2.size; (try simp at this); omega)
      obtain ⟨hc2, hf2⟩ := bcell hb2
      have z2 : w.heap.size < w2.heap.size := (by omega)
      go_wp2_with fail
      refine (spec_TextOk_c _ text _ (h_text.below (by repeat' (first | (with_reducible exact Below.refl _ _) | (with_reducible assumption) | (with_reducible refine Below.setCell ?_ ?_ _) | (with_reducible refine Below.alloc ?_ ?_ _) | (with_reducible refine Below.drew ?_) | (with_reducible refine belowN ?_ _) | (with_reducible refine below_after ?_ (by assumption) ?_) | omega | (simp; done) | (simp; omega))))).mono ?_
      rintro e w3 ⟨rfl, hb3⟩
      have s3 : w2.heap.size ≤ w3.heap.size := (by have := hb3.size; (try simp at this); omega)
      obtain ⟨hc3, hf3⟩ := bcell hb3
      have z3 : w.heap.size < w3.heap.size := (by omega)
      go_wp2_with fail
      refine (spec_OnDoc_c _ _).mono ?_
      rintro e w4 ⟨rfl, hb4⟩
      have s4 : w3.heap.size ≤ w4.heap.size := (by have := hb4.size; (try simp at this); omega)
      obtain ⟨hc4, hf4⟩ := bcell hb4
      have z4 : w.heap.size < w4.heap.size := (by omega)
      go_wp2
      go_ret
      exact ⟨ret_bool (by rw [HV.out]; first | done | (simp; done) | (simp; omega)), (by repeat' (first | (with_reducible exact Below.refl _ _) | (with_reducible assumption) | (with_reducible refine Below.setCell ?_ ?_ _) | (with_reducible refine Below.alloc ?_ ?_ _) | (with_reducible refine Below.drew ?_) | (with_reducible refine belowN ?_ _) | (with_reducible refine below_after ?_ (by assumption) ?_) | omega | (simp; done) | (simp; omega)))⟩
    have HV : Hid (callOk ⟨2, doc, client, seq, n, po, text⟩ = true) := Lib.hid (by rw [HC.out]; simp [usedD, hon, tX])
    have gX : text.length = 0 := by rw [tX]; rfl
    clear tX
    go_enter Try.func47, Try.ntmps47
    go_wp2_with fail
    refine (spec_l12Kind_c _ _).mono ?_
    rintro e w1 ⟨rfl, hb1⟩
    have s1 : w.heap.size + 1 ≤ w1.heap.size := (by have := hb1.size; (try simp at this); omega)
    obtain ⟨hc1, hf1⟩ := bcell hb1
    have z1 : w.heap.size < w1.heap.size := (by omega)
    go_wp2_with fail
    refine (spec_partsOk_c _ po _ (h_o.below (by repeat' (first | (with_reducible exact Below.refl _ _) | (with_reducible assumption) | (with_reducible refine Below.setCell ?_ ?_ _) | (with_reducible refine Below.alloc ?_ ?_ _) | (with_reducible refine Below.drew ?_) | (with_reducible refine belowN ?_ _) | (with_reducible refine below_after ?_ (by assumption) ?_) | omega | (simp; done) | (simp; omega))))).mono ?_
    rintro e w2 ⟨rfl, hb2⟩
    have s2 : w1.heap.size ≤ w2.heap.size := (by have := hb2.size; (try simp at this); omega)
    obtain ⟨hc2, hf2⟩ := bcell hb2
    have z2 : w.heap.size < w2.heap.size := (by omega)
    go_wp2_with fail
    refine (spec_TextOk_c _ text _ (h_text.below (by repeat' (first | (with_reducible exact Below.refl _ _) | (with_reducible assumption) | (with_reducible refine Below.setCell ?_ ?_ _) | (with_reducible refine Below.alloc ?_ ?_ _) | (with_reducible refine Below.drew ?_) | (with_reducible refine belowN ?_ _) | (with_reducible refine below_after ?_ (by assumption) ?_) | omega | (simp; done) | (simp; omega))))).mono ?_
    rintro e w3 ⟨rfl, hb3⟩
    have s3 : w2.heap.size ≤ w3.heap.size := (by have := hb3.size; (try simp at this); omega)
    obtain ⟨hc3, hf3⟩ := bcell hb3
    have z3 : w.heap.size < w3.heap.size := (by omega)
    go_wp2_with fail
    refine (spec_OnDoc_c _ _).mono ?_
    rintro e w4 ⟨rfl, hb4⟩
    have s4 : w3.heap.size ≤ w4.heap.size := (by have := hb4.size; (try simp at this); omega)
    obtain ⟨hc4, hf4⟩ := bcell hb4
    have z4 : w.heap.size < w4.heap.size := (by omega)
    go_wp2
    go_ret
    exact ⟨ret_bool (by rw [HV.out]; first | done | (simp; done) | (simp; omega)), (by repeat' (first | (with_reducible exact Below.refl _ _) | (with_reducible assumption) | (with_reducible refine Below.setCell ?_ ?_ _) | (with_reducible refine Below.alloc ?_ ?_ _) | (with_reducible refine Below.drew ?_) | (with_reducible refine belowN ?_ _) | (with_reducible refine below_after ?_ (by assumption) ?_) | omega | (simp; done) | (simp; omega)))⟩
  · have hon : onDoc 3 = true := by decide
    have h1 : within 3 1 8 = true := by decide
    by_cases tX : text = []
    rotate_left
    · have HV : Hid (callOk ⟨3, doc, client, seq, n, po, text⟩ = false) := Lib.hid (by rw [HC.out]; simp [usedD, hon, tX])
      have gX : 0 < text.length := List.length_pos_iff.2 tX
      clear tX
      go_enter Try.func47, Try.ntmps47
      go_wp2_with fail
      refine (spec_l12Kind_c _ _).mono ?_
      rintro e w1 ⟨rfl, hb1⟩
      have s1 : w.heap.size + 1 ≤ w1.heap.size := (by have := hb1.size; (try simp at this); omega)
      obtain ⟨hc1, hf1⟩ := bcell hb1
      have z1 : w.heap.size < w1.heap.size := (by omega)
      go_wp2_with fail
      refine (spec_partsOk_c _ po _ (h_o.below (by repeat' (first | (with_reducible exact Below.refl _ _) | (with_reducible assumption) | (with_reducible refine Below.setCell ?_ ?_ _) | (with_reducible refine Below.alloc ?_ ?_ _) | (with_reducible refine Below.drew ?_) | (with_reducible refine belowN ?_ _) | (with_reducible refine below_after ?_ (by assumption) ?_) | omega | (simp; done) | (simp; omega))))).mono ?_
      rintro e w2 ⟨rfl, hb2⟩
      have s2 : w1.heap.size ≤ w2.heap.size := (by have := hb2.size; (try simp at this); omega)
      obtain ⟨hc2, hf2⟩ := bcell hb2
      have z2 : w.heap.size < w2.heap.size := (by omega)
      go_wp2_with fail
      refine (spec_TextOk_c _ text _ (h_text.below (by repeat' (first | (with_reducible exact Below.refl _ _) | (with_reducible assumption) | (with_reducible refine Below.setCell ?_ ?_ _) | (with_reducible refine Below.alloc ?_ ?_ _) | (with_reducible refine Below.drew ?_) | (with_reducible refine belowN ?_ _) | (with_reducible refine below_after ?_ (by assumption) ?_) | omega | (simp; done) | (simp; omega))))).mono ?_
      rintro e w3 ⟨rfl, hb3⟩
      have s3 : w2.heap.size ≤ w3.heap.size := (by have := hb3.size; (try simp at this); omega)
      obtain ⟨hc3, hf3⟩ := bcell hb3
      have z3 : w.heap.size < w3.heap.size := (by omega)
      go_wp2_with fail
      refine (spec_OnDoc_c _ _).mono ?_
      rintro e w4 ⟨rfl, hb4⟩
      have s4 : w3.heap.size ≤ w4.heap.size := (by have := hb4.size; (try simp at this); omega)
      obtain ⟨hc4, hf4⟩ := bcell hb4
      have z4 : w.heap.size < w4.heap.size := (by omega)
      go_wp2
      go_ret
      exact ⟨ret_bool (by rw [HV.out]; first | done | (simp; done) | (simp; omega)), (by repeat' (first | (with_reducible exact Below.refl _ _) | (with_reducible assumption) | (with_reducible refine Below.setCell ?_ ?_ _) | (with_reducible refine Below.alloc ?_ ?_ _) | (with_reducible refine Below.drew ?_) | (with_reducible refine belowN ?_ _) | (with_reducible refine below_after ?_ (by assumption) ?_) | omega | (simp; done) | (simp; omega)))⟩
    by_cases tO : po = []
    rotate_left
    · have HV : Hid (callOk ⟨3, doc, client, seq, n, po, text⟩ = false) := Lib.hid (by rw [HC.out]; simp [usedD, hon, tO])
      have gX : text.length = 0 := by rw [tX]; rfl
      have gO : 0 < po.length := List.length_pos_iff.2 tO
      clear tX tO
      go_enter Try.func47, Try.ntmps47
      go_wp2_with fail
      refine (spec_l12Kind_c _ _).mono ?_
      rintro e w1 ⟨rfl, hb1⟩
      have s1 : w.heap.size + 1 ≤ w1.heap.size := (by have := hb1.size; (try simp at this); omega)
      obtain ⟨hc1, hf1⟩ := bcell hb1
      have z1 : w.heap.size < w1.heap.size := (by omega)
      go_wp2_with fail
      refine (spec_partsOk_c _ po _ (h_o.below (by repeat' (first | (with_reducible exact Below.refl _ _) | (with_reducible assumption) | (with_reducible refine Below.setCell ?_ ?_ _) | (with_reducible refine Below.alloc ?_ ?_ _) | (with_reducible refine Below.drew ?_) | (with_reducible refine belowN ?_ _) | (with_reducible refine below_after ?_ (by assumption) ?_) | omega | (simp; done) | (simp; omega))))).mono ?_
      rintro e w2 ⟨rfl, hb2⟩
      have s2 : w1.heap.size ≤ w2.heap.size := (by have := hb2.size; (try simp at this); omega)
      obtain ⟨hc2, hf2⟩ := bcell hb2
      have z2 : w.heap.size < w2.heap.size := (by omega)
      go_wp2_with fail
      refine (spec_TextOk_c _ text _ (h_text.below (by repeat' (first | (with_reducible exact Below.refl _ _) | (with_reducible assumption) | (with_reducible refine Below.setCell ?_ ?_ _) | (with_reducible refine Below.alloc ?_ ?_ _) | (with_reducible refine Below.drew ?_) | (with_reducible refine belowN ?_ _) | (with_reducible refine below_after ?_ (by assumption) ?_) | omega | (simp; done) | (simp; omega))))).mono ?_
      rintro e w3 ⟨rfl, hb3⟩
      have s3 : w2.heap.size ≤ w3.heap.size := (by have := hb3.size; (try simp at this); omega)
      obtain ⟨hc3, hf3⟩ := bcell hb3
      have z3 : w.heap.size < w3.heap.size := (by omega)
      go_wp2_with fail
      refine (spec_OnDoc_c _ _).mono ?_
      rintro e w4 ⟨rfl, hb4⟩
      have s4 : w3.heap.size ≤ w4.heap.size := (by have := hb4.size; (try simp at this); omega)
      obtain ⟨hc4, hf4⟩ := bcell hb4
      have z4 : w.heap.size < w4.heap.size := (by omega)
      go_wp2
      go_ret
      exact ⟨ret_bool (by rw [HV.out]; first | done | (simp; done) | (simp; omega)), (by repeat' (first | (with_reducible exact Below.refl _ _) | (with_reducible assumption) | (with_reducible refine Below.setCell ?_ ?_ _) | (with_reducible refine Below.alloc ?_ ?_ _) | (with_reducible refine Below.drew ?_) | (with_reducible refine belowN ?_ _) | (with_reducible refine below_after ?_ (by assumption) ?_) | omega | (simp; done) | (simp; omega)))⟩
    by_cases tS : seq = 0
    rotate_left
    · have HV : Hid (callOk ⟨3, doc, client, seq, n, po, text⟩ = false) := Lib.hid (by rw [HC.out]; simp [usedD, hon, tS])
      have gX : text.length = 0 := by rw [tX]; rfl
      have gO : po.length = 0 := by rw [tO]; rfl
      have gS : (seq != 0) = true := by simpa using tS
      clear tX tO tS
      go_enter Try.func47, Try.ntmps47
      go_wp2_with fail
      refine (spec_l12Kind_c _ _).mono ?_
      rintro e w1 ⟨rfl, hb1⟩
      have s1 : w.heap.size + 1 ≤ w1.heap.size := (by have := hb1.size; (try simp at this); omega)
      obtain ⟨hc1, hf1⟩ := bcell hb1
      have z1 : w.heap.size < w1.heap.size := (by omega)
      go_wp2_with fail
      refine (spec_partsOk_c _ po _ (h_o.below (by repeat' (first | (with_reducible exact Below.refl _ _) | (with_reducible assumption) | (with_reducible refine Below.setCell ?_ ?_ _) | (with_reducible refine Below.alloc ?_ ?_ _) | (with_reducible refine Below.drew ?_) | (with_reducible refine belowN ?_ _) | (with_reducible refine below_after ?_ (by assumption) ?_) | omega | (simp; done) | (simp; omega))))).mono ?_
      rintro e w2 ⟨rfl, hb2⟩
      have s2 : w1.heap.size ≤ w2.heap.size := (by have := hb2.size; (try simp at this); omega)
      obtain ⟨hc2, hf2⟩ := bcell hb2
      have z2 : w.heap.size < w2.heap.size := (by omega)
      go_wp2_with fail
      refine (spec_TextOk_c _ text _ (h_text.below (by repeat' (first | (with_reducible exact Below.refl _ _) | (with_reducible assumption) | (with_reducible refine Below.setCell ?_ ?_ _) | (with_reducible refine Below.alloc ?_ ?_ _) | (with_reducible refine Below.drew ?_) | (with_reducible refine belowN ?_ _) | (with_reducible refine below_after ?_ (by assumption) ?_) | omega | (simp; done) | (simp; omega))))).mono ?_
      rintro e w3 ⟨rfl, hb3⟩
      have s3 : w2.heap.size ≤ w3.heap.size := (by have := hb3.size; (try simp at this); omega)
      obtain ⟨hc3, hf3⟩ := bcell hb3
      have z3 : w.heap.size < w3.heap.size := (by omega)
      go_wp2_with fail
      refine (spec_OnDoc_c _ _).mono ?_
      rintro e w4 ⟨rfl, hb4⟩
      have s4 : w3.heap.size ≤ w4.heap.size := (by have := hb4.size; (try simp at this); omega)
      obtain ⟨hc4, hf4⟩ := bcell hb4
      have z4 : w.heap.size < w4.heap.size := (by omega)
      go_wp2
      go_ret
      exact ⟨ret_bool (by rw [HV.out]; first | done | (simp; done) | (simp; omega)), (by repeat' (first | (with_reducible exact Below.refl _ _) | (with_reducible assumption) | (with_reducible refine Below.setCell ?_ ?_ _) | (with_reducible refine Below.alloc ?_ ?_ _) | (with_reducible refine Below.drew ?_) | (with_reducible refine belowN ?_ _) | (with_reducible refine below_after ?_ (by assumption) ?_) | omega | (simp; done) | (simp; omega)))⟩
    by_cases tC : client = 0
    rotate_left
    · have HV : Hid (callOk ⟨3, doc, client, seq, n, po, text⟩ = false) := Lib.hid (by rw [HC.out]; simp [usedD, hon, tC])
      have gX : text.length = 0 := by rw [tX]; rfl
      have gO : po.length = 0 := by rw [tO]; rfl
      have gS : (seq != 0) = false := by rw [tS]; simp
      have gC : (client == 0) = false := by simpa using tC
      clear tX tO tS tC
      go_enter Try.func47, Try.ntmps47
      go_wp2_with fail
      refine (spec_l12Kind_c _ _).mono ?_
      rintro e w1 ⟨rfl, hb1⟩
      have s1 : w.heap.size + 1 ≤ w1.heap.size := (by have := hb1.size; (try simp at this); omega)
      obtain ⟨hc1, hf1⟩ := bcell hb1
      have z1 : w.heap.size < w1.heap.size := (by omega)
      go_wp2_with fail
      refine (spec_partsOk_c _ po _ (h_o.below (by repeat' (first | (with_reducible exact Below.refl _ _) | (with_reducible assumption) | (with_reducible refine Below.setCell ?_ ?_ _) | (with_reducible refine Below.alloc ?_ ?_ _) | (with_reducible refine Below.drew ?_) | (with_reducible refine belowN ?_ _) | (with_reducible refine below_after ?_ (by assumption) ?_) | omega | (simp; done) | (simp; omega))))).mono ?_
      rintro e w2 ⟨rfl, hb2⟩
      have s2 : w1.heap.size ≤ w2.heap.size := (by have := hb2.size; (try simp at this); omega)
      obtain ⟨hc2, hf2⟩ := bcell hb2
      have z2 : w.heap.size < w2.heap.size := (by omega)
      go_wp2_with fail
      refine (spec_TextOk_c _ text _ (h_text.below (by repeat' (first | (with_reducible exact Below.refl _ _) | (with_reducible assumption) | (with_reducible refine Below.setCell ?_ ?_ _) | (with_reducible refine Below.alloc ?_ ?_ _) | (with_reducible refine Below.drew ?_) | (with_reducible refine belowN ?_ _) | (with_reducible refine below_after ?_ (by assumption) ?_) | omega | (simp; done) | (simp; omega))))).mono ?_
      rintro e w3 ⟨rfl, hb3⟩
      have s3 : w2.heap.size ≤ w3.heap.size := (by have := hb3.size; (try simp at this); omega)
      obtain ⟨hc3, hf3⟩ := bcell hb3
      have z3 : w.heap.size < w3.heap.size := (by omega)
      go_wp2_with fail
      refine (spec_OnDoc_c _ _).mono ?_
      rintro e w4 ⟨rfl, hb4⟩
      have s4 : w3.heap.size ≤ w4.heap.size := (by have := hb4.size; (try simp at this); omega)
      obtain ⟨hc4, hf4⟩ := bcell hb4
      have z4 : w.heap.size < w4.heap.size := (by omega)
      go_wp2
      go_ret
      exact ⟨ret_bool (by rw [HV.out]; first | done | (simp; done) | (simp; omega)), (by repeat' (first | (with_reducible exact Below.refl _ _) | (with_reducible assumption) | (with_reducible refine Below.setCell ?_ ?_ _) | (with_reducible refine Below.alloc ?_ ?_ _) | (with_reducible refine Below.drew ?_) | (with_reducible refine belowN ?_ _) | (with_reducible refine below_after ?_ (by assumption) ?_) | omega | (simp; done) | (simp; omega)))⟩
    have HV : Hid (callOk ⟨3, doc, client, seq, n, po, text⟩ = true) := Lib.hid (by rw [HC.out]; simp [usedD, hon, tX, tO, tS, tC])
    have gX : text.length = 0 := by rw [tX]; rfl
    have gO : po.length = 0 := by rw [tO]; rfl
    have gS : (seq != 0) = false := by rw [tS]; simp
    have gC : (client == 0) = true := by rw [tC]; simp
    clear tX tO tS tC
    go_enter Try.func47, Try.ntmps47
    go_wp2_with fail
    refine (spec_l12Kind_c _ _).mono ?_
    rintro e w1 ⟨rfl, hb1⟩
    have s1 : w.heap.size + 1 ≤ w1.heap.size := (by have := hb1.size; (try simp at this); omega)
    obtain ⟨hc1, hf1⟩ := bcell hb1
    have z1 : w.heap.size < w1.heap.size := (by omega)
    go_wp2_with fail
    refine (spec_partsOk_c _ po _ (h_o.below (by repeat' (first | (with_reducible exact Below.refl _ _) | (with_reducible assumption) | (with_reducible refine Below.setCell ?_ ?_ _) | (with_reducible refine Below.alloc ?_ ?_ _) | (with_reducible refine Below.drew ?_) | (with_reducible refine belowN ?_ _) | (with_reducible refine below_after ?_ (by assumption) ?_) | omega | (simp; done) | (simp; omega))))).mono ?_
    rintro e w2 ⟨rfl, hb2⟩
    have s2 : w1.heap.size ≤ w2.heap.size := (by have := hb2.size; (try simp at this); omega)
    obtain ⟨hc2, hf2⟩ := bcell hb2
    have z2 : w.heap.size < w2.heap.size := (by omega)
    go_wp2_with fail
    refine (spec_TextOk_c _ text _ (h_text.below (by repeat' (first | (with_reducible exact Below.refl _ _) | (with_reducible assumption) | (with_reducible refine Below.setCell ?_ ?_ _) | (with_reducible refine Below.alloc ?_ ?_ _) | (with_reducible refine Below.drew ?_) | (with_reducible refine belowN ?_ _) | (with_reducible refine below_after ?_ (by assumption) ?_) | omega | (simp; done) | (simp; omega))))).mono ?_
    rintro e w3 ⟨rfl, hb3⟩
    have s3 : w2.heap.size ≤ w3.heap.size := (by have := hb3.size; (try simp at this); omega)
    obtain ⟨hc3, hf3⟩ := bcell hb3
    have z3 : w.heap.size < w3.heap.size := (by omega)
    go_wp2_with fail
    refine (spec_OnDoc_c _ _).mono ?_
    rintro e w4 ⟨rfl, hb4⟩
    have s4 : w3.heap.size ≤ w4.heap.size := (by have := hb4.size; (try simp at this); omega)
    obtain ⟨hc4, hf4⟩ := bcell hb4
    have z4 : w.heap.size < w4.heap.size := (by omega)
    go_wp2
    go_ret
    exact ⟨ret_bool (by rw [HV.out]; first | done | (simp; done) | (simp; omega)), (by repeat' (first | (with_reducible exact Below.refl _ _) | (with_reducible assumption) | (with_reducible refine Below.setCell ?_ ?_ _) | (with_reducible refine Below.alloc ?_ ?_ _) | (with_reducible refine Below.drew ?_) | (with_reducible refine belowN ?_ _) | (with_reducible refine below_after ?_ (by assumption) ?_) | omega | (simp; done) | (simp; omega)))⟩
  · have hon : onDoc 4 = true := by decide
    have h1 : within 4 1 8 = true := by decide
    by_cases tX : text = []
    rotate_left
    · have HV : Hid (callOk ⟨4, doc, client, seq, n, po, text⟩ = false) := Lib.hid (by rw [HC.out]; simp [usedD, hon, tX])
      have gX : 0 < text.length := List.length_pos_iff.2 tX
      clear tX
      go_enter Try.func47, Try.ntmps47
      go_wp2_with fail
      refine (spec_l12Kind_c _ _).mono ?_
      rintro e w1 ⟨rfl, hb1⟩
      have s1 : w.heap.size + 1 ≤ w1.heap.size := (by have := hb1.size; (try simp at this); omega)
      obtain ⟨hc1, hf1⟩ := bcell hb1
      have z1 : w.heap.size < w1.heap.size := (by omega)
      go_wp2_with fail
      refine (spec_partsOk_c _ po _ (h_o.below (by repeat' (first | (with_reducible exact Below.refl _ _) | (with_reducible assumption) | (with_reducible refine Below.setCell ?_ ?_ _) | (with_reducible refine Below.alloc ?_ ?_ _) | (with_reducible refine Below.drew ?_) | (with_reducible refine belowN ?_ _) | (with_reducible refine below_after ?_ (by assumption) ?_) | omega | (simp; done) | (simp; omega))))).mono ?_
      rintro e w2 ⟨rfl, hb2⟩
      have s2 : w1.heap.size ≤ w2.heap.size := (by have := hb2.size; (try simp at this); omega)
      obtain ⟨hc2, hf2⟩ := bcell hb2
      have z2 : w.heap.size < w2.heap.size := (by omega)
      go_wp2_with fail
      refine (spec_TextOk_c _ text _ (h_text.below (by repeat' (first | (with_reducible exact Below.refl _ _) | (with_reducible assumption) | (with_reducible refine Below.setCell ?_ ?_ _) | (with_reducible refine Below.alloc ?_ ?_ _) | (with_reducible refine Below.drew ?_) | (with_reducible refine belowN ?_ _) | (with_reducible refine below_after ?_ (by assumption) ?_) | omega | (simp; done) | (simp; omega))))).mono ?_
      rintro e w3 ⟨rfl, hb3⟩
      have s3 : w2.heap.size ≤ w3.heap.size := (by have := hb3.size; (try simp at this); omega)
      obtain ⟨hc3, hf3⟩ := bcell hb3
      have z3 : w.heap.size < w3.heap.size := (by omega)
      go_wp2_with fail
      refine (spec_OnDoc_c _ _).mono ?_
      rintro e w4 ⟨rfl, hb4⟩
      have s4 : w3.heap.size ≤ w4.heap.size := (by have := hb4.size; (try simp at this); omega)
      obtain ⟨hc4, hf4⟩ := bcell hb4
      have z4 : w.heap.size < w4.heap.size := (by omega)
      go_wp2
      go_ret
      exact ⟨ret_bool (by rw [HV.out]; first | done | (simp; done) | (simp; omega)), (by repeat' (first | (with_reducible exact Below.refl _ _) | (with_reducible assumption) | (with_reducible refine Below.setCell ?_ ?_ _) | (with_reducible refine Below.alloc ?_ ?_ _) | (with_reducible refine Below.drew ?_) | (with_reducible refine belowN ?_ _) | (with_reducible refine below_after ?_ (by assumption) ?_) | omega | (simp; done) | (simp; omega)))⟩
    by_cases tO : po = []
    rotate_left
    · have HV : Hid (callOk ⟨4, doc, client, seq, n, po, text⟩ = false) := Lib.hid (by rw [HC.out]; simp [usedD, hon, tO])
      have gX : text.length = 0 := by rw [tX]; rfl
      have gO : 0 < po.length := List.length_pos_iff.2 tO
      clear tX tO
      go_enter Try.func47, Try.ntmps47
      go_wp2_with fail
      refine (spec_l12Kind_c _ _).mono ?_
      rintro e w1 ⟨rfl, hb1⟩
      have s1 : w.heap.size + 1 ≤ w1.heap.size := (by have := hb1.size; (try simp at this); omega)
      obtain ⟨hc1, hf1⟩ := bcell hb1
      have z1 : w.heap.size < w1.heap.size := (by omega)
      go_wp2_with fail
      refine (spec_partsOk_c _ po _ (h_o.below (by repeat' (first | (with_reducible exact Below.refl _ _) | (with_reducible assumption) | (with_reducible refine Below.setCell ?_ ?_ _) | (with_reducible refine Below.alloc ?_ ?_ _) | (with_reducible refine Below.drew ?_) | (with_reducible refine belowN ?_ _) | (with_reducible refine below_after ?_ (by assumption) ?_) | omega | (simp; done) | (simp; omega))))).mono ?_
      rintro e w2 ⟨rfl, hb2⟩
      have s2 : w1.heap.size ≤ w2.heap.size := (by have := hb2.size; (try simp at this); omega)
      obtain ⟨hc2, hf2⟩ := bcell hb2
      have z2 : w.heap.size < w2.heap.size := (by omega)
      go_wp2_with fail
      refine (spec_TextOk_c _ text _ (h_text.below (by repeat' (first | (with_reducible exact Below.refl _ _) | (with_reducible assumption) | (with_reducible refine Below.setCell ?_ ?_ _) | (with_reducible refine Below.alloc ?_ ?_ _) | (with_reducible refine Below.drew ?_) | (with_reducible refine belowN ?_ _) | (with_reducible refine below_after ?_ (by assumption) ?_) | omega | (simp; done) | (simp; omega))))).mono ?_
      rintro e w3 ⟨rfl, hb3⟩
      have s3 : w2.heap.size ≤ w3.heap.size := (by have := hb3.size; (try simp at this); omega)
      obtain ⟨hc3, hf3⟩ := bcell hb3
      have z3 : w.heap.size < w3.heap.size := (by omega)
      go_wp2_with fail
      refine (spec_OnDoc_c _ _).mono ?_
      rintro e w4 ⟨rfl, hb4⟩
      have s4 : w3.heap.size ≤ w4.heap.size := (by have := hb4.size; (try simp at this); omega)
      obtain ⟨hc4, hf4⟩ := bcell hb4
      have z4 : w.heap.size < w4.heap.size := (by omega)
      go_wp2
      go_ret
      exact ⟨ret_bool (by rw [HV.out]; first | done | (simp; done) | (simp; omega)), (by repeat' (first | (with_reducible exact Below.refl _ _) | (with_reducible assumption) | (with_reducible refine Below.setCell ?_ ?_ _) | (with_reducible refine Below.alloc ?_ ?_ _) | (with_reducible refine Below.drew ?_) | (with_reducible refine belowN ?_ _) | (with_reducible refine below_after ?_ (by assumption) ?_) | omega | (simp; done) | (simp; omega)))⟩
    by_cases tS : seq = 0
    rotate_left
    · have HV : Hid (callOk ⟨4, doc, client, seq, n, po, text⟩ = false) := Lib.hid (by rw [HC.out]; simp [usedD, hon, tS])
      have gX : text.length = 0 := by rw [tX]; rfl
      have gO : po.length = 0 := by rw [tO]; rfl
      have gS : (seq != 0) = true := by simpa using tS
      clear tX tO tS
      go_enter Try.func47, Try.ntmps47
      go_wp2_with fail
      refine (spec_l12Kind_c _ _).mono ?_
      rintro e w1 ⟨rfl, hb1⟩
      have s1 : w.heap.size + 1 ≤ w1.heap.size := (by have := hb1.size; (try simp at this); omega)
      obtain ⟨hc1, hf1⟩ := bcell hb1
      have z1 : w.heap.size < w1.heap.size := (by omega)
      go_wp2_with fail
      refine (spec_partsOk_c _ po _ (h_o.below (by repeat' (first | (with_reducible exact Below.refl _ _) | (with_reducible assumption) | (with_reducible refine Below.setCell ?_ ?_ _) | (with_reducible refine Below.alloc ?_ ?_ _) | (with_reducible refine Below.drew ?_) | (with_reducible refine belowN ?_ _) | (with_reducible refine below_after ?_ (by assumption) ?_) | omega | (simp; done) | (simp; omega))))).mono ?_
      rintro e w2 ⟨rfl, hb2⟩
      have s2 : w1.heap.size ≤ w2.heap.size := (by have := hb2.size; (try simp at this); omega)
      obtain ⟨hc2, hf2⟩ := bcell hb2
      have z2 : w.heap.size < w2.heap.size := (by omega)
      go_wp2_with fail
      refine (spec_TextOk_c _ text _ (h_text.below (by repeat' (first | (with_reducible exact Below.refl _ _) | (with_reducible assumption) | (with_reducible refine Below.setCell ?_ ?_ _) | (with_reducible refine Below.alloc ?_ ?_ _) | (with_reducible refine Below.drew ?_) | (with_reducible refine belowN ?_ _) | (with_reducible refine below_after ?_ (by assumption) ?_) | omega | (simp; done) | (simp; omega))))).mono ?_
      rintro e w3 ⟨rfl, hb3⟩
      have s3 : w2.heap.size ≤ w3.heap.size := (by have := hb3.size; (try simp at this); omega)
      obtain ⟨hc3, hf3⟩ := bcell hb3
      have z3 : w.heap.size < w3.heap.size := (by omega)
      go_wp2_with fail
      refine (spec_OnDoc_c _ _).mono ?_
      rintro e w4 ⟨rfl, hb4⟩
      have s4 : w3.heap.size ≤ w4.heap.size := (by have := hb4.size; (try simp at this); omega)
      obtain ⟨hc4, hf4⟩ := bcell hb4
      have z4 : w.heap.size < w4.heap.size := (by omega)
      go_wp2
      go_ret
      exact ⟨ret_bool (by rw [HV.out]; first | done | (simp; done) | (simp; omega)), (by repeat' (first | (with_reducible exact Below.refl _ _) | (with_reducible assumption) | (with_reducible refine Below.setCell ?_ ?_ _) | (with_reducible refine Below.alloc ?_ ?_ _) | (with_reducible refine Below.drew ?_) | (with_reducible refine belowN ?_ _) | (with_reducible refine below_after ?_ (by assumption) ?_) | omega | (simp; done) | (simp; omega)))⟩
    by_cases tC : client = 0
    rotate_left
    · have HV : Hid (callOk ⟨4, doc, client, seq, n, po, text⟩ = false) := Lib.hid (by rw [HC.out]; simp [usedD, hon, tC])
      have gX : text.length = 0 := by rw [tX]; rfl
      have gO : po.length = 0 := by rw [tO]; rfl
      have gS : (seq != 0) = false := by rw [tS]; simp
      have gC : (client == 0) = false := by simpa using tC
      clear tX tO tS tC
      go_enter Try.func47, Try.ntmps47
      go_wp2_with fail
      refine (spec_l12Kind_c _ _).mono ?_
      rintro e w1 ⟨rfl, hb1⟩
      have s1 : w.heap.size + 1 ≤ w1.heap.size := (by have := hb1.size; (try simp at this); omega)
      obtain ⟨hc1, hf1⟩ := bcell hb1
      have z1 : w.heap.size < w1.heap.size := (by omega)
      go_wp2_with fail
      refine (spec_partsOk_c _ po _ (h_o.below (by repeat' (first | (with_reducible exact Below.refl _ _) | (with_reducible assumption) | (with_reducible refine Below.setCell ?_ ?_ _) | (with_reducible refine Below.alloc ?_ ?_ _) | (with_reducible refine Below.drew ?_) | (with_reducible refine belowN ?_ _) | (with_reducible refine below_after ?_ (by assumption) ?_) | omega | (simp; done) | (simp; omega))))).mono ?_
      rintro e w2 ⟨rfl, hb2⟩
      have s2 : w1.heap.size ≤ w2.heap.size := (by have := hb2.size; (try simp at this); omega)
      obtain ⟨hc2, hf2⟩ := bcell hb2
      have z2 : w.heap.size < w2.heap.size := (by omega)
      go_wp2_with fail
      refine (spec_TextOk_c _ text _ (h_text.below (by repeat' (first | (with_reducible exact Below.refl _ _) | (with_reducible assumption) | (with_reducible refine Below.setCell ?_ ?_ _) | (with_reducible refine Below.alloc ?_ ?_ _) | (with_reducible refine Below.drew ?_) | (with_reducible refine belowN ?_ _) | (with_reducible refine below_after ?_ (by assumption) ?_) | omega | (simp; done) | (simp; omega))))).mono ?_
      rintro e w3 ⟨rfl, hb3⟩
      have s3 : w2.heap.size ≤ w3.heap.size := (by have := hb3.size; (try simp at this); omega)
      obtain ⟨hc3, hf3⟩ := bcell hb3
      have z3 : w.heap.size < w3.heap.size := (by omega)
      go_wp2_with fail
      refine (spec_OnDoc_c _ _).mono ?_
      rintro e w4 ⟨rfl, hb4⟩
      have s4 : w3.heap.size ≤ w4.heap.size := (by have := hb4.size; (try simp at this); omega)
      obtain ⟨hc4, hf4⟩ := bcell hb4
      have z4 : w.heap.size < w4.heap.size := (by omega)
      go_wp2
      go_ret
      exact ⟨ret_bool (by rw [HV.out]; first | done | (simp; done) | (simp; omega)), (by repeat' (first | (with_reducible exact Below.refl _ _) | (with_reducible assumption) | (with_reducible refine Below.setCell ?_ ?_ _) | (with_reducible refine Below.alloc ?_ ?_ _) | (with_reducible refine Below.drew ?_) | (with_reducible refine belowN ?_ _) | (with_reducible refine below_after ?_ (by assumption) ?_) | omega | (simp; done) | (simp; omega)))⟩
    by_cases tN : n = 0
    rotate_left
    · have HV : Hid (callOk ⟨4, doc, client, seq, n, po, text⟩ = false) := Lib.hid (by rw [HC.out]; simp [usedD, hon, tN])
      have gX : text.length = 0 := by rw [tX]; rfl
      have gO : po.length = 0 := by rw [tO]; rfl
      have gS : (seq != 0) = false := by rw [tS]; simp
      have gC : (client == 0) = true := by rw [tC]; simp
      have gN : (n == 0) = false := by simpa using tN
      clear tX tO tS tC tN
      go_enter Try.func47, Try.ntmps47
      go_wp2_with fail
      refine (spec_l12Kind_c _ _).mono ?_
      rintro e w1 ⟨rfl, hb1⟩
      have s1 : w.heap.size + 1 ≤ w1.heap.size := (by have := hb1.size; (try simp at this); omega)
      obtain ⟨hc1, hf1⟩ := bcell hb1
      have z1 : w.heap.size < w1.heap.size := (by omega)
      go_wp2_with fail
      refine (spec_partsOk_c _ po _ (h_o.below (by repeat' (first | (with_reducible exact Below.refl _ _) | (with_reducible assumption) | (with_reducible refine Below.setCell ?_ ?_ _) | (with_reducible refine Below.alloc ?_ ?_ _) | (with_reducible refine Below.drew ?_) | (with_reducible refine belowN ?_ _) | (with_reducible refine below_after ?_ (by assumption) ?_) | omega | (simp; done) | (simp; omega))))).mono ?_
      rintro e w2 ⟨rfl, hb2⟩
      have s2 : w1.heap.size ≤ w2.heap.size := (by have := hb2.size; (try simp at this); omega)
      obtain ⟨hc2, hf2⟩ := bcell hb2
      have z2 : w.heap.size < w2.heap.size := (by omega)
      go_wp2_with fail
      refine (spec_TextOk_c _ text _ (h_text.below (by repeat' (first | (with_reducible exact Below.refl _ _) | (with_reducible assumption) | (with_reducible refine Below.setCell ?_ ?_ _) | (with_reducible refine Below.alloc ?_ ?_ _) | (with_reducible refine Below.drew ?_) | (with_reducible refine belowN ?_ _) | (with_reducible refine below_after ?_ (by assumption) ?_) | omega | (simp; done) | (simp; omega))))).mono ?_
      rintro e w3 ⟨rfl, hb3⟩
      have s3 : w2.heap.size ≤ w3.heap.size := (by have := hb3.size; (try simp at this); omega)
      obtain ⟨hc3, hf3⟩ := bcell hb3
      have z3 : w.heap.size < w3.heap.size := (by omega)
      go_wp2_with fail
      refine (spec_OnDoc_c _ _).mono ?_
      rintro e w4 ⟨rfl, hb4⟩
      have s4 : w3.heap.size ≤ w4.heap.size := (by have := hb4.size; (try simp at this); omega)
      obtain ⟨hc4, hf4⟩ := bcell hb4
      have z4 : w.heap.size < w4.heap.size := (by omega)
      go_wp2
      go_ret
      exact ⟨ret_bool (by rw [HV.out]; first | done | (simp; done) | (simp; omega)), (by repeat' (first | (with_reducible exact Below.refl _ _) | (with_reducible assumption) | (with_reducible refine Below.setCell ?_ ?_ _) | (with_reducible refine Below.alloc ?_ ?_ _) | (with_reducible refine Below.drew ?_) | (with_reducible refine belowN ?_ _) | (with_reducible refine below_after ?_ (by assumption) ?_) | omega | (simp; done) | (simp; omega)))⟩
    have HV : Hid (callOk ⟨4, doc, client, seq, n, po, text⟩ = true) := Lib.hid (by rw [HC.out]; simp [usedD, hon, tX, tO, tS, tC, tN])
    have gX : text.length = 0 := by rw [tX]; rfl
    have gO : po.length = 0 := by rw [tO]; rfl
    have gS : (seq != 0) = false := by rw [tS]; simp
    have gC : (client == 0) = true := by rw [tC]; simp
    have gN : (n == 0) = true := by rw [tN]; simp
    clear tX tO tS tC tN
    go_enter Try.func47, Try.ntmps47
    go_wp2_with fail
    refine (spec_l12Kind_c _ _).mono ?_
    rintro e w1 ⟨rfl, hb1⟩
    have s1 : w.heap.size + 1 ≤ w1.heap.size := (by have := hb1.size; (try simp at this); omega)
    obtain ⟨hc1, hf1⟩ := bcell hb1
    have z1 : w.heap.size < w1.heap.size := (by omega)
    go_wp2_with fail
    refine (spec_partsOk_c _ po _ (h_o.below (by repeat' (first | (with_reducible exact Below.refl _ _) | (with_reducible assumption) | (with_reducible refine Below.setCell ?_ ?_ _) | (with_reducible refine Below.alloc ?_ ?_ _) | (with_reducible refine Below.drew ?_) | (with_reducible refine belowN ?_ _) | (with_reducible refine below_after ?_ (by assumption) ?_) | omega | (simp; done) | (simp; omega))))).mono ?_
    rintro e w2 ⟨rfl, hb2⟩
    have s2 : w1.heap.size ≤ w2.heap.size := (by have := hb2.size; (try simp at this); omega)
    obtain ⟨hc2, hf2⟩ := bcell hb2
    have z2 : w.heap.size < w2.heap.size := (by omega)
    go_wp2_with fail
    refine (spec_TextOk_c _ text _ (h_text.below (by repeat' (first | (with_reducible exact Below.refl _ _) | (with_reducible assumption) | (with_reducible refine Below.setCell ?_ ?_ _) | (with_reducible refine Below.alloc ?_ ?_ _) | (with_reducible refine Below.drew ?_) | (with_reducible refine belowN ?_ _) | (with_reducible refine below_after ?_ (by assumption) ?_) | omega | (simp; done) | (simp; omega))))).mono ?_
    rintro e w3 ⟨rfl, hb3⟩
    have s3 : w2.heap.size ≤ w3.heap.size := (by have := hb3.size; (try simp at this); omega)
    obtain ⟨hc3, hf3⟩ := bcell hb3
    have z3 : w.heap.size < w3.heap.size := (by omega)
    go_wp2_with fail
    refine (spec_OnDoc_c _ _).mono ?_
    rintro e w4 ⟨rfl, hb4⟩
    have s4 : w3.heap.size ≤ w4.heap.size := (by have := hb4.size; (try simp at this); omega)
    obtain ⟨hc4, hf4⟩ := bcell hb4
    have z4 : w.heap.size < w4.heap.size := (by omega)
    go_wp2
    go_ret
    exact ⟨ret_bool (by rw [HV.out]; first | done | (simp; done) | (simp; omega)), (by repeat' (first | (with_reducible exact Below.refl _ _) | (with_reducible assumption) | (with_reducible refine Below.setCell ?_ ?_ _) | (with_reducible refine Below.alloc ?_ ?_ _) | (with_reducible refine Below.drew ?_) | (with_reducible refine belowN ?_ _) | (with_reducible refine below_after ?_ (by assumption) ?_) | omega | (simp; done) | (simp; omega)))⟩
  · have hon : onDoc 5 = true := by decide
    have h1 : within 5 1 8 = true := by decide
    by_cases tX : text = []
    rotate_left
    · have HV : Hid (callOk ⟨5, doc, client, seq, n, po, text⟩ = false) := Lib.hid (by rw [HC.out]; simp [usedD, hon, tX])
      have gX : 0 < text.length := List.length_pos_iff.2 tX
      clear tX
      go_enter Try.func47, Try.ntmps47
      go_wp2_with fail
      refine (spec_l12Kind_c _ _).mono ?_
      rintro e w1 ⟨rfl, hb1⟩
      have s1 : w.heap.size + 1 ≤ w1.heap.size := (by have := hb1.size; (try simp at this); omega)
      obtain ⟨hc1, hf1⟩ := bcell hb1
      have z1 : w.heap.size < w1.heap.size := (by omega)
      go_wp2_with fail
      refine (spec_partsOk_c _ po _ (h_o.below (by repeat' (first | (with_reducible exact Below.refl _ _) | (with_reducible assumption) | (with_reducible refine Below.setCell ?_ ?_ _) | (with_reducible refine Below.alloc ?_ ?_ _) | (with_reducible refine Below.drew ?_) | (with_reducible refine belowN ?_ _) | (with_reducible refine below_after ?_ (by assumption) ?_) | omega | (simp; done) | (simp; omega))))).mono ?_
      rintro e w2 ⟨rfl, hb2⟩
      have s2 : w1.heap.size ≤ w2.heap.size := (by have := hb2.size; (try simp at this); omega)
      obtain ⟨hc2, hf2⟩ := bcell hb2
      have z2 : w.heap.size < w2.heap.size := (by omega)
      go_wp2_with fail
      refine (spec_TextOk_c _ text _ (h_text.below (by repeat' (first | (with_reducible exact Below.refl _ _) | (with_reducible assumption) | (with_reducible refine Below.setCell ?_ ?_ _) | (with_reducible refine Below.alloc ?_ ?_ _) | (with_reducible refine Below.drew ?_) | (with_reducible refine belowN ?_ _) | (with_reducible refine below_after ?_ (by assumption) ?_) | omega | (simp; done) | (simp; omega))))).mono ?_
      rintro e w3 ⟨rfl, hb3⟩
      have s3 : w2.heap.size ≤ w3.heap.size := (by have := hb3.size; (try simp at this); omega)
      obtain ⟨hc3, hf3⟩ := bcell hb3
      have z3 : w.heap.size < w3.heap.size := (by omega)
      go_wp2_with fail
      refine (spec_OnDoc_c _ _).mono ?_
      rintro e w4 ⟨rfl, hb4⟩
      have s4 : w3.heap.size ≤ w4.heap.size := (by have := hb4.size; (try simp at this); omega)
      obtain ⟨hc4, hf4⟩ := bcell hb4
      have z4 : w.heap.size < w4.heap.size := (by omega)
      go_wp2
      go_ret
      exact ⟨ret_bool (by rw [HV.out]; first | done | (simp; done) | (simp; omega)), (by repeat' (first | (with_reducible exact Below.refl _ _) | (with_reducible assumption) | (with_reducible refine Below.setCell ?_ ?_ _) | (with_reducible refine Below.alloc ?_ ?_ _) | (with_reducible refine Below.drew ?_) | (with_reducible refine belowN ?_ _) | (with_reducible refine below_after ?_ (by assumption) ?_) | omega | (simp; done) | (simp; omega)))⟩
    by_cases tO : po = []
    rotate_left
    · have HV : Hid (callOk ⟨5, doc, client, seq, n, po, text⟩ = false) := Lib.hid (by rw [HC.out]; simp [usedD, hon, tO])
      have gX : text.length = 0 := by rw [tX]; rfl
      have gO : 0 < po.length := List.length_pos_iff.2 tO
      clear tX tO
      go_enter Try.func47, Try.ntmps47
      go_wp2_with fail
      refine (spec_l12Kind_c _ _).mono ?_
      rintro e w1 ⟨rfl, hb1⟩
      have s1 : w.heap.size + 1 ≤ w1.heap.size := (by have := hb1.size; (try simp at this); omega)
      obtain ⟨hc1, hf1⟩ := bcell hb1
      have z1 : w.heap.size < w1.heap.size := (by omega)
      go_wp2_with fail
      refine (spec_partsOk_c _ po _ (h_o.below (by repeat' (first | (with_reducible exact Below.refl _ _) | (with_reducible assumption) | (with_reducible refine Below.setCell ?_ ?_ _) | (with_reducible refine Below.alloc ?_ ?_ _) | (with_reducible refine Below.drew ?_) | (with_reducible refine belowN ?_ _) | (with_reducible refine below_after ?_ (by assumption) ?_) | omega | (simp; done) | (simp; omega))))).mono ?_
      rintro e w2 ⟨rfl, hb2⟩
      have s2 : w1.heap.size ≤ w2.heap.size := (by have := hb2.size; (try simp at this); omega)
      obtain ⟨hc2, hf2⟩ := bcell hb2
      have z2 : w.heap.size < w2.heap.size := (by omega)
      go_wp2_with fail
      refine (spec_TextOk_c _ text _ (h_text.below (by repeat' (first | (with_reducible exact Below.refl _ _) | (with_reducible assumption) | (with_reducible refine Below.setCell ?_ ?_ _) | (with_reducible refine Below.alloc ?_ ?_ _) | (with_reducible refine Below.drew ?_) | (with_reducible refine belowN ?_ _) | (with_reducible refine below_after ?_ (by assumption) ?_) | omega | (simp; done) | (simp; omega))))).mono ?_
      rintro e w3 ⟨rfl, hb3⟩
      have s3 : w2.heap.size ≤ w3.heap.size := (by have := hb3.size; (try simp at this); omega)
      obtain ⟨hc3, hf3⟩ := bcell hb3
      have z3 : w.heap.size < w3.heap.size := (by omega)
      go_wp2_with fail
      refine (spec_OnDoc_c _ _).mono ?_
      rintro e w4 ⟨rfl, hb4⟩
      have s4 : w3.heap.size ≤ w4.heap.size := (by have := hb4.size; (try simp at this); omega)
      obtain ⟨hc4, hf4⟩ := bcell hb4
      have z4 : w.heap.size < w4.heap.size := (by omega)
      go_wp2
      go_ret
      exact ⟨ret_bool (by rw [HV.out]; first | done | (simp; done) | (simp; omega)), (by repeat' (first | (with_reducible exact Below.refl _ _) | (with_reducible assumption) | (with_reducible refine Below.setCell ?_ ?_ _) | (with_reducible refine Below.alloc ?_ ?_ _) | (with_reducible refine Below.drew ?_) | (with_reducible refine belowN ?_ _) | (with_reducible refine below_after ?_ (by assumption) ?_) | omega | (simp; done) | (simp; omega)))⟩
    by_cases tS : seq = 0
    rotate_left
    · have HV : Hid (callOk ⟨5, doc, client, seq, n, po, text⟩ = false) := Lib.hid (by rw [HC.out]; simp [usedD, hon, tS])
      have gX : text.length = 0 := by rw [tX]; rfl
      have gO : po.length = 0 := by rw [tO]; rfl
      have gS : (seq != 0) = true := by simpa using tS
      clear tX tO tS
      go_enter Try.func47, Try.ntmps47
      go_wp2_with fail
      refine (spec_l12Kind_c _ _).mono ?_
      rintro e w1 ⟨rfl, hb1⟩
      have s1 : w.heap.size + 1 ≤ w1.heap.size := (by have := hb1.size; (try simp at this); omega)
      obtain ⟨hc1, hf1⟩ := bcell hb1
      have z1 : w.heap.size < w1.heap.size := (by omega)
      go_wp2_with fail
      refine (spec_partsOk_c _ po _ (h_o.below (by repeat' (first | (with_reducible exact Below.refl _ _) | (with_reducible assumption) | (with_reducible refine Below.setCell ?_ ?_ _) | (with_reducible refine Below.alloc ?_ ?_ _) | (with_reducible refine Below.drew ?_) | (with_reducible refine belowN ?_ _) | (with_reducible refine below_after ?_ (by assumption) ?_) | omega | (simp; done) | (simp; omega))))).mono ?_
      rintro e w2 ⟨rfl, hb2⟩
      have s2 : w1.heap.size ≤ w2.heap.size := (by have := hb2.size; (try simp at this); omega)
      obtain ⟨hc2, hf2⟩ := bcell hb2
      have z2 : w.heap.size < w2.heap.size := (by omega)
      go_wp2_with fail
      refine (spec_TextOk_c _ text _ (h_text.below (by repeat' (first | (with_reducible exact Below.refl _ _) | (with_reducible assumption) | (with_reducible refine Below.setCell ?_ ?_ _) | (with_reducible refine Below.alloc ?_ ?_ _) | (with_reducible refine Below.drew ?_) | (with_reducible refine belowN ?_ _) | (with_reducible refine below_after ?_ (by assumption) ?_) | omega | (simp; done) | (simp; omega))))).mono ?_
      rintro e w3 ⟨rfl, hb3⟩
      have s3 : w2.heap.size ≤ w3.heap.size := (by have := hb3.size; (try simp at this); omega)
      obtain ⟨hc3, hf3⟩ := bcell hb3
      have z3 : w.heap.size < w3.heap.size := (by omega)
      go_wp2_with fail
      refine (spec_OnDoc_c _ _).mono ?_
      rintro e w4 ⟨rfl, hb4⟩
      have s4 : w3.heap.size ≤ w4.heap.size := (by have := hb4.size; (try simp at this); omega)
      obtain ⟨hc4, hf4⟩ := bcell hb4
      have z4 : w.heap.size < w4.heap.size := (by omega)
      go_wp2
      go_ret
      exact ⟨ret_bool (by rw [HV.out]; first | done | (simp; done) | (simp; omega)), (by repeat' (first | (with_reducible exact Below.refl _ _) | (with_reducible assumption) | (with_reducible refine Below.setCell ?_ ?_ _) | (with_reducible refine Below.alloc ?_ ?_ _) | (with_reducible refine Below.drew ?_) | (with_reducible refine belowN ?_ _) | (with_reducible refine below_after ?_ (by assumption) ?_) | omega | (simp; done) | (simp; omega)))⟩
    by_cases tC : client = 0
    rotate_left
    · have HV : Hid (callOk ⟨5, doc, client, seq, n, po, text⟩ = false) := Lib.hid (by rw [HC.out]; simp [usedD, hon, tC])
      have gX : text.length = 0 := by rw [tX]; rfl
      have gO : po.length = 0 := by rw [tO]; rfl
      have gS : (seq != 0) = false := by rw [tS]; simp
      have gC : (client == 0) = false := by simpa using tC
      clear tX tO tS tC
      go_enter Try.func47, Try.ntmps47
      go_wp2_with fail
      refine (spec_l12Kind_c _ _).mono ?_
      rintro e w1 ⟨rfl, hb1⟩
      have s1 : w.heap.size + 1 ≤ w1.heap.size := (by have := hb1.size; (try simp at this); omega)
      obtain ⟨hc1, hf1⟩ := bcell hb1
      have z1 : w.heap.size < w1.heap.size := (by omega)
      go_wp2_with fail
      refine (spec_partsOk_c _ po _ (h_o.below (by repeat' (first | (with_reducible exact Below.refl _ _) | (with_reducible assumption) | (with_reducible refine Below.setCell ?_ ?_ _) | (with_reducible refine Below.alloc ?_ ?_ _) | (with_reducible refine Below.drew ?_) | (with_reducible refine belowN ?_ _) | (with_reducible refine below_after ?_ (by assumption) ?_) | omega | (simp; done) | (simp; omega))))).mono ?_
      rintro e w2 ⟨rfl, hb2⟩
      have s2 : w1.heap.size ≤ w2.heap.size := (by have := hb2.size; (try simp at this); omega)
      obtain ⟨hc2, hf2⟩ := bcell hb2
      have z2 : w.heap.size < w2.heap.size := (by omega)
      go_wp2_with fail
      refine (spec_TextOk_c _ text _ (h_text.below (by repeat' (first | (with_reducible exact Below.refl _ _) | (with_reducible assumption) | (with_reducible refine Below.setCell ?_ ?_ _) | (with_reducible refine Below.alloc ?_ ?_ _) | (with_reducible refine Below.drew ?_) | (with_reducible refine belowN ?_ _) | (with_reducible refine below_after ?_ (by assumption) ?_) | omega | (simp; done) | (simp; omega))))).mono ?_
      rintro e w3 ⟨rfl, hb3⟩
      have s3 : w2.heap.size ≤ w3.heap.size := (by have := hb3.size; (try simp at this); omega)
      obtain ⟨hc3, hf3⟩ := bcell hb3
      have z3 : w.heap.size < w3.heap.size := (by omega)
      go_wp2_with fail
      refine (spec_OnDoc_c _ _).mono ?_
      rintro e w4 ⟨rfl, hb4⟩
      have s4 : w3.heap.size ≤ w4.heap.size := (by have := hb4.size; (try simp at this); omega)
      obtain ⟨hc4, hf4⟩ := bcell hb4
      have z4 : w.heap.size < w4.heap.size := (by omega)
      go_wp2
      go_ret
      exact ⟨ret_bool (by rw [HV.out]; first | done | (simp; done) | (simp; omega)), (by repeat' (first | (with_reducible exact Below.refl _ _) | (with_reducible assumption) | (with_reducible refine Below.setCell ?_ ?_ _) | (with_reducible refine Below.alloc ?_ ?_ _) | (with_reducible refine Below.drew ?_) | (with_reducible refine belowN ?_ _) | (with_reducible refine below_after ?_ (by assumption) ?_) | omega | (simp; done) | (simp; omega)))⟩
    have HV : Hid (callOk ⟨5, doc, client, seq, n, po, text⟩ = true) := Lib.hid (by rw [HC.out]; simp [usedD, hon, tX, tO, tS, tC])
    have gX : text.length = 0 := by rw [tX]; rfl
    have gO : po.length = 0 := by rw [tO]; rfl
    have gS : (seq != 0) = false := by rw [tS]; simp
    have gC : (client == 0) = true := by rw [tC]; simp
    clear tX tO tS tC
    go_enter Try.func47, Try.ntmps47
    go_wp2_with fail
    refine (spec_l12Kind_c _ _).mono ?_
    rintro e w1 ⟨rfl, hb1⟩
    have s1 : w.heap.size + 1 ≤ w1.heap.size := (by have := hb1.size; (try simp at this); omega)
    obtain ⟨hc1, hf1⟩ := bcell hb1
    have z1 : w.heap.size < w1.heap.size := (by omega)
    go_wp2_with fail
    refine (spec_partsOk_c _ po _ (h_o.below (by repeat' (first | (with_reducible exact Below.refl _ _) | (with_reducible assumption) | (with_reducible refine Below.setCell ?_ ?_ _) | (with_reducible refine Below.alloc ?_ ?_ _) | (with_reducible refine Below.drew ?_) | (with_reducible refine belowN ?_ _) | (with_reducible refine below_after ?_ (by assumption) ?_) | omega | (simp; done) | (simp; omega))))).mono ?_
    rintro e w2 ⟨rfl, hb2⟩
    have s2 : w1.heap.size ≤ w2.heap.size := (by have := hb2.size; (try simp at this); omega)
    obtain ⟨hc2, hf2⟩ := bcell hb2
    have z2 : w.heap.size < w2.heap.size := (by omega)
    go_wp2_with fail
    refine (spec_TextOk_c _ text _ (h_text.below (by repeat' (first | (with_reducible exact Below.refl _ _) | (with_reducible assumption) | (with_reducible refine Below.setCell ?_ ?_ _) | (with_reducible refine Below.alloc ?_ ?_ _) | (with_reducible refine Below.drew ?_) | (with_reducible refine belowN ?_ _) | (with_reducible refine below_after ?_ (by assumption) ?_) | omega | (simp; done) | (simp; omega))))).mono ?_
    rintro e w3 ⟨rfl, hb3⟩
    have s3 : w2.heap.size ≤ w3.heap.size := (by have := hb3.size; (try simp at this); omega)
    obtain ⟨hc3, hf3⟩ := bcell hb3
    have z3 : w.heap.size < w3.heap.size := (by omega)
    go_wp2_with fail
    refine (spec_OnDoc_c _ _).mono ?_
    rintro e w4 ⟨rfl, hb4⟩
    have s4 : w3.heap.size ≤ w4.heap.size := (by have := hb4.size; (try simp at this); omega)
    obtain ⟨hc4, hf4⟩ := bcell hb4
    have z4 : w.heap.size < w4.heap.size := (by omega)
    go_wp2
    go_ret
    exact ⟨ret_bool (by rw [HV.out]; first | done | (simp; done) | (simp; omega)), (by repeat' (first | (with_reducible exact Below.refl _ _) | (with_reducible assumption) | (with_reducible refine Below.setCell ?_ ?_ _) | (with_reducible refine Below.alloc ?_ ?_ _) | (with_reducible refine Below.drew ?_) | (with_reducible refine belowN ?_ _) | (with_reducible refine below_after ?_ (by assumption) ?_) | omega | (simp; done) | (simp; omega)))⟩
  · have hon : onDoc 6 = false := by decide
    have h1 : within 6 1 8 = true := by decide
    by_cases tD : doc = ByteArray.empty
    rotate_left
    · have HV : Hid (callOk ⟨6, doc, client, seq, n, po, text⟩ = false) := Lib.hid (by rw [HC.out]; simp [usedD, hon, tD])
      have gD : (doc.toList == []) = false := by have := str_f tD; simpa using this
      have gD2 : doc.toList.isEmpty = false := by have := str_f tD; simpa using this
      clear tD
      go_enter Try.func47, Try.ntmps47
      go_wp2_with fail
      refine (spec_l12Kind_c _ _).mono ?_
      rintro e w1 ⟨rfl, hb1⟩
      have s1 : w.heap.size + 1 ≤ w1.heap.size := (by have := hb1.size; (try simp at this); omega)
      obtain ⟨hc1, hf1⟩ := bcell hb1
      have z1 : w.heap.size < w1.heap.size := (by omega)
      go_wp2_with fail
      refine (spec_partsOk_c _ po _ (h_o.below (by repeat' (first | (with_reducible exact Below.refl _ _) | (with_reducible assumption) | (with_reducible refine Below.setCell ?_ ?_ _) | (with_reducible refine Below.alloc ?_ ?_ _) | (with_reducible refine Below.drew ?_) | (with_reducible refine belowN ?_ _) | (with_reducible refine below_after ?_ (by assumption) ?_) | omega | (simp; done) | (simp; omega))))).mono ?_
      rintro e w2 ⟨rfl, hb2⟩
      have s2 : w1.heap.size ≤ w2.heap.size := (by have := hb2.size; (try simp at this); omega)
      obtain ⟨hc2, hf2⟩ := bcell hb2
      have z2 : w.heap.size < w2.heap.size := (by omega)
      go_wp2_with fail
      refine (spec_TextOk_c _ text _ (h_text.below (by repeat' (first | (with_reducible exact Below.refl _ _) | (with_reducible assumption) | (with_reducible refine Below.setCell ?_ ?_ _) | (with_reducible refine Below.alloc ?_ ?_ _) | (with_reducible refine Below.drew ?_) | (with_reducible refine belowN ?_ _) | (with_reducible refine below_after ?_ (by assumption) ?_) | omega | (simp; done) | (simp; omega))))).mono ?_
      rintro e w3 ⟨rfl, hb3⟩
      have s3 : w2.heap.size ≤ w3.heap.size := (by have := hb3.size; (try simp at this); omega)
      obtain ⟨hc3, hf3⟩ := bcell hb3
      have z3 : w.heap.size < w3.heap.size := (by omega)
      go_wp2_with fail
      refine (spec_OnDoc_c _ _).mono ?_
      rintro e w4 ⟨rfl, hb4⟩
      have s4 : w3.heap.size ≤ w4.heap.size := (by have := hb4.size; (try simp at this); omega)
      obtain ⟨hc4, hf4⟩ := bcell hb4
      have z4 : w.heap.size < w4.heap.size := (by omega)
      go_wp2
      go_ret
      exact ⟨ret_bool (by rw [HV.out]; first | done | (simp; done) | (simp; omega)), (by repeat' (first | (with_reducible exact Below.refl _ _) | (with_reducible assumption) | (with_reducible refine Below.setCell ?_ ?_ _) | (with_reducible refine Below.alloc ?_ ?_ _) | (with_reducible refine Below.drew ?_) | (with_reducible refine belowN ?_ _) | (with_reducible refine below_after ?_ (by assumption) ?_) | omega | (simp; done) | (simp; omega)))⟩
    by_cases tX : text = []
    rotate_left
    · have HV : Hid (callOk ⟨6, doc, client, seq, n, po, text⟩ = false) := Lib.hid (by rw [HC.out]; simp [usedD, hon, tX])
      have gD : (doc.toList == []) = true := ba_empty tD
      have gD2 : doc.toList.isEmpty = true := by rw [tD]; simp
      have gX : 0 < text.length := List.length_pos_iff.2 tX
      clear tD tX
      go_enter Try.func47, Try.ntmps47
      go_wp2_with fail
      refine (spec_l12Kind_c _ _).mono ?_
      rintro e w1 ⟨rfl, hb1⟩
      have s1 : w.heap.size + 1 ≤ w1.heap.size := (by have := hb1.size; (try simp at this); omega)
      obtain ⟨hc1, hf1⟩ := bcell hb1
      have z1 : w.heap.size < w1.heap.size := (by omega)
      go_wp2_with fail
      refine (spec_partsOk_c _ po _ (h_o.below (by repeat' (first | (with_reducible exact Below.refl _ _) | (with_reducible assumption) | (with_reducible refine Below.setCell ?_ ?_ _) | (with_reducible refine Below.alloc ?_ ?_ _) | (with_reducible refine Below.drew ?_) | (with_reducible refine belowN ?_ _) | (with_reducible refine below_after ?_ (by assumption) ?_) | omega | (simp; done) | (simp; omega))))).mono ?_
      rintro e w2 ⟨rfl, hb2⟩
      have s2 : w1.heap.size ≤ w2.heap.size := (by have := hb2.size; (try simp at this); omega)
      obtain ⟨hc2, hf2⟩ := bcell hb2
      have z2 : w.heap.size < w2.heap.size := (by omega)
      go_wp2_with fail
      refine (spec_TextOk_c _ text _ (h_text.below (by repeat' (first | (with_reducible exact Below.refl _ _) | (with_reducible assumption) | (with_reducible refine Below.setCell ?_ ?_ _) | (with_reducible refine Below.alloc ?_ ?_ _) | (with_reducible refine Below.drew ?_) | (with_reducible refine belowN ?_ _) | (with_reducible refine below_after ?_ (by assumption) ?_) | omega | (simp; done) | (simp; omega))))).mono ?_
      rintro e w3 ⟨rfl, hb3⟩
      have s3 : w2.heap.size ≤ w3.heap.size := (by have := hb3.size; (try simp at this); omega)
      obtain ⟨hc3, hf3⟩ := bcell hb3
      have z3 : w.heap.size < w3.heap.size := (by omega)
      go_wp2_with fail
      refine (spec_OnDoc_c _ _).mono ?_
      rintro e w4 ⟨rfl, hb4⟩
      have s4 : w3.heap.size ≤ w4.heap.size := (by have := hb4.size; (try simp at this); omega)
      obtain ⟨hc4, hf4⟩ := bcell hb4
      have z4 : w.heap.size < w4.heap.size := (by omega)
      go_wp2
      go_ret
      exact ⟨ret_bool (by rw [HV.out]; first | done | (simp; done) | (simp; omega)), (by repeat' (first | (with_reducible exact Below.refl _ _) | (with_reducible assumption) | (with_reducible refine Below.setCell ?_ ?_ _) | (with_reducible refine Below.alloc ?_ ?_ _) | (with_reducible refine Below.drew ?_) | (with_reducible refine belowN ?_ _) | (with_reducible refine below_after ?_ (by assumption) ?_) | omega | (simp; done) | (simp; omega)))⟩
    by_cases tO : po = []
    rotate_left
    · have HV : Hid (callOk ⟨6, doc, client, seq, n, po, text⟩ = false) := Lib.hid (by rw [HC.out]; simp [usedD, hon, tO])
      have gD : (doc.toList == []) = true := ba_empty tD
      have gD2 : doc.toList.isEmpty = true := by rw [tD]; simp
      have gX : text.length = 0 := by rw [tX]; rfl
      have gO : 0 < po.length := List.length_pos_iff.2 tO
      clear tD tX tO
      go_enter Try.func47, Try.ntmps47
      go_wp2_with fail
      refine (spec_l12Kind_c _ _).mono ?_
      rintro e w1 ⟨rfl, hb1⟩
      have s1 : w.heap.size + 1 ≤ w1.heap.size := (by have := hb1.size; (try simp at this); omega)
      obtain ⟨hc1, hf1⟩ := bcell hb1
      have z1 : w.heap.size < w1.heap.size := (by omega)
      go_wp2_with fail
      refine (spec_partsOk_c _ po _ (h_o.below (by repeat' (first | (with_reducible exact Below.refl _ _) | (with_reducible assumption) | (with_reducible refine Below.setCell ?_ ?_ _) | (with_reducible refine Below.alloc ?_ ?_ _) | (with_reducible refine Below.drew ?_) | (with_reducible refine belowN ?_ _) | (with_reducible refine below_after ?_ (by assumption) ?_) | omega | (simp; done) | (simp; omega))))).mono ?_
      rintro e w2 ⟨rfl, hb2⟩
      have s2 : w1.heap.size ≤ w2.heap.size := (by have := hb2.size; (try simp at this); omega)
      obtain ⟨hc2, hf2⟩ := bcell hb2
      have z2 : w.heap.size < w2.heap.size := (by omega)
      go_wp2_with fail
      refine (spec_TextOk_c _ text _ (h_text.below (by repeat' (first | (with_reducible exact Below.refl _ _) | (with_reducible assumption) | (with_reducible refine Below.setCell ?_ ?_ _) | (with_reducible refine Below.alloc ?_ ?_ _) | (with_reducible refine Below.drew ?_) | (with_reducible refine belowN ?_ _) | (with_reducible refine below_after ?_ (by assumption) ?_) | omega | (simp; done) | (simp; omega))))).mono ?_
      rintro e w3 ⟨rfl, hb3⟩
      have s3 : w2.heap.size ≤ w3.heap.size := (by have := hb3.size; (try simp at this); omega)
      obtain ⟨hc3, hf3⟩ := bcell hb3
      have z3 : w.heap.size < w3.heap.size := (by omega)
      go_wp2_with fail
      refine (spec_OnDoc_c _ _).mono ?_
      rintro e w4 ⟨rfl, hb4⟩
      have s4 : w3.heap.size ≤ w4.heap.size := (by have := hb4.size; (try simp at this); omega)
      obtain ⟨hc4, hf4⟩ := bcell hb4
      have z4 : w.heap.size < w4.heap.size := (by omega)
      go_wp2
      go_ret
      exact ⟨ret_bool (by rw [HV.out]; first | done | (simp; done) | (simp; omega)), (by repeat' (first | (with_reducible exact Below.refl _ _) | (with_reducible assumption) | (with_reducible refine Below.setCell ?_ ?_ _) | (with_reducible refine Below.alloc ?_ ?_ _) | (with_reducible refine Below.drew ?_) | (with_reducible refine belowN ?_ _) | (with_reducible refine below_after ?_ (by assumption) ?_) | omega | (simp; done) | (simp; omega)))⟩
    by_cases tS : seq = 0
    rotate_left
    · have HV : Hid (callOk ⟨6, doc, client, seq, n, po, text⟩ = false) := Lib.hid (by rw [HC.out]; simp [usedD, hon, tS])
      have gD : (doc.toList == []) = true := ba_empty tD
      have gD2 : doc.toList.isEmpty = true := by rw [tD]; simp
      have gX : text.length = 0 := by rw [tX]; rfl
      have gO : po.length = 0 := by rw [tO]; rfl
      have gS : (seq != 0) = true := by simpa using tS
      clear tD tX tO tS
      go_enter Try.func47, Try.ntmps47
      go_wp2_with fail
      refine (spec_l12Kind_c _ _).mono ?_
      rintro e w1 ⟨rfl, hb1⟩
      have s1 : w.heap.size + 1 ≤ w1.heap.size := (by have := hb1.size; (try simp at this); omega)
      obtain ⟨hc1, hf1⟩ := bcell hb1
      have z1 : w.heap.size < w1.heap.size := (by omega)
      go_wp2_with fail
      refine (spec_partsOk_c _ po _ (h_o.below (by repeat' (first | (with_reducible exact Below.refl _ _) | (with_reducible assumption) | (with_reducible refine Below.setCell ?_ ?_ _) | (with_reducible refine Below.alloc ?_ ?_ _) | (with_reducible refine Below.drew ?_) | (with_reducible refine belowN ?_ _) | (with_reducible refine below_after ?_ (by assumption) ?_) | omega | (simp; done) | (simp; omega))))).mono ?_
      rintro e w2 ⟨rfl, hb2⟩
      have s2 : w1.heap.size ≤ w2.heap.size := (by have := hb2.size; (try simp at this); omega)
      obtain ⟨hc2, hf2⟩ := bcell hb2
      have z2 : w.heap.size < w2.heap.size := (by omega)
      go_wp2_with fail
      refine (spec_TextOk_c _ text _ (h_text.below (by repeat' (first | (with_reducible exact Below.refl _ _) | (with_reducible assumption) | (with_reducible refine Below.setCell ?_ ?_ _) | (with_reducible refine Below.alloc ?_ ?_ _) | (with_reducible refine Below.drew ?_) | (with_reducible refine belowN ?_ _) | (with_reducible refine below_after ?_ (by assumption) ?_) | omega | (simp; done) | (simp; omega))))).mono ?_
      rintro e w3 ⟨rfl, hb3⟩
      have s3 : w2.heap.size ≤ w3.heap.size := (by have := hb3.size; (try simp at this); omega)
      obtain ⟨hc3, hf3⟩ := bcell hb3
      have z3 : w.heap.size < w3.heap.size := (by omega)
      go_wp2_with fail
      refine (spec_OnDoc_c _ _).mono ?_
      rintro e w4 ⟨rfl, hb4⟩
      have s4 : w3.heap.size ≤ w4.heap.size := (by have := hb4.size; (try simp at this); omega)
      obtain ⟨hc4, hf4⟩ := bcell hb4
      have z4 : w.heap.size < w4.heap.size := (by omega)
      go_wp2
      go_ret
      exact ⟨ret_bool (by rw [HV.out]; first | done | (simp; done) | (simp; omega)), (by repeat' (first | (with_reducible exact Below.refl _ _) | (with_reducible assumption) | (with_reducible refine Below.setCell ?_ ?_ _) | (with_reducible refine Below.alloc ?_ ?_ _) | (with_reducible refine Below.drew ?_) | (with_reducible refine belowN ?_ _) | (with_reducible refine below_after ?_ (by assumption) ?_) | omega | (simp; done) | (simp; omega)))⟩
    have HV : Hid (callOk ⟨6, doc, client, seq, n, po, text⟩ = true) := Lib.hid (by rw [HC.out]; simp [usedD, hon, tD, tX, tO, tS])
    have gD : (doc.toList == []) = true := ba_empty tD
    have gD2 : doc.toList.isEmpty = true := by rw [tD]; simp
    have gX : text.length = 0 := by rw [tX]; rfl
    have gO : po.length = 0 := by rw [tO]; rfl
    have gS : (seq != 0) = false := by rw [tS]; simp
    clear tD tX tO tS
    go_enter Try.func47, Try.ntmps47
    go_wp2_with fail
    refine (spec_l12Kind_c _ _).mono ?_
    rintro e w1 ⟨rfl, hb1⟩
    have s1 : w.heap.size + 1 ≤ w1.heap.size := (by have := hb1.size; (try simp at this); omega)
    obtain ⟨hc1, hf1⟩ := bcell hb1
    have z1 : w.heap.size < w1.heap.size := (by omega)
    go_wp2_with fail
    refine (spec_partsOk_c _ po _ (h_o.below (by repeat' (first | (with_reducible exact Below.refl _ _) | (with_reducible assumption) | (with_reducible refine Below.setCell ?_ ?_ _) | (with_reducible refine Below.alloc ?_ ?_ _) | (with_reducible refine Below.drew ?_) | (with_reducible refine belowN ?_ _) | (with_reducible refine below_after ?_ (by assumption) ?_) | omega | (simp; done) | (simp; omega))))).mono ?_
    rintro e w2 ⟨rfl, hb2⟩
    have s2 : w1.heap.size ≤ w2.heap.size := (by have := hb2.size; (try simp at this); omega)
    obtain ⟨hc2, hf2⟩ := bcell hb2
    have z2 : w.heap.size < w2.heap.size := (by omega)
    go_wp2_with fail
    refine (spec_TextOk_c _ text _ (h_text.below (by repeat' (first | (with_reducible exact Below.refl _ _) | (with_reducible assumption) | (with_reducible refine Below.setCell ?_ ?_ _) | (with_reducible refine Below.alloc ?_ ?_ _) | (with_reducible refine Below.drew ?_) | (with_reducible refine belowN ?_ _) | (with_reducible refine below_after ?_ (by assumption) ?_) | omega | (simp; done) | (simp; omega))))).mono ?_
    rintro e w3 ⟨rfl, hb3⟩
    have s3 : w2.heap.size ≤ w3.heap.size := (by have := hb3.size; (try simp at this); omega)
    obtain ⟨hc3, hf3⟩ := bcell hb3
    have z3 : w.heap.size < w3.heap.size := (by omega)
    go_wp2_with fail
    refine (spec_OnDoc_c _ _).mono ?_
    rintro e w4 ⟨rfl, hb4⟩
    have s4 : w3.heap.size ≤ w4.heap.size := (by have := hb4.size; (try simp at this); omega)
    obtain ⟨hc4, hf4⟩ := bcell hb4
    have z4 : w.heap.size < w4.heap.size := (by omega)
    go_wp2
    go_ret
    exact ⟨ret_bool (by rw [HV.out]; first | done | (simp; done) | (simp; omega)), (by repeat' (first | (with_reducible exact Below.refl _ _) | (with_reducible assumption) | (with_reducible refine Below.setCell ?_ ?_ _) | (with_reducible refine Below.alloc ?_ ?_ _) | (with_reducible refine Below.drew ?_) | (with_reducible refine belowN ?_ _) | (with_reducible refine below_after ?_ (by assumption) ?_) | omega | (simp; done) | (simp; omega)))⟩
  · have hon : onDoc 7 = false := by decide
    have h1 : within 7 1 8 = true := by decide
    by_cases tD : doc = ByteArray.empty
    rotate_left
    · have HV : Hid (callOk ⟨7, doc, client, seq, n, po, text⟩ = false) := Lib.hid (by rw [HC.out]; simp [usedD, hon, tD])
      have gD : (doc.toList == []) = false := by have := str_f tD; simpa using this
      have gD2 : doc.toList.isEmpty = false := by have := str_f tD; simpa using this
      clear tD
      go_enter Try.func47, Try.ntmps47
      go_wp2_with fail
      refine (spec_l12Kind_c _ _).mono ?_
      rintro e w1 ⟨rfl, hb1⟩
      have s1 : w.heap.size + 1 ≤ w1.heap.size := (by have := hb1.size; (try simp at this); omega)
      obtain ⟨hc1, hf1⟩ := bcell hb1
      have z1 : w.heap.size < w1.heap.size := (by omega)
      go_wp2_with fail
      refine (spec_partsOk_c _ po _ (h_o.below (by repeat' (first | (with_reducible exact Below.refl _ _) | (with_reducible assumption) | (with_reducible refine Below.setCell ?_ ?_ _) | (with_reducible refine Below.alloc ?_ ?_ _) | (with_reducible refine Below.drew ?_) | (with_reducible refine belowN ?_ _) | (with_reducible refine below_after ?_ (by assumption) ?_) | omega | (simp; done) | (simp; omega))))).mono ?_
      rintro e w2 ⟨rfl, hb2⟩
      have s2 : w1.heap.size ≤ w2.heap.size := (by have := hb2.size; (try simp at this); omega)
      obtain ⟨hc2, hf2⟩ := bcell hb2
      have z2 : w.heap.size < w2.heap.size := (by omega)
      go_wp2_with fail
      refine (spec_TextOk_c _ text _ (h_text.below (by repeat' (first | (with_reducible exact Below.refl _ _) | (with_reducible assumption) | (with_reducible refine Below.setCell ?_ ?_ _) | (with_reducible refine Below.alloc ?_ ?_ _) | (with_reducible refine Below.drew ?_) | (with_reducible refine belowN ?_ _) | (with_reducible refine below_after ?_ (by assumption) ?_) | omega | (simp; done) | (simp; omega))))).mono ?_
      rintro e w3 ⟨rfl, hb3⟩
      have s3 : w2.heap.size ≤ w3.heap.size := (by have := hb3.size; (try simp at this); omega)
      obtain ⟨hc3, hf3⟩ := bcell hb3
      have z3 : w.heap.size < w3.heap.size := (by omega)
      go_wp2_with fail
      refine (spec_OnDoc_c _ _).mono ?_
      rintro e w4 ⟨rfl, hb4⟩
      have s4 : w3.heap.size ≤ w4.heap.size := (by have := hb4.size; (try simp at this); omega)
      obtain ⟨hc4, hf4⟩ := bcell hb4
      have z4 : w.heap.size < w4.heap.size := (by omega)
      go_wp2
      go_ret
      exact ⟨ret_bool (by rw [HV.out]; first | done | (simp; done) | (simp; omega)), (by repeat' (first | (with_reducible exact Below.refl _ _) | (with_reducible assumption) | (with_reducible refine Below.setCell ?_ ?_ _) | (with_reducible refine Below.alloc ?_ ?_ _) | (with_reducible refine Below.drew ?_) | (with_reducible refine belowN ?_ _) | (with_reducible refine below_after ?_ (by assumption) ?_) | omega | (simp; done) | (simp; omega)))⟩
    by_cases tX : text = []
    rotate_left
    · have HV : Hid (callOk ⟨7, doc, client, seq, n, po, text⟩ = false) := Lib.hid (by rw [HC.out]; simp [usedD, hon, tX])
      have gD : (doc.toList == []) = true := ba_empty tD
      have gD2 : doc.toList.isEmpty = true := by rw [tD]; simp
      have gX : 0 < text.length := List.length_pos_iff.2 tX
      clear tD tX
      go_enter Try.func47, Try.ntmps47
      go_wp2_with fail
      refine (spec_l12Kind_c _ _).mono ?_
      rintro e w1 ⟨rfl, hb1⟩
      have s1 : w.heap.size + 1 ≤ w1.heap.size := (by have := hb1.size; (try simp at this); omega)
      obtain ⟨hc1, hf1⟩ := bcell hb1
      have z1 : w.heap.size < w1.heap.size := (by omega)
      go_wp2_with fail
      refine (spec_partsOk_c _ po _ (h_o.below (by repeat' (first | (with_reducible exact Below.refl _ _) | (with_reducible assumption) | (with_reducible refine Below.setCell ?_ ?_ _) | (with_reducible refine Below.alloc ?_ ?_ _) | (with_reducible refine Below.drew ?_) | (with_reducible refine belowN ?_ _) | (with_reducible refine below_after ?_ (by assumption) ?_) | omega | (simp; done) | (simp; omega))))).mono ?_
      rintro e w2 ⟨rfl, hb2⟩
      have s2 : w1.heap.size ≤ w2.heap.size := (by have := hb2.size; (try simp at this); omega)
      obtain ⟨hc2, hf2⟩ := bcell hb2
      have z2 : w.heap.size < w2.heap.size := (by omega)
      go_wp2_with fail
      refine (spec_TextOk_c _ text _ (h_text.below (by repeat' (first | (with_reducible exact Below.refl _ _) | (with_reducible assumption) | (with_reducible refine Below.setCell ?_ ?_ _) | (with_reducible refine Below.alloc ?_ ?_ _) | (with_reducible refine Below.drew ?_) | (with_reducible refine belowN ?_ _) | (with_reducible refine below_after ?_ (by assumption) ?_) | omega | (simp; done) | (simp; omega))))).mono ?_
      rintro e w3 ⟨rfl, hb3⟩
      have s3 : w2.heap.size ≤ w3.heap.size := (by have := hb3.size; (try simp at this); omega)
      obtain ⟨hc3, hf3⟩ := bcell hb3
      have z3 : w.heap.size < w3.heap.size := (by omega)
      go_wp2_with fail
      refine (spec_OnDoc_c _ _).mono ?_
      rintro e w4 ⟨rfl, hb4⟩
      have s4 : w3.heap.size ≤ w4.heap.size := (by have := hb4.size; (try simp at this); omega)
      obtain ⟨hc4, hf4⟩ := bcell hb4
      have z4 : w.heap.size < w4.heap.size := (by omega)
      go_wp2
      go_ret
      exact ⟨ret_bool (by rw [HV.out]; first | done | (simp; done) | (simp; omega)), (by repeat' (first | (with_reducible exact Below.refl _ _) | (with_reducible assumption) | (with_reducible refine Below.setCell ?_ ?_ _) | (with_reducible refine Below.alloc ?_ ?_ _) | (with_reducible refine Below.drew ?_) | (with_reducible refine belowN ?_ _) | (with_reducible refine below_after ?_ (by assumption) ?_) | omega | (simp; done) | (simp; omega)))⟩
    by_cases tO : po = []
    rotate_left
    · have HV : Hid (callOk ⟨7, doc, client, seq, n, po, text⟩ = false) := Lib.hid (by rw [HC.out]; simp [usedD, hon, tO])
      have gD : (doc.toList == []) = true := ba_empty tD
      have gD2 : doc.toList.isEmpty = true := by rw [tD]; simp
      have gX : text.length = 0 := by rw [tX]; rfl
      have gO : 0 < po.length := List.length_pos_iff.2 tO
      clear tD tX tO
      go_enter Try.func47, Try.ntmps47
      go_wp2_with fail
      refine (spec_l12Kind_c _ _).mono ?_
      rintro e w1 ⟨rfl, hb1⟩
      have s1 : w.heap.size + 1 ≤ w1.heap.size := (by have := hb1.size; (try simp at this); omega)
      obtain ⟨hc1, hf1⟩ := bcell hb1
      have z1 : w.heap.size < w1.heap.size := (by omega)
      go_wp2_with fail
      refine (spec_partsOk_c _ po _ (h_o.below (by repeat' (first | (with_reducible exact Below.refl _ _) | (with_reducible assumption) | (with_reducible refine Below.setCell ?_ ?_ _) | (with_reducible refine Below.alloc ?_ ?_ _) | (with_reducible refine Below.drew ?_) | (with_reducible refine belowN ?_ _) | (with_reducible refine below_after ?_ (by assumption) ?_) | omega | (simp; done) | (simp; omega))))).mono ?_
      rintro e w2 ⟨rfl, hb2⟩
      have s2 : w1.heap.size ≤ w2.heap.size := (by have := hb2.size; (try simp at this); omega)
      obtain ⟨hc2, hf2⟩ := bcell hb2
      have z2 : w.heap.size < w2.heap.size := (by omega)
      go_wp2_with fail
      refine (spec_TextOk_c _ text _ (h_text.below (by repeat' (first | (with_reducible exact Below.refl _ _) | (with_reducible assumption) | (with_reducible refine Below.setCell ?_ ?_ _) | (with_reducible refine Below.alloc ?_ ?_ _) | (with_reducible refine Below.drew ?_) | (with_reducible refine belowN ?_ _) | (with_reducible refine below_after ?_ (by assumption) ?_) | omega | (simp; done) | (simp; omega))))).mono ?_
      rintro e w3 ⟨rfl, hb3⟩
      have s3 : w2.heap.size ≤ w3.heap.size := (by have := hb3.size; (try simp at this); omega)
      obtain ⟨hc3, hf3⟩ := bcell hb3
      have z3 : w.heap.size < w3.heap.size := (by omega)
      go_wp2_with fail
      refine (spec_OnDoc_c _ _).mono ?_
      rintro e w4 ⟨rfl, hb4⟩
      have s4 : w3.heap.size ≤ w4.heap.size := (by have := hb4.size; (try simp at this); omega)
      obtain ⟨hc4, hf4⟩ := bcell hb4
      have z4 : w.heap.size < w4.heap.size := (by omega)
      go_wp2
      go_ret
      exact ⟨ret_bool (by rw [HV.out]; first | done | (simp; done) | (simp; omega)), (by repeat' (first | (with_reducible exact Below.refl _ _) | (with_reducible assumption) | (with_reducible refine Below.setCell ?_ ?_ _) | (with_reducible refine Below.alloc ?_ ?_ _) | (with_reducible refine Below.drew ?_) | (with_reducible refine belowN ?_ _) | (with_reducible refine below_after ?_ (by assumption) ?_) | omega | (simp; done) | (simp; omega)))⟩
    by_cases tS : seq = 0
    rotate_left
    · have HV : Hid (callOk ⟨7, doc, client, seq, n, po, text⟩ = false) := Lib.hid (by rw [HC.out]; simp [usedD, hon, tS])
      have gD : (doc.toList == []) = true := ba_empty tD
      have gD2 : doc.toList.isEmpty = true := by rw [tD]; simp
      have gX : text.length = 0 := by rw [tX]; rfl
      have gO : po.length = 0 := by rw [tO]; rfl
      have gS : (seq != 0) = true := by simpa using tS
      clear tD tX tO tS
      go_enter Try.func47, Try.ntmps47
      go_wp2_with fail
      refine (spec_l12Kind_c _ _).mono ?_
      rintro e w1 ⟨rfl, hb1⟩
      have s1 : w.heap.size + 1 ≤ w1.heap.size := (by have := hb1.size; (try simp at this); omega)
      obtain ⟨hc1, hf1⟩ := bcell hb1
      have z1 : w.heap.size < w1.heap.size := (by omega)
      go_wp2_with fail
      refine (spec_partsOk_c _ po _ (h_o.below (by repeat' (first | (with_reducible exact Below.refl _ _) | (with_reducible assumption) | (with_reducible refine Below.setCell ?_ ?_ _) | (with_reducible refine Below.alloc ?_ ?_ _) | (with_reducible refine Below.drew ?_) | (with_reducible refine belowN ?_ _) | (with_reducible refine below_after ?_ (by assumption) ?_) | omega | (simp; done) | (simp; omega))))).mono ?_
      rintro e w2 ⟨rfl, hb2⟩
      have s2 : w1.heap.size ≤ w2.heap.size := (by have := hb2.size; (try simp at this); omega)
      obtain ⟨hc2, hf2⟩ := bcell hb2
      have z2 : w.heap.size < w2.heap.size := (by omega)
      go_wp2_with fail
      refine (spec_TextOk_c _ text _ (h_text.below (by repeat' (first | (with_reducible exact Below.refl _ _) | (with_reducible assumption) | (with_reducible refine Below.setCell ?_ ?_ _) | (with_reducible refine Below.alloc ?_ ?_ _) | (with_reducible refine Below.drew ?_) | (with_reducible refine belowN ?_ _) | (with_reducible refine below_after ?_ (by assumption) ?_) | omega | (simp; done) | (simp; omega))))).mono ?_
      rintro e w3 ⟨rfl, hb3⟩
      have s3 : w2.heap.size ≤ w3.heap.size := (by have := hb3.size; (try simp at this); omega)
      obtain ⟨hc3, hf3⟩ := bcell hb3
      have z3 : w.heap.size < w3.heap.size := (by omega)
      go_wp2_with fail
      refine (spec_OnDoc_c _ _).mono ?_
      rintro e w4 ⟨rfl, hb4⟩
      have s4 : w3.heap.size ≤ w4.heap.size := (by have := hb4.size; (try simp at this); omega)
      obtain ⟨hc4, hf4⟩ := bcell hb4
      have z4 : w.heap.size < w4.heap.size := (by omega)
      go_wp2
      go_ret
      exact ⟨ret_bool (by rw [HV.out]; first | done | (simp; done) | (simp; omega)), (by repeat' (first | (with_reducible exact Below.refl _ _) | (with_reducible assumption) | (with_reducible refine Below.setCell ?_ ?_ _) | (with_reducible refine Below.alloc ?_ ?_ _) | (with_reducible refine Below.drew ?_) | (with_reducible refine belowN ?_ _) | (with_reducible refine below_after ?_ (by assumption) ?_) | omega | (simp; done) | (simp; omega)))⟩
    by_cases tN : n = 0
    rotate_left
    · have HV : Hid (callOk ⟨7, doc, client, seq, n, po, text⟩ = false) := Lib.hid (by rw [HC.out]; simp [usedD, hon, tN])
      have gD : (doc.toList == []) = true := ba_empty tD
      have gD2 : doc.toList.isEmpty = true := by rw [tD]; simp
      have gX : text.length = 0 := by rw [tX]; rfl
      have gO : po.length = 0 := by rw [tO]; rfl
      have gS : (seq != 0) = false := by rw [tS]; simp
      have gN : (n == 0) = false := by simpa using tN
      clear tD tX tO tS tN
      go_enter Try.func47, Try.ntmps47
      go_wp2_with fail
      refine (spec_l12Kind_c _ _).mono ?_
      rintro e w1 ⟨rfl, hb1⟩
      have s1 : w.heap.size + 1 ≤ w1.heap.size := (by have := hb1.size; (try simp at this); omega)
      obtain ⟨hc1, hf1⟩ := bcell hb1
      have z1 : w.heap.size < w1.heap.size := (by omega)
      go_wp2_with fail
      refine (spec_partsOk_c _ po _ (h_o.below (by repeat' (first | (with_reducible exact Below.refl _ _) | (with_reducible assumption) | (with_reducible refine Below.setCell ?_ ?_ _) | (with_reducible refine Below.alloc ?_ ?_ _) | (with_reducible refine Below.drew ?_) | (with_reducible refine belowN ?_ _) | (with_reducible refine below_after ?_ (by assumption) ?_) | omega | (simp; done) | (simp; omega))))).mono ?_
      rintro e w2 ⟨rfl, hb2⟩
      have s2 : w1.heap.size ≤ w2.heap.size := (by have := hb2.size; (try simp at this); omega)
      obtain ⟨hc2, hf2⟩ := bcell hb2
      have z2 : w.heap.size < w2.heap.size := (by omega)
      go_wp2_with fail
      refine (spec_TextOk_c _ text _ (h_text.below (by repeat' (first | (with_reducible exact Below.refl _ _) | (with_reducible assumption) | (with_reducible refine Below.setCell ?_ ?_ _) | (with_reducible refine Below.alloc ?_ ?_ _) | (with_reducible refine Below.drew ?_) | (with_reducible refine belowN ?_ _) | (with_reducible refine below_after ?_ (by assumption) ?_) | omega | (simp; done) | (simp; omega))))).mono ?_
      rintro e w3 ⟨rfl, hb3⟩
      have s3 : w2.heap.size ≤ w3.heap.size := (by have := hb3.size; (try simp at this); omega)
      obtain ⟨hc3, hf3⟩ := bcell hb3
      have z3 : w.heap.size < w3.heap.size := (by omega)
      go_wp2_with fail
      refine (spec_OnDoc_c _ _).mono ?_
      rintro e w4 ⟨rfl, hb4⟩
      have s4 : w3.heap.size ≤ w4.heap.size := (by have := hb4.size; (try simp at this); omega)
      obtain ⟨hc4, hf4⟩ := bcell hb4
      have z4 : w.heap.size < w4.heap.size := (by omega)
      go_wp2
      go_ret
      exact ⟨ret_bool (by rw [HV.out]; first | done | (simp; done) | (simp; omega)), (by repeat' (first | (with_reducible exact Below.refl _ _) | (with_reducible assumption) | (with_reducible refine Below.setCell ?_ ?_ _) | (with_reducible refine Below.alloc ?_ ?_ _) | (with_reducible refine Below.drew ?_) | (with_reducible refine belowN ?_ _) | (with_reducible refine below_after ?_ (by assumption) ?_) | omega | (simp; done) | (simp; omega)))⟩
    have HV : Hid (callOk ⟨7, doc, client, seq, n, po, text⟩ = true) := Lib.hid (by rw [HC.out]; simp [usedD, hon, tD, tX, tO, tS, tN])
    have gD : (doc.toList == []) = true := ba_empty tD
    have gD2 : doc.toList.isEmpty = true := by rw [tD]; simp
    have gX : text.length = 0 := by rw [tX]; rfl
    have gO : po.length = 0 := by rw [tO]; rfl
    have gS : (seq != 0) = false := by rw [tS]; simp
    have gN : (n == 0) = true := by rw [tN]; simp
    clear tD tX tO tS tN
    go_enter Try.func47, Try.ntmps47
    go_wp2_with fail
    refine (spec_l12Kind_c _ _).mono ?_
    rintro e w1 ⟨rfl, hb1⟩
    have s1 : w.heap.size + 1 ≤ w1.heap.size := (by have := hb1.size; (try simp at this); omega)
    obtain ⟨hc1, hf1⟩ := bcell hb1
    have z1 : w.heap.size < w1.heap.size := (by omega)
    go_wp2_with fail
    refine (spec_partsOk_c _ po _ (h_o.below (by repeat' (first | (with_reducible exact Below.refl _ _) | (with_reducible assumption) | (with_reducible refine Below.setCell ?_ ?_ _) | (with_reducible refine Below.alloc ?_ ?_ _) | (with_reducible refine Below.drew ?_) | (with_reducible refine belowN ?_ _) | (with_reducible refine below_after ?_ (by assumption) ?_) | omega | (simp; done) | (simp; omega))))).mono ?_
    rintro e w2 ⟨rfl, hb2⟩
    have s2 : w1.heap.size ≤ w2.heap.size := (by have := hb2.size; (try simp at this); omega)
    obtain ⟨hc2, hf2⟩ := bcell hb2
    have z2 : w.heap.size < w2.heap.size := (by omega)
    go_wp2_with fail
    refine (spec_TextOk_c _ text _ (h_text.below (by repeat' (first | (with_reducible exact Below.refl _ _) | (with_reducible assumption) | (with_reducible refine Below.setCell ?_ ?_ _) | (with_reducible refine Below.alloc ?_ ?_ _) | (with_reducible refine Below.drew ?_) | (with_reducible refine belowN ?_ _) | (with_reducible refine below_after ?_ (by assumption) ?_) | omega | (simp; done) | (simp; omega))))).mono ?_
    rintro e w3 ⟨rfl, hb3⟩
    have s3 : w2.heap.size ≤ w3.heap.size := (by have := hb3.size; (try simp at this); omega)
    obtain ⟨hc3, hf3⟩ := bcell hb3
    have z3 : w.heap.size < w3.heap.size := (by omega)
    go_wp2_with fail
    refine (spec_OnDoc_c _ _).mono ?_
    rintro e w4 ⟨rfl, hb4⟩
    have s4 : w3.heap.size ≤ w4.heap.size := (by have := hb4.size; (try simp at this); omega)
    obtain ⟨hc4, hf4⟩ := bcell hb4
    have z4 : w.heap.size < w4.heap.size := (by omega)
    go_wp2
    go_ret
    exact ⟨ret_bool (by rw [HV.out]; first | done | (simp; done) | (simp; omega)), (by repeat' (first | (with_reducible exact Below.refl _ _) | (with_reducible assumption) | (with_reducible refine Below.setCell ?_ ?_ _) | (with_reducible refine Below.alloc ?_ ?_ _) | (with_reducible refine Below.drew ?_) | (with_reducible refine belowN ?_ _) | (with_reducible refine below_after ?_ (by assumption) ?_) | omega | (simp; done) | (simp; omega)))⟩
  · have hon : onDoc 8 = false := by decide
    have h1 : within 8 1 8 = true := by decide
    by_cases tD : doc = ByteArray.empty
    rotate_left
    · have HV : Hid (callOk ⟨8, doc, client, seq, n, po, text⟩ = false) := Lib.hid (by rw [HC.out]; simp [usedD, hon, tD])
      have gD : (doc.toList == []) = false := by have := str_f tD; simpa using this
      have gD2 : doc.toList.isEmpty = false := by have := str_f tD; simpa using this
      clear tD
      go_enter Try.func47, Try.ntmps47
      go_wp2_with fail
      refine (spec_l12Kind_c _ _).mono ?_
      rintro e w1 ⟨rfl, hb1⟩
      have s1 : w.heap.size + 1 ≤ w1.heap.size := (by have := hb1.size; (try simp at this); omega)
      obtain ⟨hc1, hf1⟩ := bcell hb1
      have z1 : w.heap.size < w1.heap.size := (by omega)
      go_wp2_with fail
      refine (spec_partsOk_c _ po _ (h_o.below (by repeat' (first | (with_reducible exact Below.refl _ _) | (with_reducible assumption) | (with_reducible refine Below.setCell ?_ ?_ _) | (with_reducible refine Below.alloc ?_ ?_ _) | (with_reducible refine Below.drew ?_) | (with_reducible refine belowN ?_ _) | (with_reducible refine below_after ?_ (by assumption) ?_) | omega | (simp; done) | (simp; omega))))).mono ?_
      rintro e w2 ⟨rfl, hb2⟩
      have s2 : w1.heap.size ≤ w2.heap.size := (by have := hb2.size; (try simp at this); omega)
      obtain ⟨hc2, hf2⟩ := bcell hb2
      have z2 : w.heap.size < w2.heap.size := (by omega)
      go_wp2_with fail
      refine (spec_TextOk_c _ text _ (h_text.below (by repeat' (first | (with_reducible exact Below.refl _ _) | (with_reducible assumption) | (with_reducible refine Below.setCell ?_ ?_ _) | (with_reducible refine Below.alloc ?_ ?_ _) | (with_reducible refine Below.drew ?_) | (with_reducible refine belowN ?_ _) | (with_reducible refine below_after ?_ (by assumption) ?_) | omega | (simp; done) | (simp; omega))))).mono ?_
      rintro e w3 ⟨rfl, hb3⟩
      have s3 : w2.heap.size ≤ w3.heap.size := (by have := hb3.size; (try simp at this); omega)
      obtain ⟨hc3, hf3⟩ := bcell hb3
      have z3 : w.heap.size < w3.heap.size := (by omega)
      go_wp2_with fail
      refine (spec_OnDoc_c _ _).mono ?_
      rintro e w4 ⟨rfl, hb4⟩
      have s4 : w3.heap.size ≤ w4.heap.size := (by have := hb4.size; (try simp at this); omega)
      obtain ⟨hc4, hf4⟩ := bcell hb4
      have z4 : w.heap.size < w4.heap.size := (by omega)
      go_wp2
      go_ret
      exact ⟨ret_bool (by rw [HV.out]; first | done | (simp; done) | (simp; omega)), (by repeat' (first | (with_reducible exact Below.refl _ _) | (with_reducible assumption) | (with_reducible refine Below.setCell ?_ ?_ _) | (with_reducible refine Below.alloc ?_ ?_ _) | (with_reducible refine Below.drew ?_) | (with_reducible refine belowN ?_ _) | (with_reducible refine below_after ?_ (by assumption) ?_) | omega | (simp; done) | (simp; omega)))⟩
    by_cases tX : text = []
    rotate_left
    · have HV : Hid (callOk ⟨8, doc, client, seq, n, po, text⟩ = false) := Lib.hid (by rw [HC.out]; simp [usedD, hon, tX])
      have gD : (doc.toList == []) = true := ba_empty tD
      have gD2 : doc.toList.isEmpty = true := by rw [tD]; simp
      have gX : 0 < text.length := List.length_pos_iff.2 tX
      clear tD tX
      go_enter Try.func47, Try.ntmps47
      go_wp2_with fail
      refine (spec_l12Kind_c _ _).mono ?_
      rintro e w1 ⟨rfl, hb1⟩
      have s1 : w.heap.size + 1 ≤ w1.heap.size := (by have := hb1.size; (try simp at this); omega)
      obtain ⟨hc1, hf1⟩ := bcell hb1
      have z1 : w.heap.size < w1.heap.size := (by omega)
      go_wp2_with fail
      refine (spec_partsOk_c _ po _ (h_o.below (by repeat' (first | (with_reducible exact Below.refl _ _) | (with_reducible assumption) | (with_reducible refine Below.setCell ?_ ?_ _) | (with_reducible refine Below.alloc ?_ ?_ _) | (with_reducible refine Below.drew ?_) | (with_reducible refine belowN ?_ _) | (with_reducible refine below_after ?_ (by assumption) ?_) | omega | (simp; done) | (simp; omega))))).mono ?_
      rintro e w2 ⟨rfl, hb2⟩
      have s2 : w1.heap.size ≤ w2.heap.size := (by have := hb2.size; (try simp at this); omega)
      obtain ⟨hc2, hf2⟩ := bcell hb2
      have z2 : w.heap.size < w2.heap.size := (by omega)
      go_wp2_with fail
      refine (spec_TextOk_c _ text _ (h_text.below (by repeat' (first | (with_reducible exact Below.refl _ _) | (with_reducible assumption) | (with_reducible refine Below.setCell ?_ ?_ _) | (with_reducible refine Below.alloc ?_ ?_ _) | (with_reducible refine Below.drew ?_) | (with_reducible refine belowN ?_ _) | (with_reducible refine below_after ?_ (by assumption) ?_) | omega | (simp; done) | (simp; omega))))).mono ?_
      rintro e w3 ⟨rfl, hb3⟩
      have s3 : w2.heap.size ≤ w3.heap.size := (by have := hb3.size; (try simp at this); omega)
      obtain ⟨hc3, hf3⟩ := bcell hb3
      have z3 : w.heap.size < w3.heap.size := (by omega)
      go_wp2_with fail
      refine (spec_OnDoc_c _ _).mono ?_
      rintro e w4 ⟨rfl, hb4⟩
      have s4 : w3.heap.size ≤ w4.heap.size := (by have := hb4.size; (try simp at this); omega)
      obtain ⟨hc4, hf4⟩ := bcell hb4
      have z4 : w.heap.size < w4.heap.size := (by omega)
      go_wp2
      go_ret
      exact ⟨ret_bool (by rw [HV.out]; first | done | (simp; done) | (simp; omega)), (by repeat' (first | (with_reducible exact Below.refl _ _) | (with_reducible assumption) | (with_reducible refine Below.setCell ?_ ?_ _) | (with_reducible refine Below.alloc ?_ ?_ _) | (with_reducible refine Below.drew ?_) | (with_reducible refine belowN ?_ _) | (with_reducible refine below_after ?_ (by assumption) ?_) | omega | (simp; done) | (simp; omega)))⟩
    by_cases tO : po = []
    rotate_left
    · have HV : Hid (callOk ⟨8, doc, client, seq, n, po, text⟩ = false) := Lib.hid (by rw [HC.out]; simp [usedD, hon, tO])
      have gD : (doc.toList == []) = true := ba_empty tD
      have gD2 : doc.toList.isEmpty = true := by rw [tD]; simp
      have gX : text.length = 0 := by rw [tX]; rfl
      have gO : 0 < po.length := List.length_pos_iff.2 tO
      clear tD tX tO
      go_enter Try.func47, Try.ntmps47
      go_wp2_with fail
      refine (spec_l12Kind_c _ _).mono ?_
      rintro e w1 ⟨rfl, hb1⟩
      have s1 : w.heap.size + 1 ≤ w1.heap.size := (by have := hb1.size; (try simp at this); omega)
      obtain ⟨hc1, hf1⟩ := bcell hb1
      have z1 : w.heap.size < w1.heap.size := (by omega)
      go_wp2_with fail
      refine (spec_partsOk_c _ po _ (h_o.below (by repeat' (first | (with_reducible exact Below.refl _ _) | (with_reducible assumption) | (with_reducible refine Below.setCell ?_ ?_ _) | (with_reducible refine Below.alloc ?_ ?_ _) | (with_reducible refine Below.drew ?_) | (with_reducible refine belowN ?_ _) | (with_reducible refine below_after ?_ (by assumption) ?_) | omega | (simp; done) | (simp; omega))))).mono ?_
      rintro e w2 ⟨rfl, hb2⟩
      have s2 : w1.heap.size ≤ w2.heap.size := (by have := hb2.size; (try simp at this); omega)
      obtain ⟨hc2, hf2⟩ := bcell hb2
      have z2 : w.heap.size < w2.heap.size := (by omega)
      go_wp2_with fail
      refine (spec_TextOk_c _ text _ (h_text.below (by repeat' (first | (with_reducible exact Below.refl _ _) | (with_reducible assumption) | (with_reducible refine Below.setCell ?_ ?_ _) | (with_reducible refine Below.alloc ?_ ?_ _) | (with_reducible refine Below.drew ?_) | (with_reducible refine belowN ?_ _) | (with_reducible refine below_after ?_ (by assumption) ?_) | omega | (simp; done) | (simp; omega))))).mono ?_
      rintro e w3 ⟨rfl, hb3⟩
      have s3 : w2.heap.size ≤ w3.heap.size := (by have := hb3.size; (try simp at this); omega)
      obtain ⟨hc3, hf3⟩ := bcell hb3
      have z3 : w.heap.size < w3.heap.size := (by omega)
      go_wp2_with fail
      refine (spec_OnDoc_c _ _).mono ?_
      rintro e w4 ⟨rfl, hb4⟩
      have s4 : w3.heap.size ≤ w4.heap.size := (by have := hb4.size; (try simp at this); omega)
      obtain ⟨hc4, hf4⟩ := bcell hb4
      have z4 : w.heap.size < w4.heap.size := (by omega)
      go_wp2
      go_ret
      exact ⟨ret_bool (by rw [HV.out]; first | done | (simp; done) | (simp; omega)), (by repeat' (first | (with_reducible exact Below.refl _ _) | (with_reducible assumption) | (with_reducible refine Below.setCell ?_ ?_ _) | (with_reducible refine Below.alloc ?_ ?_ _) | (with_reducible refine Below.drew ?_) | (with_reducible refine belowN ?_ _) | (with_reducible refine below_after ?_ (by assumption) ?_) | omega | (simp; done) | (simp; omega)))⟩
    by_cases tS : seq = 0
    rotate_left
    · have HV : Hid (callOk ⟨8, doc, client, seq, n, po, text⟩ = false) := Lib.hid (by rw [HC.out]; simp [usedD, hon, tS])
      have gD : (doc.toList == []) = true := ba_empty tD
      have gD2 : doc.toList.isEmpty = true := by rw [tD]; simp
      have gX : text.length = 0 := by rw [tX]; rfl
      have gO : po.length = 0 := by rw [tO]; rfl
      have gS : (seq != 0) = true := by simpa using tS
      clear tD tX tO tS
      go_enter Try.func47, Try.ntmps47
      go_wp2_with fail
      refine (spec_l12Kind_c _ _).mono ?_
      rintro e w1 ⟨rfl, hb1⟩
      have s1 : w.heap.size + 1 ≤ w1.heap.size := (by have := hb1.size; (try simp at this); omega)
      obtain ⟨hc1, hf1⟩ := bcell hb1
      have z1 : w.heap.size < w1.heap.size := (by omega)
      go_wp2_with fail
      refine (spec_partsOk_c _ po _ (h_o.below (by repeat' (first | (with_reducible exact Below.refl _ _) | (with_reducible assumption) | (with_reducible refine Below.setCell ?_ ?_ _) | (with_reducible refine Below.alloc ?_ ?_ _) | (with_reducible refine Below.drew ?_) | (with_reducible refine belowN ?_ _) | (with_reducible refine below_after ?_ (by assumption) ?_) | omega | (simp; done) | (simp; omega))))).mono ?_
      rintro e w2 ⟨rfl, hb2⟩
      have s2 : w1.heap.size ≤ w2.heap.size := (by have := hb2.size; (try simp at this); omega)
      obtain ⟨hc2, hf2⟩ := bcell hb2
      have z2 : w.heap.size < w2.heap.size := (by omega)
      go_wp2_with fail
      refine (spec_TextOk_c _ text _ (h_text.below (by repeat' (first | (with_reducible exact Below.refl _ _) | (with_reducible assumption) | (with_reducible refine Below.setCell ?_ ?_ _) | (with_reducible refine Below.alloc ?_ ?_ _) | (with_reducible refine Below.drew ?_) | (with_reducible refine belowN ?_ _) | (with_reducible refine below_after ?_ (by assumption) ?_) | omega | (simp; done) | (simp; omega))))).mono ?_
      rintro e w3 ⟨rfl, hb3⟩
      have s3 : w2.heap.size ≤ w3.heap.size := (by have := hb3.size; (try simp at this); omega)
      obtain ⟨hc3, hf3⟩ := bcell hb3
      have z3 : w.heap.size < w3.heap.size := (by omega)
      go_wp2_with fail
      refine (spec_OnDoc_c _ _).mono ?_
      rintro e w4 ⟨rfl, hb4⟩
      have s4 : w3.heap.size ≤ w4.heap.size := (by have := hb4.size; (try simp at this); omega)
      obtain ⟨hc4, hf4⟩ := bcell hb4
      have z4 : w.heap.size < w4.heap.size := (by omega)
      go_wp2
      go_ret
      exact ⟨ret_bool (by rw [HV.out]; first | done | (simp; done) | (simp; omega)), (by repeat' (first | (with_reducible exact Below.refl _ _) | (with_reducible assumption) | (with_reducible refine Below.setCell ?_ ?_ _) | (with_reducible refine Below.alloc ?_ ?_ _) | (with_reducible refine Below.drew ?_) | (with_reducible refine belowN ?_ _) | (with_reducible refine below_after ?_ (by assumption) ?_) | omega | (simp; done) | (simp; omega)))⟩
    by_cases tC : client = 0
    rotate_left
    · have HV : Hid (callOk ⟨8, doc, client, seq, n, po, text⟩ = false) := Lib.hid (by rw [HC.out]; simp [usedD, hon, tC])
      have gD : (doc.toList == []) = true := ba_empty tD
      have gD2 : doc.toList.isEmpty = true := by rw [tD]; simp
      have gX : text.length = 0 := by rw [tX]; rfl
      have gO : po.length = 0 := by rw [tO]; rfl
      have gS : (seq != 0) = false := by rw [tS]; simp
      have gC : (client == 0) = false := by simpa using tC
      clear tD tX tO tS tC
      go_enter Try.func47, Try.ntmps47
      go_wp2_with fail
      refine (spec_l12Kind_c _ _).mono ?_
      rintro e w1 ⟨rfl, hb1⟩
      have s1 : w.heap.size + 1 ≤ w1.heap.size := (by have := hb1.size; (try simp at this); omega)
      obtain ⟨hc1, hf1⟩ := bcell hb1
      have z1 : w.heap.size < w1.heap.size := (by omega)
      go_wp2_with fail
      refine (spec_partsOk_c _ po _ (h_o.below (by repeat' (first | (with_reducible exact Below.refl _ _) | (with_reducible assumption) | (with_reducible refine Below.setCell ?_ ?_ _) | (with_reducible refine Below.alloc ?_ ?_ _) | (with_reducible refine Below.drew ?_) | (with_reducible refine belowN ?_ _) | (with_reducible refine below_after ?_ (by assumption) ?_) | omega | (simp; done) | (simp; omega))))).mono ?_
      rintro e w2 ⟨rfl, hb2⟩
      have s2 : w1.heap.size ≤ w2.heap.size := (by have := hb2.size; (try simp at this); omega)
      obtain ⟨hc2, hf2⟩ := bcell hb2
      have z2 : w.heap.size < w2.heap.size := (by omega)
      go_wp2_with fail
      refine (spec_TextOk_c _ text _ (h_text.below (by repeat' (first | (with_reducible exact Below.refl _ _) | (with_reducible assumption) | (with_reducible refine Below.setCell ?_ ?_ _) | (with_reducible refine Below.alloc ?_ ?_ _) | (with_reducible refine Below.drew ?_) | (with_reducible refine belowN ?_ _) | (with_reducible refine below_after ?_ (by assumption) ?_) | omega | (simp; done) | (simp; omega))))).mono ?_
      rintro e w3 ⟨rfl, hb3⟩
      have s3 : w2.heap.size ≤ w3.heap.size := (by have := hb3.size; (try simp at this); omega)
      obtain ⟨hc3, hf3⟩ := bcell hb3
      have z3 : w.heap.size < w3.heap.size := (by omega)
      go_wp2_with fail
      refine (spec_OnDoc_c _ _).mono ?_
      rintro e w4 ⟨rfl, hb4⟩
      have s4 : w3.heap.size ≤ w4.heap.size := (by have := hb4.size; (try simp at this); omega)
      obtain ⟨hc4, hf4⟩ := bcell hb4
      have z4 : w.heap.size < w4.heap.size := (by omega)
      go_wp2
      go_ret
      exact ⟨ret_bool (by rw [HV.out]; first | done | (simp; done) | (simp; omega)), (by repeat' (first | (with_reducible exact Below.refl _ _) | (with_reducible assumption) | (with_reducible refine Below.setCell ?_ ?_ _) | (with_reducible refine Below.alloc ?_ ?_ _) | (with_reducible refine Below.drew ?_) | (with_reducible refine belowN ?_ _) | (with_reducible refine below_after ?_ (by assumption) ?_) | omega | (simp; done) | (simp; omega)))⟩
    by_cases tN : n = 0
    rotate_left
    · have HV : Hid (callOk ⟨8, doc, client, seq, n, po, text⟩ = false) := Lib.hid (by rw [HC.out]; simp [usedD, hon, tN])
      have gD : (doc.toList == []) = true := ba_empty tD
      have gD2 : doc.toList.isEmpty = true := by rw [tD]; simp
      have gX : text.length = 0 := by rw [tX]; rfl
      have gO : po.length = 0 := by rw [tO]; rfl
      have gS : (seq != 0) = false := by rw [tS]; simp
      have gC : (client == 0) = true := by rw [tC]; simp
      have gN : (n == 0) = false := by simpa using tN
      clear tD tX tO tS tC tN
      go_enter Try.func47, Try.ntmps47
      go_wp2_with fail
      refine (spec_l12Kind_c _ _).mono ?_
      rintro e w1 ⟨rfl, hb1⟩
      have s1 : w.heap.size + 1 ≤ w1.heap.size := (by have := hb1.size; (try simp at this); omega)
      obtain ⟨hc1, hf1⟩ := bcell hb1
      have z1 : w.heap.size < w1.heap.size := (by omega)
      go_wp2_with fail
      refine (spec_partsOk_c _ po _ (h_o.below (by repeat' (first | (with_reducible exact Below.refl _ _) | (with_reducible assumption) | (with_reducible refine Below.setCell ?_ ?_ _) | (with_reducible refine Below.alloc ?_ ?_ _) | (with_reducible refine Below.drew ?_) | (with_reducible refine belowN ?_ _) | (with_reducible refine below_after ?_ (by assumption) ?_) | omega | (simp; done) | (simp; omega))))).mono ?_
      rintro e w2 ⟨rfl, hb2⟩
      have s2 : w1.heap.size ≤ w2.heap.size := (by have := hb2.size; (try simp at this); omega)
      obtain ⟨hc2, hf2⟩ := bcell hb2
      have z2 : w.heap.size < w2.heap.size := (by omega)
      go_wp2_with fail
      refine (spec_TextOk_c _ text _ (h_text.below (by repeat' (first | (with_reducible exact Below.refl _ _) | (with_reducible assumption) | (with_reducible refine Below.setCell ?_ ?_ _) | (with_reducible refine Below.alloc ?_ ?_ _) | (with_reducible refine Below.drew ?_) | (with_reducible refine belowN ?_ _) | (with_reducible refine below_after ?_ (by assumption) ?_) | omega | (simp; done) | (simp; omega))))).mono ?_
      rintro e w3 ⟨rfl, hb3⟩
      have s3 : w2.heap.size ≤ w3.heap.size := (by have := hb3.size; (try simp at this); omega)
      obtain ⟨hc3, hf3⟩ := bcell hb3
      have z3 : w.heap.size < w3.heap.size := (by omega)
      go_wp2_with fail
      refine (spec_OnDoc_c _ _).mono ?_
      rintro e w4 ⟨rfl, hb4⟩
      have s4 : w3.heap.size ≤ w4.heap.size := (by have := hb4.size; (try simp at this); omega)
      obtain ⟨hc4, hf4⟩ := bcell hb4
      have z4 : w.heap.size < w4.heap.size := (by omega)
      go_wp2
      go_ret
      exact ⟨ret_bool (by rw [HV.out]; first | done | (simp; done) | (simp; omega)), (by repeat' (first | (with_reducible exact Below.refl _ _) | (with_reducible assumption) | (with_reducible refine Below.setCell ?_ ?_ _) | (with_reducible refine Below.alloc ?_ ?_ _) | (with_reducible refine Below.drew ?_) | (with_reducible refine belowN ?_ _) | (with_reducible refine below_after ?_ (by assumption) ?_) | omega | (simp; done) | (simp; omega)))⟩
    have HV : Hid (callOk ⟨8, doc, client, seq, n, po, text⟩ = true) := Lib.hid (by rw [HC.out]; simp [usedD, hon, tD, tX, tO, tS, tC, tN])
    have gD : (doc.toList == []) = true := ba_empty tD
    have gD2 : doc.toList.isEmpty = true := by rw [tD]; simp
    have gX : text.length = 0 := by rw [tX]; rfl
    have gO : po.length = 0 := by rw [tO]; rfl
    have gS : (seq != 0) = false := by rw [tS]; simp
    have gC : (client == 0) = true := by rw [tC]; simp
    have gN : (n == 0) = true := by rw [tN]; simp
    clear tD tX tO tS tC tN
    go_enter Try.func47, Try.ntmps47
    go_wp2_with fail
    refine (spec_l12Kind_c _ _).mono ?_
    rintro e w1 ⟨rfl, hb1⟩
    have s1 : w.heap.size + 1 ≤ w1.heap.size := (by have := hb1.size; (try simp at this); omega)
    obtain ⟨hc1, hf1⟩ := bcell hb1
    have z1 : w.heap.size < w1.heap.size := (by omega)
    go_wp2_with fail
    refine (spec_partsOk_c _ po _ (h_o.below (by repeat' (first | (with_reducible exact Below.refl _ _) | (with_reducible assumption) | (with_reducible refine Below.setCell ?_ ?_ _) | (with_reducible refine Below.alloc ?_ ?_ _) | (with_reducible refine Below.drew ?_) | (with_reducible refine belowN ?_ _) | (with_reducible refine below_after ?_ (by assumption) ?_) | omega | (simp; done) | (simp; omega))))).mono ?_
    rintro e w2 ⟨rfl, hb2⟩
    have s2 : w1.heap.size ≤ w2.heap.size := (by have := hb2.size; (try simp at this); omega)
    obtain ⟨hc2, hf2⟩ := bcell hb2
    have z2 : w.heap.size < w2.heap.size := (by omega)
    go_wp2_with fail
    refine (spec_TextOk_c _ text _ (h_text.below (by repeat' (first | (with_reducible exact Below.refl _ _) | (with_reducible assumption) | (with_reducible refine Below.setCell ?_ ?_ _) | (with_reducible refine Below.alloc ?_ ?_ _) | (with_reducible refine Below.drew ?_) | (with_reducible refine belowN ?_ _) | (with_reducible refine below_after ?_ (by assumption) ?_) | omega | (simp; done) | (simp; omega))))).mono ?_
    rintro e w3 ⟨rfl, hb3⟩
    have s3 : w2.heap.size ≤ w3.heap.size := (by have := hb3.size; (try simp at this); omega)
    obtain ⟨hc3, hf3⟩ := bcell hb3
    have z3 : w.heap.size < w3.heap.size := (by omega)
    go_wp2_with fail
    refine (spec_OnDoc_c _ _).mono ?_
    rintro e w4 ⟨rfl, hb4⟩
    have s4 : w3.heap.size ≤ w4.heap.size := (by have := hb4.size; (try simp at this); omega)
    obtain ⟨hc4, hf4⟩ := bcell hb4
    have z4 : w.heap.size < w4.heap.size := (by omega)
    go_wp2
    go_ret
    exact ⟨ret_bool (by rw [HV.out]; first | done | (simp; done) | (simp; omega)), (by repeat' (first | (with_reducible exact Below.refl _ _) | (with_reducible assumption) | (with_reducible refine Below.setCell ?_ ?_ _) | (with_reducible refine Below.alloc ?_ ?_ _) | (with_reducible refine Below.drew ?_) | (with_reducible refine belowN ?_ _) | (with_reducible refine below_after ?_ (by assumption) ?_) | omega | (simp; done) | (simp; omega)))⟩
end Go.Proofs.Ytihbmefidbmmdaa
