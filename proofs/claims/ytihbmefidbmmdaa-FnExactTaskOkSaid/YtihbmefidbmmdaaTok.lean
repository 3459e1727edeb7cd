/- What both packages ask of a task. -/
import Derived.Test.YtihbmefidbmmdaaCall2
import Derived.Test.YtihbmefidbmmdaaTo4
namespace Go.Proofs.Ytihbmefidbmmdaa
open Go.RowKit
def taskTail (pc : Int) (c : DCall) (inv lin res : Int) (a : DAnswer) : Bool :=
  if pc ≤ 2 then (!(decide (pc = 1) && !onDoc c.kind) && !(decide (pc = 2) && !decide (c.kind = 2))) && (decide (lin = -1) && (decide (res = -1) && decide (a = ⟨0, 0, [], []⟩)))
  else ((decide (a = ⟨11, 0, [], []⟩) && (decide (c.kind = 2) && decide (lin = -1))) || within lin inv 1000000) && (if pc = 3 then decide (res = -1) else within res inv 1000000 && decide (lin ≤ res))
def taskOk (t : DTask) : Bool := callOk t.c && (within t.inv 0 1000000 && (within t.pc 0 4 && taskTail t.pc t.c t.inv t.lin t.res t.a))
theorem within_max (r i l m : Int) : within r (max i l) m = (within r i m && decide (l ≤ r)) := by
  rw [Bool.eq_iff_iff]
  simp only [within, Bool.and_eq_true, decide_eq_true_eq]
  omega

set_option maxHeartbeats 8000000 in
set_option maxRecDepth 100000 in
theorem spec_TaskOk_e1 (c : DCall) (inv lin res : Int) (a : DAnswer) (v_o v_t u_t u_l : Value) (w : World) (h_o : RdS w v_o c.o) (h_t : RdS w v_t c.text) (_k_t : RdS w u_t a.text) (_k_l : RdS w u_l a.list) (pc : Int) (hc : callOk c = false) :
    Calls Try.prog 27 #[.agg #[.int .i64 c.kind, .string c.doc, .int .i64 c.client, .int .i64 c.seq, .int .i64 c.n, v_o, v_t, .int .i64 pc, .int .i64 inv, .int .i64 lin, .int .i64 res, .int .i64 a.code, .int .i64 a.rev, u_t, u_l]] w (Tells w (.bool (false))) := by
  go_enter Try.func27, Try.ntmps27
  go_wp2_with fail
  refine (spec_CallOk_c c _ _ _ (h_o.below (by repeat' (first | (with_reducible exact Below.refl _ _) | (with_reducible assumption) | (with_reducible refine Below.setCell ?_ ?_ _) | (with_reducible refine Below.alloc ?_ ?_ _) | (with_reducible refine Below.drew ?_) | (with_reducible refine belowN ?_ _) | (with_reducible refine below_after ?_ (by assumption) ?_) | omega | (simp; done) | (simp; omega)))) (h_t.below (by repeat' (first | (with_reducible exact Below.refl _ _) | (with_reducible assumption) | (with_reducible refine Below.setCell ?_ ?_ _) | (with_reducible refine Below.alloc ?_ ?_ _) | (with_reducible refine Below.drew ?_) | (with_reducible refine belowN ?_ _) | (with_reducible refine below_after ?_ (by assumption) ?_) | omega | (simp; done) | (simp; omega))))).mono ?_
  rintro e w1 ⟨rfl, hb1⟩
  have s1 := hb1.size
  (try simp at s1)
  obtain ⟨hc1, hf1⟩ := bcell hb1
  have z1 : w.heap.size < w1.heap.size := by omega
  rw [hc]
  go_wp2
  go_ret
  exact ⟨ret_bool (rfl), (by repeat' (first | (with_reducible exact Below.refl _ _) | (with_reducible assumption) | (with_reducible refine Below.setCell ?_ ?_ _) | (with_reducible refine Below.alloc ?_ ?_ _) | (with_reducible refine Below.drew ?_) | (with_reducible refine belowN ?_ _) | (with_reducible refine below_after ?_ (by assumption) ?_) | omega | (simp; done) | (simp; omega)))⟩
set_option maxHeartbeats 8000000 in
set_option maxRecDepth 100000 in
theorem spec_TaskOk_e2 (c : DCall) (inv lin res : Int) (a : DAnswer) (v_o v_t u_t u_l : Value) (w : World) (h_o : RdS w v_o c.o) (h_t : RdS w v_t c.text) (_k_t : RdS w u_t a.text) (_k_l : RdS w u_l a.list) (pc : Int) (hc : callOk c = true) (hi : within inv 0 1000000 = false) :
    Calls Try.prog 27 #[.agg #[.int .i64 c.kind, .string c.doc, .int .i64 c.client, .int .i64 c.seq, .int .i64 c.n, v_o, v_t, .int .i64 pc, .int .i64 inv, .int .i64 lin, .int .i64 res, .int .i64 a.code, .int .i64 a.rev, u_t, u_l]] w (Tells w (.bool (false))) := by
  go_enter Try.func27, Try.ntmps27
  go_wp2_with fail
  refine (spec_CallOk_c c _ _ _ (h_o.below (by repeat' (first | (with_reducible exact Below.refl _ _) | (with_reducible assumption) | (with_reducible refine Below.setCell ?_ ?_ _) | (with_reducible refine Below.alloc ?_ ?_ _) | (with_reducible refine Below.drew ?_) | (with_reducible refine belowN ?_ _) | (with_reducible refine below_after ?_ (by assumption) ?_) | omega | (simp; done) | (simp; omega)))) (h_t.below (by repeat' (first | (with_reducible exact Below.refl _ _) | (with_reducible assumption) | (with_reducible refine Below.setCell ?_ ?_ _) | (with_reducible refine Below.alloc ?_ ?_ _) | (with_reducible refine Below.drew ?_) | (with_reducible refine belowN ?_ _) | (with_reducible refine below_after ?_ (by assumption) ?_) | omega | (simp; done) | (simp; omega))))).mono ?_
  rintro e w1 ⟨rfl, hb1⟩
  have s1 := hb1.size
  (try simp at s1)
  obtain ⟨hc1, hf1⟩ := bcell hb1
  have z1 : w.heap.size < w1.heap.size := by omega
  rw [hc]
  go_wp2_with fail
  refine (spec_within_c _ _ _ _).mono ?_
  rintro e w2 ⟨rfl, hb2⟩
  have s2 := hb2.size
  (try simp at s2)
  obtain ⟨hc2, hf2⟩ := bcell hb2
  have z2 : w.heap.size < w2.heap.size := by omega
  rw [hi]
  go_wp2
  go_ret
  exact ⟨ret_bool (rfl), (by repeat' (first | (with_reducible exact Below.refl _ _) | (with_reducible assumption) | (with_reducible refine Below.setCell ?_ ?_ _) | (with_reducible refine Below.alloc ?_ ?_ _) | (with_reducible refine Below.drew ?_) | (with_reducible refine belowN ?_ _) | (with_reducible refine below_after ?_ (by assumption) ?_) | omega | (simp; done) | (simp; omega)))⟩
set_option maxHeartbeats 8000000 in
set_option maxRecDepth 100000 in
theorem spec_TaskOk_e3 (c : DCall) (inv lin res : Int) (a : DAnswer) (v_o v_t u_t u_l : Value) (w : World) (h_o : RdS w v_o c.o) (h_t : RdS w v_t c.text) (_k_t : RdS w u_t a.text) (_k_l : RdS w u_l a.list) (pc : Int) (hc : callOk c = true) (hi : within inv 0 1000000 = true) (hp : within pc 0 4 = false) :
    Calls Try.prog 27 #[.agg #[.int .i64 c.kind, .string c.doc, .int .i64 c.client, .int .i64 c.seq, .int .i64 c.n, v_o, v_t, .int .i64 pc, .int .i64 inv, .int .i64 lin, .int .i64 res, .int .i64 a.code, .int .i64 a.rev, u_t, u_l]] w (Tells w (.bool (false))) := by
  go_enter Try.func27, Try.ntmps27
  go_wp2_with fail
  refine (spec_CallOk_c c _ _ _ (h_o.below (by repeat' (first | (with_reducible exact Below.refl _ _) | (with_reducible assumption) | (with_reducible refine Below.setCell ?_ ?_ _) | (with_reducible refine Below.alloc ?_ ?_ _) | (with_reducible refine Below.drew ?_) | (with_reducible refine belowN ?_ _) | (with_reducible refine below_after ?_ (by assumption) ?_) | omega | (simp; done) | (simp; omega)))) (h_t.below (by repeat' (first | (with_reducible exact Below.refl _ _) | (with_reducible assumption) | (with_reducible refine Below.setCell ?_ ?_ _) | (with_reducible refine Below.alloc ?_ ?_ _) | (with_reducible refine Below.drew ?_) | (with_reducible refine belowN ?_ _) | (with_reducible refine below_after ?_ (by assumption) ?_) | omega | (simp; done) | (simp; omega))))).mono ?_
  rintro e w1 ⟨rfl, hb1⟩
  have s1 := hb1.size
  (try simp at s1)
  obtain ⟨hc1, hf1⟩ := bcell hb1
  have z1 : w.heap.size < w1.heap.size := by omega
  rw [hc]
  go_wp2_with fail
  refine (spec_within_c _ _ _ _).mono ?_
  rintro e w2 ⟨rfl, hb2⟩
  have s2 := hb2.size
  (try simp at s2)
  obtain ⟨hc2, hf2⟩ := bcell hb2
  have z2 : w.heap.size < w2.heap.size := by omega
  rw [hi]
  go_wp2_with fail
  refine (spec_within_c _ _ _ _).mono ?_
  rintro e w3 ⟨rfl, hb3⟩
  have s3 := hb3.size
  (try simp at s3)
  obtain ⟨hc3, hf3⟩ := bcell hb3
  have z3 : w.heap.size < w3.heap.size := by omega
  rw [hp]
  go_wp2
  go_ret
  exact ⟨ret_bool (rfl), (by repeat' (first | (with_reducible exact Below.refl _ _) | (with_reducible assumption) | (with_reducible refine Below.setCell ?_ ?_ _) | (with_reducible refine Below.alloc ?_ ?_ _) | (with_reducible refine Below.drew ?_) | (with_reducible refine belowN ?_ _) | (with_reducible refine below_after ?_ (by assumption) ?_) | omega | (simp; done) | (simp; omega)))⟩
set_option maxHeartbeats 8000000 in
set_option maxRecDepth 100000 in
theorem spec_TaskOk_p0 (c : DCall) (inv lin res : Int) (a : DAnswer) (v_o v_t u_t u_l : Value) (w : World) (h_o : RdS w v_o c.o) (h_t : RdS w v_t c.text) (k_t : RdS w u_t a.text) (k_l : RdS w u_l a.list) (hc : callOk c = true) (hi : within inv 0 1000000 = true) :
    Calls Try.prog 27 #[.agg #[.int .i64 c.kind, .string c.doc, .int .i64 c.client, .int .i64 c.seq, .int .i64 c.n, v_o, v_t, .int .i64 0, .int .i64 inv, .int .i64 lin, .int .i64 res, .int .i64 a.code, .int .i64 a.rev, u_t, u_l]] w (Tells w (.bool (taskTail 0 c inv lin res a))) := by
  have hp : within 0 0 4 = true := by decide
  by_cases hl : lin = -1
  rotate_left
  · have HV : Hid (taskTail 0 c inv lin res a = false) := Lib.hid (by simp [taskTail, hl])
    have hl1 : (lin == -1) = false := by simpa using hl
    clear hl
    go_enter Try.func27, Try.ntmps27
    go_wp2_with fail
    refine (spec_CallOk_c c _ _ _ (h_o.below (by repeat' (first | (with_reducible exact Below.refl _ _) | (with_reducible assumption) | (with_reducible refine Below.setCell ?_ ?_ _) | (with_reducible refine Below.alloc ?_ ?_ _) | (with_reducible refine Below.drew ?_) | (with_reducible refine belowN ?_ _) | (with_reducible refine below_after ?_ (by assumption) ?_) | omega | (simp; done) | (simp; omega)))) (h_t.below (by repeat' (first | (with_reducible exact Below.refl _ _) | (with_reducible assumption) | (with_reducible refine Below.setCell ?_ ?_ _) | (with_reducible refine Below.alloc ?_ ?_ _) | (with_reducible refine Below.drew ?_) | (with_reducible refine belowN ?_ _) | (with_reducible refine below_after ?_ (by assumption) ?_) | omega | (simp; done) | (simp; omega))))).mono ?_
    rintro e w1 ⟨rfl, hb1⟩
    have s1 := hb1.size
    (try simp at s1)
    obtain ⟨hc1, hf1⟩ := bcell hb1
    have z1 : w.heap.size < w1.heap.size := by omega
    rw [hc]
    go_wp2_with fail
    refine (spec_within_c _ _ _ _).mono ?_
    rintro e w2 ⟨rfl, hb2⟩
    have s2 := hb2.size
    (try simp at s2)
    obtain ⟨hc2, hf2⟩ := bcell hb2
    have z2 : w.heap.size < w2.heap.size := by omega
    rw [hi]
    go_wp2_with fail
    refine (spec_within_c _ _ _ _).mono ?_
    rintro e w3 ⟨rfl, hb3⟩
    have s3 := hb3.size
    (try simp at s3)
    obtain ⟨hc3, hf3⟩ := bcell hb3
    have z3 : w.heap.size < w3.heap.size := by omega
    rw [hp]
    go_wp2
    go_ret
    exact ⟨ret_bool (HV.out.symm), (by repeat' (first | (with_reducible exact Below.refl _ _) | (with_reducible assumption) | (with_reducible refine Below.setCell ?_ ?_ _) | (with_reducible refine Below.alloc ?_ ?_ _) | (with_reducible refine Below.drew ?_) | (with_reducible refine belowN ?_ _) | (with_reducible refine below_after ?_ (by assumption) ?_) | omega | (simp; done) | (simp; omega)))⟩
  by_cases hr : res = -1
  rotate_left
  · have HV : Hid (taskTail 0 c inv lin res a = false) := Lib.hid (by simp [taskTail, hl, hr])
    have hl1 : (lin == -1) = true := by simp [hl]
    have hr1 : (res == -1) = false := by simpa using hr
    clear hl hr
    go_enter Try.func27, Try.ntmps27
    go_wp2_with fail
    refine (spec_CallOk_c c _ _ _ (h_o.below (by repeat' (first | (with_reducible exact Below.refl _ _) | (with_reducible assumption) | (with_reducible refine Below.setCell ?_ ?_ _) | (with_reducible refine Below.alloc ?_ ?_ _) | (with_reducible refine Below.drew ?_) | (with_reducible refine belowN ?_ _) | (with_reducible refine below_after ?_ (by assumption) ?_) | omega | (simp; done) | (simp; omega)))) (h_t.below (by repeat' (first | (with_reducible exact Below.refl _ _) | (with_reducible assumption) | (with_reducible refine Below.setCell ?_ ?_ _) | (with_reducible refine Below.alloc ?_ ?_ _) | (with_reducible refine Below.drew ?_) | (with_reducible refine belowN ?_ _) | (with_reducible refine below_after ?_ (by assumption) ?_) | omega | (simp; done) | (simp; omega))))).mono ?_
    rintro e w1 ⟨rfl, hb1⟩
    have s1 := hb1.size
    (try simp at s1)
    obtain ⟨hc1, hf1⟩ := bcell hb1
    have z1 : w.heap.size < w1.heap.size := by omega
    rw [hc]
    go_wp2_with fail
    refine (spec_within_c _ _ _ _).mono ?_
    rintro e w2 ⟨rfl, hb2⟩
    have s2 := hb2.size
    (try simp at s2)
    obtain ⟨hc2, hf2⟩ := bcell hb2
    have z2 : w.heap.size < w2.heap.size := by omega
    rw [hi]
    go_wp2_with fail
    refine (spec_within_c _ _ _ _).mono ?_
    rintro e w3 ⟨rfl, hb3⟩
    have s3 := hb3.size
    (try simp at s3)
    obtain ⟨hc3, hf3⟩ := bcell hb3
    have z3 : w.heap.size < w3.heap.size := by omega
    rw [hp]
    go_wp2
    go_ret
    exact ⟨ret_bool (HV.out.symm), (by repeat' (first | (with_reducible exact Below.refl _ _) | (with_reducible assumption) | (with_reducible refine Below.setCell ?_ ?_ _) | (with_reducible refine Below.alloc ?_ ?_ _) | (with_reducible refine Below.drew ?_) | (with_reducible refine belowN ?_ _) | (with_reducible refine below_after ?_ (by assumption) ?_) | omega | (simp; done) | (simp; omega)))⟩
  have HV : Hid (taskTail 0 c inv lin res a = decide (a = ⟨0, 0, [], []⟩)) := Lib.hid (by simp [taskTail, hl, hr])
  have hl1 : (lin == -1) = true := by simp [hl]
  have hr1 : (res == -1) = true := by simp [hr]
  clear hl hr
  go_enter Try.func27, Try.ntmps27
  go_wp2_with fail
  refine (spec_CallOk_c c _ _ _ (h_o.below (by repeat' (first | (with_reducible exact Below.refl _ _) | (with_reducible assumption) | (with_reducible refine Below.setCell ?_ ?_ _) | (with_reducible refine Below.alloc ?_ ?_ _) | (with_reducible refine Below.drew ?_) | (with_reducible refine belowN ?_ _) | (with_reducible refine below_after ?_ (by assumption) ?_) | omega | (simp; done) | (simp; omega)))) (h_t.below (by repeat' (first | (with_reducible exact Below.refl _ _) | (with_reducible assumption) | (with_reducible refine Below.setCell ?_ ?_ _) | (with_reducible refine Below.alloc ?_ ?_ _) | (with_reducible refine Below.drew ?_) | (with_reducible refine belowN ?_ _) | (with_reducible refine below_after ?_ (by assumption) ?_) | omega | (simp; done) | (simp; omega))))).mono ?_
  rintro e w1 ⟨rfl, hb1⟩
  have s1 := hb1.size
  (try simp at s1)
  obtain ⟨hc1, hf1⟩ := bcell hb1
  have z1 : w.heap.size < w1.heap.size := by omega
  rw [hc]
  go_wp2_with fail
  refine (spec_within_c _ _ _ _).mono ?_
  rintro e w2 ⟨rfl, hb2⟩
  have s2 := hb2.size
  (try simp at s2)
  obtain ⟨hc2, hf2⟩ := bcell hb2
  have z2 : w.heap.size < w2.heap.size := by omega
  rw [hi]
  go_wp2_with fail
  refine (spec_within_c _ _ _ _).mono ?_
  rintro e w3 ⟨rfl, hb3⟩
  have s3 := hb3.size
  (try simp at s3)
  obtain ⟨hc3, hf3⟩ := bcell hb3
  have z3 : w.heap.size < w3.heap.size := by omega
  rw [hp]
  go_wp2_with fail
  refine (spec_AnswerSame_c a ⟨0, 0, [], []⟩ _ _ _ _ _ (k_t.below (by repeat' (first | (with_reducible exact Below.refl _ _) | (with_reducible assumption) | (with_reducible refine Below.setCell ?_ ?_ _) | (with_reducible refine Below.alloc ?_ ?_ _) | (with_reducible refine Below.drew ?_) | (with_reducible refine belowN ?_ _) | (with_reducible refine below_after ?_ (by assumption) ?_) | omega | (simp; done) | (simp; omega)))) RdS.nil (k_l.below (by repeat' (first | (with_reducible exact Below.refl _ _) | (with_reducible assumption) | (with_reducible refine Below.setCell ?_ ?_ _) | (with_reducible refine Below.alloc ?_ ?_ _) | (with_reducible refine Below.drew ?_) | (with_reducible refine belowN ?_ _) | (with_reducible refine below_after ?_ (by assumption) ?_) | omega | (simp; done) | (simp; omega)))) RdS.nil).mono ?_
  rintro e w4 ⟨rfl, hb4⟩
  have s4 := hb4.size
  (try simp at s4)
  obtain ⟨hc4, hf4⟩ := bcell hb4
  have z4 : w.heap.size < w4.heap.size := by omega
  go_wp2
  go_ret
  exact ⟨ret_bool (HV.out.symm), (by repeat' (first | (with_reducible exact Below.refl _ _) | (with_reducible assumption) | (with_reducible refine Below.setCell ?_ ?_ _) | (with_reducible refine Below.alloc ?_ ?_ _) | (with_reducible refine Below.drew ?_) | (with_reducible refine belowN ?_ _) | (with_reducible refine below_after ?_ (by assumption) ?_) | omega | (simp; done) | (simp; omega)))⟩
set_option maxHeartbeats 8000000 in
set_option maxRecDepth 100000 in
theorem spec_TaskOk_p1 (c : DCall) (inv lin res : Int) (a : DAnswer) (v_o v_t u_t u_l : Value) (w : World) (h_o : RdS w v_o c.o) (h_t : RdS w v_t c.text) (k_t : RdS w u_t a.text) (k_l : RdS w u_l a.list) (hc : callOk c = true) (hi : within inv 0 1000000 = true) :
    Calls Try.prog 27 #[.agg #[.int .i64 c.kind, .string c.doc, .int .i64 c.client, .int .i64 c.seq, .int .i64 c.n, v_o, v_t, .int .i64 1, .int .i64 inv, .int .i64 lin, .int .i64 res, .int .i64 a.code, .int .i64 a.rev, u_t, u_l]] w (Tells w (.bool (taskTail 1 c inv lin res a))) := by
  have hp : within 1 0 4 = true := by decide
  by_cases ho : onDoc c.kind = true
  rotate_left
  · have ho : onDoc c.kind = false := by simpa using ho
    have HV : Hid (taskTail 1 c inv lin res a = false) := Lib.hid (by simp [taskTail, ho])
    go_enter Try.func27, Try.ntmps27
    go_wp2_with fail
    refine (spec_CallOk_c c _ _ _ (h_o.below (by repeat' (first | (with_reducible exact Below.refl _ _) | (with_reducible assumption) | (with_reducible refine Below.setCell ?_ ?_ _) | (with_reducible refine Below.alloc ?_ ?_ _) | (with_reducible refine Below.drew ?_) | (with_reducible refine belowN ?_ _) | (with_reducible refine below_after ?_ (by assumption) ?_) | omega | (simp; done) | (simp; omega)))) (h_t.below (by repeat' (first | (with_reducible exact Below.refl _ _) | (with_reducible assumption) | (with_reducible refine Below.setCell ?_ ?_ _) | (with_reducible refine Below.alloc ?_ ?_ _) | (with_reducible refine Below.drew ?_) | (with_reducible refine belowN ?_ _) | (with_reducible refine below_after ?_ (by assumption) ?_) | omega | (simp; done) | (simp; omega))))).mono ?_
    rintro e w1 ⟨rfl, hb1⟩
    have s1 := hb1.size
    (try simp at s1)
    obtain ⟨hc1, hf1⟩ := bcell hb1
    have z1 : w.heap.size < w1.heap.size := by omega
    rw [hc]
    go_wp2_with fail
    refine (spec_within_c _ _ _ _).mono ?_
    rintro e w2 ⟨rfl, hb2⟩
    have s2 := hb2.size
    (try simp at s2)
    obtain ⟨hc2, hf2⟩ := bcell hb2
    have z2 : w.heap.size < w2.heap.size := by omega
    rw [hi]
    go_wp2_with fail
    refine (spec_within_c _ _ _ _).mono ?_
    rintro e w3 ⟨rfl, hb3⟩
    have s3 := hb3.size
    (try simp at s3)
    obtain ⟨hc3, hf3⟩ := bcell hb3
    have z3 : w.heap.size < w3.heap.size := by omega
    rw [hp]
    go_wp2_with fail
    refine (spec_OnDoc_c _ _).mono ?_
    rintro e w4 ⟨rfl, hb4⟩
    have s4 := hb4.size
    (try simp at s4)
    obtain ⟨hc4, hf4⟩ := bcell hb4
    have z4 : w.heap.size < w4.heap.size := by omega
    rw [ho]
    go_wp2
    go_ret
    exact ⟨ret_bool (HV.out.symm), (by repeat' (first | (with_reducible exact Below.refl _ _) | (with_reducible assumption) | (with_reducible refine Below.setCell ?_ ?_ _) | (with_reducible refine Below.alloc ?_ ?_ _) | (with_reducible refine Below.drew ?_) | (with_reducible refine belowN ?_ _) | (with_reducible refine below_after ?_ (by assumption) ?_) | omega | (simp; done) | (simp; omega)))⟩
  by_cases hl : lin = -1
  rotate_left
  · have HV : Hid (taskTail 1 c inv lin res a = false) := Lib.hid (by simp [taskTail, hl])
    have hl1 : (lin == -1) = false := by simpa using hl
    clear hl
    go_enter Try.func27, Try.ntmps27
    go_wp2_with fail
    refine (spec_CallOk_c c _ _ _ (h_o.below (by repeat' (first | (with_reducible exact Below.refl _ _) | (with_reducible assumption) | (with_reducible refine Below.setCell ?_ ?_ _) | (with_reducible refine Below.alloc ?_ ?_ _) | (with_reducible refine Below.drew ?_) | (with_reducible refine belowN ?_ _) | (with_reducible refine below_after ?_ (by assumption) ?_) | omega | (simp; done) | (simp; omega)))) (h_t.below (by repeat' (first | (with_reducible exact Below.refl _ _) | (with_reducible assumption) | (with_reducible refine Below.setCell ?_ ?_ _) | (with_reducible refine Below.alloc ?_ ?_ _) | (with_reducible refine Below.drew ?_) | (with_reducible refine belowN ?_ _) | (with_reducible refine below_after ?_ (by assumption) ?_) | omega | (simp; done) | (simp; omega))))).mono ?_
    rintro e w1 ⟨rfl, hb1⟩
    have s1 := hb1.size
    (try simp at s1)
    obtain ⟨hc1, hf1⟩ := bcell hb1
    have z1 : w.heap.size < w1.heap.size := by omega
    rw [hc]
    go_wp2_with fail
    refine (spec_within_c _ _ _ _).mono ?_
    rintro e w2 ⟨rfl, hb2⟩
    have s2 := hb2.size
    (try simp at s2)
    obtain ⟨hc2, hf2⟩ := bcell hb2
    have z2 : w.heap.size < w2.heap.size := by omega
    rw [hi]
    go_wp2_with fail
    refine (spec_within_c _ _ _ _).mono ?_
    rintro e w3 ⟨rfl, hb3⟩
    have s3 := hb3.size
    (try simp at s3)
    obtain ⟨hc3, hf3⟩ := bcell hb3
    have z3 : w.heap.size < w3.heap.size := by omega
    rw [hp]
    go_wp2_with fail
    refine (spec_OnDoc_c _ _).mono ?_
    rintro e w4 ⟨rfl, hb4⟩
    have s4 := hb4.size
    (try simp at s4)
    obtain ⟨hc4, hf4⟩ := bcell hb4
    have z4 : w.heap.size < w4.heap.size := by omega
    rw [ho]
    go_wp2
    go_ret
    exact ⟨ret_bool (HV.out.symm), (by repeat' (first | (with_reducible exact Below.refl _ _) | (with_reducible assumption) | (with_reducible refine Below.setCell ?_ ?_ _) | (with_reducible refine Below.alloc ?_ ?_ _) | (with_reducible refine Below.drew ?_) | (with_reducible refine belowN ?_ _) | (with_reducible refine below_after ?_ (by assumption) ?_) | omega | (simp; done) | (simp; omega)))⟩
  by_cases hr : res = -1
  rotate_left
  · have HV : Hid (taskTail 1 c inv lin res a = false) := Lib.hid (by simp [taskTail, hl, hr])
    have hl1 : (lin == -1) = true := by simp [hl]
    have hr1 : (res == -1) = false := by simpa using hr
    clear hl hr
    go_enter Try.func27, Try.ntmps27
    go_wp2_with fail
    refine (spec_CallOk_c c _ _ _ (h_o.below (by repeat' (first | (with_reducible exact Below.refl _ _) | (with_reducible assumption) | (with_reducible refine Below.setCell ?_ ?_ _) | (with_reducible refine Below.alloc ?_ ?_ _) | (with_reducible refine Below.drew ?_) | (with_reducible refine belowN ?_ _) | (with_reducible refine below_after ?_ (by assumption) ?_) | omega | (simp; done) | (simp; omega)))) (h_t.below (by repeat' (first | (with_reducible exact Below.refl _ _) | (with_reducible assumption) | (with_reducible refine Below.setCell ?_ ?_ _) | (with_reducible refine Below.alloc ?_ ?_ _) | (with_reducible refine Below.drew ?_) | (with_reducible refine belowN ?_ _) | (with_reducible refine below_after ?_ (by assumption) ?_) | omega | (simp; done) | (simp; omega))))).mono ?_
    rintro e w1 ⟨rfl, hb1⟩
    have s1 := hb1.size
    (try simp at s1)
    obtain ⟨hc1, hf1⟩ := bcell hb1
    have z1 : w.heap.size < w1.heap.size := by omega
    rw [hc]
    go_wp2_with fail
    refine (spec_within_c _ _ _ _).mono ?_
    rintro e w2 ⟨rfl, hb2⟩
    have s2 := hb2.size
    (try simp at s2)
    obtain ⟨hc2, hf2⟩ := bcell hb2
    have z2 : w.heap.size < w2.heap.size := by omega
    rw [hi]
    go_wp2_with fail
    refine (spec_within_c _ _ _ _).mono ?_
    rintro e w3 ⟨rfl, hb3⟩
    have s3 := hb3.size
    (try simp at s3)
    obtain ⟨hc3, hf3⟩ := bcell hb3
    have z3 : w.heap.size < w3.heap.size := by omega
    rw [hp]
    go_wp2_with fail
    refine (spec_OnDoc_c _ _).mono ?_
    rintro e w4 ⟨rfl, hb4⟩
    have s4 := hb4.size
    (try simp at s4)
    obtain ⟨hc4, hf4⟩ := bcell hb4
    have z4 : w.heap.size < w4.heap.size := by omega
    rw [ho]
    go_wp2
    go_ret
    exact ⟨ret_bool (HV.out.symm), (by repeat' (first | (with_reducible exact Below.refl _ _) | (with_reducible assumption) | (with_reducible refine Below.setCell ?_ ?_ _) | (with_reducible refine Below.alloc ?_ ?_ _) | (with_reducible refine Below.drew ?_) | (with_reducible refine belowN ?_ _) | (with_reducible refine below_after ?_ (by assumption) ?_) | omega | (simp; done) | (simp; omega)))⟩
  have HV : Hid (taskTail 1 c inv lin res a = decide (a = ⟨0, 0, [], []⟩)) := Lib.hid (by simp [taskTail, hl, hr, ho])
  have hl1 : (lin == -1) = true := by simp [hl]
  have hr1 : (res == -1) = true := by simp [hr]
  clear hl hr
  go_enter Try.func27, Try.ntmps27
  go_wp2_with fail
  refine (spec_CallOk_c c _ _ _ (h_o.below (by repeat' (first | (with_reducible exact Below.refl _ _) | (with_reducible assumption) | (with_reducible refine Below.setCell ?_ ?_ _) | (with_reducible refine Below.alloc ?_ ?_ _) | (with_reducible refine Below.drew ?_) | (with_reducible refine belowN ?_ _) | (with_reducible refine below_after ?_ (by assumption) ?_) | omega | (simp; done) | (simp; omega)))) (h_t.below (by repeat' (first | (with_reducible exact Below.refl _ _) | (with_reducible assumption) | (with_reducible refine Below.setCell ?_ ?_ _) | (with_reducible refine Below.alloc ?_ ?_ _) | (with_reducible refine Below.drew ?_) | (with_reducible refine belowN ?_ _) | (with_reducible refine below_after ?_ (by assumption) ?_) | omega | (simp; done) | (simp; omega))))).mono ?_
  rintro e w1 ⟨rfl, hb1⟩
  have s1 := hb1.size
  (try simp at s1)
  obtain ⟨hc1, hf1⟩ := bcell hb1
  have z1 : w.heap.size < w1.heap.size := by omega
  rw [hc]
  go_wp2_with fail
  refine (spec_within_c _ _ _ _).mono ?_
  rintro e w2 ⟨rfl, hb2⟩
  have s2 := hb2.size
  (try simp at s2)
  obtain ⟨hc2, hf2⟩ := bcell hb2
  have z2 : w.heap.size < w2.heap.size := by omega
  rw [hi]
  go_wp2_with fail
  refine (spec_within_c _ _ _ _).mono ?_
  rintro e w3 ⟨rfl, hb3⟩
  have s3 := hb3.size
  (try simp at s3)
  obtain ⟨hc3, hf3⟩ := bcell hb3
  have z3 : w.heap.size < w3.heap.size := by omega
  rw [hp]
  go_wp2_with fail
  refine (spec_OnDoc_c _ _).mono ?_
  rintro e w4 ⟨rfl, hb4⟩
  have s4 := hb4.size
  (try simp at s4)
  obtain ⟨hc4, hf4⟩ := bcell hb4
  have z4 : w.heap.size < w4.heap.size := by omega
  rw [ho]
  go_wp2_with fail
  refine (spec_AnswerSame_c a ⟨0, 0, [], []⟩ _ _ _ _ _ (k_t.below (by repeat' (first | (with_reducible exact Below.refl _ _) | (with_reducible assumption) | (with_reducible refine Below.setCell ?_ ?_ _) | (with_reducible refine Below.alloc ?_ ?_ _) | (with_reducible refine Below.drew ?_) | (with_reducible refine belowN ?_ _) | (with_reducible refine below_after ?_ (by assumption) ?_) | omega | (simp; done) | (simp; omega)))) RdS.nil (k_l.below (by repeat' (first | (with_reducible exact Below.refl _ _) | (with_reducible assumption) | (with_reducible refine Below.setCell ?_ ?_ _) | (with_reducible refine Below.alloc ?_ ?_ _) | (with_reducible refine Below.drew ?_) | (with_reducible refine belowN ?_ _) | (with_reducible refine below_after ?_ (by assumption) ?_) | omega | (simp; done) | (simp; omega)))) RdS.nil).mono ?_
  rintro e w5 ⟨rfl, hb5⟩
  have s5 := hb5.size
  (try simp at s5)
  obtain ⟨hc5, hf5⟩ := bcell hb5
  have z5 : w.heap.size < w5.heap.size := by omega
  go_wp2
  go_ret
  exact ⟨ret_bool (HV.out.symm), (by repeat' (first | (with_reducible exact Below.refl _ _) | (with_reducible assumption) | (with_reducible refine Below.setCell ?_ ?_ _) | (with_reducible refine Below.alloc ?_ ?_ _) | (with_reducible refine Below.drew ?_) | (with_reducible refine belowN ?_ _) | (with_reducible refine below_after ?_ (by assumption) ?_) | omega | (simp; done) | (simp; omega)))⟩
set_option maxHeartbeats 8000000 in
set_option maxRecDepth 100000 in
theorem spec_TaskOk_p2 (c : DCall) (inv lin res : Int) (a : DAnswer) (v_o v_t u_t u_l : Value) (w : World) (h_o : RdS w v_o c.o) (h_t : RdS w v_t c.text) (k_t : RdS w u_t a.text) (k_l : RdS w u_l a.list) (hc : callOk c = true) (hi : within inv 0 1000000 = true) :
    Calls Try.prog 27 #[.agg #[.int .i64 c.kind, .string c.doc, .int .i64 c.client, .int .i64 c.seq, .int .i64 c.n, v_o, v_t, .int .i64 2, .int .i64 inv, .int .i64 lin, .int .i64 res, .int .i64 a.code, .int .i64 a.rev, u_t, u_l]] w (Tells w (.bool (taskTail 2 c inv lin res a))) := by
  have hp : within 2 0 4 = true := by decide
  by_cases hk : c.kind = 2
  rotate_left
  · have HV : Hid (taskTail 2 c inv lin res a = false) := Lib.hid (by simp [taskTail, hk])
    have hk1 : (c.kind != 2) = true := by simpa using hk
    clear hk
    go_enter Try.func27, Try.ntmps27
    go_wp2_with fail
    refine (spec_CallOk_c c _ _ _ (h_o.below (by repeat' (first | (with_reducible exact Below.refl _ _) | (with_reducible assumption) | (with_reducible refine Below.setCell ?_ ?_ _) | (with_reducible refine Below.alloc ?_ ?_ _) | (with_reducible refine Below.drew ?_) | (with_reducible refine belowN ?_ _) | (with_reducible refine below_after ?_ (by assumption) ?_) | omega | (simp; done) | (simp; omega)))) (h_t.below (by repeat' (first | (with_reducible exact Below.refl _ _) | (with_reducible assumption) | (with_reducible refine Below.setCell ?_ ?_ _) | (with_reducible refine Below.alloc ?_ ?_ _) | (with_reducible refine Below.drew ?_) | (with_reducible refine belowN ?_ _) | (with_reducible refine below_after ?_ (by assumption) ?_) | omega | (simp; done) | (simp; omega))))).mono ?_
    rintro e w1 ⟨rfl, hb1⟩
    have s1 := hb1.size
    (try simp at s1)
    obtain ⟨hc1, hf1⟩ := bcell hb1
    have z1 : w.heap.size < w1.heap.size := by omega
    rw [hc]
    go_wp2_with fail
    refine (spec_within_c _ _ _ _).mono ?_
    rintro e w2 ⟨rfl, hb2⟩
    have s2 := hb2.size
    (try simp at s2)
    obtain ⟨hc2, hf2⟩ := bcell hb2
    have z2 : w.heap.size < w2.heap.size := by omega
    rw [hi]
    go_wp2_with fail
    refine (spec_within_c _ _ _ _).mono ?_
    rintro e w3 ⟨rfl, hb3⟩
    have s3 := hb3.size
    (try simp at s3)
    obtain ⟨hc3, hf3⟩ := bcell hb3
    have z3 : w.heap.size < w3.heap.size := by omega
    rw [hp]
    go_wp2
    go_ret
    exact ⟨ret_bool (HV.out.symm), (by repeat' (first | (with_reducible exact Below.refl _ _) | (with_reducible assumption) | (with_reducible refine Below.setCell ?_ ?_ _) | (with_reducible refine Below.alloc ?_ ?_ _) | (with_reducible refine Below.drew ?_) | (with_reducible refine belowN ?_ _) | (with_reducible refine below_after ?_ (by assumption) ?_) | omega | (simp; done) | (simp; omega)))⟩
  have hk1 : (c.kind != 2) = false := by simp [hk]
  by_cases hl : lin = -1
  rotate_left
  · have HV : Hid (taskTail 2 c inv lin res a = false) := Lib.hid (by simp [taskTail, hl])
    have hl1 : (lin == -1) = false := by simpa using hl
    clear hl
    clear hk
    go_enter Try.func27, Try.ntmps27
    go_wp2_with fail
    refine (spec_CallOk_c c _ _ _ (h_o.below (by repeat' (first | (with_reducible exact Below.refl _ _) | (with_reducible assumption) | (with_reducible refine Below.setCell ?_ ?_ _) | (with_reducible refine Below.alloc ?_ ?_ _) | (with_reducible refine Below.drew ?_) | (with_reducible refine belowN ?_ _) | (with_reducible refine below_after ?_ (by assumption) ?_) | omega | (simp; done) | (simp; omega)))) (h_t.below (by repeat' (first | (with_reducible exact Below.refl _ _) | (with_reducible assumption) | (with_reducible refine Below.setCell ?_ ?_ _) | (with_reducible refine Below.alloc ?_ ?_ _) | (with_reducible refine Below.drew ?_) | (with_reducible refine belowN ?_ _) | (with_reducible refine below_after ?_ (by assumption) ?_) | omega | (simp; done) | (simp; omega))))).mono ?_
    rintro e w1 ⟨rfl, hb1⟩
    have s1 := hb1.size
    (try simp at s1)
    obtain ⟨hc1, hf1⟩ := bcell hb1
    have z1 : w.heap.size < w1.heap.size := by omega
    rw [hc]
    go_wp2_with fail
    refine (spec_within_c _ _ _ _).mono ?_
    rintro e w2 ⟨rfl, hb2⟩
    have s2 := hb2.size
    (try simp at s2)
    obtain ⟨hc2, hf2⟩ := bcell hb2
    have z2 : w.heap.size < w2.heap.size := by omega
    rw [hi]
    go_wp2_with fail
    refine (spec_within_c _ _ _ _).mono ?_
    rintro e w3 ⟨rfl, hb3⟩
    have s3 := hb3.size
    (try simp at s3)
    obtain ⟨hc3, hf3⟩ := bcell hb3
    have z3 : w.heap.size < w3.heap.size := by omega
    rw [hp]
    go_wp2
    go_ret
    exact ⟨ret_bool (HV.out.symm), (by repeat' (first | (with_reducible exact Below.refl _ _) | (with_reducible assumption) | (with_reducible refine Below.setCell ?_ ?_ _) | (with_reducible refine Below.alloc ?_ ?_ _) | (with_reducible refine Below.drew ?_) | (with_reducible refine belowN ?_ _) | (with_reducible refine below_after ?_ (by assumption) ?_) | omega | (simp; done) | (simp; omega)))⟩
  by_cases hr : res = -1
  rotate_left
  · have HV : Hid (taskTail 2 c inv lin res a = false) := Lib.hid (by simp [taskTail, hl, hr])
    have hl1 : (lin == -1) = true := by simp [hl]
    have hr1 : (res == -1) = false := by simpa using hr
    clear hl hr
    clear hk
    go_enter Try.func27, Try.ntmps27
    go_wp2_with fail
    refine (spec_CallOk_c c _ _ _ (h_o.below (by repeat' (first | (with_reducible exact Below.refl _ _) | (with_reducible assumption) | (with_reducible refine Below.setCell ?_ ?_ _) | (with_reducible refine Below.alloc ?_ ?_ _) | (with_reducible refine Below.drew ?_) | (with_reducible refine belowN ?_ _) | (with_reducible refine below_after ?_ (by assumption) ?_) | omega | (simp; done) | (simp; omega)))) (h_t.below (by repeat' (first | (with_reducible exact Below.refl _ _) | (with_reducible assumption) | (with_reducible refine Below.setCell ?_ ?_ _) | (with_reducible refine Below.alloc ?_ ?_ _) | (with_reducible refine Below.drew ?_) | (with_reducible refine belowN ?_ _) | (with_reducible refine below_after ?_ (by assumption) ?_) | omega | (simp; done) | (simp; omega))))).mono ?_
    rintro e w1 ⟨rfl, hb1⟩
    have s1 := hb1.size
    (try simp at s1)
    obtain ⟨hc1, hf1⟩ := bcell hb1
    have z1 : w.heap.size < w1.heap.size := by omega
    rw [hc]
    go_wp2_with fail
    refine (spec_within_c _ _ _ _).mono ?_
    rintro e w2 ⟨rfl, hb2⟩
    have s2 := hb2.size
    (try simp at s2)
    obtain ⟨hc2, hf2⟩ := bcell hb2
    have z2 : w.heap.size < w2.heap.size := by omega
    rw [hi]
    go_wp2_with fail
    refine (spec_within_c _ _ _ _).mono ?_
    rintro e w3 ⟨rfl, hb3⟩
    have s3 := hb3.size
    (try simp at s3)
    obtain ⟨hc3, hf3⟩ := bcell hb3
    have z3 : w.heap.size < w3.heap.size := by omega
    rw [hp]
    go_wp2
    go_ret
    exact ⟨ret_bool (HV.out.symm), (by repeat' (first | (with_reducible exact Below.refl _ _) | (with_reducible assumption) | (with_reducible refine Below.setCell ?_ ?_ _) | (with_reducible refine Below.alloc ?_ ?_ _) | (with_reducible refine Below.drew ?_) | (with_reducible refine belowN ?_ _) | (with_reducible refine below_after ?_ (by assumption) ?_) | omega | (simp; done) | (simp; omega)))⟩
  have HV : Hid (taskTail 2 c inv lin res a = decide (a = ⟨0, 0, [], []⟩)) := Lib.hid (by simp [taskTail, hl, hr, hk])
  have hl1 : (lin == -1) = true := by simp [hl]
  have hr1 : (res == -1) = true := by simp [hr]
  clear hl hr
  clear hk
  go_enter Try.func27, Try.ntmps27
  go_wp2_with fail
  refine (spec_CallOk_c c _ _ _ (h_o.below (by repeat' (first | (with_reducible exact Below.refl _ _) | (with_reducible assumption) | (with_reducible refine Below.setCell ?_ ?_ _) | (with_reducible refine Below.alloc ?_ ?_ _) | (with_reducible refine Below.drew ?_) | (with_reducible refine belowN ?_ _) | (with_reducible refine below_after ?_ (by assumption) ?_) | omega | (simp; done) | (simp; omega)))) (h_t.below (by repeat' (first | (with_reducible exact Below.refl _ _) | (with_reducible assumption) | (with_reducible refine Below.setCell ?_ ?_ _) | (with_reducible refine Below.alloc ?_ ?_ _) | (with_reducible refine Below.drew ?_) | (with_reducible refine belowN ?_ _) | (with_reducible refine below_after ?_ (by assumption) ?_) | omega | (simp; done) | (simp; omega))))).mono ?_
  rintro e w1 ⟨rfl, hb1⟩
  have s1 := hb1.size
  (try simp at s1)
  obtain ⟨hc1, hf1⟩ := bcell hb1
  have z1 : w.heap.size < w1.heap.size := by omega
  rw [hc]
  go_wp2_with fail
  refine (spec_within_c _ _ _ _).mono ?_
  rintro e w2 ⟨rfl, hb2⟩
  have s2 := hb2.size
  (try simp at s2)
  obtain ⟨hc2, hf2⟩ := bcell hb2
  have z2 : w.heap.size < w2.heap.size := by omega
  rw [hi]
  go_wp2_with fail
  refine (spec_within_c _ _ _ _).mono ?_
  rintro e w3 ⟨rfl, hb3⟩
  have s3 := hb3.size
  (try simp at s3)
  obtain ⟨hc3, hf3⟩ := bcell hb3
  have z3 : w.heap.size < w3.heap.size := by omega
  rw [hp]
  go_wp2_with fail
  refine (spec_AnswerSame_c a ⟨0, 0, [], []⟩ _ _ _ _ _ (k_t.below (by repeat' (first | (with_reducible exact Below.refl _ _) | (with_reducible assumption) | (with_reducible refine Below.setCell ?_ ?_ _) | (with_reducible refine Below.alloc ?_ ?_ _) | (with_reducible refine Below.drew ?_) | (with_reducible refine belowN ?_ _) | (with_reducible refine below_after ?_ (by assumption) ?_) | omega | (simp; done) | (simp; omega)))) RdS.nil (k_l.below (by repeat' (first | (with_reducible exact Below.refl _ _) | (with_reducible assumption) | (with_reducible refine Below.setCell ?_ ?_ _) | (with_reducible refine Below.alloc ?_ ?_ _) | (with_reducible refine Below.drew ?_) | (with_reducible refine belowN ?_ _) | (with_reducible refine below_after ?_ (by assumption) ?_) | omega | (simp; done) | (simp; omega)))) RdS.nil).mono ?_
  rintro e w4 ⟨rfl, hb4⟩
  have s4 := hb4.size
  (try simp at s4)
  obtain ⟨hc4, hf4⟩ := bcell hb4
  have z4 : w.heap.size < w4.heap.size := by omega
  go_wp2
  go_ret
  exact ⟨ret_bool (HV.out.symm), (by repeat' (first | (with_reducible exact Below.refl _ _) | (with_reducible assumption) | (with_reducible refine Below.setCell ?_ ?_ _) | (with_reducible refine Below.alloc ?_ ?_ _) | (with_reducible refine Below.drew ?_) | (with_reducible refine belowN ?_ _) | (with_reducible refine below_after ?_ (by assumption) ?_) | omega | (simp; done) | (simp; omega)))⟩
set_option maxHeartbeats 8000000 in
set_option maxRecDepth 100000 in
theorem spec_TaskOk_p3 (c : DCall) (inv lin res : Int) (a : DAnswer) (v_o v_t u_t u_l : Value) (w : World) (h_o : RdS w v_o c.o) (h_t : RdS w v_t c.text) (k_t : RdS w u_t a.text) (k_l : RdS w u_l a.list) (hc : callOk c = true) (hi : within inv 0 1000000 = true) :
    Calls Try.prog 27 #[.agg #[.int .i64 c.kind, .string c.doc, .int .i64 c.client, .int .i64 c.seq, .int .i64 c.n, v_o, v_t, .int .i64 3, .int .i64 inv, .int .i64 lin, .int .i64 res, .int .i64 a.code, .int .i64 a.rev, u_t, u_l]] w (Tells w (.bool (taskTail 3 c inv lin res a))) := by
  have hp : within 3 0 4 = true := by decide
  by_cases ha : (a = ⟨11, 0, [], []⟩)
  rotate_left
  · have hd : decide (a = ⟨11, 0, [], []⟩) = false := by simpa using ha
    by_cases hj : within lin inv 1000000 = true
    rotate_left
    · have hj : within lin inv 1000000 = false := by simpa using hj
      have HV : Hid (taskTail 3 c inv lin res a = false) := Lib.hid (by simp [taskTail, hd, hj])
      clear ha
      go_enter Try.func27, Try.ntmps27
      go_wp2_with fail
      refine (spec_CallOk_c c _ _ _ (h_o.below (by repeat' (first | (with_reducible exact Below.refl _ _) | (with_reducible assumption) | (with_reducible refine Below.setCell ?_ ?_ _) | (with_reducible refine Below.alloc ?_ ?_ _) | (with_reducible refine Below.drew ?_) | (with_reducible refine belowN ?_ _) | (with_reducible refine below_after ?_ (by assumption) ?_) | omega | (simp; done) | (simp; omega)))) (h_t.below (by repeat' (first | (with_reducible exact Below.refl _ _) | (with_reducible assumption) | (with_reducible refine Below.setCell ?_ ?_ _) | (with_reducible refine Below.alloc ?_ ?_ _) | (with_reducible refine Below.drew ?_) | (with_reducible refine belowN ?_ _) | (with_reducible refine below_after ?_ (by assumption) ?_) | omega | (simp; done) | (simp; omega))))).mono ?_
      rintro e w1 ⟨rfl, hb1⟩
      have s1 := hb1.size
      (try simp at s1)
      obtain ⟨hc1, hf1⟩ := bcell hb1
      have z1 : w.heap.size < w1.heap.size := by omega
      rw [hc]
      go_wp2_with fail
      refine (spec_within_c _ _ _ _).mono ?_
      rintro e w2 ⟨rfl, hb2⟩
      have s2 := hb2.size
      (try simp at s2)
      obtain ⟨hc2, hf2⟩ := bcell hb2
      have z2 : w.heap.size < w2.heap.size := by omega
      rw [hi]
      go_wp2_with fail
      refine (spec_within_c _ _ _ _).mono ?_
      rintro e w3 ⟨rfl, hb3⟩
      have s3 := hb3.size
      (try simp at s3)
      obtain ⟨hc3, hf3⟩ := bcell hb3
      have z3 : w.heap.size < w3.heap.size := by omega
      rw [hp]
      go_wp2_with fail
      refine (spec_AnswerSame_c a ⟨11, 0, [], []⟩ _ _ _ _ _ (k_t.below (by repeat' (first | (with_reducible exact Below.refl _ _) | (with_reducible assumption) | (with_reducible refine Below.setCell ?_ ?_ _) | (with_reducible refine Below.alloc ?_ ?_ _) | (with_reducible refine Below.drew ?_) | (with_reducible refine belowN ?_ _) | (with_reducible refine below_after ?_ (by assumption) ?_) | omega | (simp; done) | (simp; omega)))) RdS.nil (k_l.below (by repeat' (first | (with_reducible exact Below.refl _ _) | (with_reducible assumption) | (with_reducible refine Below.setCell ?_ ?_ _) | (with_reducible refine Below.alloc ?_ ?_ _) | (with_reducible refine Below.drew ?_) | (with_reducible refine belowN ?_ _) | (with_reducible refine below_after ?_ (by assumption) ?_) | omega | (simp; done) | (simp; omega)))) RdS.nil).mono ?_
      rintro e w4 ⟨rfl, hb4⟩
      have s4 := hb4.size
      (try simp at s4)
      obtain ⟨hc4, hf4⟩ := bcell hb4
      have z4 : w.heap.size < w4.heap.size := by omega
      rw [hd]
      go_wp2_with fail
      refine (spec_within_c _ _ _ _).mono ?_
      rintro e w5 ⟨rfl, hb5⟩
      have s5 := hb5.size
      (try simp at s5)
      obtain ⟨hc5, hf5⟩ := bcell hb5
      have z5 : w.heap.size < w5.heap.size := by omega
      rw [hj]
      go_wp2
      go_ret
      exact ⟨ret_bool (HV.out.symm), (by repeat' (first | (with_reducible exact Below.refl _ _) | (with_reducible assumption) | (with_reducible refine Below.setCell ?_ ?_ _) | (with_reducible refine Below.alloc ?_ ?_ _) | (with_reducible refine Below.drew ?_) | (with_reducible refine belowN ?_ _) | (with_reducible refine below_after ?_ (by assumption) ?_) | omega | (simp; done) | (simp; omega)))⟩
    have HV : Hid (taskTail 3 c inv lin res a = (res == -1)) := Lib.hid (by simp [taskTail, hd, hj]; rw [Bool.eq_iff_iff]; simp)
    clear ha
    go_enter Try.func27, Try.ntmps27
    go_wp2_with fail
    refine (spec_CallOk_c c _ _ _ (h_o.below (by repeat' (first | (with_reducible exact Below.refl _ _) | (with_reducible assumption) | (with_reducible refine Below.setCell ?_ ?_ _) | (with_reducible refine Below.alloc ?_ ?_ _) | (with_reducible refine Below.drew ?_) | (with_reducible refine belowN ?_ _) | (with_reducible refine below_after ?_ (by assumption) ?_) | omega | (simp; done) | (simp; omega)))) (h_t.below (by repeat' (first | (with_reducible exact Below.refl _ _) | (with_reducible assumption) | (with_reducible refine Below.setCell ?_ ?_ _) | (with_reducible refine Below.alloc ?_ ?_ _) | (with_reducible refine Below.drew ?_) | (with_reducible refine belowN ?_ _) | (with_reducible refine below_after ?_ (by assumption) ?_) | omega | (simp; done) | (simp; omega))))).mono ?_
    rintro e w1 ⟨rfl, hb1⟩
    have s1 := hb1.size
    (try simp at s1)
    obtain ⟨hc1, hf1⟩ := bcell hb1
    have z1 : w.heap.size < w1.heap.size := by omega
    rw [hc]
    go_wp2_with fail
    refine (spec_within_c _ _ _ _).mono ?_
    rintro e w2 ⟨rfl, hb2⟩
    have s2 := hb2.size
    (try simp at s2)
    obtain ⟨hc2, hf2⟩ := bcell hb2
    have z2 : w.heap.size < w2.heap.size := by omega
    rw [hi]
    go_wp2_with fail
    refine (spec_within_c _ _ _ _).mono ?_
    rintro e w3 ⟨rfl, hb3⟩
    have s3 := hb3.size
    (try simp at s3)
    obtain ⟨hc3, hf3⟩ := bcell hb3
    have z3 : w.heap.size < w3.heap.size := by omega
    rw [hp]
    go_wp2_with fail
    refine (spec_AnswerSame_c a ⟨11, 0, [], []⟩ _ _ _ _ _ (k_t.below (by repeat' (first | (with_reducible exact Below.refl _ _) | (with_reducible assumption) | (with_reducible refine Below.setCell ?_ ?_ _) | (with_reducible refine Below.alloc ?_ ?_ _) | (with_reducible refine Below.drew ?_) | (with_reducible refine belowN ?_ _) | (with_reducible refine below_after ?_ (by assumption) ?_) | omega | (simp; done) | (simp; omega)))) RdS.nil (k_l.below (by repeat' (first | (with_reducible exact Below.refl _ _) | (with_reducible assumption) | (with_reducible refine Below.setCell ?_ ?_ _) | (with_reducible refine Below.alloc ?_ ?_ _) | (with_reducible refine Below.drew ?_) | (with_reducible refine belowN ?_ _) | (with_reducible refine below_after ?_ (by assumption) ?_) | omega | (simp; done) | (simp; omega)))) RdS.nil).mono ?_
    rintro e w4 ⟨rfl, hb4⟩
    have s4 := hb4.size
    (try simp at s4)
    obtain ⟨hc4, hf4⟩ := bcell hb4
    have z4 : w.heap.size < w4.heap.size := by omega
    rw [hd]
    go_wp2_with fail
    refine (spec_within_c _ _ _ _).mono ?_
    rintro e w5 ⟨rfl, hb5⟩
    have s5 := hb5.size
    (try simp at s5)
    obtain ⟨hc5, hf5⟩ := bcell hb5
    have z5 : w.heap.size < w5.heap.size := by omega
    rw [hj]
    go_wp2
    go_ret
    exact ⟨ret_bool (HV.out.symm), (by repeat' (first | (with_reducible exact Below.refl _ _) | (with_reducible assumption) | (with_reducible refine Below.setCell ?_ ?_ _) | (with_reducible refine Below.alloc ?_ ?_ _) | (with_reducible refine Below.drew ?_) | (with_reducible refine belowN ?_ _) | (with_reducible refine below_after ?_ (by assumption) ?_) | omega | (simp; done) | (simp; omega)))⟩
  have hd : decide (a = ⟨11, 0, [], []⟩) = true := by simpa using ha
  clear ha
  by_cases hk : c.kind = 2
  rotate_left
  · have hk1 : (c.kind == 2) = false := by simpa using hk
    by_cases hj : within lin inv 1000000 = true
    rotate_left
    · have hj : within lin inv 1000000 = false := by simpa using hj
      have HV : Hid (taskTail 3 c inv lin res a = false) := Lib.hid (by simp [taskTail, hk, hj])
      clear hk
      go_enter Try.func27, Try.ntmps27
      go_wp2_with fail
      refine (spec_CallOk_c c _ _ _ (h_o.below (by repeat' (first | (with_reducible exact Below.refl _ _) | (with_reducible assumption) | (with_reducible refine Below.setCell ?_ ?_ _) | (with_reducible refine Below.alloc ?_ ?_ _) | (with_reducible refine Below.drew ?_) | (with_reducible refine belowN ?_ _) | (with_reducible refine below_after ?_ (by assumption) ?_) | omega | (simp; done) | (simp; omega)))) (h_t.below (by repeat' (first | (with_reducible exact Below.refl _ _) | (with_reducible assumption) | (with_reducible refine Below.setCell ?_ ?_ _) | (with_reducible refine Below.alloc ?_ ?_ _) | (with_reducible refine Below.drew ?_) | (with_reducible refine belowN ?_ _) | (with_reducible refine below_after ?_ (by assumption) ?_) | omega | (simp; done) | (simp; omega))))).mono ?_
      rintro e w1 ⟨rfl, hb1⟩
      have s1 := hb1.size
      (try simp at s1)
      obtain ⟨hc1, hf1⟩ := bcell hb1
      have z1 : w.heap.size < w1.heap.size := by omega
      rw [hc]
      go_wp2_with fail
      refine (spec_within_c _ _ _ _).mono ?_
      rintro e w2 ⟨rfl, hb2⟩
      have s2 := hb2.size
      (try simp at s2)
      obtain ⟨hc2, hf2⟩ := bcell hb2
      have z2 : w.heap.size < w2.heap.size := by omega
      rw [hi]
      go_wp2_with fail
      refine (spec_within_c _ _ _ _).mono ?_
      rintro e w3 ⟨rfl, hb3⟩
      have s3 := hb3.size
      (try simp at s3)
      obtain ⟨hc3, hf3⟩ := bcell hb3
      have z3 : w.heap.size < w3.heap.size := by omega
      rw [hp]
      go_wp2_with fail
      refine (spec_AnswerSame_c a ⟨11, 0, [], []⟩ _ _ _ _ _ (k_t.below (by repeat' (first | (with_reducible exact Below.refl _ _) | (with_reducible assumption) | (with_reducible refine Below.setCell ?_ ?_ _) | (with_reducible refine Below.alloc ?_ ?_ _) | (with_reducible refine Below.drew ?_) | (with_reducible refine belowN ?_ _) | (with_reducible refine below_after ?_ (by assumption) ?_) | omega | (simp; done) | (simp; omega)))) RdS.nil (k_l.below (by repeat' (first | (with_reducible exact Below.refl _ _) | (with_reducible assumption) | (with_reducible refine Below.setCell ?_ ?_ _) | (with_reducible refine Below.alloc ?_ ?_ _) | (with_reducible refine Below.drew ?_) | (with_reducible refine belowN ?_ _) | (with_reducible refine below_after ?_ (by assumption) ?_) | omega | (simp; done) | (simp; omega)))) RdS.nil).mono ?_
      rintro e w4 ⟨rfl, hb4⟩
      have s4 := hb4.size
      (try simp at s4)
      obtain ⟨hc4, hf4⟩ := bcell hb4
      have z4 : w.heap.size < w4.heap.size := by omega
      rw [hd]
      go_wp2_with fail
      refine (spec_within_c _ _ _ _).mono ?_
      rintro e w5 ⟨rfl, hb5⟩
      have s5 := hb5.size
      (try simp at s5)
      obtain ⟨hc5, hf5⟩ := bcell hb5
      have z5 : w.heap.size < w5.heap.size := by omega
      rw [hj]
      go_wp2
      go_ret
      exact ⟨ret_bool (HV.out.symm), (by repeat' (first | (with_reducible exact Below.refl _ _) | (with_reducible assumption) | (with_reducible refine Below.setCell ?_ ?_ _) | (with_reducible refine Below.alloc ?_ ?_ _) | (with_reducible refine Below.drew ?_) | (with_reducible refine belowN ?_ _) | (with_reducible refine below_after ?_ (by assumption) ?_) | omega | (simp; done) | (simp; omega)))⟩
    have HV : Hid (taskTail 3 c inv lin res a = (res == -1)) := Lib.hid (by simp [taskTail, hk, hj]; rw [Bool.eq_iff_iff]; simp)
    clear hk
    go_enter Try.func27, Try.ntmps27
    go_wp2_with fail
    refine (spec_CallOk_c c _ _ _ (h_o.below (by repeat' (first | (with_reducible exact Below.refl _ _) | (with_reducible assumption) | (with_reducible refine Below.setCell ?_ ?_ _) | (with_reducible refine Below.alloc ?_ ?_ _) | (with_reducible refine Below.drew ?_) | (with_reducible refine belowN ?_ _) | (with_reducible refine below_after ?_ (by assumption) ?_) | omega | (simp; done) | (simp; omega)))) (h_t.below (by repeat' (first | (with_reducible exact Below.refl _ _) | (with_reducible assumption) | (with_reducible refine Below.setCell ?_ ?_ _) | (with_reducible refine Below.alloc ?_ ?_ _) | (with_reducible refine Below.drew ?_) | (with_reducible refine belowN ?_ _) | (with_reducible refine below_after ?_ (by assumption) ?_) | omega | (simp; done) | (simp; omega))))).mono ?_
    rintro e w1 ⟨rfl, hb1⟩
    have s1 := hb1.size
    (try simp at s1)
    obtain ⟨hc1, hf1⟩ := bcell hb1
    have z1 : w.heap.size < w1.heap.size := by omega
    rw [hc]
    go_wp2_with fail
    refine (spec_within_c _ _ _ _).mono ?_
    rintro e w2 ⟨rfl, hb2⟩
    have s2 := hb2.size
    (try simp at s2)
    obtain ⟨hc2, hf2⟩ := bcell hb2
    have z2 : w.heap.size < w2.heap.size := by omega
    rw [hi]
    go_wp2_with fail
    refine (spec_within_c _ _ _ _).mono ?_
    rintro e w3 ⟨rfl, hb3⟩
    have s3 := hb3.size
    (try simp at s3)
    obtain ⟨hc3, hf3⟩ := bcell hb3
    have z3 : w.heap.size < w3.heap.size := by omega
    rw [hp]
    go_wp2_with fail
    refine (spec_AnswerSame_c a ⟨11, 0, [], []⟩ _ _ _ _ _ (k_t.below (by repeat' (first | (with_reducible exact Below.refl _ _) | (with_reducible assumption) | (with_reducible refine Below.setCell ?_ ?_ _) | (with_reducible refine Below.alloc ?_ ?_ _) | (with_reducible refine Below.drew ?_) | (with_reducible refine belowN ?_ _) | (with_reducible refine below_after ?_ (by assumption) ?_) | omega | (simp; done) | (simp; omega)))) RdS.nil (k_l.below (by repeat' (first | (with_reducible exact Below.refl _ _) | (with_reducible assumption) | (with_reducible refine Below.setCell ?_ ?_ _) | (with_reducible refine Below.alloc ?_ ?_ _) | (with_reducible refine Below.drew ?_) | (with_reducible refine belowN ?_ _) | (with_reducible refine below_after ?_ (by assumption) ?_) | omega | (simp; done) | (simp; omega)))) RdS.nil).mono ?_
    rintro e w4 ⟨rfl, hb4⟩
    have s4 := hb4.size
    (try simp at s4)
    obtain ⟨hc4, hf4⟩ := bcell hb4
    have z4 : w.heap.size < w4.heap.size := by omega
    rw [hd]
    go_wp2_with fail
    refine (spec_within_c _ _ _ _).mono ?_
    rintro e w5 ⟨rfl, hb5⟩
    have s5 := hb5.size
    (try simp at s5)
    obtain ⟨hc5, hf5⟩ := bcell hb5
    have z5 : w.heap.size < w5.heap.size := by omega
    rw [hj]
    go_wp2
    go_ret
    exact ⟨ret_bool (HV.out.symm), (by repeat' (first | (with_reducible exact Below.refl _ _) | (with_reducible assumption) | (with_reducible refine Below.setCell ?_ ?_ _) | (with_reducible refine Below.alloc ?_ ?_ _) | (with_reducible refine Below.drew ?_) | (with_reducible refine belowN ?_ _) | (with_reducible refine below_after ?_ (by assumption) ?_) | omega | (simp; done) | (simp; omega)))⟩
  have hk1 : (c.kind == 2) = true := by simpa using hk
  by_cases hl : lin = -1
  rotate_left
  · have hl1 : (lin == -1) = false := by simpa using hl
    by_cases hj : within lin inv 1000000 = true
    rotate_left
    · have hj : within lin inv 1000000 = false := by simpa using hj
      have HV : Hid (taskTail 3 c inv lin res a = false) := Lib.hid (by simp [taskTail, hl, hj])
      clear hk hl
      go_enter Try.func27, Try.ntmps27
      go_wp2_with fail
      refine (spec_CallOk_c c _ _ _ (h_o.below (by repeat' (first | (with_reducible exact Below.refl _ _) | (with_reducible assumption) | (with_reducible refine Below.setCell ?_ ?_ _) | (with_reducible refine Below.alloc ?_ ?_ _) | (with_reducible refine Below.drew ?_) | (with_reducible refine belowN ?_ _) | (with_reducible refine below_after ?_ (by assumption) ?_) | omega | (simp; done) | (simp; omega)))) (h_t.below (by repeat' (first | (with_reducible exact Below.refl _ _) | (with_reducible assumption) | (with_reducible refine Below.setCell ?_ ?_ _) | (with_reducible refine Below.alloc ?_ ?_ _) | (with_reducible refine Below.drew ?_) | (with_reducible refine belowN ?_ _) | (with_reducible refine below_after ?_ (by assumption) ?_) | omega | (simp; done) | (simp; omega))))).mono ?_
      rintro e w1 ⟨rfl, hb1⟩
      have s1 := hb1.size
      (try simp at s1)
      obtain ⟨hc1, hf1⟩ := bcell hb1
      have z1 : w.heap.size < w1.heap.size := by omega
      rw [hc]
      go_wp2_with fail
      refine (spec_within_c _ _ _ _).mono ?_
      rintro e w2 ⟨rfl, hb2⟩
      have s2 := hb2.size
      (try simp at s2)
      obtain ⟨hc2, hf2⟩ := bcell hb2
      have z2 : w.heap.size < w2.heap.size := by omega
      rw [hi]
      go_wp2_with fail
      refine (spec_within_c _ _ _ _).mono ?_
      rintro e w3 ⟨rfl, hb3⟩
      have s3 := hb3.size
      (try simp at s3)
      obtain ⟨hc3, hf3⟩ := bcell hb3
      have z3 : w.heap.size < w3.heap.size := by omega
      rw [hp]
      go_wp2_with fail
      refine (spec_AnswerSame_c a ⟨11, 0, [], []⟩ _ _ _ _ _ (k_t.below (by repeat' (first | (with_reducible exact Below.refl _ _) | (with_reducible assumption) | (with_reducible refine Below.setCell ?_ ?_ _) | (with_reducible refine Below.alloc ?_ ?_ _) | (with_reducible refine Below.drew ?_) | (with_reducible refine belowN ?_ _) | (with_reducible refine below_after ?_ (by assumption) ?_) | omega | (simp; done) | (simp; omega)))) RdS.nil (k_l.below (by repeat' (first | (with_reducible exact Below.refl _ _) | (with_reducible assumption) | (with_reducible refine Below.setCell ?_ ?_ _) | (with_reducible refine Below.alloc ?_ ?_ _) | (with_reducible refine Below.drew ?_) | (with_reducible refine belowN ?_ _) | (with_reducible refine below_after ?_ (by assumption) ?_) | omega | (simp; done) | (simp; omega)))) RdS.nil).mono ?_
      rintro e w4 ⟨rfl, hb4⟩
      have s4 := hb4.size
      (try simp at s4)
      obtain ⟨hc4, hf4⟩ := bcell hb4
      have z4 : w.heap.size < w4.heap.size := by omega
      rw [hd]
      go_wp2_with fail
      refine (spec_within_c _ _ _ _).mono ?_
      rintro e w5 ⟨rfl, hb5⟩
      have s5 := hb5.size
      (try simp at s5)
      obtain ⟨hc5, hf5⟩ := bcell hb5
      have z5 : w.heap.size < w5.heap.size := by omega
      rw [hj]
      go_wp2
      go_ret
      exact ⟨ret_bool (HV.out.symm), (by repeat' (first | (with_reducible exact Below.refl _ _) | (with_reducible assumption) | (with_reducible refine Below.setCell ?_ ?_ _) | (with_reducible refine Below.alloc ?_ ?_ _) | (with_reducible refine Below.drew ?_) | (with_reducible refine belowN ?_ _) | (with_reducible refine below_after ?_ (by assumption) ?_) | omega | (simp; done) | (simp; omega)))⟩
    have HV : Hid (taskTail 3 c inv lin res a = (res == -1)) := Lib.hid (by simp [taskTail, hl, hj]; rw [Bool.eq_iff_iff]; simp)
    clear hk hl
    go_enter Try.func27, Try.ntmps27
    go_wp2_with fail
    refine (spec_CallOk_c c _ _ _ (h_o.below (by repeat' (first | (with_reducible exact Below.refl _ _) | (with_reducible assumption) | (with_reducible refine Below.setCell ?_ ?_ _) | (with_reducible refine Below.alloc ?_ ?_ _) | (with_reducible refine Below.drew ?_) | (with_reducible refine belowN ?_ _) | (with_reducible refine below_after ?_ (by assumption) ?_) | omega | (simp; done) | (simp; omega)))) (h_t.below (by repeat' (first | (with_reducible exact Below.refl _ _) | (with_reducible assumption) | (with_reducible refine Below.setCell ?_ ?_ _) | (with_reducible refine Below.alloc ?_ ?_ _) | (with_reducible refine Below.drew ?_) | (with_reducible refine belowN ?_ _) | (with_reducible refine below_after ?_ (by assumption) ?_) | omega | (simp; done) | (simp; omega))))).mono ?_
    rintro e w1 ⟨rfl, hb1⟩
    have s1 := hb1.size
    (try simp at s1)
    obtain ⟨hc1, hf1⟩ := bcell hb1
    have z1 : w.heap.size < w1.heap.size := by omega
    rw [hc]
    go_wp2_with fail
    refine (spec_within_c _ _ _ _).mono ?_
    rintro e w2 ⟨rfl, hb2⟩
    have s2 := hb2.size
    (try simp at s2)
    obtain ⟨hc2, hf2⟩ := bcell hb2
    have z2 : w.heap.size < w2.heap.size := by omega
    rw [hi]
    go_wp2_with fail
    refine (spec_within_c _ _ _ _).mono ?_
    rintro e w3 ⟨rfl, hb3⟩
    have s3 := hb3.size
    (try simp at s3)
    obtain ⟨hc3, hf3⟩ := bcell hb3
    have z3 : w.heap.size < w3.heap.size := by omega
    rw [hp]
    go_wp2_with fail
    refine (spec_AnswerSame_c a ⟨11, 0, [], []⟩ _ _ _ _ _ (k_t.below (by repeat' (first | (with_reducible exact Below.refl _ _) | (with_reducible assumption) | (with_reducible refine Below.setCell ?_ ?_ _) | (with_reducible refine Below.alloc ?_ ?_ _) | (with_reducible refine Below.drew ?_) | (with_reducible refine belowN ?_ _) | (with_reducible refine below_after ?_ (by assumption) ?_) | omega | (simp; done) | (simp; omega)))) RdS.nil (k_l.below (by repeat' (first | (with_reducible exact Below.refl _ _) | (with_reducible assumption) | (with_reducible refine Below.setCell ?_ ?_ _) | (with_reducible refine Below.alloc ?_ ?_ _) | (with_reducible refine Below.drew ?_) | (with_reducible refine belowN ?_ _) | (with_reducible refine below_after ?_ (by assumption) ?_) | omega | (simp; done) | (simp; omega)))) RdS.nil).mono ?_
    rintro e w4 ⟨rfl, hb4⟩
    have s4 := hb4.size
    (try simp at s4)
    obtain ⟨hc4, hf4⟩ := bcell hb4
    have z4 : w.heap.size < w4.heap.size := by omega
    rw [hd]
    go_wp2_with fail
    refine (spec_within_c _ _ _ _).mono ?_
    rintro e w5 ⟨rfl, hb5⟩
    have s5 := hb5.size
    (try simp at s5)
    obtain ⟨hc5, hf5⟩ := bcell hb5
    have z5 : w.heap.size < w5.heap.size := by omega
    rw [hj]
    go_wp2
    go_ret
    exact ⟨ret_bool (HV.out.symm), (by repeat' (first | (with_reducible exact Below.refl _ _) | (with_reducible assumption) | (with_reducible refine Below.setCell ?_ ?_ _) | (with_reducible refine Below.alloc ?_ ?_ _) | (with_reducible refine Below.drew ?_) | (with_reducible refine belowN ?_ _) | (with_reducible refine below_after ?_ (by assumption) ?_) | omega | (simp; done) | (simp; omega)))⟩
  have hl1 : (lin == -1) = true := by simpa using hl
  have HV : Hid (taskTail 3 c inv lin res a = (res == -1)) := Lib.hid (by simp [taskTail, hd, hk, hl]; rw [Bool.eq_iff_iff]; simp)
  clear hk hl
  go_enter Try.func27, Try.ntmps27
  go_wp2_with fail
  refine (spec_CallOk_c c _ _ _ (h_o.below (by repeat' (first | (with_reducible exact Below.refl _ _) | (with_reducible assumption) | (with_reducible refine Below.setCell ?_ ?_ _) | (with_reducible refine Below.alloc ?_ ?_ _) | (with_reducible refine Below.drew ?_) | (with_reducible refine belowN ?_ _) | (with_reducible refine below_after ?_ (by assumption) ?_) | omega | (simp; done) | (simp; omega)))) (h_t.below (by repeat' (first | (with_reducible exact Below.refl _ _) | (with_reducible assumption) | (with_reducible refine Below.setCell ?_ ?_ _) | (with_reducible refine Below.alloc ?_ ?_ _) | (with_reducible refine Below.drew ?_) | (with_reducible refine belowN ?_ _) | (with_reducible refine below_after ?_ (by assumption) ?_) | omega | (simp; done) | (simp; omega))))).mono ?_
  rintro e w1 ⟨rfl, hb1⟩
  have s1 := hb1.size
  (try simp at s1)
  obtain ⟨hc1, hf1⟩ := bcell hb1
  have z1 : w.heap.size < w1.heap.size := by omega
  rw [hc]
  go_wp2_with fail
  refine (spec_within_c _ _ _ _).mono ?_
  rintro e w2 ⟨rfl, hb2⟩
  have s2 := hb2.size
  (try simp at s2)
  obtain ⟨hc2, hf2⟩ := bcell hb2
  have z2 : w.heap.size < w2.heap.size := by omega
  rw [hi]
  go_wp2_with fail
  refine (spec_within_c _ _ _ _).mono ?_
  rintro e w3 ⟨rfl, hb3⟩
  have s3 := hb3.size
  (try simp at s3)
  obtain ⟨hc3, hf3⟩ := bcell hb3
  have z3 : w.heap.size < w3.heap.size := by omega
  rw [hp]
  go_wp2_with fail
  refine (spec_AnswerSame_c a ⟨11, 0, [], []⟩ _ _ _ _ _ (k_t.below (by repeat' (first | (with_reducible exact Below.refl _ _) | (with_reducible assumption) | (with_reducible refine Below.setCell ?_ ?_ _) | (with_reducible refine Below.alloc ?_ ?_ _) | (with_reducible refine Below.drew ?_) | (with_reducible refine belowN ?_ _) | (with_reducible refine below_after ?_ (by assumption) ?_) | omega | (simp; done) | (simp; omega)))) RdS.nil (k_l.below (by repeat' (first | (with_reducible exact Below.refl _ _) | (with_reducible assumption) | (with_reducible refine Below.setCell ?_ ?_ _) | (with_reducible refine Below.alloc ?_ ?_ _) | (with_reducible refine Below.drew ?_) | (with_reducible refine belowN ?_ _) | (with_reducible refine below_after ?_ (by assumption) ?_) | omega | (simp; done) | (simp; omega)))) RdS.nil).mono ?_
  rintro e w4 ⟨rfl, hb4⟩
  have s4 := hb4.size
  (try simp at s4)
  obtain ⟨hc4, hf4⟩ := bcell hb4
  have z4 : w.heap.size < w4.heap.size := by omega
  rw [hd]
  go_wp2
  go_ret
  exact ⟨ret_bool (HV.out.symm), (by repeat' (first | (with_reducible exact Below.refl _ _) | (with_reducible assumption) | (with_reducible refine Below.setCell ?_ ?_ _) | (with_reducible refine Below.alloc ?_ ?_ _) | (with_reducible refine Below.drew ?_) | (with_reducible refine belowN ?_ _) | (with_reducible refine below_after ?_ (by assumption) ?_) | omega | (simp; done) | (simp; omega)))⟩
set_option maxHeartbeats 8000000 in
set_option maxRecDepth 100000 in
theorem spec_TaskOk_p4 (c : DCall) (inv lin res : Int) (a : DAnswer) (v_o v_t u_t u_l : Value) (w : World) (h_o : RdS w v_o c.o) (h_t : RdS w v_t c.text) (k_t : RdS w u_t a.text) (k_l : RdS w u_l a.list) (hc : callOk c = true) (hi : within inv 0 1000000 = true) :
    Calls Try.prog 27 #[.agg #[.int .i64 c.kind, .string c.doc, .int .i64 c.client, .int .i64 c.seq, .int .i64 c.n, v_o, v_t, .int .i64 4, .int .i64 inv, .int .i64 lin, .int .i64 res, .int .i64 a.code, .int .i64 a.rev, u_t, u_l]] w (Tells w (.bool (taskTail 4 c inv lin res a))) := by
  have hp : within 4 0 4 = true := by decide
  by_cases ha : (a = ⟨11, 0, [], []⟩)
  rotate_left
  · have hd : decide (a = ⟨11, 0, [], []⟩) = false := by simpa using ha
    by_cases hj : within lin inv 1000000 = true
    rotate_left
    · have hj : within lin inv 1000000 = false := by simpa using hj
      have HV : Hid (taskTail 4 c inv lin res a = false) := Lib.hid (by simp [taskTail, hd, hj])
      clear ha
      go_enter Try.func27, Try.ntmps27
      go_wp2_with fail
      refine (spec_CallOk_c c _ _ _ (h_o.below (by repeat' (first | (with_reducible exact Below.refl _ _) | (with_reducible assumption) | (with_reducible refine Below.setCell ?_ ?_ _) | (with_reducible refine Below.alloc ?_ ?_ _) | (with_reducible refine Below.drew ?_) | (with_reducible refine belowN ?_ _) | (with_reducible refine below_after ?_ (by assumption) ?_) | omega | (simp; done) | (simp; omega)))) (h_t.below (by repeat' (first | (with_reducible exact Below.refl _ _) | (with_reducible assumption) | (with_reducible refine Below.setCell ?_ ?_ _) | (with_reducible refine Below.alloc ?_ ?_ _) | (with_reducible refine Below.drew ?_) | (with_reducible refine belowN ?_ _) | (with_reducible refine below_after ?_ (by assumption) ?_) | omega | (simp; done) | (simp; omega))))).mono ?_
      rintro e w1 ⟨rfl, hb1⟩
      have s1 := hb1.size
      (try simp at s1)
      obtain ⟨hc1, hf1⟩ := bcell hb1
      have z1 : w.heap.size < w1.heap.size := by omega
      rw [hc]
      go_wp2_with fail
      refine (spec_within_c _ _ _ _).mono ?_
      rintro e w2 ⟨rfl, hb2⟩
      have s2 := hb2.size
      (try simp at s2)
      obtain ⟨hc2, hf2⟩ := bcell hb2
      have z2 : w.heap.size < w2.heap.size := by omega
      rw [hi]
      go_wp2_with fail
      refine (spec_within_c _ _ _ _).mono ?_
      rintro e w3 ⟨rfl, hb3⟩
      have s3 := hb3.size
      (try simp at s3)
      obtain ⟨hc3, hf3⟩ := bcell hb3
      have z3 : w.heap.size < w3.heap.size := by omega
      rw [hp]
      go_wp2_with fail
      refine (spec_AnswerSame_c a ⟨11, 0, [], []⟩ _ _ _ _ _ (k_t.below (by repeat' (first | (with_reducible exact Below.refl _ _) | (with_reducible assumption) | (with_reducible refine Below.setCell ?_ ?_ _) | (with_reducible refine Below.alloc ?_ ?_ _) | (with_reducible refine Below.drew ?_) | (with_reducible refine belowN ?_ _) | (with_reducible refine below_after ?_ (by assumption) ?_) | omega | (simp; done) | (simp; omega)))) RdS.nil (k_l.below (by repeat' (first | (with_reducible exact Below.refl _ _) | (with_reducible assumption) | (with_reducible refine Below.setCell ?_ ?_ _) | (with_reducible refine Below.alloc ?_ ?_ _) | (with_reducible refine Below.drew ?_) | (with_reducible refine belowN ?_ _) | (with_reducible refine below_after ?_ (by assumption) ?_) | omega | (simp; done) | (simp; omega)))) RdS.nil).mono ?_
      rintro e w4 ⟨rfl, hb4⟩
      have s4 := hb4.size
      (try simp at s4)
      obtain ⟨hc4, hf4⟩ := bcell hb4
      have z4 : w.heap.size < w4.heap.size := by omega
      rw [hd]
      go_wp2_with fail
      refine (spec_within_c _ _ _ _).mono ?_
      rintro e w5 ⟨rfl, hb5⟩
      have s5 := hb5.size
      (try simp at s5)
      obtain ⟨hc5, hf5⟩ := bcell hb5
      have z5 : w.heap.size < w5.heap.size := by omega
      rw [hj]
      go_wp2
      go_ret
      exact ⟨ret_bool (HV.out.symm), (by repeat' (first | (with_reducible exact Below.refl _ _) | (with_reducible assumption) | (with_reducible refine Below.setCell ?_ ?_ _) | (with_reducible refine Below.alloc ?_ ?_ _) | (with_reducible refine Below.drew ?_) | (with_reducible refine belowN ?_ _) | (with_reducible refine below_after ?_ (by assumption) ?_) | omega | (simp; done) | (simp; omega)))⟩
    by_cases hw : within res inv 1000000 = true
    rotate_left
    · have hw : within res inv 1000000 = false := by simpa using hw
      have HV : Hid (taskTail 4 c inv lin res a = false) := Lib.hid (by simp [taskTail, hd, hj, hw])
      clear ha
      go_enter Try.func27, Try.ntmps27
      go_wp2_with fail
      refine (spec_CallOk_c c _ _ _ (h_o.below (by repeat' (first | (with_reducible exact Below.refl _ _) | (with_reducible assumption) | (with_reducible refine Below.setCell ?_ ?_ _) | (with_reducible refine Below.alloc ?_ ?_ _) | (with_reducible refine Below.drew ?_) | (with_reducible refine belowN ?_ _) | (with_reducible refine below_after ?_ (by assumption) ?_) | omega | (simp; done) | (simp; omega)))) (h_t.below (by repeat' (first | (with_reducible exact Below.refl _ _) | (with_reducible assumption) | (with_reducible refine Below.setCell ?_ ?_ _) | (with_reducible refine Below.alloc ?_ ?_ _) | (with_reducible refine Below.drew ?_) | (with_reducible refine belowN ?_ _) | (with_reducible refine below_after ?_ (by assumption) ?_) | omega | (simp; done) | (simp; omega))))).mono ?_
      rintro e w1 ⟨rfl, hb1⟩
      have s1 := hb1.size
      (try simp at s1)
      obtain ⟨hc1, hf1⟩ := bcell hb1
      have z1 : w.heap.size < w1.heap.size := by omega
      rw [hc]
      go_wp2_with fail
      refine (spec_within_c _ _ _ _).mono ?_
      rintro e w2 ⟨rfl, hb2⟩
      have s2 := hb2.size
      (try simp at s2)
      obtain ⟨hc2, hf2⟩ := bcell hb2
      have z2 : w.heap.size < w2.heap.size := by omega
      rw [hi]
      go_wp2_with fail
      refine (spec_within_c _ _ _ _).mono ?_
      rintro e w3 ⟨rfl, hb3⟩
      have s3 := hb3.size
      (try simp at s3)
      obtain ⟨hc3, hf3⟩ := bcell hb3
      have z3 : w.heap.size < w3.heap.size := by omega
      rw [hp]
      go_wp2_with fail
      refine (spec_AnswerSame_c a ⟨11, 0, [], []⟩ _ _ _ _ _ (k_t.below (by repeat' (first | (with_reducible exact Below.refl _ _) | (with_reducible assumption) | (with_reducible refine Below.setCell ?_ ?_ _) | (with_reducible refine Below.alloc ?_ ?_ _) | (with_reducible refine Below.drew ?_) | (with_reducible refine belowN ?_ _) | (with_reducible refine below_after ?_ (by assumption) ?_) | omega | (simp; done) | (simp; omega)))) RdS.nil (k_l.below (by repeat' (first | (with_reducible exact Below.refl _ _) | (with_reducible assumption) | (with_reducible refine Below.setCell ?_ ?_ _) | (with_reducible refine Below.alloc ?_ ?_ _) | (with_reducible refine Below.drew ?_) | (with_reducible refine belowN ?_ _) | (with_reducible refine below_after ?_ (by assumption) ?_) | omega | (simp; done) | (simp; omega)))) RdS.nil).mono ?_
      rintro e w4 ⟨rfl, hb4⟩
      have s4 := hb4.size
      (try simp at s4)
      obtain ⟨hc4, hf4⟩ := bcell hb4
      have z4 : w.heap.size < w4.heap.size := by omega
      rw [hd]
      go_wp2_with fail
      refine (spec_within_c _ _ _ _).mono ?_
      rintro e w5 ⟨rfl, hb5⟩
      have s5 := hb5.size
      (try simp at s5)
      obtain ⟨hc5, hf5⟩ := bcell hb5
      have z5 : w.heap.size < w5.heap.size := by omega
      rw [hj]
      go_wp2_with fail
      refine (spec_within_c _ _ _ _).mono ?_
      rintro e w6 ⟨rfl, hb6⟩
      have s6 := hb6.size
      (try simp at s6)
      obtain ⟨hc6, hf6⟩ := bcell hb6
      have z6 : w.heap.size < w6.heap.size := by omega
      rw [hw]
      go_wp2
      go_ret
      exact ⟨ret_bool (HV.out.symm), (by repeat' (first | (with_reducible exact Below.refl _ _) | (with_reducible assumption) | (with_reducible refine Below.setCell ?_ ?_ _) | (with_reducible refine Below.alloc ?_ ?_ _) | (with_reducible refine Below.drew ?_) | (with_reducible refine belowN ?_ _) | (with_reducible refine below_after ?_ (by assumption) ?_) | omega | (simp; done) | (simp; omega)))⟩
    have HV : Hid (taskTail 4 c inv lin res a = decide (lin ≤ res)) := Lib.hid (by simp [taskTail, hd, hj, hw])
    clear ha
    go_enter Try.func27, Try.ntmps27
    go_wp2_with fail
    refine (spec_CallOk_c c _ _ _ (h_o.below (by repeat' (first | (with_reducible exact Below.refl _ _) | (with_reducible assumption) | (with_reducible refine Below.setCell ?_ ?_ _) | (with_reducible refine Below.alloc ?_ ?_ _) | (with_reducible refine Below.drew ?_) | (with_reducible refine belowN ?_ _) | (with_reducible refine below_after ?_ (by assumption) ?_) | omega | (simp; done) | (simp; omega)))) (h_t.below (by repeat' (first | (with_reducible exact Below.refl _ _) | (with_reducible assumption) | (with_reducible refine Below.setCell ?_ ?_ _) | (with_reducible refine Below.alloc ?_ ?_ _) | (with_reducible refine Below.drew ?_) | (with_reducible refine belowN ?_ _) | (with_reducible refine below_after ?_ (by assumption) ?_) | omega | (simp; done) | (simp; omega))))).mono ?_
    rintro e w1 ⟨rfl, hb1⟩
    have s1 := hb1.size
    (try simp at s1)
    obtain ⟨hc1, hf1⟩ := bcell hb1
    have z1 : w.heap.size < w1.heap.size := by omega
    rw [hc]
    go_wp2_with fail
    refine (spec_within_c _ _ _ _).mono ?_
    rintro e w2 ⟨rfl, hb2⟩
    have s2 := hb2.size
    (try simp at s2)
    obtain ⟨hc2, hf2⟩ := bcell hb2
    have z2 : w.heap.size < w2.heap.size := by omega
    rw [hi]
    go_wp2_with fail
    refine (spec_within_c _ _ _ _).mono ?_
    rintro e w3 ⟨rfl, hb3⟩
    have s3 := hb3.size
    (try simp at s3)
    obtain ⟨hc3, hf3⟩ := bcell hb3
    have z3 : w.heap.size < w3.heap.size := by omega
    rw [hp]
    go_wp2_with fail
    refine (spec_AnswerSame_c a ⟨11, 0, [], []⟩ _ _ _ _ _ (k_t.below (by repeat' (first | (with_reducible exact Below.refl _ _) | (with_reducible assumption) | (with_reducible refine Below.setCell ?_ ?_ _) | (with_reducible refine Below.alloc ?_ ?_ _) | (with_reducible refine Below.drew ?_) | (with_reducible refine belowN ?_ _) | (with_reducible refine below_after ?_ (by assumption) ?_) | omega | (simp; done) | (simp; omega)))) RdS.nil (k_l.below (by repeat' (first | (with_reducible exact Below.refl _ _) | (with_reducible assumption) | (with_reducible refine Below.setCell ?_ ?_ _) | (with_reducible refine Below.alloc ?_ ?_ _) | (with_reducible refine Below.drew ?_) | (with_reducible refine belowN ?_ _) | (with_reducible refine below_after ?_ (by assumption) ?_) | omega | (simp; done) | (simp; omega)))) RdS.nil).mono ?_
    rintro e w4 ⟨rfl, hb4⟩
    have s4 := hb4.size
    (try simp at s4)
    obtain ⟨hc4, hf4⟩ := bcell hb4
    have z4 : w.heap.size < w4.heap.size := by omega
    rw [hd]
    go_wp2_with fail
    refine (spec_within_c _ _ _ _).mono ?_
    rintro e w5 ⟨rfl, hb5⟩
    have s5 := hb5.size
    (try simp at s5)
    obtain ⟨hc5, hf5⟩ := bcell hb5
    have z5 : w.heap.size < w5.heap.size := by omega
    rw [hj]
    go_wp2_with fail
    refine (spec_within_c _ _ _ _).mono ?_
    rintro e w6 ⟨rfl, hb6⟩
    have s6 := hb6.size
    (try simp at s6)
    obtain ⟨hc6, hf6⟩ := bcell hb6
    have z6 : w.heap.size < w6.heap.size := by omega
    rw [hw]
    go_wp2
    go_ret
    exact ⟨ret_bool (HV.out.symm), (by repeat' (first | (with_reducible exact Below.refl _ _) | (with_reducible assumption) | (with_reducible refine Below.setCell ?_ ?_ _) | (with_reducible refine Below.alloc ?_ ?_ _) | (with_reducible refine Below.drew ?_) | (with_reducible refine belowN ?_ _) | (with_reducible refine below_after ?_ (by assumption) ?_) | omega | (simp; done) | (simp; omega)))⟩
  have hd : decide (a = ⟨11, 0, [], []⟩) = true := by simpa using ha
  clear ha
  by_cases hk : c.kind = 2
  rotate_left
  · have hk1 : (c.kind == 2) = false := by simpa using hk
    by_cases hj : within lin inv 1000000 = true
    rotate_left
    · have hj : within lin inv 1000000 = false := by simpa using hj
      have HV : Hid (taskTail 4 c inv lin res a = false) := Lib.hid (by simp [taskTail, hk, hj])
      clear hk
      go_enter Try.func27, Try.ntmps27
      go_wp2_with fail
      refine (spec_CallOk_c c _ _ _ (h_o.below (by repeat' (first | (with_reducible exact Below.refl _ _) | (with_reducible assumption) | (with_reducible refine Below.setCell ?_ ?_ _) | (with_reducible refine Below.alloc ?_ ?_ _) | (with_reducible refine Below.drew ?_) | (with_reducible refine belowN ?_ _) | (with_reducible refine below_after ?_ (by assumption) ?_) | omega | (simp; done) | (simp; omega)))) (h_t.below (by repeat' (first | (with_reducible exact Below.refl _ _) | (with_reducible assumption) | (with_reducible refine Below.setCell ?_ ?_ _) | (with_reducible refine Below.alloc ?_ ?_ _) | (with_reducible refine Below.drew ?_) | (with_reducible refine belowN ?_ _) | (with_reducible refine below_after ?_ (by assumption) ?_) | omega | (simp; done) | (simp; omega))))).mono ?_
      rintro e w1 ⟨rfl, hb1⟩
      have s1 := hb1.size
      (try simp at s1)
      obtain ⟨hc1, hf1⟩ := bcell hb1
      have z1 : w.heap.size < w1.heap.size := by omega
      rw [hc]
      go_wp2_with fail
      refine (spec_within_c _ _ _ _).mono ?_
      rintro e w2 ⟨rfl, hb2⟩
      have s2 := hb2.size
      (try simp at s2)
      obtain ⟨hc2, hf2⟩ := bcell hb2
      have z2 : w.heap.size < w2.heap.size := by omega
      rw [hi]
      go_wp2_with fail
      refine (spec_within_c _ _ _ _).mono ?_
      rintro e w3 ⟨rfl, hb3⟩
      have s3 := hb3.size
      (try simp at s3)
      obtain ⟨hc3, hf3⟩ := bcell hb3
      have z3 : w.heap.size < w3.heap.size := by omega
      rw [hp]
      go_wp2_with fail
      refine (spec_AnswerSame_c a ⟨11, 0, [], []⟩ _ _ _ _ _ (k_t.below (by repeat' (first | (with_reducible exact Below.refl _ _) | (with_reducible assumption) | (with_reducible refine Below.setCell ?_ ?_ _) | (with_reducible refine Below.alloc ?_ ?_ _) | (with_reducible refine Below.drew ?_) | (with_reducible refine belowN ?_ _) | (with_reducible refine below_after ?_ (by assumption) ?_) | omega | (simp; done) | (simp; omega)))) RdS.nil (k_l.below (by repeat' (first | (with_reducible exact Below.refl _ _) | (with_reducible assumption) | (with_reducible refine Below.setCell ?_ ?_ _) | (with_reducible refine Below.alloc ?_ ?_ _) | (with_reducible refine Below.drew ?_) | (with_reducible refine belowN ?_ _) | (with_reducible refine below_after ?_ (by assumption) ?_) | omega | (simp; done) | (simp; omega)))) RdS.nil).mono ?_
      rintro e w4 ⟨rfl, hb4⟩
      have s4 := hb4.size
      (try simp at s4)
      obtain ⟨hc4, hf4⟩ := bcell hb4
      have z4 : w.heap.size < w4.heap.size := by omega
      rw [hd]
      go_wp2_with fail
      refine (spec_within_c _ _ _ _).mono ?_
      rintro e w5 ⟨rfl, hb5⟩
      have s5 := hb5.size
      (try simp at s5)
      obtain ⟨hc5, hf5⟩ := bcell hb5
      have z5 : w.heap.size < w5.heap.size := by omega
      rw [hj]
      go_wp2
      go_ret
      exact ⟨ret_bool (HV.out.symm), (by repeat' (first | (with_reducible exact Below.refl _ _) | (with_reducible assumption) | (with_reducible refine Below.setCell ?_ ?_ _) | (with_reducible refine Below.alloc ?_ ?_ _) | (with_reducible refine Below.drew ?_) | (with_reducible refine belowN ?_ _) | (with_reducible refine below_after ?_ (by assumption) ?_) | omega | (simp; done) | (simp; omega)))⟩
    by_cases hw : within res inv 1000000 = true
    rotate_left
    · have hw : within res inv 1000000 = false := by simpa using hw
      have HV : Hid (taskTail 4 c inv lin res a = false) := Lib.hid (by simp [taskTail, hk, hj, hw])
      clear hk
      go_enter Try.func27, Try.ntmps27
      go_wp2_with fail
      refine (spec_CallOk_c c _ _ _ (h_o.below (by repeat' (first | (with_reducible exact Below.refl _ _) | (with_reducible assumption) | (with_reducible refine Below.setCell ?_ ?_ _) | (with_reducible refine Below.alloc ?_ ?_ _) | (with_reducible refine Below.drew ?_) | (with_reducible refine belowN ?_ _) | (with_reducible refine below_after ?_ (by assumption) ?_) | omega | (simp; done) | (simp; omega)))) (h_t.below (by repeat' (first | (with_reducible exact Below.refl _ _) | (with_reducible assumption) | (with_reducible refine Below.setCell ?_ ?_ _) | (with_reducible refine Below.alloc ?_ ?_ _) | (with_reducible refine Below.drew ?_) | (with_reducible refine belowN ?_ _) | (with_reducible refine below_after ?_ (by assumption) ?_) | omega | (simp; done) | (simp; omega))))).mono ?_
      rintro e w1 ⟨rfl, hb1⟩
      have s1 := hb1.size
      (try simp at s1)
      obtain ⟨hc1, hf1⟩ := bcell hb1
      have z1 : w.heap.size < w1.heap.size := by omega
      rw [hc]
      go_wp2_with fail
      refine (spec_within_c _ _ _ _).mono ?_
      rintro e w2 ⟨rfl, hb2⟩
      have s2 := hb2.size
      (try simp at s2)
      obtain ⟨hc2, hf2⟩ := bcell hb2
      have z2 : w.heap.size < w2.heap.size := by omega
      rw [hi]
      go_wp2_with fail
      refine (spec_within_c _ _ _ _).mono ?_
      rintro e w3 ⟨rfl, hb3⟩
      have s3 := hb3.size
      (try simp at s3)
      obtain ⟨hc3, hf3⟩ := bcell hb3
      have z3 : w.heap.size < w3.heap.size := by omega
      rw [hp]
      go_wp2_with fail
      refine (spec_AnswerSame_c a ⟨11, 0, [], []⟩ _ _ _ _ _ (k_t.below (by repeat' (first | (with_reducible exact Below.refl _ _) | (with_reducible assumption) | (with_reducible refine Below.setCell ?_ ?_ _) | (with_reducible refine Below.alloc ?_ ?_ _) | (with_reducible refine Below.drew ?_) | (with_reducible refine belowN ?_ _) | (with_reducible refine below_after ?_ (by assumption) ?_) | omega | (simp; done) | (simp; omega)))) RdS.nil (k_l.below (by repeat' (first | (with_reducible exact Below.refl _ _) | (with_reducible assumption) | (with_reducible refine Below.setCell ?_ ?_ _) | (with_reducible refine Below.alloc ?_ ?_ _) | (with_reducible refine Below.drew ?_) | (with_reducible refine belowN ?_ _) | (with_reducible refine below_after ?_ (by assumption) ?_) | omega | (simp; done) | (simp; omega)))) RdS.nil).mono ?_
      rintro e w4 ⟨rfl, hb4⟩
      have s4 := hb4.size
      (try simp at s4)
      obtain ⟨hc4, hf4⟩ := bcell hb4
      have z4 : w.heap.size < w4.heap.size := by omega
      rw [hd]
      go_wp2_with fail
      refine (spec_within_c _ _ _ _).mono ?_
      rintro e w5 ⟨rfl, hb5⟩
      have s5 := hb5.size
      (try simp at s5)
      obtain ⟨hc5, hf5⟩ := bcell hb5
      have z5 : w.heap.size < w5.heap.size := by omega
      rw [hj]
      go_wp2_with fail
      refine (spec_within_c _ _ _ _).mono ?_
      rintro e w6 ⟨rfl, hb6⟩
      have s6 := hb6.size
      (try simp at s6)
      obtain ⟨hc6, hf6⟩ := bcell hb6
      have z6 : w.heap.size < w6.heap.size := by omega
      rw [hw]
      go_wp2
      go_ret
      exact ⟨ret_bool (HV.out.symm), (by repeat' (first | (with_reducible exact Below.refl _ _) | (with_reducible assumption) | (with_reducible refine Below.setCell ?_ ?_ _) | (with_reducible refine Below.alloc ?_ ?_ _) | (with_reducible refine Below.drew ?_) | (with_reducible refine belowN ?_ _) | (with_reducible refine below_after ?_ (by assumption) ?_) | omega | (simp; done) | (simp; omega)))⟩
    have HV : Hid (taskTail 4 c inv lin res a = decide (lin ≤ res)) := Lib.hid (by simp [taskTail, hk, hj, hw])
    clear hk
    go_enter Try.func27, Try.ntmps27
    go_wp2_with fail
    refine (spec_CallOk_c c _ _ _ (h_o.below (by repeat' (first | (with_reducible exact Below.refl _ _) | (with_reducible assumption) | (with_reducible refine Below.setCell ?_ ?_ _) | (with_reducible refine Below.alloc ?_ ?_ _) | (with_reducible refine Below.drew ?_) | (with_reducible refine belowN ?_ _) | (with_reducible refine below_after ?_ (by assumption) ?_) | omega | (simp; done) | (simp; omega)))) (h_t.below (by repeat' (first | (with_reducible exact Below.refl _ _) | (with_reducible assumption) | (with_reducible refine Below.setCell ?_ ?_ _) | (with_reducible refine Below.alloc ?_ ?_ _) | (with_reducible refine Below.drew ?_) | (with_reducible refine belowN ?_ _) | (with_reducible refine below_after ?_ (by assumption) ?_) | omega | (simp; done) | (simp; omega))))).mono ?_
    rintro e w1 ⟨rfl, hb1⟩
    have s1 := hb1.size
    (try simp at s1)
    obtain ⟨hc1, hf1⟩ := bcell hb1
    have z1 : w.heap.size < w1.heap.size := by omega
    rw [hc]
    go_wp2_with fail
    refine (spec_within_c _ _ _ _).mono ?_
    rintro e w2 ⟨rfl, hb2⟩
    have s2 := hb2.size
    (try simp at s2)
    obtain ⟨hc2, hf2⟩ := bcell hb2
    have z2 : w.heap.size < w2.heap.size := by omega
    rw [hi]
    go_wp2_with fail
    refine (spec_within_c _ _ _ _).mono ?_
    rintro e w3 ⟨rfl, hb3⟩
    have s3 := hb3.size
    (try simp at s3)
    obtain ⟨hc3, hf3⟩ := bcell hb3
    have z3 : w.heap.size < w3.heap.size := by omega
    rw [hp]
    go_wp2_with fail
    refine (spec_AnswerSame_c a ⟨11, 0, [], []⟩ _ _ _ _ _ (k_t.below (by repeat' (first | (with_reducible exact Below.refl _ _) | (with_reducible assumption) | (with_reducible refine Below.setCell ?_ ?_ _) | (with_reducible refine Below.alloc ?_ ?_ _) | (with_reducible refine Below.drew ?_) | (with_reducible refine belowN ?_ _) | (with_reducible refine below_after ?_ (by assumption) ?_) | omega | (simp; done) | (simp; omega)))) RdS.nil (k_l.below (by repeat' (first | (with_reducible exact Below.refl _ _) | (with_reducible assumption) | (with_reducible refine Below.setCell ?_ ?_ _) | (with_reducible refine Below.alloc ?_ ?_ _) | (with_reducible refine Below.drew ?_) | (with_reducible refine belowN ?_ _) | (with_reducible refine below_after ?_ (by assumption) ?_) | omega | (simp; done) | (simp; omega)))) RdS.nil).mono ?_
    rintro e w4 ⟨rfl, hb4⟩
    have s4 := hb4.size
    (try simp at s4)
    obtain ⟨hc4, hf4⟩ := bcell hb4
    have z4 : w.heap.size < w4.heap.size := by omega
    rw [hd]
    go_wp2_with fail
    refine (spec_within_c _ _ _ _).mono ?_
    rintro e w5 ⟨rfl, hb5⟩
    have s5 := hb5.size
    (try simp at s5)
    obtain ⟨hc5, hf5⟩ := bcell hb5
    have z5 : w.heap.size < w5.heap.size := by omega
    rw [hj]
    go_wp2_with fail
    refine (spec_within_c _ _ _ _).mono ?_
    rintro e w6 ⟨rfl, hb6⟩
    have s6 := hb6.size
    (try simp at s6)
    obtain ⟨hc6, hf6⟩ := bcell hb6
    have z6 : w.heap.size < w6.heap.size := by omega
    rw [hw]
    go_wp2
    go_ret
    exact ⟨ret_bool (HV.out.symm), (by repeat' (first | (with_reducible exact Below.refl _ _) | (with_reducible assumption) | (with_reducible refine Below.setCell ?_ ?_ _) | (with_reducible refine Below.alloc ?_ ?_ _) | (with_reducible refine Below.drew ?_) | (with_reducible refine belowN ?_ _) | (with_reducible refine below_after ?_ (by assumption) ?_) | omega | (simp; done) | (simp; omega)))⟩
  have hk1 : (c.kind == 2) = true := by simpa using hk
  by_cases hl : lin = -1
  rotate_left
  · have hl1 : (lin == -1) = false := by simpa using hl
    by_cases hj : within lin inv 1000000 = true
    rotate_left
    · have hj : within lin inv 1000000 = false := by simpa using hj
      have HV : Hid (taskTail 4 c inv lin res a = false) := Lib.hid (by simp [taskTail, hl, hj])
      clear hk hl
      go_enter Try.func27, Try.ntmps27
      go_wp2_with fail
      refine (spec_CallOk_c c _ _ _ (h_o.below (by repeat' (first | (with_reducible exact Below.refl _ _) | (with_reducible assumption) | (with_reducible refine Below.setCell ?_ ?_ _) | (with_reducible refine Below.alloc ?_ ?_ _) | (with_reducible refine Below.drew ?_) | (with_reducible refine belowN ?_ _) | (with_reducible refine below_after ?_ (by assumption) ?_) | omega | (simp; done) | (simp; omega)))) (h_t.below (by repeat' (first | (with_reducible exact Below.refl _ _) | (with_reducible assumption) | (with_reducible refine Below.setCell ?_ ?_ _) | (with_reducible refine Below.alloc ?_ ?_ _) | (with_reducible refine Below.drew ?_) | (with_reducible refine belowN ?_ _) | (with_reducible refine below_after ?_ (by assumption) ?_) | omega | (simp; done) | (simp; omega))))).mono ?_
      rintro e w1 ⟨rfl, hb1⟩
      have s1 := hb1.size
      (try simp at s1)
      obtain ⟨hc1, hf1⟩ := bcell hb1
      have z1 : w.heap.size < w1.heap.size := by omega
      rw [hc]
      go_wp2_with fail
      refine (spec_within_c _ _ _ _).mono ?_
      rintro e w2 ⟨rfl, hb2⟩
      have s2 := hb2.size
      (try simp at s2)
      obtain ⟨hc2, hf2⟩ := bcell hb2
      have z2 : w.heap.size < w2.heap.size := by omega
      rw [hi]
      go_wp2_with fail
      refine (spec_within_c _ _ _ _).mono ?_
      rintro e w3 ⟨rfl, hb3⟩
      have s3 := hb3.size
      (try simp at s3)
      obtain ⟨hc3, hf3⟩ := bcell hb3
      have z3 : w.heap.size < w3.heap.size := by omega
      rw [hp]
      go_wp2_with fail
      refine (spec_AnswerSame_c a ⟨11, 0, [], []⟩ _ _ _ _ _ (k_t.below (by repeat' (first | (with_reducible exact Below.refl _ _) | (with_reducible assumption) | (with_reducible refine Below.setCell ?_ ?_ _) | (with_reducible refine Below.alloc ?_ ?_ _) | (with_reducible refine Below.drew ?_) | (with_reducible refine belowN ?_ _) | (with_reducible refine below_after ?_ (by assumption) ?_) | omega | (simp; done) | (simp; omega)))) RdS.nil (k_l.below (by repeat' (first | (with_reducible exact Below.refl _ _) | (with_reducible assumption) | (with_reducible refine Below.setCell ?_ ?_ _) | (with_reducible refine Below.alloc ?_ ?_ _) | (with_reducible refine Below.drew ?_) | (with_reducible refine belowN ?_ _) | (with_reducible refine below_after ?_ (by assumption) ?_) | omega | (simp; done) | (simp; omega)))) RdS.nil).mono ?_
      rintro e w4 ⟨rfl, hb4⟩
      have s4 := hb4.size
      (try simp at s4)
      obtain ⟨hc4, hf4⟩ := bcell hb4
      have z4 : w.heap.size < w4.heap.size := by omega
      rw [hd]
      go_wp2_with fail
      refine (spec_within_c _ _ _ _).mono ?_
      rintro e w5 ⟨rfl, hb5⟩
      have s5 := hb5.size
      (try simp at s5)
      obtain ⟨hc5, hf5⟩ := bcell hb5
      have z5 : w.heap.size < w5.heap.size := by omega
      rw [hj]
      go_wp2
      go_ret
      exact ⟨ret_bool (HV.out.symm), (by repeat' (first | (with_reducible exact Below.refl _ _) | (with_reducible assumption) | (with_reducible refine Below.setCell ?_ ?_ _) | (with_reducible refine Below.alloc ?_ ?_ _) | (with_reducible refine Below.drew ?_) | (with_reducible refine belowN ?_ _) | (with_reducible refine below_after ?_ (by assumption) ?_) | omega | (simp; done) | (simp; omega)))⟩
    by_cases hw : within res inv 1000000 = true
    rotate_left
    · have hw : within res inv 1000000 = false := by simpa using hw
      have HV : Hid (taskTail 4 c inv lin res a = false) := Lib.hid (by simp [taskTail, hl, hj, hw])
      clear hk hl
      go_enter Try.func27, Try.ntmps27
      go_wp2_with fail
      refine (spec_CallOk_c c _ _ _ (h_o.below (by repeat' (first | (with_reducible exact Below.refl _ _) | (with_reducible assumption) | (with_reducible refine Below.setCell ?_ ?_ _) | (with_reducible refine Below.alloc ?_ ?_ _) | (with_reducible refine Below.drew ?_) | (with_reducible refine belowN ?_ _) | (with_reducible refine below_after ?_ (by assumption) ?_) | omega | (simp; done) | (simp; omega)))) (h_t.below (by repeat' (first | (with_reducible exact Below.refl _ _) | (with_reducible assumption) | (with_reducible refine Below.setCell ?_ ?_ _) | (with_reducible refine Below.alloc ?_ ?_ _) | (with_reducible refine Below.drew ?_) | (with_reducible refine belowN ?_ _) | (with_reducible refine below_after ?_ (by assumption) ?_) | omega | (simp; done) | (simp; omega))))).mono ?_
      rintro e w1 ⟨rfl, hb1⟩
      have s1 := hb1.size
      (try simp at s1)
      obtain ⟨hc1, hf1⟩ := bcell hb1
      have z1 : w.heap.size < w1.heap.size := by omega
      rw [hc]
      go_wp2_with fail
      refine (spec_within_c _ _ _ _).mono ?_
      rintro e w2 ⟨rfl, hb2⟩
      have s2 := hb2.size
      (try simp at s2)
      obtain ⟨hc2, hf2⟩ := bcell hb2
      have z2 : w.heap.size < w2.heap.size := by omega
      rw [hi]
      go_wp2_with fail
      refine (spec_within_c _ _ _ _).mono ?_
      rintro e w3 ⟨rfl, hb3⟩
      have s3 := hb3.size
      (try simp at s3)
      obtain ⟨hc3, hf3⟩ := bcell hb3
      have z3 : w.heap.size < w3.heap.size := by omega
      rw [hp]
      go_wp2_with fail
      refine (spec_AnswerSame_c a ⟨11, 0, [], []⟩ _ _ _ _ _ (k_t.below (by repeat' (first | (with_reducible exact Below.refl _ _) | (with_reducible assumption) | (with_reducible refine Below.setCell ?_ ?_ _) | (with_reducible refine Below.alloc ?_ ?_ _) | (with_reducible refine Below.drew ?_) | (with_reducible refine belowN ?_ _) | (with_reducible refine below_after ?_ (by assumption) ?_) | omega | (simp; done) | (simp; omega)))) RdS.nil (k_l.below (by repeat' (first | (with_reducible exact Below.refl _ _) | (with_reducible assumption) | (with_reducible refine Below.setCell ?_ ?_ _) | (with_reducible refine Below.alloc ?_ ?_ _) | (with_reducible refine Below.drew ?_) | (with_reducible refine belowN ?_ _) | (with_reducible refine below_after ?_ (by assumption) ?_) | omega | (simp; done) | (simp; omega)))) RdS.nil).mono ?_
      rintro e w4 ⟨rfl, hb4⟩
      have s4 := hb4.size
      (try simp at s4)
      obtain ⟨hc4, hf4⟩ := bcell hb4
      have z4 : w.heap.size < w4.heap.size := by omega
      rw [hd]
      go_wp2_with fail
      refine (spec_within_c _ _ _ _).mono ?_
      rintro e w5 ⟨rfl, hb5⟩
      have s5 := hb5.size
      (try simp at s5)
      obtain ⟨hc5, hf5⟩ := bcell hb5
      have z5 : w.heap.size < w5.heap.size := by omega
      rw [hj]
      go_wp2_with fail
      refine (spec_within_c _ _ _ _).mono ?_
      rintro e w6 ⟨rfl, hb6⟩
      have s6 := hb6.size
      (try simp at s6)
      obtain ⟨hc6, hf6⟩ := bcell hb6
      have z6 : w.heap.size < w6.heap.size := by omega
      rw [hw]
      go_wp2
      go_ret
      exact ⟨ret_bool (HV.out.symm), (by repeat' (first | (with_reducible exact Below.refl _ _) | (with_reducible assumption) | (with_reducible refine Below.setCell ?_ ?_ _) | (with_reducible refine Below.alloc ?_ ?_ _) | (with_reducible refine Below.drew ?_) | (with_reducible refine belowN ?_ _) | (with_reducible refine below_after ?_ (by assumption) ?_) | omega | (simp; done) | (simp; omega)))⟩
    have HV : Hid (taskTail 4 c inv lin res a = decide (lin ≤ res)) := Lib.hid (by simp [taskTail, hl, hj, hw])
    clear hk hl
    go_enter Try.func27, Try.ntmps27
    go_wp2_with fail
    refine (spec_CallOk_c c _ _ _ (h_o.below (by repeat' (first | (with_reducible exact Below.refl _ _) | (with_reducible assumption) | (with_reducible refine Below.setCell ?_ ?_ _) | (with_reducible refine Below.alloc ?_ ?_ _) | (with_reducible refine Below.drew ?_) | (with_reducible refine belowN ?_ _) | (with_reducible refine below_after ?_ (by assumption) ?_) | omega | (simp; done) | (simp; omega)))) (h_t.below (by repeat' (first | (with_reducible exact Below.refl _ _) | (with_reducible assumption) | (with_reducible refine Below.setCell ?_ ?_ _) | (with_reducible refine Below.alloc ?_ ?_ _) | (with_reducible refine Below.drew ?_) | (with_reducible refine belowN ?_ _) | (with_reducible refine below_after ?_ (by assumption) ?_) | omega | (simp; done) | (simp; omega))))).mono ?_
    rintro e w1 ⟨rfl, hb1⟩
    have s1 := hb1.size
    (try simp at s1)
    obtain ⟨hc1, hf1⟩ := bcell hb1
    have z1 : w.heap.size < w1.heap.size := by omega
    rw [hc]
    go_wp2_with fail
    refine (spec_within_c _ _ _ _).mono ?_
    rintro e w2 ⟨rfl, hb2⟩
    have s2 := hb2.size
    (try simp at s2)
    obtain ⟨hc2, hf2⟩ := bcell hb2
    have z2 : w.heap.size < w2.heap.size := by omega
    rw [hi]
    go_wp2_with fail
    refine (spec_within_c _ _ _ _).mono ?_
    rintro e w3 ⟨rfl, hb3⟩
    have s3 := hb3.size
    (try simp at s3)
    obtain ⟨hc3, hf3⟩ := bcell hb3
    have z3 : w.heap.size < w3.heap.size := by omega
    rw [hp]
    go_wp2_with fail
    refine (spec_AnswerSame_c a ⟨11, 0, [], []⟩ _ _ _ _ _ (k_t.below (by repeat' (first | (with_reducible exact Below.refl _ _) | (with_reducible assumption) | (with_reducible refine Below.setCell ?_ ?_ _) | (with_reducible refine Below.alloc ?_ ?_ _) | (with_reducible refine Below.drew ?_) | (with_reducible refine belowN ?_ _) | (with_reducible refine below_after ?_ (by assumption) ?_) | omega | (simp; done) | (simp; omega)))) RdS.nil (k_l.below (by repeat' (first | (with_reducible exact Below.refl _ _) | (with_reducible assumption) | (with_reducible refine Below.setCell ?_ ?_ _) | (with_reducible refine Below.alloc ?_ ?_ _) | (with_reducible refine Below.drew ?_) | (with_reducible refine belowN ?_ _) | (with_reducible refine below_after ?_ (by assumption) ?_) | omega | (simp; done) | (simp; omega)))) RdS.nil).mono ?_
    rintro e w4 ⟨rfl, hb4⟩
    have s4 := hb4.size
    (try simp at s4)
    obtain ⟨hc4, hf4⟩ := bcell hb4
    have z4 : w.heap.size < w4.heap.size := by omega
    rw [hd]
    go_wp2_with fail
    refine (spec_within_c _ _ _ _).mono ?_
    rintro e w5 ⟨rfl, hb5⟩
    have s5 := hb5.size
    (try simp at s5)
    obtain ⟨hc5, hf5⟩ := bcell hb5
    have z5 : w.heap.size < w5.heap.size := by omega
    rw [hj]
    go_wp2_with fail
    refine (spec_within_c _ _ _ _).mono ?_
    rintro e w6 ⟨rfl, hb6⟩
    have s6 := hb6.size
    (try simp at s6)
    obtain ⟨hc6, hf6⟩ := bcell hb6
    have z6 : w.heap.size < w6.heap.size := by omega
    rw [hw]
    go_wp2
    go_ret
    exact ⟨ret_bool (HV.out.symm), (by repeat' (first | (with_reducible exact Below.refl _ _) | (with_reducible assumption) | (with_reducible refine Below.setCell ?_ ?_ _) | (with_reducible refine Below.alloc ?_ ?_ _) | (with_reducible refine Below.drew ?_) | (with_reducible refine belowN ?_ _) | (with_reducible refine below_after ?_ (by assumption) ?_) | omega | (simp; done) | (simp; omega)))⟩
  have hl1 : (lin == -1) = true := by simpa using hl
  by_cases hw : within res inv 1000000 = true
  rotate_left
  · have hw : within res inv 1000000 = false := by simpa using hw
    have HV : Hid (taskTail 4 c inv lin res a = false) := Lib.hid (by simp [taskTail, hd, hk, hl, hw])
    clear hk hl
    go_enter Try.func27, Try.ntmps27
    go_wp2_with fail
    refine (spec_CallOk_c c _ _ _ (h_o.below (by repeat' (first | (with_reducible exact Below.refl _ _) | (with_reducible assumption) | (with_reducible refine Below.setCell ?_ ?_ _) | (with_reducible refine Below.alloc ?_ ?_ _) | (with_reducible refine Below.drew ?_) | (with_reducible refine belowN ?_ _) | (with_reducible refine below_after ?_ (by assumption) ?_) | omega | (simp; done) | (simp; omega)))) (h_t.below (by repeat' (first | (with_reducible exact Below.refl _ _) | (with_reducible assumption) | (with_reducible refine Below.setCell ?_ ?_ _) | (with_reducible refine Below.alloc ?_ ?_ _) | (with_reducible refine Below.drew ?_) | (with_reducible refine belowN ?_ _) | (with_reducible refine below_after ?_ (by assumption) ?_) | omega | (simp; done) | (simp; omega))))).mono ?_
    rintro e w1 ⟨rfl, hb1⟩
    have s1 := hb1.size
    (try simp at s1)
    obtain ⟨hc1, hf1⟩ := bcell hb1
    have z1 : w.heap.size < w1.heap.size := by omega
    rw [hc]
    go_wp2_with fail
    refine (spec_within_c _ _ _ _).mono ?_
    rintro e w2 ⟨rfl, hb2⟩
    have s2 := hb2.size
    (try simp at s2)
    obtain ⟨hc2, hf2⟩ := bcell hb2
    have z2 : w.heap.size < w2.heap.size := by omega
    rw [hi]
    go_wp2_with fail
    refine (spec_within_c _ _ _ _).mono ?_
    rintro e w3 ⟨rfl, hb3⟩
    have s3 := hb3.size
    (try simp at s3)
    obtain ⟨hc3, hf3⟩ := bcell hb3
    have z3 : w.heap.size < w3.heap.size := by omega
    rw [hp]
    go_wp2_with fail
    refine (spec_AnswerSame_c a ⟨11, 0, [], []⟩ _ _ _ _ _ (k_t.below (by repeat' (first | (with_reducible exact Below.refl _ _) | (with_reducible assumption) | (with_reducible refine Below.setCell ?_ ?_ _) | (with_reducible refine Below.alloc ?_ ?_ _) | (with_reducible refine Below.drew ?_) | (with_reducible refine belowN ?_ _) | (with_reducible refine below_after ?_ (by assumption) ?_) | omega | (simp; done) | (simp; omega)))) RdS.nil (k_l.below (by repeat' (first | (with_reducible exact Below.refl _ _) | (with_reducible assumption) | (with_reducible refine Below.setCell ?_ ?_ _) | (with_reducible refine Below.alloc ?_ ?_ _) | (with_reducible refine Below.drew ?_) | (with_reducible refine belowN ?_ _) | (with_reducible refine below_after ?_ (by assumption) ?_) | omega | (simp; done) | (simp; omega)))) RdS.nil).mono ?_
    rintro e w4 ⟨rfl, hb4⟩
    have s4 := hb4.size
    (try simp at s4)
    obtain ⟨hc4, hf4⟩ := bcell hb4
    have z4 : w.heap.size < w4.heap.size := by omega
    rw [hd]
    go_wp2_with fail
    refine (spec_within_c _ _ _ _).mono ?_
    rintro e w5 ⟨rfl, hb5⟩
    have s5 := hb5.size
    (try simp at s5)
    obtain ⟨hc5, hf5⟩ := bcell hb5
    have z5 : w.heap.size < w5.heap.size := by omega
    rw [hw]
    go_wp2
    go_ret
    exact ⟨ret_bool (HV.out.symm), (by repeat' (first | (with_reducible exact Below.refl _ _) | (with_reducible assumption) | (with_reducible refine Below.setCell ?_ ?_ _) | (with_reducible refine Below.alloc ?_ ?_ _) | (with_reducible refine Below.drew ?_) | (with_reducible refine belowN ?_ _) | (with_reducible refine below_after ?_ (by assumption) ?_) | omega | (simp; done) | (simp; omega)))⟩
  have HV : Hid (taskTail 4 c inv lin res a = decide (lin ≤ res)) := Lib.hid (by simp [taskTail, hd, hk, hl, hw])
  clear hk hl
  go_enter Try.func27, Try.ntmps27
  go_wp2_with fail
  refine (spec_CallOk_c c _ _ _ (h_o.below (by repeat' (first | (with_reducible exact Below.refl _ _) | (with_reducible assumption) | (with_reducible refine Below.setCell ?_ ?_ _) | (with_reducible refine Below.alloc ?_ ?_ _) | (with_reducible refine Below.drew ?_) | (with_reducible refine belowN ?_ _) | (with_reducible refine below_after ?_ (by assumption) ?_) | omega | (simp; done) | (simp; omega)))) (h_t.below (by repeat' (first | (with_reducible exact Below.refl _ _) | (with_reducible assumption) | (with_reducible refine Below.setCell ?_ ?_ _) | (with_reducible refine Below.alloc ?_ ?_ _) | (with_reducible refine Below.drew ?_) | (with_reducible refine belowN ?_ _) | (with_reducible refine below_after ?_ (by assumption) ?_) | omega | (simp; done) | (simp; omega))))).mono ?_
  rintro e w1 ⟨rfl, hb1⟩
  have s1 := hb1.size
  (try simp at s1)
  obtain ⟨hc1, hf1⟩ := bcell hb1
  have z1 : w.heap.size < w1.heap.size := by omega
  rw [hc]
  go_wp2_with fail
  refine (spec_within_c _ _ _ _).mono ?_
  rintro e w2 ⟨rfl, hb2⟩
  have s2 := hb2.size
  (try simp at s2)
  obtain ⟨hc2, hf2⟩ := bcell hb2
  have z2 : w.heap.size < w2.heap.size := by omega
  rw [hi]
  go_wp2_with fail
  refine (spec_within_c _ _ _ _).mono ?_
  rintro e w3 ⟨rfl, hb3⟩
  have s3 := hb3.size
  (try simp at s3)
  obtain ⟨hc3, hf3⟩ := bcell hb3
  have z3 : w.heap.size < w3.heap.size := by omega
  rw [hp]
  go_wp2_with fail
  refine (spec_AnswerSame_c a ⟨11, 0, [], []⟩ _ _ _ _ _ (k_t.below (by repeat' (first | (with_reducible exact Below.refl _ _) | (with_reducible assumption) | (with_reducible refine Below.setCell ?_ ?_ _) | (with_reducible refine Below.alloc ?_ ?_ _) | (with_reducible refine Below.drew ?_) | (with_reducible refine belowN ?_ _) | (with_reducible refine below_after ?_ (by assumption) ?_) | omega | (simp; done) | (simp; omega)))) RdS.nil (k_l.below (by repeat' (first | (with_reducible exact Below.refl _ _) | (with_reducible assumption) | (with_reducible refine Below.setCell ?_ ?_ _) | (with_reducible refine Below.alloc ?_ ?_ _) | (with_reducible refine Below.drew ?_) | (with_reducible refine belowN ?_ _) | (with_reducible refine below_after ?_ (by assumption) ?_) | omega | (simp; done) | (simp; omega)))) RdS.nil).mono ?_
  rintro e w4 ⟨rfl, hb4⟩
  have s4 := hb4.size
  (try simp at s4)
  obtain ⟨hc4, hf4⟩ := bcell hb4
  have z4 : w.heap.size < w4.heap.size := by omega
  rw [hd]
  go_wp2_with fail
  refine (spec_within_c _ _ _ _).mono ?_
  rintro e w5 ⟨rfl, hb5⟩
  have s5 := hb5.size
  (try simp at s5)
  obtain ⟨hc5, hf5⟩ := bcell hb5
  have z5 : w.heap.size < w5.heap.size := by omega
  rw [hw]
  go_wp2
  go_ret
  exact ⟨ret_bool (HV.out.symm), (by repeat' (first | (with_reducible exact Below.refl _ _) | (with_reducible assumption) | (with_reducible refine Below.setCell ?_ ?_ _) | (with_reducible refine Below.alloc ?_ ?_ _) | (with_reducible refine Below.drew ?_) | (with_reducible refine belowN ?_ _) | (with_reducible refine below_after ?_ (by assumption) ?_) | omega | (simp; done) | (simp; omega)))⟩
theorem spec_TaskOk_c (t : DTask) (v_o v_t u_t u_l : Value) (w : World) (h_o : RdS w v_o t.c.o) (h_t : RdS w v_t t.c.text) (k_t : RdS w u_t t.a.text) (k_l : RdS w u_l t.a.list) :
    Calls Try.prog 27 #[.agg #[.int .i64 t.c.kind, .string t.c.doc, .int .i64 t.c.client, .int .i64 t.c.seq, .int .i64 t.c.n, v_o, v_t, .int .i64 t.pc, .int .i64 t.inv, .int .i64 t.lin, .int .i64 t.res, .int .i64 t.a.code, .int .i64 t.a.rev, u_t, u_l]] w (Tells w (.bool (taskOk t))) := by
  by_cases hc : callOk t.c = true
  · by_cases hi : within t.inv 0 1000000 = true
    · by_cases hp : within t.pc 0 4 = true
      · have e : taskOk t = taskTail t.pc t.c t.inv t.lin t.res t.a := by simp [taskOk, hc, hi, hp]
        rw [e]
        rw [within_iff] at hp
        obtain ⟨c, pc, inv, lin, res, a⟩ := t
        simp only at hp hc hi h_o h_t k_t k_l ⊢
        have : pc = 0 ∨ pc = 1 ∨ pc = 2 ∨ pc = 3 ∨ pc = 4 := by omega
        rcases this with rfl | rfl | rfl | rfl | rfl
        · exact spec_TaskOk_p0 c inv lin res a v_o v_t u_t u_l w h_o h_t k_t k_l hc hi
        · exact spec_TaskOk_p1 c inv lin res a v_o v_t u_t u_l w h_o h_t k_t k_l hc hi
        · exact spec_TaskOk_p2 c inv lin res a v_o v_t u_t u_l w h_o h_t k_t k_l hc hi
        · exact spec_TaskOk_p3 c inv lin res a v_o v_t u_t u_l w h_o h_t k_t k_l hc hi
        · exact spec_TaskOk_p4 c inv lin res a v_o v_t u_t u_l w h_o h_t k_t k_l hc hi
      · have e : taskOk t = false := by simp [taskOk, hp]
        rw [e]
        exact spec_TaskOk_e3 t.c t.inv t.lin t.res t.a v_o v_t u_t u_l w h_o h_t k_t k_l t.pc hc hi (by simpa using hp)
    · have e : taskOk t = false := by simp [taskOk, hi]
      rw [e]
      exact spec_TaskOk_e2 t.c t.inv t.lin t.res t.a v_o v_t u_t u_l w h_o h_t k_t k_l t.pc hc (by simpa using hi)
  · have e : taskOk t = false := by simp [taskOk, hc]
    rw [e]
    exact spec_TaskOk_e1 t.c t.inv t.lin t.res t.a v_o v_t u_t u_l w h_o h_t k_t k_l t.pc (by simpa using hc)
set_option maxHeartbeats 8000000 in
set_option maxRecDepth 100000 in
theorem impl_TaskOk_e1 (c : DCall) (inv lin res : Int) (a : DAnswer) (v_o v_t u_t u_l : Value) (w : World) (h_o : RdS w v_o c.o) (h_t : RdS w v_t c.text) (_k_t : RdS w u_t a.text) (_k_l : RdS w u_l a.list) (pc : Int) (hc : callOk c = false) :
    Calls Try.prog 29 #[.agg #[.int .i64 c.kind, .string c.doc, .int .i64 c.client, .int .i64 c.seq, .int .i64 c.n, v_o, v_t, .int .i64 pc, .int .i64 inv, .int .i64 lin, .int .i64 res, .int .i64 a.code, .int .i64 a.rev, u_t, u_l]] w (Tells w (.bool (false))) := by
  go_enter Try.func29, Try.ntmps29
  go_wp2_with fail
  refine (impl_CallOk_c c _ _ _ (h_o.below (by repeat' (first | (with_reducible exact Below.refl _ _) | (with_reducible assumption) | (with_reducible refine Below.setCell ?_ ?_ _) | (with_reducible refine Below.alloc ?_ ?_ _) | (with_reducible refine Below.drew ?_) | (with_reducible refine belowN ?_ _) | (with_reducible refine below_after ?_ (by assumption) ?_) | omega | (simp; done) | (simp; omega)))) (h_t.below (by repeat' (first | (with_reducible exact Below.refl _ _) | (with_reducible assumption) | (with_reducible refine Below.setCell ?_ ?_ _) | (with_reducible refine Below.alloc ?_ ?_ _) | (with_reducible refine Below.drew ?_) | (with_reducible refine belowN ?_ _) | (with_reducible refine below_after ?_ (by assumption) ?_) | omega | (simp; done) | (simp; omega))))).mono ?_
  rintro e w1 ⟨rfl, hb1⟩
  have s1 := hb1.size
  (try simp at s1)
  obtain ⟨hc1, hf1⟩ := bcell hb1
  have z1 : w.heap.size < w1.heap.size := by omega
  rw [hc]
  go_wp2
  go_ret
  exact ⟨ret_bool (rfl), (by repeat' (first | (with_reducible exact Below.refl _ _) | (with_reducible assumption) | (with_reducible refine Below.setCell ?_ ?_ _) | (with_reducible refine Below.alloc ?_ ?_ _) | (with_reducible refine Below.drew ?_) | (with_reducible refine belowN ?_ _) | (with_reducible refine below_after ?_ (by assumption) ?_) | omega | (simp; done) | (simp; omega)))⟩
set_option maxHeartbeats 8000000 in
set_option maxRecDepth 100000 in
theorem impl_TaskOk_e2 (c : DCall) (inv lin res : Int) (a : DAnswer) (v_o v_t u_t u_l : Value) (w : World) (h_o : RdS w v_o c.o) (h_t : RdS w v_t c.text) (_k_t : RdS w u_t a.text) (_k_l : RdS w u_l a.list) (pc : Int) (hc : callOk c = true) (hi : within inv 0 1000000 = false) :
    Calls Try.prog 29 #[.agg #[.int .i64 c.kind, .string c.doc, .int .i64 c.client, .int .i64 c.seq, .int .i64 c.n, v_o, v_t, .int .i64 pc, .int .i64 inv, .int .i64 lin, .int .i64 res, .int .i64 a.code, .int .i64 a.rev, u_t, u_l]] w (Tells w (.bool (false))) := by
  go_enter Try.func29, Try.ntmps29
  go_wp2_with fail
  refine (impl_CallOk_c c _ _ _ (h_o.below (by repeat' (first | (with_reducible exact Below.refl _ _) | (with_reducible assumption) | (with_reducible refine Below.setCell ?_ ?_ _) | (with_reducible refine Below.alloc ?_ ?_ _) | (with_reducible refine Below.drew ?_) | (with_reducible refine belowN ?_ _) | (with_reducible refine below_after ?_ (by assumption) ?_) | omega | (simp; done) | (simp; omega)))) (h_t.below (by repeat' (first | (with_reducible exact Below.refl _ _) | (with_reducible assumption) | (with_reducible refine Below.setCell ?_ ?_ _) | (with_reducible refine Below.alloc ?_ ?_ _) | (with_reducible refine Below.drew ?_) | (with_reducible refine belowN ?_ _) | (with_reducible refine below_after ?_ (by assumption) ?_) | omega | (simp; done) | (simp; omega))))).mono ?_
  rintro e w1 ⟨rfl, hb1⟩
  have s1 := hb1.size
  (try simp at s1)
  obtain ⟨hc1, hf1⟩ := bcell hb1
  have z1 : w.heap.size < w1.heap.size := by omega
  rw [hc]
  go_wp2_with fail
  refine (impl_within_c _ _ _ _).mono ?_
  rintro e w2 ⟨rfl, hb2⟩
  have s2 := hb2.size
  (try simp at s2)
  obtain ⟨hc2, hf2⟩ := bcell hb2
  have z2 : w.heap.size < w2.heap.size := by omega
  rw [hi]
  go_wp2
  go_ret
  exact ⟨ret_bool (rfl), (by repeat' (first | (with_reducible exact Below.refl _ _) | (with_reducible assumption) | (with_reducible refine Below.setCell ?_ ?_ _) | (with_reducible refine Below.alloc ?_ ?_ _) | (with_reducible refine Below.drew ?_) | (with_reducible refine belowN ?_ _) | (with_reducible refine below_after ?_ (by assumption) ?_) | omega | (simp; done) | (simp; omega)))⟩
set_option maxHeartbeats 8000000 in
set_option maxRecDepth 100000 in
theorem impl_TaskOk_e3 (c : DCall) (inv lin res : Int) (a : DAnswer) (v_o v_t u_t u_l : Value) (w : World) (h_o : RdS w v_o c.o) (h_t : RdS w v_t c.text) (_k_t : RdS w u_t a.text) (_k_l : RdS w u_l a.list) (pc : Int) (hc : callOk c = true) (hi : within inv 0 1000000 = true) (hp : within pc 0 4 = false) :
    Calls Try.prog 29 #[.agg #[.int .i64 c.kind, .string c.doc, .int .i64 c.client, .int .i64 c.seq, .int .i64 c.n, v_o, v_t, .int .i64 pc, .int .i64 inv, .int .i64 lin, .int .i64 res, .int .i64 a.code, .int .i64 a.rev, u_t, u_l]] w (Tells w (.bool (false))) := by
  have hq : ¬ (0 ≤ pc ∧ pc ≤ 4) := fun h => by rw [within_iff.2 h] at hp; cases hp
  have p0 : (pc == 0) = false := by simp; omega
  have p1 : (pc == 1) = false := by simp; omega
  have p2 : (pc == 2) = false := by simp; omega
  have p3 : (pc == 3) = false := by simp; omega
  have p4 : (pc == 4) = false := by simp; omega
  clear hp hq
  go_enter Try.func29, Try.ntmps29
  go_wp2_with fail
  refine (impl_CallOk_c c _ _ _ (h_o.below (by repeat' (first | (with_reducible exact Below.refl _ _) | (with_reducible assumption) | (with_reducible refine Below.setCell ?_ ?_ _) | (with_reducible refine Below.alloc ?_ ?_ _) | (with_reducible refine Below.drew ?_) | (with_reducible refine belowN ?_ _) | (with_reducible refine below_after ?_ (by assumption) ?_) | omega | (simp; done) | (simp; omega)))) (h_t.below (by repeat' (first | (with_reducible exact Below.refl _ _) | (with_reducible assumption) | (with_reducible refine Below.setCell ?_ ?_ _) | (with_reducible refine Below.alloc ?_ ?_ _) | (with_reducible refine Below.drew ?_) | (with_reducible refine belowN ?_ _) | (with_reducible refine below_after ?_ (by assumption) ?_) | omega | (simp; done) | (simp; omega))))).mono ?_
  rintro e w1 ⟨rfl, hb1⟩
  have s1 := hb1.size
  (try simp at s1)
  obtain ⟨hc1, hf1⟩ := bcell hb1
  have z1 : w.heap.size < w1.heap.size := by omega
  rw [hc]
  go_wp2_with fail
  refine (impl_within_c _ _ _ _).mono ?_
  rintro e w2 ⟨rfl, hb2⟩
  have s2 := hb2.size
  (try simp at s2)
  obtain ⟨hc2, hf2⟩ := bcell hb2
  have z2 : w.heap.size < w2.heap.size := by omega
  rw [hi]
  go_wp2
  go_ret
  exact ⟨ret_bool (rfl), (by repeat' (first | (with_reducible exact Below.refl _ _) | (with_reducible assumption) | (with_reducible refine Below.setCell ?_ ?_ _) | (with_reducible refine Below.alloc ?_ ?_ _) | (with_reducible refine Below.drew ?_) | (with_reducible refine belowN ?_ _) | (with_reducible refine below_after ?_ (by assumption) ?_) | omega | (simp; done) | (simp; omega)))⟩
set_option maxHeartbeats 8000000 in
set_option maxRecDepth 100000 in
theorem impl_TaskOk_p0 (c : DCall) (inv lin res : Int) (a : DAnswer) (v_o v_t u_t u_l : Value) (w : World) (h_o : RdS w v_o c.o) (h_t : RdS w v_t c.text) (k_t : RdS w u_t a.text) (k_l : RdS w u_l a.list) (hc : callOk c = true) (hi : within inv 0 1000000 = true) :
    Calls Try.prog 29 #[.agg #[.int .i64 c.kind, .string c.doc, .int .i64 c.client, .int .i64 c.seq, .int .i64 c.n, v_o, v_t, .int .i64 0, .int .i64 inv, .int .i64 lin, .int .i64 res, .int .i64 a.code, .int .i64 a.rev, u_t, u_l]] w (Tells w (.bool (taskTail 0 c inv lin res a))) := by
  by_cases hl : lin = -1
  rotate_left
  · have HV : Hid (taskTail 0 c inv lin res a = false) := Lib.hid (by simp [taskTail, hl])
    have hl1 : (lin == -1) = false := by simpa using hl
    clear hl
    go_enter Try.func29, Try.ntmps29
    go_wp2_with fail
    refine (impl_CallOk_c c _ _ _ (h_o.below (by repeat' (first | (with_reducible exact Below.refl _ _) | (with_reducible assumption) | (with_reducible refine Below.setCell ?_ ?_ _) | (with_reducible refine Below.alloc ?_ ?_ _) | (with_reducible refine Below.drew ?_) | (with_reducible refine belowN ?_ _) | (with_reducible refine below_after ?_ (by assumption) ?_) | omega | (simp; done) | (simp; omega)))) (h_t.below (by repeat' (first | (with_reducible exact Below.refl _ _) | (with_reducible assumption) | (with_reducible refine Below.setCell ?_ ?_ _) | (with_reducible refine Below.alloc ?_ ?_ _) | (with_reducible refine Below.drew ?_) | (with_reducible refine belowN ?_ _) | (with_reducible refine below_after ?_ (by assumption) ?_) | omega | (simp; done) | (simp; omega))))).mono ?_
    rintro e w1 ⟨rfl, hb1⟩
    have s1 := hb1.size
    (try simp at s1)
    obtain ⟨hc1, hf1⟩ := bcell hb1
    have z1 : w.heap.size < w1.heap.size := by omega
    rw [hc]
    go_wp2_with fail
    refine (impl_within_c _ _ _ _).mono ?_
    rintro e w2 ⟨rfl, hb2⟩
    have s2 := hb2.size
    (try simp at s2)
    obtain ⟨hc2, hf2⟩ := bcell hb2
    have z2 : w.heap.size < w2.heap.size := by omega
    rw [hi]
    go_wp2
    go_ret
    exact ⟨ret_bool (HV.out.symm), (by repeat' (first | (with_reducible exact Below.refl _ _) | (with_reducible assumption) | (with_reducible refine Below.setCell ?_ ?_ _) | (with_reducible refine Below.alloc ?_ ?_ _) | (with_reducible refine Below.drew ?_) | (with_reducible refine belowN ?_ _) | (with_reducible refine below_after ?_ (by assumption) ?_) | omega | (simp; done) | (simp; omega)))⟩
  by_cases hr : res = -1
  rotate_left
  · have HV : Hid (taskTail 0 c inv lin res a = false) := Lib.hid (by simp [taskTail, hl, hr])
    have hl1 : (lin == -1) = true := by simp [hl]
    have hr1 : (res == -1) = false := by simpa using hr
    clear hl hr
    go_enter Try.func29, Try.ntmps29
    go_wp2_with fail
    refine (impl_CallOk_c c _ _ _ (h_o.below (by repeat' (first | (with_reducible exact Below.refl _ _) | (with_reducible assumption) | (with_reducible refine Below.setCell ?_ ?_ _) | (with_reducible refine Below.alloc ?_ ?_ _) | (with_reducible refine Below.drew ?_) | (with_reducible refine belowN ?_ _) | (with_reducible refine below_after ?_ (by assumption) ?_) | omega | (simp; done) | (simp; omega)))) (h_t.below (by repeat' (first | (with_reducible exact Below.refl _ _) | (with_reducible assumption) | (with_reducible refine Below.setCell ?_ ?_ _) | (with_reducible refine Below.alloc ?_ ?_ _) | (with_reducible refine Below.drew ?_) | (with_reducible refine belowN ?_ _) | (with_reducible refine below_after ?_ (by assumption) ?_) | omega | (simp; done) | (simp; omega))))).mono ?_
    rintro e w1 ⟨rfl, hb1⟩
    have s1 := hb1.size
    (try simp at s1)
    obtain ⟨hc1, hf1⟩ := bcell hb1
    have z1 : w.heap.size < w1.heap.size := by omega
    rw [hc]
    go_wp2_with fail
    refine (impl_within_c _ _ _ _).mono ?_
    rintro e w2 ⟨rfl, hb2⟩
    have s2 := hb2.size
    (try simp at s2)
    obtain ⟨hc2, hf2⟩ := bcell hb2
    have z2 : w.heap.size < w2.heap.size := by omega
    rw [hi]
    go_wp2
    go_ret
    exact ⟨ret_bool (HV.out.symm), (by repeat' (first | (with_reducible exact Below.refl _ _) | (with_reducible assumption) | (with_reducible refine Below.setCell ?_ ?_ _) | (with_reducible refine Below.alloc ?_ ?_ _) | (with_reducible refine Below.drew ?_) | (with_reducible refine belowN ?_ _) | (with_reducible refine below_after ?_ (by assumption) ?_) | omega | (simp; done) | (simp; omega)))⟩
  have HV : Hid (taskTail 0 c inv lin res a = decide (a = ⟨0, 0, [], []⟩)) := Lib.hid (by simp [taskTail, hl, hr])
  have hl1 : (lin == -1) = true := by simp [hl]
  have hr1 : (res == -1) = true := by simp [hr]
  clear hl hr
  go_enter Try.func29, Try.ntmps29
  go_wp2_with fail
  refine (impl_CallOk_c c _ _ _ (h_o.below (by repeat' (first | (with_reducible exact Below.refl _ _) | (with_reducible assumption) | (with_reducible refine Below.setCell ?_ ?_ _) | (with_reducible refine Below.alloc ?_ ?_ _) | (with_reducible refine Below.drew ?_) | (with_reducible refine belowN ?_ _) | (with_reducible refine below_after ?_ (by assumption) ?_) | omega | (simp; done) | (simp; omega)))) (h_t.below (by repeat' (first | (with_reducible exact Below.refl _ _) | (with_reducible assumption) | (with_reducible refine Below.setCell ?_ ?_ _) | (with_reducible refine Below.alloc ?_ ?_ _) | (with_reducible refine Below.drew ?_) | (with_reducible refine belowN ?_ _) | (with_reducible refine below_after ?_ (by assumption) ?_) | omega | (simp; done) | (simp; omega))))).mono ?_
  rintro e w1 ⟨rfl, hb1⟩
  have s1 := hb1.size
  (try simp at s1)
  obtain ⟨hc1, hf1⟩ := bcell hb1
  have z1 : w.heap.size < w1.heap.size := by omega
  rw [hc]
  go_wp2_with fail
  refine (impl_within_c _ _ _ _).mono ?_
  rintro e w2 ⟨rfl, hb2⟩
  have s2 := hb2.size
  (try simp at s2)
  obtain ⟨hc2, hf2⟩ := bcell hb2
  have z2 : w.heap.size < w2.heap.size := by omega
  rw [hi]
  go_wp2_with fail
  refine (impl_AnswerSame_c a ⟨0, 0, [], []⟩ _ _ _ _ _ (k_t.below (by repeat' (first | (with_reducible exact Below.refl _ _) | (with_reducible assumption) | (with_reducible refine Below.setCell ?_ ?_ _) | (with_reducible refine Below.alloc ?_ ?_ _) | (with_reducible refine Below.drew ?_) | (with_reducible refine belowN ?_ _) | (with_reducible refine below_after ?_ (by assumption) ?_) | omega | (simp; done) | (simp; omega)))) RdS.nil (k_l.below (by repeat' (first | (with_reducible exact Below.refl _ _) | (with_reducible assumption) | (with_reducible refine Below.setCell ?_ ?_ _) | (with_reducible refine Below.alloc ?_ ?_ _) | (with_reducible refine Below.drew ?_) | (with_reducible refine belowN ?_ _) | (with_reducible refine below_after ?_ (by assumption) ?_) | omega | (simp; done) | (simp; omega)))) RdS.nil).mono ?_
  rintro e w3 ⟨rfl, hb3⟩
  have s3 := hb3.size
  (try simp at s3)
  obtain ⟨hc3, hf3⟩ := bcell hb3
  have z3 : w.heap.size < w3.heap.size := by omega
  go_wp2
  go_ret
  exact ⟨ret_bool (HV.out.symm), (by repeat' (first | (with_reducible exact Below.refl _ _) | (with_reducible assumption) | (with_reducible refine Below.setCell ?_ ?_ _) | (with_reducible refine Below.alloc ?_ ?_ _) | (with_reducible refine Below.drew ?_) | (with_reducible refine belowN ?_ _) | (with_reducible refine below_after ?_ (by assumption) ?_) | omega | (simp; done) | (simp; omega)))⟩
set_option maxHeartbeats 8000000 in
set_option maxRecDepth 100000 in
theorem impl_TaskOk_p1 (c : DCall) (inv lin res : Int) (a : DAnswer) (v_o v_t u_t u_l : Value) (w : World) (h_o : RdS w v_o c.o) (h_t : RdS w v_t c.text) (k_t : RdS w u_t a.text) (k_l : RdS w u_l a.list) (hc : callOk c = true) (hi : within inv 0 1000000 = true) :
    Calls Try.prog 29 #[.agg #[.int .i64 c.kind, .string c.doc, .int .i64 c.client, .int .i64 c.seq, .int .i64 c.n, v_o, v_t, .int .i64 1, .int .i64 inv, .int .i64 lin, .int .i64 res, .int .i64 a.code, .int .i64 a.rev, u_t, u_l]] w (Tells w (.bool (taskTail 1 c inv lin res a))) := by
  by_cases ho : onDoc c.kind = true
  rotate_left
  · have ho : onDoc c.kind = false := by simpa using ho
    have HV : Hid (taskTail 1 c inv lin res a = false) := Lib.hid (by simp [taskTail, ho])
    go_enter Try.func29, Try.ntmps29
    go_wp2_with fail
    refine (impl_CallOk_c c _ _ _ (h_o.below (by repeat' (first | (with_reducible exact Below.refl _ _) | (with_reducible assumption) | (with_reducible refine Below.setCell ?_ ?_ _) | (with_reducible refine Below.alloc ?_ ?_ _) | (with_reducible refine Below.drew ?_) | (with_reducible refine belowN ?_ _) | (with_reducible refine below_after ?_ (by assumption) ?_) | omega | (simp; done) | (simp; omega)))) (h_t.below (by repeat' (first | (with_reducible exact Below.refl _ _) | (with_reducible assumption) | (with_reducible refine Below.setCell ?_ ?_ _) | (with_reducible refine Below.alloc ?_ ?_ _) | (with_reducible refine Below.drew ?_) | (with_reducible refine belowN ?_ _) | (with_reducible refine below_after ?_ (by assumption) ?_) | omega | (simp; done) | (simp; omega))))).mono ?_
    rintro e w1 ⟨rfl, hb1⟩
    have s1 := hb1.size
    (try simp at s1)
    obtain ⟨hc1, hf1⟩ := bcell hb1
    have z1 : w.heap.size < w1.heap.size := by omega
    rw [hc]
    go_wp2_with fail
    refine (impl_within_c _ _ _ _).mono ?_
    rintro e w2 ⟨rfl, hb2⟩
    have s2 := hb2.size
    (try simp at s2)
    obtain ⟨hc2, hf2⟩ := bcell hb2
    have z2 : w.heap.size < w2.heap.size := by omega
    rw [hi]
    go_wp2_with fail
    refine (impl_OnDoc_c _ _).mono ?_
    rintro e w3 ⟨rfl, hb3⟩
    have s3 := hb3.size
    (try simp at s3)
    obtain ⟨hc3, hf3⟩ := bcell hb3
    have z3 : w.heap.size < w3.heap.size := by omega
    rw [ho]
    go_wp2
    go_ret
    exact ⟨ret_bool (HV.out.symm), (by repeat' (first | (with_reducible exact Below.refl _ _) | (with_reducible assumption) | (with_reducible refine Below.setCell ?_ ?_ _) | (with_reducible refine Below.alloc ?_ ?_ _) | (with_reducible refine Below.drew ?_) | (with_reducible refine belowN ?_ _) | (with_reducible refine below_after ?_ (by assumption) ?_) | omega | (simp; done) | (simp; omega)))⟩
  by_cases hl : lin = -1
  rotate_left
  · have HV : Hid (taskTail 1 c inv lin res a = false) := Lib.hid (by simp [taskTail, hl])
    have hl1 : (lin == -1) = false := by simpa using hl
    clear hl
    go_enter Try.func29, Try.ntmps29
    go_wp2_with fail
    refine (impl_CallOk_c c _ _ _ (h_o.below (by repeat' (first | (with_reducible exact Below.refl _ _) | (with_reducible assumption) | (with_reducible refine Below.setCell ?_ ?_ _) | (with_reducible refine Below.alloc ?_ ?_ _) | (with_reducible refine Below.drew ?_) | (with_reducible refine belowN ?_ _) | (with_reducible refine below_after ?_ (by assumption) ?_) | omega | (simp; done) | (simp; omega)))) (h_t.below (by repeat' (first | (with_reducible exact Below.refl _ _) | (with_reducible assumption) | (with_reducible refine Below.setCell ?_ ?_ _) | (with_reducible refine Below.alloc ?_ ?_ _) | (with_reducible refine Below.drew ?_) | (with_reducible refine belowN ?_ _) | (with_reducible refine below_after ?_ (by assumption) ?_) | omega | (simp; done) | (simp; omega))))).mono ?_
    rintro e w1 ⟨rfl, hb1⟩
    have s1 := hb1.size
    (try simp at s1)
    obtain ⟨hc1, hf1⟩ := bcell hb1
    have z1 : w.heap.size < w1.heap.size := by omega
    rw [hc]
    go_wp2_with fail
    refine (impl_within_c _ _ _ _).mono ?_
    rintro e w2 ⟨rfl, hb2⟩
    have s2 := hb2.size
    (try simp at s2)
    obtain ⟨hc2, hf2⟩ := bcell hb2
    have z2 : w.heap.size < w2.heap.size := by omega
    rw [hi]
    go_wp2_with fail
    refine (impl_OnDoc_c _ _).mono ?_
    rintro e w3 ⟨rfl, hb3⟩
    have s3 := hb3.size
    (try simp at s3)
    obtain ⟨hc3, hf3⟩ := bcell hb3
    have z3 : w.heap.size < w3.heap.size := by omega
    rw [ho]
    go_wp2
    go_ret
    exact ⟨ret_bool (HV.out.symm), (by repeat' (first | (with_reducible exact Below.refl _ _) | (with_reducible assumption) | (with_reducible refine Below.setCell ?_ ?_ _) | (with_reducible refine Below.alloc ?_ ?_ _) | (with_reducible refine Below.drew ?_) | (with_reducible refine belowN ?_ _) | (with_reducible refine below_after ?_ (by assumption) ?_) | omega | (simp; done) | (simp; omega)))⟩
  by_cases hr : res = -1
  rotate_left
  · have HV : Hid (taskTail 1 c inv lin res a = false) := Lib.hid (by simp [taskTail, hl, hr])
    have hl1 : (lin == -1) = true := by simp [hl]
    have hr1 : (res == -1) = false := by simpa using hr
    clear hl hr
    go_enter Try.func29, Try.ntmps29
    go_wp2_with fail
    refine (impl_CallOk_c c _ _ _ (h_o.below (by repeat' (first | (with_reducible exact Below.refl _ _) | (with_reducible assumption) | (with_reducible refine Below.setCell ?_ ?_ _) | (with_reducible refine Below.alloc ?_ ?_ _) | (with_reducible refine Below.drew ?_) | (with_reducible refine belowN ?_ _) | (with_reducible refine below_after ?_ (by assumption) ?_) | omega | (simp; done) | (simp; omega)))) (h_t.below (by repeat' (first | (with_reducible exact Below.refl _ _) | (with_reducible assumption) | (with_reducible refine Below.setCell ?_ ?_ _) | (with_reducible refine Below.alloc ?_ ?_ _) | (with_reducible refine Below.drew ?_) | (with_reducible refine belowN ?_ _) | (with_reducible refine below_after ?_ (by assumption) ?_) | omega | (simp; done) | (simp; omega))))).mono ?_
    rintro e w1 ⟨rfl, hb1⟩
    have s1 := hb1.size
    (try simp at s1)
    obtain ⟨hc1, hf1⟩ := bcell hb1
    have z1 : w.heap.size < w1.heap.size := by omega
    rw [hc]
    go_wp2_with fail
    refine (impl_within_c _ _ _ _).mono ?_
    rintro e w2 ⟨rfl, hb2⟩
    have s2 := hb2.size
    (try simp at s2)
    obtain ⟨hc2, hf2⟩ := bcell hb2
    have z2 : w.heap.size < w2.heap.size := by omega
    rw [hi]
    go_wp2_with fail
    refine (impl_OnDoc_c _ _).mono ?_
    rintro e w3 ⟨rfl, hb3⟩
    have s3 := hb3.size
    (try simp at s3)
    obtain ⟨hc3, hf3⟩ := bcell hb3
    have z3 : w.heap.size < w3.heap.size := by omega
    rw [ho]
    go_wp2
    go_ret
    exact ⟨ret_bool (HV.out.symm), (by repeat' (first | (with_reducible exact Below.refl _ _) | (with_reducible assumption) | (with_reducible refine Below.setCell ?_ ?_ _) | (with_reducible refine Below.alloc ?_ ?_ _) | (with_reducible refine Below.drew ?_) | (with_reducible refine belowN ?_ _) | (with_reducible refine below_after ?_ (by assumption) ?_) | omega | (simp; done) | (simp; omega)))⟩
  have HV : Hid (taskTail 1 c inv lin res a = decide (a = ⟨0, 0, [], []⟩)) := Lib.hid (by simp [taskTail, hl, hr, ho])
  have hl1 : (lin == -1) = true := by simp [hl]
  have hr1 : (res == -1) = true := by simp [hr]
  clear hl hr
  go_enter Try.func29, Try.ntmps29
  go_wp2_with fail
  refine (impl_CallOk_c c _ _ _ (h_o.below (by repeat' (first | (with_reducible exact Below.refl _ _) | (with_reducible assumption) | (with_reducible refine Below.setCell ?_ ?_ _) | (with_reducible refine Below.alloc ?_ ?_ _) | (with_reducible refine Below.drew ?_) | (with_reducible refine belowN ?_ _) | (with_reducible refine below_after ?_ (by assumption) ?_) | omega | (simp; done) | (simp; omega)))) (h_t.below (by repeat' (first | (with_reducible exact Below.refl _ _) | (with_reducible assumption) | (with_reducible refine Below.setCell ?_ ?_ _) | (with_reducible refine Below.alloc ?_ ?_ _) | (with_reducible refine Below.drew ?_) | (with_reducible refine belowN ?_ _) | (with_reducible refine below_after ?_ (by assumption) ?_) | omega | (simp; done) | (simp; omega))))).mono ?_
  rintro e w1 ⟨rfl, hb1⟩
  have s1 := hb1.size
  (try simp at s1)
  obtain ⟨hc1, hf1⟩ := bcell hb1
  have z1 : w.heap.size < w1.heap.size := by omega
  rw [hc]
  go_wp2_with fail
  refine (impl_within_c _ _ _ _).mono ?_
  rintro e w2 ⟨rfl, hb2⟩
  have s2 := hb2.size
  (try simp at s2)
  obtain ⟨hc2, hf2⟩ := bcell hb2
  have z2 : w.heap.size < w2.heap.size := by omega
  rw [hi]
  go_wp2_with fail
  refine (impl_OnDoc_c _ _).mono ?_
  rintro e w3 ⟨rfl, hb3⟩
  have s3 := hb3.size
  (try simp at s3)
  obtain ⟨hc3, hf3⟩ := bcell hb3
  have z3 : w.heap.size < w3.heap.size := by omega
  rw [ho]
  go_wp2_with fail
  refine (impl_AnswerSame_c a ⟨0, 0, [], []⟩ _ _ _ _ _ (k_t.below (by repeat' (first | (with_reducible exact Below.refl _ _) | (with_reducible assumption) | (with_reducible refine Below.setCell ?_ ?_ _) | (with_reducible refine Below.alloc ?_ ?_ _) | (with_reducible refine Below.drew ?_) | (with_reducible refine belowN ?_ _) | (with_reducible refine below_after ?_ (by assumption) ?_) | omega | (simp; done) | (simp; omega)))) RdS.nil (k_l.below (by repeat' (first | (with_reducible exact Below.refl _ _) | (with_reducible assumption) | (with_reducible refine Below.setCell ?_ ?_ _) | (with_reducible refine Below.alloc ?_ ?_ _) | (with_reducible refine Below.drew ?_) | (with_reducible refine belowN ?_ _) | (with_reducible refine below_after ?_ (by assumption) ?_) | omega | (simp; done) | (simp; omega)))) RdS.nil).mono ?_
  rintro e w4 ⟨rfl, hb4⟩
  have s4 := hb4.size
  (try simp at s4)
  obtain ⟨hc4, hf4⟩ := bcell hb4
  have z4 : w.heap.size < w4.heap.size := by omega
  go_wp2
  go_ret
  exact ⟨ret_bool (HV.out.symm), (by repeat' (first | (with_reducible exact Below.refl _ _) | (with_reducible assumption) | (with_reducible refine Below.setCell ?_ ?_ _) | (with_reducible refine Below.alloc ?_ ?_ _) | (with_reducible refine Below.drew ?_) | (with_reducible refine belowN ?_ _) | (with_reducible refine below_after ?_ (by assumption) ?_) | omega | (simp; done) | (simp; omega)))⟩
set_option maxHeartbeats 8000000 in
set_option maxRecDepth 100000 in
theorem impl_TaskOk_p2 (c : DCall) (inv lin res : Int) (a : DAnswer) (v_o v_t u_t u_l : Value) (w : World) (h_o : RdS w v_o c.o) (h_t : RdS w v_t c.text) (k_t : RdS w u_t a.text) (k_l : RdS w u_l a.list) (hc : callOk c = true) (hi : within inv 0 1000000 = true) :
    Calls Try.prog 29 #[.agg #[.int .i64 c.kind, .string c.doc, .int .i64 c.client, .int .i64 c.seq, .int .i64 c.n, v_o, v_t, .int .i64 2, .int .i64 inv, .int .i64 lin, .int .i64 res, .int .i64 a.code, .int .i64 a.rev, u_t, u_l]] w (Tells w (.bool (taskTail 2 c inv lin res a))) := by
  by_cases hk : c.kind = 2
  rotate_left
  · have HV : Hid (taskTail 2 c inv lin res a = false) := Lib.hid (by simp [taskTail, hk])
    have hk1 : (c.kind != 2) = true := by simpa using hk
    clear hk
    go_enter Try.func29, Try.ntmps29
    go_wp2_with fail
    refine (impl_CallOk_c c _ _ _ (h_o.below (by repeat' (first | (with_reducible exact Below.refl _ _) | (with_reducible assumption) | (with_reducible refine Below.setCell ?_ ?_ _) | (with_reducible refine Below.alloc ?_ ?_ _) | (with_reducible refine Below.drew ?_) | (with_reducible refine belowN ?_ _) | (with_reducible refine below_after ?_ (by assumption) ?_) | omega | (simp; done) | (simp; omega)))) (h_t.below (by repeat' (first | (with_reducible exact Below.refl _ _) | (with_reducible assumption) | (with_reducible refine Below.setCell ?_ ?_ _) | (with_reducible refine Below.alloc ?_ ?_ _) | (with_reducible refine Below.drew ?_) | (with_reducible refine belowN ?_ _) | (with_reducible refine below_after ?_ (by assumption) ?_) | omega | (simp; done) | (simp; omega))))).mono ?_
    rintro e w1 ⟨rfl, hb1⟩
    have s1 := hb1.size
    (try simp at s1)
    obtain ⟨hc1, hf1⟩ := bcell hb1
    have z1 : w.heap.size < w1.heap.size := by omega
    rw [hc]
    go_wp2_with fail
    refine (impl_within_c _ _ _ _).mono ?_
    rintro e w2 ⟨rfl, hb2⟩
    have s2 := hb2.size
    (try simp at s2)
    obtain ⟨hc2, hf2⟩ := bcell hb2
    have z2 : w.heap.size < w2.heap.size := by omega
    rw [hi]
    go_wp2
    go_ret
    exact ⟨ret_bool (HV.out.symm), (by repeat' (first | (with_reducible exact Below.refl _ _) | (with_reducible assumption) | (with_reducible refine Below.setCell ?_ ?_ _) | (with_reducible refine Below.alloc ?_ ?_ _) | (with_reducible refine Below.drew ?_) | (with_reducible refine belowN ?_ _) | (with_reducible refine below_after ?_ (by assumption) ?_) | omega | (simp; done) | (simp; omega)))⟩
  have hk1 : (c.kind != 2) = false := by simp [hk]
  by_cases hl : lin = -1
  rotate_left
  · have HV : Hid (taskTail 2 c inv lin res a = false) := Lib.hid (by simp [taskTail, hl])
    have hl1 : (lin == -1) = false := by simpa using hl
    clear hl
    clear hk
    go_enter Try.func29, Try.ntmps29
    go_wp2_with fail
    refine (impl_CallOk_c c _ _ _ (h_o.below (by repeat' (first | (with_reducible exact Below.refl _ _) | (with_reducible assumption) | (with_reducible refine Below.setCell ?_ ?_ _) | (with_reducible refine Below.alloc ?_ ?_ _) | (with_reducible refine Below.drew ?_) | (with_reducible refine belowN ?_ _) | (with_reducible refine below_after ?_ (by assumption) ?_) | omega | (simp; done) | (simp; omega)))) (h_t.below (by repeat' (first | (with_reducible exact Below.refl _ _) | (with_reducible assumption) | (with_reducible refine Below.setCell ?_ ?_ _) | (with_reducible refine Below.alloc ?_ ?_ _) | (with_reducible refine Below.drew ?_) | (with_reducible refine belowN ?_ _) | (with_reducible refine below_after ?_ (by assumption) ?_) | omega | (simp; done) | (simp; omega))))).mono ?_
    rintro e w1 ⟨rfl, hb1⟩
    have s1 := hb1.size
    (try simp at s1)
    obtain ⟨hc1, hf1⟩ := bcell hb1
    have z1 : w.heap.size < w1.heap.size := by omega
    rw [hc]
    go_wp2_with fail
    refine (impl_within_c _ _ _ _).mono ?_
    rintro e w2 ⟨rfl, hb2⟩
    have s2 := hb2.size
    (try simp at s2)
    obtain ⟨hc2, hf2⟩ := bcell hb2
    have z2 : w.heap.size < w2.heap.size := by omega
    rw [hi]
    go_wp2
    go_ret
    exact ⟨ret_bool (HV.out.symm), (by repeat' (first | (with_reducible exact Below.refl _ _) | (with_reducible assumption) | (with_reducible refine Below.setCell ?_ ?_ _) | (with_reducible refine Below.alloc ?_ ?_ _) | (with_reducible refine Below.drew ?_) | (with_reducible refine belowN ?_ _) | (with_reducible refine below_after ?_ (by assumption) ?_) | omega | (simp; done) | (simp; omega)))⟩
  by_cases hr : res = -1
  rotate_left
  · have HV : Hid (taskTail 2 c inv lin res a = false) := Lib.hid (by simp [taskTail, hl, hr])
    have hl1 : (lin == -1) = true := by simp [hl]
    have hr1 : (res == -1) = false := by simpa using hr
    clear hl hr
    clear hk
    go_enter Try.func29, Try.ntmps29
    go_wp2_with fail
    refine (impl_CallOk_c c _ _ _ (h_o.below (by repeat' (first | (with_reducible exact Below.refl _ _) | (with_reducible assumption) | (with_reducible refine Below.setCell ?_ ?_ _) | (with_reducible refine Below.alloc ?_ ?_ _) | (with_reducible refine Below.drew ?_) | (with_reducible refine belowN ?_ _) | (with_reducible refine below_after ?_ (by assumption) ?_) | omega | (simp; done) | (simp; omega)))) (h_t.below (by repeat' (first | (with_reducible exact Below.refl _ _) | (with_reducible assumption) | (with_reducible refine Below.setCell ?_ ?_ _) | (with_reducible refine Below.alloc ?_ ?_ _) | (with_reducible refine Below.drew ?_) | (with_reducible refine belowN ?_ _) | (with_reducible refine below_after ?_ (by assumption) ?_) | omega | (simp; done) | (simp; omega))))).mono ?_
    rintro e w1 ⟨rfl, hb1⟩
    have s1 := hb1.size
    (try simp at s1)
    obtain ⟨hc1, hf1⟩ := bcell hb1
    have z1 : w.heap.size < w1.heap.size := by omega
    rw [hc]
    go_wp2_with fail
    refine (impl_within_c _ _ _ _).mono ?_
    rintro e w2 ⟨rfl, hb2⟩
    have s2 := hb2.size
    (try simp at s2)
    obtain ⟨hc2, hf2⟩ := bcell hb2
    have z2 : w.heap.size < w2.heap.size := by omega
    rw [hi]
    go_wp2
    go_ret
    exact ⟨ret_bool (HV.out.symm), (by repeat' (first | (with_reducible exact Below.refl _ _) | (with_reducible assumption) | (with_reducible refine Below.setCell ?_ ?_ _) | (with_reducible refine Below.alloc ?_ ?_ _) | (with_reducible refine Below.drew ?_) | (with_reducible refine belowN ?_ _) | (with_reducible refine below_after ?_ (by assumption) ?_) | omega | (simp; done) | (simp; omega)))⟩
  have HV : Hid (taskTail 2 c inv lin res a = decide (a = ⟨0, 0, [], []⟩)) := Lib.hid (by simp [taskTail, hl, hr, hk])
  have hl1 : (lin == -1) = true := by simp [hl]
  have hr1 : (res == -1) = true := by simp [hr]
  clear hl hr
  clear hk
  go_enter Try.func29, Try.ntmps29
  go_wp2_with fail
  refine (impl_CallOk_c c _ _ _ (h_o.below (by repeat' (first | (with_reducible exact Below.refl _ _) | (with_reducible assumption) | (with_reducible refine Below.setCell ?_ ?_ _) | (with_reducible refine Below.alloc ?_ ?_ _) | (with_reducible refine Below.drew ?_) | (with_reducible refine belowN ?_ _) | (with_reducible refine below_after ?_ (by assumption) ?_) | omega | (simp; done) | (simp; omega)))) (h_t.below (by repeat' (first | (with_reducible exact Below.refl _ _) | (with_reducible assumption) | (with_reducible refine Below.setCell ?_ ?_ _) | (with_reducible refine Below.alloc ?_ ?_ _) | (with_reducible refine Below.drew ?_) | (with_reducible refine belowN ?_ _) | (with_reducible refine below_after ?_ (by assumption) ?_) | omega | (simp; done) | (simp; omega))))).mono ?_
  rintro e w1 ⟨rfl, hb1⟩
  have s1 := hb1.size
  (try simp at s1)
  obtain ⟨hc1, hf1⟩ := bcell hb1
  have z1 : w.heap.size < w1.heap.size := by omega
  rw [hc]
  go_wp2_with fail
  refine (impl_within_c _ _ _ _).mono ?_
  rintro e w2 ⟨rfl, hb2⟩
  have s2 := hb2.size
  (try simp at s2)
  obtain ⟨hc2, hf2⟩ := bcell hb2
  have z2 : w.heap.size < w2.heap.size := by omega
  rw [hi]
  go_wp2_with fail
  refine (impl_AnswerSame_c a ⟨0, 0, [], []⟩ _ _ _ _ _ (k_t.below (by repeat' (first | (with_reducible exact Below.refl _ _) | (with_reducible assumption) | (with_reducible refine Below.setCell ?_ ?_ _) | (with_reducible refine Below.alloc ?_ ?_ _) | (with_reducible refine Below.drew ?_) | (with_reducible refine belowN ?_ _) | (with_reducible refine below_after ?_ (by assumption) ?_) | omega | (simp; done) | (simp; omega)))) RdS.nil (k_l.below (by repeat' (first | (with_reducible exact Below.refl _ _) | (with_reducible assumption) | (with_reducible refine Below.setCell ?_ ?_ _) | (with_reducible refine Below.alloc ?_ ?_ _) | (with_reducible refine Below.drew ?_) | (with_reducible refine belowN ?_ _) | (with_reducible refine below_after ?_ (by assumption) ?_) | omega | (simp; done) | (simp; omega)))) RdS.nil).mono ?_
  rintro e w3 ⟨rfl, hb3⟩
  have s3 := hb3.size
  (try simp at s3)
  obtain ⟨hc3, hf3⟩ := bcell hb3
  have z3 : w.heap.size < w3.heap.size := by omega
  go_wp2
  go_ret
  exact ⟨ret_bool (HV.out.symm), (by repeat' (first | (with_reducible exact Below.refl _ _) | (with_reducible assumption) | (with_reducible refine Below.setCell ?_ ?_ _) | (with_reducible refine Below.alloc ?_ ?_ _) | (with_reducible refine Below.drew ?_) | (with_reducible refine belowN ?_ _) | (with_reducible refine below_after ?_ (by assumption) ?_) | omega | (simp; done) | (simp; omega)))⟩
set_option maxHeartbeats 8000000 in
set_option maxRecDepth 100000 in
theorem impl_TaskOk_p3 (c : DCall) (inv lin res : Int) (a : DAnswer) (v_o v_t u_t u_l : Value) (w : World) (h_o : RdS w v_o c.o) (h_t : RdS w v_t c.text) (k_t : RdS w u_t a.text) (k_l : RdS w u_l a.list) (hc : callOk c = true) (hi : within inv 0 1000000 = true) :
    Calls Try.prog 29 #[.agg #[.int .i64 c.kind, .string c.doc, .int .i64 c.client, .int .i64 c.seq, .int .i64 c.n, v_o, v_t, .int .i64 3, .int .i64 inv, .int .i64 lin, .int .i64 res, .int .i64 a.code, .int .i64 a.rev, u_t, u_l]] w (Tells w (.bool (taskTail 3 c inv lin res a))) := by
  by_cases ha : (a = ⟨11, 0, [], []⟩)
  rotate_left
  · have hd : decide (a = ⟨11, 0, [], []⟩) = false := by simpa using ha
    by_cases hj : within lin inv 1000000 = true
    rotate_left
    · have hj : within lin inv 1000000 = false := by simpa using hj
      have HV : Hid (taskTail 3 c inv lin res a = false) := Lib.hid (by simp [taskTail, hd, hj])
      clear ha
      go_enter Try.func29, Try.ntmps29
      go_wp2_with fail
      refine (impl_CallOk_c c _ _ _ (h_o.below (by repeat' (first | (with_reducible exact Below.refl _ _) | (with_reducible assumption) | (with_reducible refine Below.setCell ?_ ?_ _) | (with_reducible refine Below.alloc ?_ ?_ _) | (with_reducible refine Below.drew ?_) | (with_reducible refine belowN ?_ _) | (with_reducible refine below_after ?_ (by assumption) ?_) | omega | (simp; done) | (simp; omega)))) (h_t.below (by repeat' (first | (with_reducible exact Below.refl _ _) | (with_reducible assumption) | (with_reducible refine Below.setCell ?_ ?_ _) | (with_reducible refine Below.alloc ?_ ?_ _) | (with_reducible refine Below.drew ?_) | (with_reducible refine belowN ?_ _) | (with_reducible refine below_after ?_ (by assumption) ?_) | omega | (simp; done) | (simp; omega))))).mono ?_
      rintro e w1 ⟨rfl, hb1⟩
      have s1 := hb1.size
      (try simp at s1)
      obtain ⟨hc1, hf1⟩ := bcell hb1
      have z1 : w.heap.size < w1.heap.size := by omega
      rw [hc]
      go_wp2_with fail
      refine (impl_within_c _ _ _ _).mono ?_
      rintro e w2 ⟨rfl, hb2⟩
      have s2 := hb2.size
      (try simp at s2)
      obtain ⟨hc2, hf2⟩ := bcell hb2
      have z2 : w.heap.size < w2.heap.size := by omega
      rw [hi]
      go_wp2_with fail
      refine (impl_AnswerSame_c a ⟨11, 0, [], []⟩ _ _ _ _ _ (k_t.below (by repeat' (first | (with_reducible exact Below.refl _ _) | (with_reducible assumption) | (with_reducible refine Below.setCell ?_ ?_ _) | (with_reducible refine Below.alloc ?_ ?_ _) | (with_reducible refine Below.drew ?_) | (with_reducible refine belowN ?_ _) | (with_reducible refine below_after ?_ (by assumption) ?_) | omega | (simp; done) | (simp; omega)))) RdS.nil (k_l.below (by repeat' (first | (with_reducible exact Below.refl _ _) | (with_reducible assumption) | (with_reducible refine Below.setCell ?_ ?_ _) | (with_reducible refine Below.alloc ?_ ?_ _) | (with_reducible refine Below.drew ?_) | (with_reducible refine belowN ?_ _) | (with_reducible refine below_after ?_ (by assumption) ?_) | omega | (simp; done) | (simp; omega)))) RdS.nil).mono ?_
      rintro e w3 ⟨rfl, hb3⟩
      have s3 := hb3.size
      (try simp at s3)
      obtain ⟨hc3, hf3⟩ := bcell hb3
      have z3 : w.heap.size < w3.heap.size := by omega
      rw [hd]
      go_wp2_with fail
      refine (impl_within_c _ _ _ _).mono ?_
      rintro e w4 ⟨rfl, hb4⟩
      have s4 := hb4.size
      (try simp at s4)
      obtain ⟨hc4, hf4⟩ := bcell hb4
      have z4 : w.heap.size < w4.heap.size := by omega
      rw [hj]
      go_wp2
      go_ret
      exact ⟨ret_bool (HV.out.symm), (by repeat' (first | (with_reducible exact Below.refl _ _) | (with_reducible assumption) | (with_reducible refine Below.setCell ?_ ?_ _) | (with_reducible refine Below.alloc ?_ ?_ _) | (with_reducible refine Below.drew ?_) | (with_reducible refine belowN ?_ _) | (with_reducible refine below_after ?_ (by assumption) ?_) | omega | (simp; done) | (simp; omega)))⟩
    have HV : Hid (taskTail 3 c inv lin res a = (res == -1)) := Lib.hid (by simp [taskTail, hd, hj]; rw [Bool.eq_iff_iff]; simp)
    clear ha
    go_enter Try.func29, Try.ntmps29
    go_wp2_with fail
    refine (impl_CallOk_c c _ _ _ (h_o.below (by repeat' (first | (with_reducible exact Below.refl _ _) | (with_reducible assumption) | (with_reducible refine Below.setCell ?_ ?_ _) | (with_reducible refine Below.alloc ?_ ?_ _) | (with_reducible refine Below.drew ?_) | (with_reducible refine belowN ?_ _) | (with_reducible refine below_after ?_ (by assumption) ?_) | omega | (simp; done) | (simp; omega)))) (h_t.below (by repeat' (first | (with_reducible exact Below.refl _ _) | (with_reducible assumption) | (with_reducible refine Below.setCell ?_ ?_ _) | (with_reducible refine Below.alloc ?_ ?_ _) | (with_reducible refine Below.drew ?_) | (with_reducible refine belowN ?_ _) | (with_reducible refine below_after ?_ (by assumption) ?_) | omega | (simp; done) | (simp; omega))))).mono ?_
    rintro e w1 ⟨rfl, hb1⟩
    have s1 := hb1.size
    (try simp at s1)
    obtain ⟨hc1, hf1⟩ := bcell hb1
    have z1 : w.heap.size < w1.heap.size := by omega
    rw [hc]
    go_wp2_with fail
    refine (impl_within_c _ _ _ _).mono ?_
    rintro e w2 ⟨rfl, hb2⟩
    have s2 := hb2.size
    (try simp at s2)
    obtain ⟨hc2, hf2⟩ := bcell hb2
    have z2 : w.heap.size < w2.heap.size := by omega
    rw [hi]
    go_wp2_with fail
    refine (impl_AnswerSame_c a ⟨11, 0, [], []⟩ _ _ _ _ _ (k_t.below (by repeat' (first | (with_reducible exact Below.refl _ _) | (with_reducible assumption) | (with_reducible refine Below.setCell ?_ ?_ _) | (with_reducible refine Below.alloc ?_ ?_ _) | (with_reducible refine Below.drew ?_) | (with_reducible refine belowN ?_ _) | (with_reducible refine below_after ?_ (by assumption) ?_) | omega | (simp; done) | (simp; omega)))) RdS.nil (k_l.below (by repeat' (first | (with_reducible exact Below.refl _ _) | (with_reducible assumption) | (with_reducible refine Below.setCell ?_ ?_ _) | (with_reducible refine Below.alloc ?_ ?_ _) | (with_reducible refine Below.drew ?_) | (with_reducible refine belowN ?_ _) | (with_reducible refine below_after ?_ (by assumption) ?_) | omega | (simp; done) | (simp; omega)))) RdS.nil).mono ?_
    rintro e w3 ⟨rfl, hb3⟩
    have s3 := hb3.size
    (try simp at s3)
    obtain ⟨hc3, hf3⟩ := bcell hb3
    have z3 : w.heap.size < w3.heap.size := by omega
    rw [hd]
    go_wp2_with fail
    refine (impl_within_c _ _ _ _).mono ?_
    rintro e w4 ⟨rfl, hb4⟩
    have s4 := hb4.size
    (try simp at s4)
    obtain ⟨hc4, hf4⟩ := bcell hb4
    have z4 : w.heap.size < w4.heap.size := by omega
    rw [hj]
    go_wp2
    go_ret
    exact ⟨ret_bool (HV.out.symm), (by repeat' (first | (with_reducible exact Below.refl _ _) | (with_reducible assumption) | (with_reducible refine Below.setCell ?_ ?_ _) | (with_reducible refine Below.alloc ?_ ?_ _) | (with_reducible refine Below.drew ?_) | (with_reducible refine belowN ?_ _) | (with_reducible refine below_after ?_ (by assumption) ?_) | omega | (simp; done) | (simp; omega)))⟩
  have hd : decide (a = ⟨11, 0, [], []⟩) = true := by simpa using ha
  clear ha
  by_cases hk : c.kind = 2
  rotate_left
  · have hk1 : (c.kind == 2) = false := by simpa using hk
    by_cases hj : within lin inv 1000000 = true
    rotate_left
    · have hj : within lin inv 1000000 = false := by simpa using hj
      have HV : Hid (taskTail 3 c inv lin res a = false) := Lib.hid (by simp [taskTail, hk, hj])
      clear hk
      go_enter Try.func29, Try.ntmps29
      go_wp2_with fail
      refine (impl_CallOk_c c _ _ _ (h_o.below (by repeat' (first | (with_reducible exact Below.refl _ _) | (with_reducible assumption) | (with_reducible refine Below.setCell ?_ ?_ _) | (with_reducible refine Below.alloc ?_ ?_ _) | (with_reducible refine Below.drew ?_) | (with_reducible refine belowN ?_ _) | (with_reducible refine below_after ?_ (by assumption) ?_) | omega | (simp; done) | (simp; omega)))) (h_t.below (by repeat' (first | (with_reducible exact Below.refl _ _) | (with_reducible assumption) | (with_reducible refine Below.setCell ?_ ?_ _) | (with_reducible refine Below.alloc ?_ ?_ _) | (with_reducible refine Below.drew ?_) | (with_reducible refine belowN ?_ _) | (with_reducible refine below_after ?_ (by assumption) ?_) | omega | (simp; done) | (simp; omega))))).mono ?_
      rintro e w1 ⟨rfl, hb1⟩
      have s1 := hb1.size
      (try simp at s1)
      obtain ⟨hc1, hf1⟩ := bcell hb1
      have z1 : w.heap.size < w1.heap.size := by omega
      rw [hc]
      go_wp2_with fail
      refine (impl_within_c _ _ _ _).mono ?_
      rintro e w2 ⟨rfl, hb2⟩
      have s2 := hb2.size
      (try simp at s2)
      obtain ⟨hc2, hf2⟩ := bcell hb2
      have z2 : w.heap.size < w2.heap.size := by omega
      rw [hi]
      go_wp2_with fail
      refine (impl_AnswerSame_c a ⟨11, 0, [], []⟩ _ _ _ _ _ (k_t.below (by repeat' (first | (with_reducible exact Below.refl _ _) | (with_reducible assumption) | (with_reducible refine Below.setCell ?_ ?_ _) | (with_reducible refine Below.alloc ?_ ?_ _) | (with_reducible refine Below.drew ?_) | (with_reducible refine belowN ?_ _) | (with_reducible refine below_after ?_ (by assumption) ?_) | omega | (simp; done) | (simp; omega)))) RdS.nil (k_l.below (by repeat' (first | (with_reducible exact Below.refl _ _) | (with_reducible assumption) | (with_reducible refine Below.setCell ?_ ?_ _) | (with_reducible refine Below.alloc ?_ ?_ _) | (with_reducible refine Below.drew ?_) | (with_reducible refine belowN ?_ _) | (with_reducible refine below_after ?_ (by assumption) ?_) | omega | (simp; done) | (simp; omega)))) RdS.nil).mono ?_
      rintro e w3 ⟨rfl, hb3⟩
      have s3 := hb3.size
      (try simp at s3)
      obtain ⟨hc3, hf3⟩ := bcell hb3
      have z3 : w.heap.size < w3.heap.size := by omega
      rw [hd]
      go_wp2_with fail
      refine (impl_within_c _ _ _ _).mono ?_
      rintro e w4 ⟨rfl, hb4⟩
      have s4 := hb4.size
      (try simp at s4)
      obtain ⟨hc4, hf4⟩ := bcell hb4
      have z4 : w.heap.size < w4.heap.size := by omega
      rw [hj]
      go_wp2
      go_ret
      exact ⟨ret_bool (HV.out.symm), (by repeat' (first | (with_reducible exact Below.refl _ _) | (with_reducible assumption) | (with_reducible refine Below.setCell ?_ ?_ _) | (with_reducible refine Below.alloc ?_ ?_ _) | (with_reducible refine Below.drew ?_) | (with_reducible refine belowN ?_ _) | (with_reducible refine below_after ?_ (by assumption) ?_) | omega | (simp; done) | (simp; omega)))⟩
    have HV : Hid (taskTail 3 c inv lin res a = (res == -1)) := Lib.hid (by simp [taskTail, hk, hj]; rw [Bool.eq_iff_iff]; simp)
    clear hk
    go_enter Try.func29, Try.ntmps29
    go_wp2_with fail
    refine (impl_CallOk_c c _ _ _ (h_o.below (by repeat' (first | (with_reducible exact Below.refl _ _) | (with_reducible assumption) | (with_reducible refine Below.setCell ?_ ?_ _) | (with_reducible refine Below.alloc ?_ ?_ _) | (with_reducible refine Below.drew ?_) | (with_reducible refine belowN ?_ _) | (with_reducible refine below_after ?_ (by assumption) ?_) | omega | (simp; done) | (simp; omega)))) (h_t.below (by repeat' (first | (with_reducible exact Below.refl _ _) | (with_reducible assumption) | (with_reducible refine Below.setCell ?_ ?_ _) | (with_reducible refine Below.alloc ?_ ?_ _) | (with_reducible refine Below.drew ?_) | (with_reducible refine belowN ?_ _) | (with_reducible refine below_after ?_ (by assumption) ?_) | omega | (simp; done) | (simp; omega))))).mono ?_
    rintro e w1 ⟨rfl, hb1⟩
    have s1 := hb1.size
    (try simp at s1)
    obtain ⟨hc1, hf1⟩ := bcell hb1
    have z1 : w.heap.size < w1.heap.size := by omega
    rw [hc]
    go_wp2_with fail
    refine (impl_within_c _ _ _ _).mono ?_
    rintro e w2 ⟨rfl, hb2⟩
    have s2 := hb2.size
    (try simp at s2)
    obtain ⟨hc2, hf2⟩ := bcell hb2
    have z2 : w.heap.size < w2.heap.size := by omega
    rw [hi]
    go_wp2_with fail
    refine (impl_AnswerSame_c a ⟨11, 0, [], []⟩ _ _ _ _ _ (k_t.below (by repeat' (first | (with_reducible exact Below.refl _ _) | (with_reducible assumption) | (with_reducible refine Below.setCell ?_ ?_ _) | (with_reducible refine Below.alloc ?_ ?_ _) | (with_reducible refine Below.drew ?_) | (with_reducible refine belowN ?_ _) | (with_reducible refine below_after ?_ (by assumption) ?_) | omega | (simp; done) | (simp; omega)))) RdS.nil (k_l.below (by repeat' (first | (with_reducible exact Below.refl _ _) | (with_reducible assumption) | (with_reducible refine Below.setCell ?_ ?_ _) | (with_reducible refine Below.alloc ?_ ?_ _) | (with_reducible refine Below.drew ?_) | (with_reducible refine belowN ?_ _) | (with_reducible refine below_after ?_ (by assumption) ?_) | omega | (simp; done) | (simp; omega)))) RdS.nil).mono ?_
    rintro e w3 ⟨rfl, hb3⟩
    have s3 := hb3.size
    (try simp at s3)
    obtain ⟨hc3, hf3⟩ := bcell hb3
    have z3 : w.heap.size < w3.heap.size := by omega
    rw [hd]
    go_wp2_with fail
    refine (impl_within_c _ _ _ _).mono ?_
    rintro e w4 ⟨rfl, hb4⟩
    have s4 := hb4.size
    (try simp at s4)
    obtain ⟨hc4, hf4⟩ := bcell hb4
    have z4 : w.heap.size < w4.heap.size := by omega
    rw [hj]
    go_wp2
    go_ret
    exact ⟨ret_bool (HV.out.symm), (by repeat' (first | (with_reducible exact Below.refl _ _) | (with_reducible assumption) | (with_reducible refine Below.setCell ?_ ?_ _) | (with_reducible refine Below.alloc ?_ ?_ _) | (with_reducible refine Below.drew ?_) | (with_reducible refine belowN ?_ _) | (with_reducible refine below_after ?_ (by assumption) ?_) | omega | (simp; done) | (simp; omega)))⟩
  have hk1 : (c.kind == 2) = true := by simpa using hk
  by_cases hl : lin = -1
  rotate_left
  · have hl1 : (lin == -1) = false := by simpa using hl
    by_cases hj : within lin inv 1000000 = true
    rotate_left
    · have hj : within lin inv 1000000 = false := by simpa using hj
      have HV : Hid (taskTail 3 c inv lin res a = false) := Lib.hid (by simp [taskTail, hl, hj])
      clear hk hl
      go_enter Try.func29, Try.ntmps29
      go_wp2_with fail
      refine (impl_CallOk_c c _ _ _ (h_o.below (by repeat' (first | (with_reducible exact Below.refl _ _) | (with_reducible assumption) | (with_reducible refine Below.setCell ?_ ?_ _) | (with_reducible refine Below.alloc ?_ ?_ _) | (with_reducible refine Below.drew ?_) | (with_reducible refine belowN ?_ _) | (with_reducible refine below_after ?_ (by assumption) ?_) | omega | (simp; done) | (simp; omega)))) (h_t.below (by repeat' (first | (with_reducible exact Below.refl _ _) | (with_reducible assumption) | (with_reducible refine Below.setCell ?_ ?_ _) | (with_reducible refine Below.alloc ?_ ?_ _) | (with_reducible refine Below.drew ?_) | (with_reducible refine belowN ?_ _) | (with_reducible refine below_after ?_ (by assumption) ?_) | omega | (simp; done) | (simp; omega))))).mono ?_
      rintro e w1 ⟨rfl, hb1⟩
      have s1 := hb1.size
      (try simp at s1)
      obtain ⟨hc1, hf1⟩ := bcell hb1
      have z1 : w.heap.size < w1.heap.size := by omega
      rw [hc]
      go_wp2_with fail
      refine (impl_within_c _ _ _ _).mono ?_
      rintro e w2 ⟨rfl, hb2⟩
      have s2 := hb2.size
      (try simp at s2)
      obtain ⟨hc2, hf2⟩ := bcell hb2
      have z2 : w.heap.size < w2.heap.size := by omega
      rw [hi]
      go_wp2_with fail
      refine (impl_AnswerSame_c a ⟨11, 0, [], []⟩ _ _ _ _ _ (k_t.below (by repeat' (first | (with_reducible exact Below.refl _ _) | (with_reducible assumption) | (with_reducible refine Below.setCell ?_ ?_ _) | (with_reducible refine Below.alloc ?_ ?_ _) | (with_reducible refine Below.drew ?_) | (with_reducible refine belowN ?_ _) | (with_reducible refine below_after ?_ (by assumption) ?_) | omega | (simp; done) | (simp; omega)))) RdS.nil (k_l.below (by repeat' (first | (with_reducible exact Below.refl _ _) | (with_reducible assumption) | (with_reducible refine Below.setCell ?_ ?_ _) | (with_reducible refine Below.alloc ?_ ?_ _) | (with_reducible refine Below.drew ?_) | (with_reducible refine belowN ?_ _) | (with_reducible refine below_after ?_ (by assumption) ?_) | omega | (simp; done) | (simp; omega)))) RdS.nil).mono ?_
      rintro e w3 ⟨rfl, hb3⟩
      have s3 := hb3.size
      (try simp at s3)
      obtain ⟨hc3, hf3⟩ := bcell hb3
      have z3 : w.heap.size < w3.heap.size := by omega
      rw [hd]
      go_wp2_with fail
      refine (impl_within_c _ _ _ _).mono ?_
      rintro e w4 ⟨rfl, hb4⟩
      have s4 := hb4.size
      (try simp at s4)
      obtain ⟨hc4, hf4⟩ := bcell hb4
      have z4 : w.heap.size < w4.heap.size := by omega
      rw [hj]
      go_wp2
      go_ret
      exact ⟨ret_bool (HV.out.symm), (by repeat' (first | (with_reducible exact Below.refl _ _) | (with_reducible assumption) | (with_reducible refine Below.setCell ?_ ?_ _) | (with_reducible refine Below.alloc ?_ ?_ _) | (with_reducible refine Below.drew ?_) | (with_reducible refine belowN ?_ _) | (with_reducible refine below_after ?_ (by assumption) ?_) | omega | (simp; done) | (simp; omega)))⟩
    have HV : Hid (taskTail 3 c inv lin res a = (res == -1)) := Lib.hid (by simp [taskTail, hl, hj]; rw [Bool.eq_iff_iff]; simp)
    clear hk hl
    go_enter Try.func29, Try.ntmps29
    go_wp2_with fail
    refine (impl_CallOk_c c _ _ _ (h_o.below (by repeat' (first | (with_reducible exact Below.refl _ _) | (with_reducible assumption) | (with_reducible refine Below.setCell ?_ ?_ _) | (with_reducible refine Below.alloc ?_ ?_ _) | (with_reducible refine Below.drew ?_) | (with_reducible refine belowN ?_ _) | (with_reducible refine below_after ?_ (by assumption) ?_) | omega | (simp; done) | (simp; omega)))) (h_t.below (by repeat' (first | (with_reducible exact Below.refl _ _) | (with_reducible assumption) | (with_reducible refine Below.setCell ?_ ?_ _) | (with_reducible refine Below.alloc ?_ ?_ _) | (with_reducible refine Below.drew ?_) | (with_reducible refine belowN ?_ _) | (with_reducible refine below_after ?_ (by assumption) ?_) | omega | (simp; done) | (simp; omega))))).mono ?_
    rintro e w1 ⟨rfl, hb1⟩
    have s1 := hb1.size
    (try simp at s1)
    obtain ⟨hc1, hf1⟩ := bcell hb1
    have z1 : w.heap.size < w1.heap.size := by omega
    rw [hc]
    go_wp2_with fail
    refine (impl_within_c _ _ _ _).mono ?_
    rintro e w2 ⟨rfl, hb2⟩
    have s2 := hb2.size
    (try simp at s2)
    obtain ⟨hc2, hf2⟩ := bcell hb2
    have z2 : w.heap.size < w2.heap.size := by omega
    rw [hi]
    go_wp2_with fail
    refine (impl_AnswerSame_c a ⟨11, 0, [], []⟩ _ _ _ _ _ (k_t.below (by repeat' (first | (with_reducible exact Below.refl _ _) | (with_reducible assumption) | (with_reducible refine Below.setCell ?_ ?_ _) | (with_reducible refine Below.alloc ?_ ?_ _) | (with_reducible refine Below.drew ?_) | (with_reducible refine belowN ?_ _) | (with_reducible refine below_after ?_ (by assumption) ?_) | omega | (simp; done) | (simp; omega)))) RdS.nil (k_l.below (by repeat' (first | (with_reducible exact Below.refl _ _) | (with_reducible assumption) | (with_reducible refine Below.setCell ?_ ?_ _) | (with_reducible refine Below.alloc ?_ ?_ _) | (with_reducible refine Below.drew ?_) | (with_reducible refine belowN ?_ _) | (with_reducible refine below_after ?_ (by assumption) ?_) | omega | (simp; done) | (simp; omega)))) RdS.nil).mono ?_
    rintro e w3 ⟨rfl, hb3⟩
    have s3 := hb3.size
    (try simp at s3)
    obtain ⟨hc3, hf3⟩ := bcell hb3
    have z3 : w.heap.size < w3.heap.size := by omega
    rw [hd]
    go_wp2_with fail
    refine (impl_within_c _ _ _ _).mono ?_
    rintro e w4 ⟨rfl, hb4⟩
    have s4 := hb4.size
    (try simp at s4)
    obtain ⟨hc4, hf4⟩ := bcell hb4
    have z4 : w.heap.size < w4.heap.size := by omega
    rw [hj]
    go_wp2
    go_ret
    exact ⟨ret_bool (HV.out.symm), (by repeat' (first | (with_reducible exact Below.refl _ _) | (with_reducible assumption) | (with_reducible refine Below.setCell ?_ ?_ _) | (with_reducible refine Below.alloc ?_ ?_ _) | (with_reducible refine Below.drew ?_) | (with_reducible refine belowN ?_ _) | (with_reducible refine below_after ?_ (by assumption) ?_) | omega | (simp; done) | (simp; omega)))⟩
  have hl1 : (lin == -1) = true := by simpa using hl
  have HV : Hid (taskTail 3 c inv lin res a = (res == -1)) := Lib.hid (by simp [taskTail, hd, hk, hl]; rw [Bool.eq_iff_iff]; simp)
  clear hk hl
  go_enter Try.func29, Try.ntmps29
  go_wp2_with fail
  refine (impl_CallOk_c c _ _ _ (h_o.below (by repeat' (first | (with_reducible exact Below.refl _ _) | (with_reducible assumption) | (with_reducible refine Below.setCell ?_ ?_ _) | (with_reducible refine Below.alloc ?_ ?_ _) | (with_reducible refine Below.drew ?_) | (with_reducible refine belowN ?_ _) | (with_reducible refine below_after ?_ (by assumption) ?_) | omega | (simp; done) | (simp; omega)))) (h_t.below (by repeat' (first | (with_reducible exact Below.refl _ _) | (with_reducible assumption) | (with_reducible refine Below.setCell ?_ ?_ _) | (with_reducible refine Below.alloc ?_ ?_ _) | (with_reducible refine Below.drew ?_) | (with_reducible refine belowN ?_ _) | (with_reducible refine below_after ?_ (by assumption) ?_) | omega | (simp; done) | (simp; omega))))).mono ?_
  rintro e w1 ⟨rfl, hb1⟩
  have s1 := hb1.size
  (try simp at s1)
  obtain ⟨hc1, hf1⟩ := bcell hb1
  have z1 : w.heap.size < w1.heap.size := by omega
  rw [hc]
  go_wp2_with fail
  refine (impl_within_c _ _ _ _).mono ?_
  rintro e w2 ⟨rfl, hb2⟩
  have s2 := hb2.size
  (try simp at s2)
  obtain ⟨hc2, hf2⟩ := bcell hb2
  have z2 : w.heap.size < w2.heap.size := by omega
  rw [hi]
  go_wp2_with fail
  refine (impl_AnswerSame_c a ⟨11, 0, [], []⟩ _ _ _ _ _ (k_t.below (by repeat' (first | (with_reducible exact Below.refl _ _) | (with_reducible assumption) | (with_reducible refine Below.setCell ?_ ?_ _) | (with_reducible refine Below.alloc ?_ ?_ _) | (with_reducible refine Below.drew ?_) | (with_reducible refine belowN ?_ _) | (with_reducible refine below_after ?_ (by assumption) ?_) | omega | (simp; done) | (simp; omega)))) RdS.nil (k_l.below (by repeat' (first | (with_reducible exact Below.refl _ _) | (with_reducible assumption) | (with_reducible refine Below.setCell ?_ ?_ _) | (with_reducible refine Below.alloc ?_ ?_ _) | (with_reducible refine Below.drew ?_) | (with_reducible refine belowN ?_ _) | (with_reducible refine below_after ?_ (by assumption) ?_) | omega | (simp; done) | (simp; omega)))) RdS.nil).mono ?_
  rintro e w3 ⟨rfl, hb3⟩
  have s3 := hb3.size
  (try simp at s3)
  obtain ⟨hc3, hf3⟩ := bcell hb3
  have z3 : w.heap.size < w3.heap.size := by omega
  rw [hd]
  go_wp2
  go_ret
  exact ⟨ret_bool (HV.out.symm), (by repeat' (first | (with_reducible exact Below.refl _ _) | (with_reducible assumption) | (with_reducible refine Below.setCell ?_ ?_ _) | (with_reducible refine Below.alloc ?_ ?_ _) | (with_reducible refine Below.drew ?_) | (with_reducible refine belowN ?_ _) | (with_reducible refine below_after ?_ (by assumption) ?_) | omega | (simp; done) | (simp; omega)))⟩
set_option maxHeartbeats 8000000 in
set_option maxRecDepth 100000 in
theorem impl_TaskOk_p4 (c : DCall) (inv lin res : Int) (a : DAnswer) (v_o v_t u_t u_l : Value) (w : World) (h_o : RdS w v_o c.o) (h_t : RdS w v_t c.text) (k_t : RdS w u_t a.text) (k_l : RdS w u_l a.list) (hc : callOk c = true) (hi : within inv 0 1000000 = true) :
    Calls Try.prog 29 #[.agg #[.int .i64 c.kind, .string c.doc, .int .i64 c.client, .int .i64 c.seq, .int .i64 c.n, v_o, v_t, .int .i64 4, .int .i64 inv, .int .i64 lin, .int .i64 res, .int .i64 a.code, .int .i64 a.rev, u_t, u_l]] w (Tells w (.bool (taskTail 4 c inv lin res a))) := by
  by_cases ha : (a = ⟨11, 0, [], []⟩)
  rotate_left
  · have hd : decide (a = ⟨11, 0, [], []⟩) = false := by simpa using ha
    by_cases hj : within lin inv 1000000 = true
    rotate_left
    · have hj : within lin inv 1000000 = false := by simpa using hj
      have HV : Hid (taskTail 4 c inv lin res a = false) := Lib.hid (by simp [taskTail, hd, hj])
      clear ha
      go_enter Try.func29, Try.ntmps29
      go_wp2_with fail
      refine (impl_CallOk_c c _ _ _ (h_o.below (by repeat' (first | (with_reducible exact Below.refl _ _) | (with_reducible assumption) | (with_reducible refine Below.setCell ?_ ?_ _) | (with_reducible refine Below.alloc ?_ ?_ _) | (with_reducible refine Below.drew ?_) | (with_reducible refine belowN ?_ _) | (with_reducible refine below_after ?_ (by assumption) ?_) | omega | (simp; done) | (simp; omega)))) (h_t.below (by repeat' (first | (with_reducible exact Below.refl _ _) | (with_reducible assumption) | (with_reducible refine Below.setCell ?_ ?_ _) | (with_reducible refine Below.alloc ?_ ?_ _) | (with_reducible refine Below.drew ?_) | (with_reducible refine belowN ?_ _) | (with_reducible refine below_after ?_ (by assumption) ?_) | omega | (simp; done) | (simp; omega))))).mono ?_
      rintro e w1 ⟨rfl, hb1⟩
      have s1 := hb1.size
      (try simp at s1)
      obtain ⟨hc1, hf1⟩ := bcell hb1
      have z1 : w.heap.size < w1.heap.size := by omega
      rw [hc]
      go_wp2_with fail
      refine (impl_within_c _ _ _ _).mono ?_
      rintro e w2 ⟨rfl, hb2⟩
      have s2 := hb2.size
      (try simp at s2)
      obtain ⟨hc2, hf2⟩ := bcell hb2
      have z2 : w.heap.size < w2.heap.size := by omega
      rw [hi]
      go_wp2_with fail
      refine (impl_AnswerSame_c a ⟨11, 0, [], []⟩ _ _ _ _ _ (k_t.below (by repeat' (first | (with_reducible exact Below.refl _ _) | (with_reducible assumption) | (with_reducible refine Below.setCell ?_ ?_ _) | (with_reducible refine Below.alloc ?_ ?_ _) | (with_reducible refine Below.drew ?_) | (with_reducible refine belowN ?_ _) | (with_reducible refine below_after ?_ (by assumption) ?_) | omega | (simp; done) | (simp; omega)))) RdS.nil (k_l.below (by repeat' (first | (with_reducible exact Below.refl _ _) | (with_reducible assumption) | (with_reducible refine Below.setCell ?_ ?_ _) | (with_reducible refine Below.alloc ?_ ?_ _) | (with_reducible refine Below.drew ?_) | (with_reducible refine belowN ?_ _) | (with_reducible refine below_after ?_ (by assumption) ?_) | omega | (simp; done) | (simp; omega)))) RdS.nil).mono ?_
      rintro e w3 ⟨rfl, hb3⟩
      have s3 := hb3.size
      (try simp at s3)
      obtain ⟨hc3, hf3⟩ := bcell hb3
      have z3 : w.heap.size < w3.heap.size := by omega
      rw [hd]
      go_wp2_with fail
      refine (impl_within_c _ _ _ _).mono ?_
      rintro e w4 ⟨rfl, hb4⟩
      have s4 := hb4.size
      (try simp at s4)
      obtain ⟨hc4, hf4⟩ := bcell hb4
      have z4 : w.heap.size < w4.heap.size := by omega
      rw [hj]
      go_wp2
      go_ret
      exact ⟨ret_bool (HV.out.symm), (by repeat' (first | (with_reducible exact Below.refl _ _) | (with_reducible assumption) | (with_reducible refine Below.setCell ?_ ?_ _) | (with_reducible refine Below.alloc ?_ ?_ _) | (with_reducible refine Below.drew ?_) | (with_reducible refine belowN ?_ _) | (with_reducible refine below_after ?_ (by assumption) ?_) | omega | (simp; done) | (simp; omega)))⟩
    by_cases hm : inv < lin
    · have HV : Hid (taskTail 4 c inv lin res a = within res lin 1000000) := Lib.hid (by rw [show within res lin 1000000 = within res (max inv lin) 1000000 from by congr 1; omega, within_max]; simp [taskTail, hd, hj])
      clear ha
      have m1 : decide (inv < lin) = true := by simpa using hm
      have m2 : ¬ lin < inv := by omega
      have m3 : inv ≤ lin := by omega
      have m4 : ¬ lin ≤ inv := by omega
      go_enter Try.func29, Try.ntmps29
      go_wp2_with fail
      refine (impl_CallOk_c c _ _ _ (h_o.below (by repeat' (first | (with_reducible exact Below.refl _ _) | (with_reducible assumption) | (with_reducible refine Below.setCell ?_ ?_ _) | (with_reducible refine Below.alloc ?_ ?_ _) | (with_reducible refine Below.drew ?_) | (with_reducible refine belowN ?_ _) | (with_reducible refine below_after ?_ (by assumption) ?_) | omega | (simp; done) | (simp; omega)))) (h_t.below (by repeat' (first | (with_reducible exact Below.refl _ _) | (with_reducible assumption) | (with_reducible refine Below.setCell ?_ ?_ _) | (with_reducible refine Below.alloc ?_ ?_ _) | (with_reducible refine Below.drew ?_) | (with_reducible refine belowN ?_ _) | (with_reducible refine below_after ?_ (by assumption) ?_) | omega | (simp; done) | (simp; omega))))).mono ?_
      rintro e w1 ⟨rfl, hb1⟩
      have s1 := hb1.size
      (try simp at s1)
      obtain ⟨hc1, hf1⟩ := bcell hb1
      have z1 : w.heap.size < w1.heap.size := by omega
      rw [hc]
      go_wp2_with fail
      refine (impl_within_c _ _ _ _).mono ?_
      rintro e w2 ⟨rfl, hb2⟩
      have s2 := hb2.size
      (try simp at s2)
      obtain ⟨hc2, hf2⟩ := bcell hb2
      have z2 : w.heap.size < w2.heap.size := by omega
      rw [hi]
      go_wp2_with fail
      refine (impl_AnswerSame_c a ⟨11, 0, [], []⟩ _ _ _ _ _ (k_t.below (by repeat' (first | (with_reducible exact Below.refl _ _) | (with_reducible assumption) | (with_reducible refine Below.setCell ?_ ?_ _) | (with_reducible refine Below.alloc ?_ ?_ _) | (with_reducible refine Below.drew ?_) | (with_reducible refine belowN ?_ _) | (with_reducible refine below_after ?_ (by assumption) ?_) | omega | (simp; done) | (simp; omega)))) RdS.nil (k_l.below (by repeat' (first | (with_reducible exact Below.refl _ _) | (with_reducible assumption) | (with_reducible refine Below.setCell ?_ ?_ _) | (with_reducible refine Below.alloc ?_ ?_ _) | (with_reducible refine Below.drew ?_) | (with_reducible refine belowN ?_ _) | (with_reducible refine below_after ?_ (by assumption) ?_) | omega | (simp; done) | (simp; omega)))) RdS.nil).mono ?_
      rintro e w3 ⟨rfl, hb3⟩
      have s3 := hb3.size
      (try simp at s3)
      obtain ⟨hc3, hf3⟩ := bcell hb3
      have z3 : w.heap.size < w3.heap.size := by omega
      rw [hd]
      go_wp2_with fail
      refine (impl_within_c _ _ _ _).mono ?_
      rintro e w4 ⟨rfl, hb4⟩
      have s4 := hb4.size
      (try simp at s4)
      obtain ⟨hc4, hf4⟩ := bcell hb4
      have z4 : w.heap.size < w4.heap.size := by omega
      rw [hj]
      go_wp2_with fail
      refine (impl_within_c _ _ _ _).mono ?_
      rintro e w5 ⟨rfl, hb5⟩
      have s5 := hb5.size
      (try simp at s5)
      obtain ⟨hc5, hf5⟩ := bcell hb5
      have z5 : w.heap.size < w5.heap.size := by omega
      go_wp2
      go_ret
      exact ⟨ret_bool (HV.out.symm), (by repeat' (first | (with_reducible exact Below.refl _ _) | (with_reducible assumption) | (with_reducible refine Below.setCell ?_ ?_ _) | (with_reducible refine Below.alloc ?_ ?_ _) | (with_reducible refine Below.drew ?_) | (with_reducible refine belowN ?_ _) | (with_reducible refine below_after ?_ (by assumption) ?_) | omega | (simp; done) | (simp; omega)))⟩
    · have HV : Hid (taskTail 4 c inv lin res a = within res inv 1000000) := Lib.hid (by rw [show within res inv 1000000 = within res (max inv lin) 1000000 from by congr 1; omega, within_max]; simp [taskTail, hd, hj])
      clear ha
      have m1 : decide (inv < lin) = false := by simpa using hm
      have m3 : lin ≤ inv := by omega
      go_enter Try.func29, Try.ntmps29
      go_wp2_with fail
      refine (impl_CallOk_c c _ _ _ (h_o.below (by repeat' (first | (with_reducible exact Below.refl _ _) | (with_reducible assumption) | (with_reducible refine Below.setCell ?_ ?_ _) | (with_reducible refine Below.alloc ?_ ?_ _) | (with_reducible refine Below.drew ?_) | (with_reducible refine belowN ?_ _) | (with_reducible refine below_after ?_ (by assumption) ?_) | omega | (simp; done) | (simp; omega)))) (h_t.below (by repeat' (first | (with_reducible exact Below.refl _ _) | (with_reducible assumption) | (with_reducible refine Below.setCell ?_ ?_ _) | (with_reducible refine Below.alloc ?_ ?_ _) | (with_reducible refine Below.drew ?_) | (with_reducible refine belowN ?_ _) | (with_reducible refine below_after ?_ (by assumption) ?_) | omega | (simp; done) | (simp; omega))))).mono ?_
      rintro e w1 ⟨rfl, hb1⟩
      have s1 := hb1.size
      (try simp at s1)
      obtain ⟨hc1, hf1⟩ := bcell hb1
      have z1 : w.heap.size < w1.heap.size := by omega
      rw [hc]
      go_wp2_with fail
      refine (impl_within_c _ _ _ _).mono ?_
      rintro e w2 ⟨rfl, hb2⟩
      have s2 := hb2.size
      (try simp at s2)
      obtain ⟨hc2, hf2⟩ := bcell hb2
      have z2 : w.heap.size < w2.heap.size := by omega
      rw [hi]
      go_wp2_with fail
      refine (impl_AnswerSame_c a ⟨11, 0, [], []⟩ _ _ _ _ _ (k_t.below (by repeat' (first | (with_reducible exact Below.refl _ _) | (with_reducible assumption) | (with_reducible refine Below.setCell ?_ ?_ _) | (with_reducible refine Below.alloc ?_ ?_ _) | (with_reducible refine Below.drew ?_) | (with_reducible refine belowN ?_ _) | (with_reducible refine below_after ?_ (by assumption) ?_) | omega | (simp; done) | (simp; omega)))) RdS.nil (k_l.below (by repeat' (first | (with_reducible exact Below.refl _ _) | (with_reducible assumption) | (with_reducible refine Below.setCell ?_ ?_ _) | (with_reducible refine Below.alloc ?_ ?_ _) | (with_reducible refine Below.drew ?_) | (with_reducible refine belowN ?_ _) | (with_reducible refine below_after ?_ (by assumption) ?_) | omega | (simp; done) | (simp; omega)))) RdS.nil).mono ?_
      rintro e w3 ⟨rfl, hb3⟩
      have s3 := hb3.size
      (try simp at s3)
      obtain ⟨hc3, hf3⟩ := bcell hb3
      have z3 : w.heap.size < w3.heap.size := by omega
      rw [hd]
      go_wp2_with fail
      refine (impl_within_c _ _ _ _).mono ?_
      rintro e w4 ⟨rfl, hb4⟩
      have s4 := hb4.size
      (try simp at s4)
      obtain ⟨hc4, hf4⟩ := bcell hb4
      have z4 : w.heap.size < w4.heap.size := by omega
      rw [hj]
      go_wp2_with fail
      refine (impl_within_c _ _ _ _).mono ?_
      rintro e w5 ⟨rfl, hb5⟩
      have s5 := hb5.size
      (try simp at s5)
      obtain ⟨hc5, hf5⟩ := bcell hb5
      have z5 : w.heap.size < w5.heap.size := by omega
      go_wp2
      go_ret
      exact ⟨ret_bool (HV.out.symm), (by repeat' (first | (with_reducible exact Below.refl _ _) | (with_reducible assumption) | (with_reducible refine Below.setCell ?_ ?_ _) | (with_reducible refine Below.alloc ?_ ?_ _) | (with_reducible refine Below.drew ?_) | (with_reducible refine belowN ?_ _) | (with_reducible refine below_after ?_ (by assumption) ?_) | omega | (simp; done) | (simp; omega)))⟩
  have hd : decide (a = ⟨11, 0, [], []⟩) = true := by simpa using ha
  clear ha
  by_cases hk : c.kind = 2
  rotate_left
  · have hk1 : (c.kind == 2) = false := by simpa using hk
    by_cases hj : within lin inv 1000000 = true
    rotate_left
    · have hj : within lin inv 1000000 = false := by simpa using hj
      have HV : Hid (taskTail 4 c inv lin res a = false) := Lib.hid (by simp [taskTail, hk, hj])
      clear hk
      go_enter Try.func29, Try.ntmps29
      go_wp2_with fail
      refine (impl_CallOk_c c _ _ _ (h_o.below (by repeat' (first | (with_reducible exact Below.refl _ _) | (with_reducible assumption) | (with_reducible refine Below.setCell ?_ ?_ _) | (with_reducible refine Below.alloc ?_ ?_ _) | (with_reducible refine Below.drew ?_) | (with_reducible refine belowN ?_ _) | (with_reducible refine below_after ?_ (by assumption) ?_) | omega | (simp; done) | (simp; omega)))) (h_t.below (by repeat' (first | (with_reducible exact Below.refl _ _) | (with_reducible assumption) | (with_reducible refine Below.setCell ?_ ?_ _) | (with_reducible refine Below.alloc ?_ ?_ _) | (with_reducible refine Below.drew ?_) | (with_reducible refine belowN ?_ _) | (with_reducible refine below_after ?_ (by assumption) ?_) | omega | (simp; done) | (simp; omega))))).mono ?_
      rintro e w1 ⟨rfl, hb1⟩
      have s1 := hb1.size
      (try simp at s1)
      obtain ⟨hc1, hf1⟩ := bcell hb1
      have z1 : w.heap.size < w1.heap.size := by omega
      rw [hc]
      go_wp2_with fail
      refine (impl_within_c _ _ _ _).mono ?_
      rintro e w2 ⟨rfl, hb2⟩
      have s2 := hb2.size
      (try simp at s2)
      obtain ⟨hc2, hf2⟩ := bcell hb2
      have z2 : w.heap.size < w2.heap.size := by omega
      rw [hi]
      go_wp2_with fail
      refine (impl_AnswerSame_c a ⟨11, 0, [], []⟩ _ _ _ _ _ (k_t.below (by repeat' (first | (with_reducible exact Below.refl _ _) | (with_reducible assumption) | (with_reducible refine Below.setCell ?_ ?_ _) | (with_reducible refine Below.alloc ?_ ?_ _) | (with_reducible refine Below.drew ?_) | (with_reducible refine belowN ?_ _) | (with_reducible refine below_after ?_ (by assumption) ?_) | omega | (simp; done) | (simp; omega)))) RdS.nil (k_l.below (by repeat' (first | (with_reducible exact Below.refl _ _) | (with_reducible assumption) | (with_reducible refine Below.setCell ?_ ?_ _) | (with_reducible refine Below.alloc ?_ ?_ _) | (with_reducible refine Below.drew ?_) | (with_reducible refine belowN ?_ _) | (with_reducible refine below_after ?_ (by assumption) ?_) | omega | (simp; done) | (simp; omega)))) RdS.nil).mono ?_
      rintro e w3 ⟨rfl, hb3⟩
      have s3 := hb3.size
      (try simp at s3)
      obtain ⟨hc3, hf3⟩ := bcell hb3
      have z3 : w.heap.size < w3.heap.size := by omega
      rw [hd]
      go_wp2_with fail
      refine (impl_within_c _ _ _ _).mono ?_
      rintro e w4 ⟨rfl, hb4⟩
      have s4 := hb4.size
      (try simp at s4)
      obtain ⟨hc4, hf4⟩ := bcell hb4
      have z4 : w.heap.size < w4.heap.size := by omega
      rw [hj]
      go_wp2
      go_ret
      exact ⟨ret_bool (HV.out.symm), (by repeat' (first | (with_reducible exact Below.refl _ _) | (with_reducible assumption) | (with_reducible refine Below.setCell ?_ ?_ _) | (with_reducible refine Below.alloc ?_ ?_ _) | (with_reducible refine Below.drew ?_) | (with_reducible refine belowN ?_ _) | (with_reducible refine below_after ?_ (by assumption) ?_) | omega | (simp; done) | (simp; omega)))⟩
    by_cases hm : inv < lin
    · have HV : Hid (taskTail 4 c inv lin res a = within res lin 1000000) := Lib.hid (by rw [show within res lin 1000000 = within res (max inv lin) 1000000 from by congr 1; omega, within_max]; simp [taskTail, hk, hj])
      clear hk
      have m1 : decide (inv < lin) = true := by simpa using hm
      have m2 : ¬ lin < inv := by omega
      have m3 : inv ≤ lin := by omega
      have m4 : ¬ lin ≤ inv := by omega
      go_enter Try.func29, Try.ntmps29
      go_wp2_with fail
      refine (impl_CallOk_c c _ _ _ (h_o.below (by repeat' (first | (with_reducible exact Below.refl _ _) | (with_reducible assumption) | (with_reducible refine Below.setCell ?_ ?_ _) | (with_reducible refine Below.alloc ?_ ?_ _) | (with_reducible refine Below.drew ?_) | (with_reducible refine belowN ?_ _) | (with_reducible refine below_after ?_ (by assumption) ?_) | omega | (simp; done) | (simp; omega)))) (h_t.below (by repeat' (first | (with_reducible exact Below.refl _ _) | (with_reducible assumption) | (with_reducible refine Below.setCell ?_ ?_ _) | (with_reducible refine Below.alloc ?_ ?_ _) | (with_reducible refine Below.drew ?_) | (with_reducible refine belowN ?_ _) | (with_reducible refine below_after ?_ (by assumption) ?_) | omega | (simp; done) | (simp; omega))))).mono ?_
      rintro e w1 ⟨rfl, hb1⟩
      have s1 := hb1.size
      (try simp at s1)
      obtain ⟨hc1, hf1⟩ := bcell hb1
      have z1 : w.heap.size < w1.heap.size := by omega
      rw [hc]
      go_wp2_with fail
      refine (impl_within_c _ _ _ _).mono ?_
      rintro e w2 ⟨rfl, hb2⟩
      have s2 := hb2.size
      (try simp at s2)
      obtain ⟨hc2, hf2⟩ := bcell hb2
      have z2 : w.heap.size < w2.heap.size := by omega
      rw [hi]
      go_wp2_with fail
      refine (impl_AnswerSame_c a ⟨11, 0, [], []⟩ _ _ _ _ _ (k_t.below (by repeat' (first | (with_reducible exact Below.refl _ _) | (with_reducible assumption) | (with_reducible refine Below.setCell ?_ ?_ _) | (with_reducible refine Below.alloc ?_ ?_ _) | (with_reducible refine Below.drew ?_) | (with_reducible refine belowN ?_ _) | (with_reducible refine below_after ?_ (by assumption) ?_) | omega | (simp; done) | (simp; omega)))) RdS.nil (k_l.below (by repeat' (first | (with_reducible exact Below.refl _ _) | (with_reducible assumption) | (with_reducible refine Below.setCell ?_ ?_ _) | (with_reducible refine Below.alloc ?_ ?_ _) | (with_reducible refine Below.drew ?_) | (with_reducible refine belowN ?_ _) | (with_reducible refine below_after ?_ (by assumption) ?_) | omega | (simp; done) | (simp; omega)))) RdS.nil).mono ?_
      rintro e w3 ⟨rfl, hb3⟩
      have s3 := hb3.size
      (try simp at s3)
      obtain ⟨hc3, hf3⟩ := bcell hb3
      have z3 : w.heap.size < w3.heap.size := by omega
      rw [hd]
      go_wp2_with fail
      refine (impl_within_c _ _ _ _).mono ?_
      rintro e w4 ⟨rfl, hb4⟩
      have s4 := hb4.size
      (try simp at s4)
      obtain ⟨hc4, hf4⟩ := bcell hb4
      have z4 : w.heap.size < w4.heap.size := by omega
      rw [hj]
      go_wp2_with fail
      refine (impl_within_c _ _ _ _).mono ?_
      rintro e w5 ⟨rfl, hb5⟩
      have s5 := hb5.size
      (try simp at s5)
      obtain ⟨hc5, hf5⟩ := bcell hb5
      have z5 : w.heap.size < w5.heap.size := by omega
      go_wp2
      go_ret
      exact ⟨ret_bool (HV.out.symm), (by repeat' (first | (with_reducible exact Below.refl _ _) | (with_reducible assumption) | (with_reducible refine Below.setCell ?_ ?_ _) | (with_reducible refine Below.alloc ?_ ?_ _) | (with_reducible refine Below.drew ?_) | (with_reducible refine belowN ?_ _) | (with_reducible refine below_after ?_ (by assumption) ?_) | omega | (simp; done) | (simp; omega)))⟩
    · have HV : Hid (taskTail 4 c inv lin res a = within res inv 1000000) := Lib.hid (by rw [show within res inv 1000000 = within res (max inv lin) 1000000 from by congr 1; omega, within_max]; simp [taskTail, hk, hj])
      clear hk
      have m1 : decide (inv < lin) = false := by simpa using hm
      have m3 : lin ≤ inv := by omega
      go_enter Try.func29, Try.ntmps29
      go_wp2_with fail
      refine (impl_CallOk_c c _ _ _ (h_o.below (by repeat' (first | (with_reducible exact Below.refl _ _) | (with_reducible assumption) | (with_reducible refine Below.setCell ?_ ?_ _) | (with_reducible refine Below.alloc ?_ ?_ _) | (with_reducible refine Below.drew ?_) | (with_reducible refine belowN ?_ _) | (with_reducible refine below_after ?_ (by assumption) ?_) | omega | (simp; done) | (simp; omega)))) (h_t.below (by repeat' (first | (with_reducible exact Below.refl _ _) | (with_reducible assumption) | (with_reducible refine Below.setCell ?_ ?_ _) | (with_reducible refine Below.alloc ?_ ?_ _) | (with_reducible refine Below.drew ?_) | (with_reducible refine belowN ?_ _) | (with_reducible refine below_after ?_ (by assumption) ?_) | omega | (simp; done) | (simp; omega))))).mono ?_
      rintro e w1 ⟨rfl, hb1⟩
      have s1 := hb1.size
      (try simp at s1)
      obtain ⟨hc1, hf1⟩ := bcell hb1
      have z1 : w.heap.size < w1.heap.size := by omega
      rw [hc]
      go_wp2_with fail
      refine (impl_within_c _ _ _ _).mono ?_
      rintro e w2 ⟨rfl, hb2⟩
      have s2 := hb2.size
      (try simp at s2)
      obtain ⟨hc2, hf2⟩ := bcell hb2
      have z2 : w.heap.size < w2.heap.size := by omega
      rw [hi]
      go_wp2_with fail
      refine (impl_AnswerSame_c a ⟨11, 0, [], []⟩ _ _ _ _ _ (k_t.below (by repeat' (first | (with_reducible exact Below.refl _ _) | (with_reducible assumption) | (with_reducible refine Below.setCell ?_ ?_ _) | (with_reducible refine Below.alloc ?_ ?_ _) | (with_reducible refine Below.drew ?_) | (with_reducible refine belowN ?_ _) | (with_reducible refine below_after ?_ (by assumption) ?_) | omega | (simp; done) | (simp; omega)))) RdS.nil (k_l.below (by repeat' (first | (with_reducible exact Below.refl _ _) | (with_reducible assumption) | (with_reducible refine Below.setCell ?_ ?_ _) | (with_reducible refine Below.alloc ?_ ?_ _) | (with_reducible refine Below.drew ?_) | (with_reducible refine belowN ?_ _) | (with_reducible refine below_after ?_ (by assumption) ?_) | omega | (simp; done) | (simp; omega)))) RdS.nil).mono ?_
      rintro e w3 ⟨rfl, hb3⟩
      have s3 := hb3.size
      (try simp at s3)
      obtain ⟨hc3, hf3⟩ := bcell hb3
      have z3 : w.heap.size < w3.heap.size := by omega
      rw [hd]
      go_wp2_with fail
      refine (impl_within_c _ _ _ _).mono ?_
      rintro e w4 ⟨rfl, hb4⟩
      have s4 := hb4.size
      (try simp at s4)
      obtain ⟨hc4, hf4⟩ := bcell hb4
      have z4 : w.heap.size < w4.heap.size := by omega
      rw [hj]
      go_wp2_with fail
      refine (impl_within_c _ _ _ _).mono ?_
      rintro e w5 ⟨rfl, hb5⟩
      have s5 := hb5.size
      (try simp at s5)
      obtain ⟨hc5, hf5⟩ := bcell hb5
      have z5 : w.heap.size < w5.heap.size := by omega
      go_wp2
      go_ret
      exact ⟨ret_bool (HV.out.symm), (by repeat' (first | (with_reducible exact Below.refl _ _) | (with_reducible assumption) | (with_reducible refine Below.setCell ?_ ?_ _) | (with_reducible refine Below.alloc ?_ ?_ _) | (with_reducible refine Below.drew ?_) | (with_reducible refine belowN ?_ _) | (with_reducible refine below_after ?_ (by assumption) ?_) | omega | (simp; done) | (simp; omega)))⟩
  have hk1 : (c.kind == 2) = true := by simpa using hk
  by_cases hl : lin = -1
  rotate_left
  · have hl1 : (lin == -1) = false := by simpa using hl
    by_cases hj : within lin inv 1000000 = true
    rotate_left
    · have hj : within lin inv 1000000 = false := by simpa using hj
      have HV : Hid (taskTail 4 c inv lin res a = false) := Lib.hid (by simp [taskTail, hl, hj])
      clear hk hl
      go_enter Try.func29, Try.ntmps29
      go_wp2_with fail
      refine (impl_CallOk_c c _ _ _ (h_o.below (by repeat' (first | (with_reducible exact Below.refl _ _) | (with_reducible assumption) | (with_reducible refine Below.setCell ?_ ?_ _) | (with_reducible refine Below.alloc ?_ ?_ _) | (with_reducible refine Below.drew ?_) | (with_reducible refine belowN ?_ _) | (with_reducible refine below_after ?_ (by assumption) ?_) | omega | (simp; done) | (simp; omega)))) (h_t.below (by repeat' (first | (with_reducible exact Below.refl _ _) | (with_reducible assumption) | (with_reducible refine Below.setCell ?_ ?_ _) | (with_reducible refine Below.alloc ?_ ?_ _) | (with_reducible refine Below.drew ?_) | (with_reducible refine belowN ?_ _) | (with_reducible refine below_after ?_ (by assumption) ?_) | omega | (simp; done) | (simp; omega))))).mono ?_
      rintro e w1 ⟨rfl, hb1⟩
      have s1 := hb1.size
      (try simp at s1)
      obtain ⟨hc1, hf1⟩ := bcell hb1
      have z1 : w.heap.size < w1.heap.size := by omega
      rw [hc]
      go_wp2_with fail
      refine (impl_within_c _ _ _ _).mono ?_
      rintro e w2 ⟨rfl, hb2⟩
      have s2 := hb2.size
      (try simp at s2)
      obtain ⟨hc2, hf2⟩ := bcell hb2
      have z2 : w.heap.size < w2.heap.size := by omega
      rw [hi]
      go_wp2_with fail
      refine (impl_AnswerSame_c a ⟨11, 0, [], []⟩ _ _ _ _ _ (k_t.below (by repeat' (first | (with_reducible exact Below.refl _ _) | (with_reducible assumption) | (with_reducible refine Below.setCell ?_ ?_ _) | (with_reducible refine Below.alloc ?_ ?_ _) | (with_reducible refine Below.drew ?_) | (with_reducible refine belowN ?_ _) | (with_reducible refine below_after ?_ (by assumption) ?_) | omega | (simp; done) | (simp; omega)))) RdS.nil (k_l.below (by repeat' (first | (with_reducible exact Below.refl _ _) | (with_reducible assumption) | (with_reducible refine Below.setCell ?_ ?_ _) | (with_reducible refine Below.alloc ?_ ?_ _) | (with_reducible refine Below.drew ?_) | (with_reducible refine belowN ?_ _) | (with_reducible refine below_after ?_ (by assumption) ?_) | omega | (simp; done) | (simp; omega)))) RdS.nil).mono ?_
      rintro e w3 ⟨rfl, hb3⟩
      have s3 := hb3.size
      (try simp at s3)
      obtain ⟨hc3, hf3⟩ := bcell hb3
      have z3 : w.heap.size < w3.heap.size := by omega
      rw [hd]
      go_wp2_with fail
      refine (impl_within_c _ _ _ _).mono ?_
      rintro e w4 ⟨rfl, hb4⟩
      have s4 := hb4.size
      (try simp at s4)
      obtain ⟨hc4, hf4⟩ := bcell hb4
      have z4 : w.heap.size < w4.heap.size := by omega
      rw [hj]
      go_wp2
      go_ret
      exact ⟨ret_bool (HV.out.symm), (by repeat' (first | (with_reducible exact Below.refl _ _) | (with_reducible assumption) | (with_reducible refine Below.setCell ?_ ?_ _) | (with_reducible refine Below.alloc ?_ ?_ _) | (with_reducible refine Below.drew ?_) | (with_reducible refine belowN ?_ _) | (with_reducible refine below_after ?_ (by assumption) ?_) | omega | (simp; done) | (simp; omega)))⟩
    by_cases hm : inv < lin
    · have HV : Hid (taskTail 4 c inv lin res a = within res lin 1000000) := Lib.hid (by rw [show within res lin 1000000 = within res (max inv lin) 1000000 from by congr 1; omega, within_max]; simp [taskTail, hl, hj])
      clear hk hl
      have m1 : decide (inv < lin) = true := by simpa using hm
      have m2 : ¬ lin < inv := by omega
      have m3 : inv ≤ lin := by omega
      have m4 : ¬ lin ≤ inv := by omega
      go_enter Try.func29, Try.ntmps29
      go_wp2_with fail
      refine (impl_CallOk_c c _ _ _ (h_o.below (by repeat' (first | (with_reducible exact Below.refl _ _) | (with_reducible assumption) | (with_reducible refine Below.setCell ?_ ?_ _) | (with_reducible refine Below.alloc ?_ ?_ _) | (with_reducible refine Below.drew ?_) | (with_reducible refine belowN ?_ _) | (with_reducible refine below_after ?_ (by assumption) ?_) | omega | (simp; done) | (simp; omega)))) (h_t.below (by repeat' (first | (with_reducible exact Below.refl _ _) | (with_reducible assumption) | (with_reducible refine Below.setCell ?_ ?_ _) | (with_reducible refine Below.alloc ?_ ?_ _) | (with_reducible refine Below.drew ?_) | (with_reducible refine belowN ?_ _) | (with_reducible refine below_after ?_ (by assumption) ?_) | omega | (simp; done) | (simp; omega))))).mono ?_
      rintro e w1 ⟨rfl, hb1⟩
      have s1 := hb1.size
      (try simp at s1)
      obtain ⟨hc1, hf1⟩ := bcell hb1
      have z1 : w.heap.size < w1.heap.size := by omega
      rw [hc]
      go_wp2_with fail
      refine (impl_within_c _ _ _ _).mono ?_
      rintro e w2 ⟨rfl, hb2⟩
      have s2 := hb2.size
      (try simp at s2)
      obtain ⟨hc2, hf2⟩ := bcell hb2
      have z2 : w.heap.size < w2.heap.size := by omega
      rw [hi]
      go_wp2_with fail
      refine (impl_AnswerSame_c a ⟨11, 0, [], []⟩ _ _ _ _ _ (k_t.below (by repeat' (first | (with_reducible exact Below.refl _ _) | (with_reducible assumption) | (with_reducible refine Below.setCell ?_ ?_ _) | (with_reducible refine Below.alloc ?_ ?_ _) | (with_reducible refine Below.drew ?_) | (with_reducible refine belowN ?_ _) | (with_reducible refine below_after ?_ (by assumption) ?_) | omega | (simp; done) | (simp; omega)))) RdS.nil (k_l.below (by repeat' (first | (with_reducible exact Below.refl _ _) | (with_reducible assumption) | (with_reducible refine Below.setCell ?_ ?_ _) | (with_reducible refine Below.alloc ?_ ?_ _) | (with_reducible refine Below.drew ?_) | (with_reducible refine belowN ?_ _) | (with_reducible refine below_after ?_ (by assumption) ?_) | omega | (simp; done) | (simp; omega)))) RdS.nil).mono ?_
      rintro e w3 ⟨rfl, hb3⟩
      have s3 := hb3.size
      (try simp at s3)
      obtain ⟨hc3, hf3⟩ := bcell hb3
      have z3 : w.heap.size < w3.heap.size := by omega
      rw [hd]
      go_wp2_with fail
      refine (impl_within_c _ _ _ _).mono ?_
      rintro e w4 ⟨rfl, hb4⟩
      have s4 := hb4.size
      (try simp at s4)
      obtain ⟨hc4, hf4⟩ := bcell hb4
      have z4 : w.heap.size < w4.heap.size := by omega
      rw [hj]
      go_wp2_with fail
      refine (impl_within_c _ _ _ _).mono ?_
      rintro e w5 ⟨rfl, hb5⟩
      have s5 := hb5.size
      (try simp at s5)
      obtain ⟨hc5, hf5⟩ := bcell hb5
      have z5 : w.heap.size < w5.heap.size := by omega
      go_wp2
      go_ret
      exact ⟨ret_bool (HV.out.symm), (by repeat' (first | (with_reducible exact Below.refl _ _) | (with_reducible assumption) | (with_reducible refine Below.setCell ?_ ?_ _) | (with_reducible refine Below.alloc ?_ ?_ _) | (with_reducible refine Below.drew ?_) | (with_reducible refine belowN ?_ _) | (with_reducible refine below_after ?_ (by assumption) ?_) | omega | (simp; done) | (simp; omega)))⟩
    · have HV : Hid (taskTail 4 c inv lin res a = within res inv 1000000) := Lib.hid (by rw [show within res inv 1000000 = within res (max inv lin) 1000000 from by congr 1; omega, within_max]; simp [taskTail, hl, hj])
      clear hk hl
      have m1 : decide (inv < lin) = false := by simpa using hm
      have m3 : lin ≤ inv := by omega
      go_enter Try.func29, Try.ntmps29
      go_wp2_with fail
      refine (impl_CallOk_c c _ _ _ (h_o.below (by repeat' (first | (with_reducible exact Below.refl _ _) | (with_reducible assumption) | (with_reducible refine Below.setCell ?_ ?_ _) | (with_reducible refine Below.alloc ?_ ?_ _) | (with_reducible refine Below.drew ?_) | (with_reducible refine belowN ?_ _) | (with_reducible refine below_after ?_ (by assumption) ?_) | omega | (simp; done) | (simp; omega)))) (h_t.below (by repeat' (first | (with_reducible exact Below.refl _ _) | (with_reducible assumption) | (with_reducible refine Below.setCell ?_ ?_ _) | (with_reducible refine Below.alloc ?_ ?_ _) | (with_reducible refine Below.drew ?_) | (with_reducible refine belowN ?_ _) | (with_reducible refine below_after ?_ (by assumption) ?_) | omega | (simp; done) | (simp; omega))))).mono ?_
      rintro e w1 ⟨rfl, hb1⟩
      have s1 := hb1.size
      (try simp at s1)
      obtain ⟨hc1, hf1⟩ := bcell hb1
      have z1 : w.heap.size < w1.heap.size := by omega
      rw [hc]
      go_wp2_with fail
      refine (impl_within_c _ _ _ _).mono ?_
      rintro e w2 ⟨rfl, hb2⟩
      have s2 := hb2.size
      (try simp at s2)
      obtain ⟨hc2, hf2⟩ := bcell hb2
      have z2 : w.heap.size < w2.heap.size := by omega
      rw [hi]
      go_wp2_with fail
      refine (impl_AnswerSame_c a ⟨11, 0, [], []⟩ _ _ _ _ _ (k_t.below (by repeat' (first | (with_reducible exact Below.refl _ _) | (with_reducible assumption) | (with_reducible refine Below.setCell ?_ ?_ _) | (with_reducible refine Below.alloc ?_ ?_ _) | (with_reducible refine Below.drew ?_) | (with_reducible refine belowN ?_ _) | (with_reducible refine below_after ?_ (by assumption) ?_) | omega | (simp; done) | (simp; omega)))) RdS.nil (k_l.below (by repeat' (first | (with_reducible exact Below.refl _ _) | (with_reducible assumption) | (with_reducible refine Below.setCell ?_ ?_ _) | (with_reducible refine Below.alloc ?_ ?_ _) | (with_reducible refine Below.drew ?_) | (with_reducible refine belowN ?_ _) | (with_reducible refine below_after ?_ (by assumption) ?_) | omega | (simp; done) | (simp; omega)))) RdS.nil).mono ?_
      rintro e w3 ⟨rfl, hb3⟩
      have s3 := hb3.size
      (try simp at s3)
      obtain ⟨hc3, hf3⟩ := bcell hb3
      have z3 : w.heap.size < w3.heap.size := by omega
      rw [hd]
      go_wp2_with fail
      refine (impl_within_c _ _ _ _).mono ?_
      rintro e w4 ⟨rfl, hb4⟩
      have s4 := hb4.size
      (try simp at s4)
      obtain ⟨hc4, hf4⟩ := bcell hb4
      have z4 : w.heap.size < w4.heap.size := by omega
      rw [hj]
      go_wp2_with fail
      refine (impl_within_c _ _ _ _).mono ?_
      rintro e w5 ⟨rfl, hb5⟩
      have s5 := hb5.size
      (try simp at s5)
      obtain ⟨hc5, hf5⟩ := bcell hb5
      have z5 : w.heap.size < w5.heap.size := by omega
      go_wp2
      go_ret
      exact ⟨ret_bool (HV.out.symm), (by repeat' (first | (with_reducible exact Below.refl _ _) | (with_reducible assumption) | (with_reducible refine Below.setCell ?_ ?_ _) | (with_reducible refine Below.alloc ?_ ?_ _) | (with_reducible refine Below.drew ?_) | (with_reducible refine belowN ?_ _) | (with_reducible refine below_after ?_ (by assumption) ?_) | omega | (simp; done) | (simp; omega)))⟩
  have hl1 : (lin == -1) = true := by simpa using hl
  by_cases hm : inv < lin
  · have HV : Hid (taskTail 4 c inv lin res a = within res lin 1000000) := Lib.hid (by rw [show within res lin 1000000 = within res (max inv lin) 1000000 from by congr 1; omega, within_max]; simp [taskTail, hd, hk, hl])
    clear hk hl
    have m1 : decide (inv < lin) = true := by simpa using hm
    have m2 : ¬ lin < inv := by omega
    have m3 : inv ≤ lin := by omega
    have m4 : ¬ lin ≤ inv := by omega
    go_enter Try.func29, Try.ntmps29
    go_wp2_with fail
    refine (impl_CallOk_c c _ _ _ (h_o.below (by repeat' (first | (with_reducible exact Below.refl _ _) | (with_reducible assumption) | (with_reducible refine Below.setCell ?_ ?_ _) | (with_reducible refine Below.alloc ?_ ?_ _) | (with_reducible refine Below.drew ?_) | (with_reducible refine belowN ?_ _) | (with_reducible refine below_after ?_ (by assumption) ?_) | omega | (simp; done) | (simp; omega)))) (h_t.below (by repeat' (first | (with_reducible exact Below.refl _ _) | (with_reducible assumption) | (with_reducible refine Below.setCell ?_ ?_ _) | (with_reducible refine Below.alloc ?_ ?_ _) | (with_reducible refine Below.drew ?_) | (with_reducible refine belowN ?_ _) | (with_reducible refine below_after ?_ (by assumption) ?_) | omega | (simp; done) | (simp; omega))))).mono ?_
    rintro e w1 ⟨rfl, hb1⟩
    have s1 := hb1.size
    (try simp at s1)
    obtain ⟨hc1, hf1⟩ := bcell hb1
    have z1 : w.heap.size < w1.heap.size := by omega
    rw [hc]
    go_wp2_with fail
    refine (impl_within_c _ _ _ _).mono ?_
    rintro e w2 ⟨rfl, hb2⟩
    have s2 := hb2.size
    (try simp at s2)
    obtain ⟨hc2, hf2⟩ := bcell hb2
    have z2 : w.heap.size < w2.heap.size := by omega
    rw [hi]
    go_wp2_with fail
    refine (impl_AnswerSame_c a ⟨11, 0, [], []⟩ _ _ _ _ _ (k_t.below (by repeat' (first | (with_reducible exact Below.refl _ _) | (with_reducible assumption) | (with_reducible refine Below.setCell ?_ ?_ _) | (with_reducible refine Below.alloc ?_ ?_ _) | (with_reducible refine Below.drew ?_) | (with_reducible refine belowN ?_ _) | (with_reducible refine below_after ?_ (by assumption) ?_) | omega | (simp; done) | (simp; omega)))) RdS.nil (k_l.below (by repeat' (first | (with_reducible exact Below.refl _ _) | (with_reducible assumption) | (with_reducible refine Below.setCell ?_ ?_ _) | (with_reducible refine Below.alloc ?_ ?_ _) | (with_reducible refine Below.drew ?_) | (with_reducible refine belowN ?_ _) | (with_reducible refine below_after ?_ (by assumption) ?_) | omega | (simp; done) | (simp; omega)))) RdS.nil).mono ?_
    rintro e w3 ⟨rfl, hb3⟩
    have s3 := hb3.size
    (try simp at s3)
    obtain ⟨hc3, hf3⟩ := bcell hb3
    have z3 : w.heap.size < w3.heap.size := by omega
    rw [hd]
    go_wp2_with fail
    refine (impl_within_c _ _ _ _).mono ?_
    rintro e w4 ⟨rfl, hb4⟩
    have s4 := hb4.size
    (try simp at s4)
    obtain ⟨hc4, hf4⟩ := bcell hb4
    have z4 : w.heap.size < w4.heap.size := by omega
    go_wp2
    go_ret
    exact ⟨ret_bool (HV.out.symm), (by repeat' (first | (with_reducible exact Below.refl _ _) | (with_reducible assumption) | (with_reducible refine Below.setCell ?_ ?_ _) | (with_reducible refine Below.alloc ?_ ?_ _) | (with_reducible refine Below.drew ?_) | (with_reducible refine belowN ?_ _) | (with_reducible refine below_after ?_ (by assumption) ?_) | omega | (simp; done) | (simp; omega)))⟩
  · have HV : Hid (taskTail 4 c inv lin res a = within res inv 1000000) := Lib.hid (by rw [show within res inv 1000000 = within res (max inv lin) 1000000 from by congr 1; omega, within_max]; simp [taskTail, hd, hk, hl])
    clear hk hl
    have m1 : decide (inv < lin) = false := by simpa using hm
    have m3 : lin ≤ inv := by omega
    go_enter Try.func29, Try.ntmps29
    go_wp2_with fail
    refine (impl_CallOk_c c _ _ _ (h_o.below (by repeat' (first | (with_reducible exact Below.refl _ _) | (with_reducible assumption) | (with_reducible refine Below.setCell ?_ ?_ _) | (with_reducible refine Below.alloc ?_ ?_ _) | (with_reducible refine Below.drew ?_) | (with_reducible refine belowN ?_ _) | (with_reducible refine below_after ?_ (by assumption) ?_) | omega | (simp; done) | (simp; omega)))) (h_t.below (by repeat' (first | (with_reducible exact Below.refl _ _) | (with_reducible assumption) | (with_reducible refine Below.setCell ?_ ?_ _) | (with_reducible refine Below.alloc ?_ ?_ _) | (with_reducible refine Below.drew ?_) | (with_reducible refine belowN ?_ _) | (with_reducible refine below_after ?_ (by assumption) ?_) | omega | (simp; done) | (simp; omega))))).mono ?_
    rintro e w1 ⟨rfl, hb1⟩
    have s1 := hb1.size
    (try simp at s1)
    obtain ⟨hc1, hf1⟩ := bcell hb1
    have z1 : w.heap.size < w1.heap.size := by omega
    rw [hc]
    go_wp2_with fail
    refine (impl_within_c _ _ _ _).mono ?_
    rintro e w2 ⟨rfl, hb2⟩
    have s2 := hb2.size
    (try simp at s2)
    obtain ⟨hc2, hf2⟩ := bcell hb2
    have z2 : w.heap.size < w2.heap.size := by omega
    rw [hi]
    go_wp2_with fail
    refine (impl_AnswerSame_c a ⟨11, 0, [], []⟩ _ _ _ _ _ (k_t.below (by repeat' (first | (with_reducible exact Below.refl _ _) | (with_reducible assumption) | (with_reducible refine Below.setCell ?_ ?_ _) | (with_reducible refine Below.alloc ?_ ?_ _) | (with_reducible refine Below.drew ?_) | (with_reducible refine belowN ?_ _) | (with_reducible refine below_after ?_ (by assumption) ?_) | omega | (simp; done) | (simp; omega)))) RdS.nil (k_l.below (by repeat' (first | (with_reducible exact Below.refl _ _) | (with_reducible assumption) | (with_reducible refine Below.setCell ?_ ?_ _) | (with_reducible refine Below.alloc ?_ ?_ _) | (with_reducible refine Below.drew ?_) | (with_reducible refine belowN ?_ _) | (with_reducible refine below_after ?_ (by assumption) ?_) | omega | (simp; done) | (simp; omega)))) RdS.nil).mono ?_
    rintro e w3 ⟨rfl, hb3⟩
    have s3 := hb3.size
    (try simp at s3)
    obtain ⟨hc3, hf3⟩ := bcell hb3
    have z3 : w.heap.size < w3.heap.size := by omega
    rw [hd]
    go_wp2_with fail
    refine (impl_within_c _ _ _ _).mono ?_
    rintro e w4 ⟨rfl, hb4⟩
    have s4 := hb4.size
    (try simp at s4)
    obtain ⟨hc4, hf4⟩ := bcell hb4
    have z4 : w.heap.size < w4.heap.size := by omega
    go_wp2
    go_ret
    exact ⟨ret_bool (HV.out.symm), (by repeat' (first | (with_reducible exact Below.refl _ _) | (with_reducible assumption) | (with_reducible refine Below.setCell ?_ ?_ _) | (with_reducible refine Below.alloc ?_ ?_ _) | (with_reducible refine Below.drew ?_) | (with_reducible refine belowN ?_ _) | (with_reducible refine below_after ?_ (by assumption) ?_) | omega | (simp; done) | (simp; omega)))⟩
theorem impl_TaskOk_c (t : DTask) (v_o v_t u_t u_l : Value) (w : World) (h_o : RdS w v_o t.c.o) (h_t : RdS w v_t t.c.text) (k_t : RdS w u_t t.a.text) (k_l : RdS w u_l t.a.list) :
    Calls Try.prog 29 #[.agg #[.int .i64 t.c.kind, .string t.c.doc, .int .i64 t.c.client, .int .i64 t.c.seq, .int .i64 t.c.n, v_o, v_t, .int .i64 t.pc, .int .i64 t.inv, .int .i64 t.lin, .int .i64 t.res, .int .i64 t.a.code, .int .i64 t.a.rev, u_t, u_l]] w (Tells w (.bool (taskOk t))) := by
  by_cases hc : callOk t.c = true
  · by_cases hi : within t.inv 0 1000000 = true
    · by_cases hp : within t.pc 0 4 = true
      · have e : taskOk t = taskTail t.pc t.c t.inv t.lin t.res t.a := by simp [taskOk, hc, hi, hp]
        rw [e]
        rw [within_iff] at hp
        obtain ⟨c, pc, inv, lin, res, a⟩ := t
        simp only at hp hc hi h_o h_t k_t k_l ⊢
        have : pc = 0 ∨ pc = 1 ∨ pc = 2 ∨ pc = 3 ∨ pc = 4 := by omega
        rcases this with rfl | rfl | rfl | rfl | rfl
        · exact impl_TaskOk_p0 c inv lin res a v_o v_t u_t u_l w h_o h_t k_t k_l hc hi
        · exact impl_TaskOk_p1 c inv lin res a v_o v_t u_t u_l w h_o h_t k_t k_l hc hi
        · exact impl_TaskOk_p2 c inv lin res a v_o v_t u_t u_l w h_o h_t k_t k_l hc hi
        · exact impl_TaskOk_p3 c inv lin res a v_o v_t u_t u_l w h_o h_t k_t k_l hc hi
        · exact impl_TaskOk_p4 c inv lin res a v_o v_t u_t u_l w h_o h_t k_t k_l hc hi
      · have e : taskOk t = false := by simp [taskOk, hp]
        rw [e]
        exact impl_TaskOk_e3 t.c t.inv t.lin t.res t.a v_o v_t u_t u_l w h_o h_t k_t k_l t.pc hc hi (by simpa using hp)
    · have e : taskOk t = false := by simp [taskOk, hi]
      rw [e]
      exact impl_TaskOk_e2 t.c t.inv t.lin t.res t.a v_o v_t u_t u_l w h_o h_t k_t k_l t.pc hc (by simpa using hi)
  · have e : taskOk t = false := by simp [taskOk, hc]
    rw [e]
    exact impl_TaskOk_e1 t.c t.inv t.lin t.res t.a v_o v_t u_t u_l w h_o h_t k_t k_l t.pc (by simpa using hc)
end Go.Proofs.Ytihbmefidbmmdaa
