/- A world at rest: the reference and the program ask each task. -/
import Derived.Test.YtfbkhaaijbhadaaHub1
import Derived.Test.YtfbkhaaijbhadaaEq4
import Derived.Test.YtfbkhaaijbhadaaPl
namespace Go.Proofs.Ytfbkhaaijbhadaa
open Go.RowKit
def restW (x : DWorld) : Bool := x.tasks.all fun t => decide (t.pc = 4)
set_option maxHeartbeats 2000000 in
set_option maxRecDepth 100000 in
theorem spec_Rest_c (x : DWorld) (v_d v_s v_l v_q v_t : Value) (w : World) (h : RdS w v_t x.tasks) :
    Calls Try.prog 43 #[.agg #[.bool x.h.shut, v_d, v_s, .int .i64 x.h.last, v_l, v_q, v_t, .int .i64 x.step]] w (Tells w (.bool (restW x))) := by
  have hl := fun w1 ty => h.len Try.underlying90 w1 ty
  have ba := h.le
  go_enter Try.func43, Try.ntmps43
  go_wp2
  go_loopw [8] (fun i wr => ∃ k : Nat, k ≤ x.tasks.length ∧ i = .int .i64 k ∧ (∀ j < k, ∀ y, x.tasks[j]? = some y → decide (y.pc = 4) = true) ∧ Below w.heap.size w wr) (fun i _ => x.tasks.length - (intOf i).toNat)
  case atStart => exact ⟨0, Nat.zero_le _, rfl, fun _ h => absurd h (Nat.not_lt_zero _), (by repeat' (first | (with_reducible exact Below.refl _ _) | (with_reducible assumption) | (with_reducible refine Below.setCell ?_ ?_ _) | (with_reducible refine Below.alloc ?_ ?_ _) | (with_reducible refine Below.drew ?_) | (with_reducible refine belowN ?_ _) | (with_reducible refine below_after ?_ (by assumption) ?_) | omega | (simp; done) | (simp; omega)))⟩
  case round =>
    obtain ⟨k, hk, rfl, hj, hbw⟩ := hrel
    have hsz := hbw.size
    have HJ := Lib.hid hj; clear hj
    by_cases hlt : k < x.tasks.length
    · obtain ⟨t, hx⟩ := get_some hlt
      obtain ⟨b1, o1, cs, h1, h2, h3⟩ := (h.below hbw).idx Try.underlying90 szi_DTask k hx
      obtain ⟨v1, v2, v3, v4, rfl, _, r1, r2, r3, r4⟩ := inv_DTask h3
      have q0 := h2.zero
      have q1 := h2 1 _ rfl
      have q2 := h2 2 _ rfl
      have q3 := h2 3 _ rfl
      have q4 := h2 4 _ rfl
      have q5 := h2 5 _ rfl
      have q6 := h2 6 _ rfl
      have q7 := h2 7 _ rfl
      have q8 := h2 8 _ rfl
      have q9 := h2 9 _ rfl
      have q10 := h2 10 _ rfl
      have q11 := h2 11 _ rfl
      have q12 := h2 12 _ rfl
      have q13 := h2 13 _ rfl
      have q14 := h2 14 _ rfl
      obtain ⟨a1, c1, rfl⟩ := r1.isSlice
      obtain ⟨a2, c2, rfl⟩ := r2.isSlice
      obtain ⟨a3, c3, rfl⟩ := r3.isSlice
      obtain ⟨a4, c4, rfl⟩ := r4.isSlice
      have HX := Lib.hid hx; clear hx
      by_cases e : t.pc = 4
      · have E2 := Lib.hid (dec_t e)
        have e1 : (t.pc != 4) = false := by simp [e]
        clear e
        go_wp2
        go_roundw
        case rel => exact ⟨k + 1, by omega, by go_num, yes_step HX.out E2.out HJ.out, (by repeat' (first | (with_reducible exact Below.refl _ _) | (with_reducible assumption) | (with_reducible refine Below.setCell ?_ ?_ _) | (with_reducible refine Below.alloc ?_ ?_ _) | (with_reducible refine Below.drew ?_) | (with_reducible refine belowN ?_ _) | (with_reducible refine below_after ?_ (by assumption) ?_) | omega | (simp; done) | (simp; omega)))⟩
        case measure => simp [intOf]; omega
      · have HN : Hid (restW x = false) := Lib.hid (all_no HX.out (dec_f e))
        have e1 : (t.pc != 4) = true := by simpa using e
        clear e
        go_wp2
        go_ret
        exact ⟨ret_bool HN.out.symm, (by repeat' (first | (with_reducible exact Below.refl _ _) | (with_reducible assumption) | (with_reducible refine Below.setCell ?_ ?_ _) | (with_reducible refine Below.alloc ?_ ?_ _) | (with_reducible refine Below.drew ?_) | (with_reducible refine belowN ?_ _) | (with_reducible refine below_after ?_ (by assumption) ?_) | omega | (simp; done) | (simp; omega)))⟩
    · have HN : Hid (restW x = true) := Lib.hid (all_yes fun j hj => HJ.out j (by omega))
      go_wp2
      go_ret
      exact ⟨ret_bool HN.out.symm, (by repeat' (first | (with_reducible exact Below.refl _ _) | (with_reducible assumption) | (with_reducible refine Below.setCell ?_ ?_ _) | (with_reducible refine Below.alloc ?_ ?_ _) | (with_reducible refine Below.drew ?_) | (with_reducible refine belowN ?_ _) | (with_reducible refine below_after ?_ (by assumption) ?_) | omega | (simp; done) | (simp; omega)))⟩
theorem impl_Rest_f (t : DTask) (v1 v2 v3 v4 : Value) (w : World) :
    Calls Try.prog 91 #[.agg #[.int .i64 t.c.kind, .string t.c.doc, .int .i64 t.c.client, .int .i64 t.c.seq, .int .i64 t.c.n, v1, v2, .int .i64 t.pc, .int .i64 t.inv, .int .i64 t.lin, .int .i64 t.res, .int .i64 t.a.code, .int .i64 t.a.rev, v3, v4]] w (Tells w (.bool (t.pc != 4))) := by
  go_enter Try.func91, Try.ntmps91
  go_wp2
  go_ret
  exact ⟨rfl, (by repeat' (first | (with_reducible exact Below.refl _ _) | (with_reducible assumption) | (with_reducible refine Below.setCell ?_ ?_ _) | (with_reducible refine Below.alloc ?_ ?_ _) | (with_reducible refine Below.drew ?_) | (with_reducible refine belowN ?_ _) | (with_reducible refine below_after ?_ (by assumption) ?_) | omega | (simp; done) | (simp; omega)))⟩
theorem firstIdx_all {α : Type} (p : α → Bool) (l : List α) : decide (0 ≤ firstIdx p l) = !(l.all fun x => !p x) := by
  unfold firstIdx
  cases h : l.findIdx? p with
  | none =>
    rw [List.findIdx?_eq_none_iff] at h
    have : (l.all fun x => !p x) = true := List.all_eq_true.2 fun x hx => by simp [h x hx]
    rw [this]; rfl
  | some k =>
    obtain ⟨hk, hp, _⟩ := List.findIdx?_eq_some_iff_getElem.1 h
    have : (l.all fun x => !p x) = false := List.all_eq_false.2 ⟨l[k], List.getElem_mem hk, by simp [hp]⟩
    rw [this]; simp
set_option maxHeartbeats 2000000 in
set_option maxRecDepth 100000 in
theorem IndexFunc_Task (v : Value) (l : List DTask) (w : World) (h : RdS w v l) :
    Calls Try.prog 136 #[v, .func (.func 91) #[] #[]] w (Tells w (.int .i64 (firstIdx (fun t : DTask => t.pc != 4) l))) := by
  have hl := fun w1 ty => h.len Try.underlying90 w1 ty
  have ba := h.le
  go_enter Try.func136, Try.ntmps136
  go_wp2
  go_loopw [8] (fun i wr => ∃ k : Nat, k ≤ l.length ∧ i = .int .i64 k ∧ (∀ j < k, ∀ y : DTask, l[j]? = some y → (y.pc != 4) = false) ∧ Below w.heap.size w wr) (fun i _ => l.length - (intOf i).toNat)
  case atStart => exact ⟨0, Nat.zero_le _, rfl, fun _ h => absurd h (Nat.not_lt_zero _), (by repeat' (first | (with_reducible exact Below.refl _ _) | (with_reducible assumption) | (with_reducible refine Below.setCell ?_ ?_ _) | (with_reducible refine Below.alloc ?_ ?_ _) | (with_reducible refine Below.drew ?_) | (with_reducible refine belowN ?_ _) | (with_reducible refine below_after ?_ (by assumption) ?_) | omega | (simp; done) | (simp; omega)))⟩
  case round =>
    obtain ⟨k, hk, rfl, hj, hbw⟩ := hrel
    have hsz := hbw.size
    have HJ := Lib.hid hj; clear hj
    by_cases hlt : k < l.length
    · obtain ⟨t, hx⟩ := get_some hlt
      obtain ⟨b1, o1, cs, h1, h2, h3⟩ := (h.below hbw).idx Try.underlying90 szi_DTask k hx
      obtain ⟨v1, v2, v3, v4, rfl, _, r1, r2, r3, r4⟩ := inv_DTask h3
      have q0 := h2.zero
      have q1 := h2 1 _ rfl
      have q2 := h2 2 _ rfl
      have q3 := h2 3 _ rfl
      have q4 := h2 4 _ rfl
      have q5 := h2 5 _ rfl
      have q6 := h2 6 _ rfl
      have q7 := h2 7 _ rfl
      have q8 := h2 8 _ rfl
      have q9 := h2 9 _ rfl
      have q10 := h2 10 _ rfl
      have q11 := h2 11 _ rfl
      have q12 := h2 12 _ rfl
      have q13 := h2 13 _ rfl
      have q14 := h2 14 _ rfl
      obtain ⟨a1, c1, rfl⟩ := r1.isSlice
      obtain ⟨a2, c2, rfl⟩ := r2.isSlice
      obtain ⟨a3, c3, rfl⟩ := r3.isSlice
      obtain ⟨a4, c4, rfl⟩ := r4.isSlice
      have HX := Lib.hid hx; clear hx
      by_cases e : (t.pc != 4) = true
      · have HN : Hid (firstIdx (fun t : DTask => t.pc != 4) l = k) := Lib.hid (firstIdx_at HJ.out HX.out e)
        go_wp2_with fail
        refine (impl_Rest_f t _ _ _ _ _).mono ?_
        rintro e w1 ⟨rfl, hb1⟩
        go_wp2
        go_ret
        exact ⟨ret_int HN.out.symm, (by repeat' (first | (with_reducible exact Below.refl _ _) | (with_reducible assumption) | (with_reducible refine Below.setCell ?_ ?_ _) | (with_reducible refine Below.alloc ?_ ?_ _) | (with_reducible refine Below.drew ?_) | (with_reducible refine belowN ?_ _) | (with_reducible refine below_after ?_ (by assumption) ?_) | omega | (simp; done) | (simp; omega)))⟩
      · have e : (t.pc != 4) = false := by simpa using e
        have E2 := Lib.hid e
        go_wp2_with fail
        refine (impl_Rest_f t _ _ _ _ _).mono ?_
        rintro e w1 ⟨rfl, hb1⟩
        go_wp2
        go_roundw
        case rel => exact ⟨k + 1, by omega, by go_num, no_step HX.out E2.out HJ.out, (by repeat' (first | (with_reducible exact Below.refl _ _) | (with_reducible assumption) | (with_reducible refine Below.setCell ?_ ?_ _) | (with_reducible refine Below.alloc ?_ ?_ _) | (with_reducible refine Below.drew ?_) | (with_reducible refine belowN ?_ _) | (with_reducible refine below_after ?_ (by assumption) ?_) | omega | (simp; done) | (simp; omega)))⟩
        case measure => simp [intOf]; omega
    · have HN : Hid (firstIdx (fun t : DTask => t.pc != 4) l = -1) := Lib.hid (firstIdx_no fun j hj => HJ.out j (by omega))
      go_wp2
      go_ret
      exact ⟨ret_int HN.out.symm, (by repeat' (first | (with_reducible exact Below.refl _ _) | (with_reducible assumption) | (with_reducible refine Below.setCell ?_ ?_ _) | (with_reducible refine Below.alloc ?_ ?_ _) | (with_reducible refine Below.drew ?_) | (with_reducible refine belowN ?_ _) | (with_reducible refine below_after ?_ (by assumption) ?_) | omega | (simp; done) | (simp; omega)))⟩
theorem ContainsFunc_Task (v : Value) (l : List DTask) (w : World) (h : RdS w v l) :
    Calls Try.prog 90 #[v, .func (.func 91) #[] #[]] w (Tells w (.bool (!(l.all fun t : DTask => decide (t.pc = 4))))) := by
  have hv : (l.all fun t : DTask => decide (t.pc = 4)) = (l.all fun t : DTask => !(t.pc != 4)) := by
    congr 1; funext t; by_cases h : t.pc = 4 <;> simp [h]
  rw [hv, ← firstIdx_all]
  clear hv
  go_enter Try.func90, Try.ntmps90
  go_wp2_with fail
  refine (IndexFunc_Task _ l _ (h.below (by repeat' (first | (with_reducible exact Below.refl _ _) | (with_reducible assumption) | (with_reducible refine Below.setCell ?_ ?_ _) | (with_reducible refine Below.alloc ?_ ?_ _) | (with_reducible refine Below.drew ?_) | (with_reducible refine belowN ?_ _) | (with_reducible refine below_after ?_ (by assumption) ?_) | omega | (simp; done) | (simp; omega))))).mono ?_
  rintro e w1 ⟨rfl, hb1⟩
  go_wp2
  go_ret
  exact ⟨rfl, (by repeat' (first | (with_reducible exact Below.refl _ _) | (with_reducible assumption) | (with_reducible refine Below.setCell ?_ ?_ _) | (with_reducible refine Below.alloc ?_ ?_ _) | (with_reducible refine Below.drew ?_) | (with_reducible refine belowN ?_ _) | (with_reducible refine below_after ?_ (by assumption) ?_) | omega | (simp; done) | (simp; omega)))⟩
set_option maxRecDepth 100000 in
theorem impl_Rest_c (x : DWorld) (v_d v_s v_l v_q v_t : Value) (w : World) (h : RdS w v_t x.tasks) :
    Calls Try.prog 45 #[.agg #[.bool x.h.shut, v_d, v_s, .int .i64 x.h.last, v_l, v_q, v_t, .int .i64 x.step]] w (Tells w (.bool (restW x))) := by
  have hv : restW x = !(!(x.tasks.all fun t : DTask => decide (t.pc = 4))) := by simp [restW]
  rw [hv]
  clear hv
  go_enter Try.func45, Try.ntmps45
  go_wp2_with fail
  refine (ContainsFunc_Task _ x.tasks _ (h.below (by repeat' (first | (with_reducible exact Below.refl _ _) | (with_reducible assumption) | (with_reducible refine Below.setCell ?_ ?_ _) | (with_reducible refine Below.alloc ?_ ?_ _) | (with_reducible refine Below.drew ?_) | (with_reducible refine belowN ?_ _) | (with_reducible refine below_after ?_ (by assumption) ?_) | omega | (simp; done) | (simp; omega))))).mono ?_
  rintro e w1 ⟨rfl, hb1⟩
  obtain ⟨b, hb⟩ : ∃ b, (x.tasks.all fun t : DTask => decide (t.pc = 4)) = b := ⟨_, rfl⟩
  rw [hb]
  have HB := Lib.hid hb
  clear hb
  go_wp2
  go_ret
  exact ⟨ret_bool (by simp [HB.out]), (by repeat' (first | (with_reducible exact Below.refl _ _) | (with_reducible assumption) | (with_reducible refine Below.setCell ?_ ?_ _) | (with_reducible refine Below.alloc ?_ ?_ _) | (with_reducible refine Below.drew ?_) | (with_reducible refine belowN ?_ _) | (with_reducible refine below_after ?_ (by assumption) ?_) | omega | (simp; done) | (simp; omega)))⟩
end Go.Proofs.Ytfbkhaaijbhadaa
