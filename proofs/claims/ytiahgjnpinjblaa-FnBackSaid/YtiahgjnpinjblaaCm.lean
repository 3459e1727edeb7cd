/- Comparisons. -/
import Derived.Test.YtiahgjnpinjblaaEz
import Derived.Deep.RegionHeld3
import Derived.StillTailTactics
namespace Go.Proofs.Ytiahgjnpinjblaa
open Go.RowKit

open Go.RowKit
/-- a call that only reads and draws -/
def QTells (w : World) (v : Value) (e : Ending) (w' : World) : Prop := e = .returned v ∧ ∃ n, w' = w.drewN n
theorem QTells.tells {w : World} {v : Value} {e : Ending} {w' : World} (h : QTells w v e w') : Tells w v e w' := by
  obtain ⟨h1, n, rfl⟩ := h
  exact ⟨h1, belowN (Below.refl _ _) n⟩
theorem str_t {a b : ByteArray} (h : a = b) : (a.toList == b.toList) = true := by rw [h]; simp
theorem str_f {a b : ByteArray} (h : ¬ a = b) : (a.toList == b.toList) = false := by
  rw [ByteArray.toList_eq, ByteArray.toList_eq]
  refine beq_eq_false_iff_ne.2 fun e => h ?_
  cases a; cases b
  simpa using e
theorem dec_t {α : Type} [DecidableEq α] {a b : α} (h : a = b) : decide (a = b) = true := decide_eq_true h
theorem dec_f {α : Type} [DecidableEq α] {a b : α} (h : ¬ a = b) : decide (a = b) = false := decide_eq_false h
theorem ne_at {α : Type} {a b : List α} {k : Nat} {x y : α} (hx : a[k]? = some x) (hy : b[k]? = some y) (hne : ¬ x = y) : ¬ a = b := by
  rintro rfl
  exact hne (Option.some.inj (hx.symm.trans hy))
theorem at_step {α : Type} {a b : List α} {k : Nat} {x : α} (hx : a[k]? = some x) (hy : b[k]? = some x) (hj : ∀ j < k, a[j]? = b[j]?) : ∀ j < k + 1, a[j]? = b[j]? := by
  intro j hlt
  by_cases e : j = k
  · subst e; rw [hx, hy]
  · exact hj j (by omega)

set_option maxHeartbeats 1000000 in
theorem spec_SignsSame_q (va vb : Value) (a b : List Int) (w : World) (ha : RdS w va a) (hb : RdS w vb b) :
    Calls Try.prog 91 #[va, vb] w (QTells w (.bool (decide (a = b)))) := by
  have hla := fun w1 ty => ha.len Try.underlying23 w1 ty
  have hlb := fun w1 ty => hb.len Try.underlying23 w1 ty
  have ba := ha.le
  have bb := hb.le
  by_cases hl : a.length = b.length
  · have HL := Lib.hid hl
    rw [← hl] at hlb bb
    clear hl
    go_enter Try.func91, Try.ntmps91
    go_wp2
    go_loopw [13] (fun i wr => ∃ k : Nat, k ≤ a.length ∧ i = .int .i64 k ∧ (∀ j < k, a[j]? = b[j]?) ∧ ∃ n, wr = w.drewN n) (fun i _ => a.length - (intOf i).toNat)
    case atStart => exact ⟨0, Nat.zero_le _, rfl, fun _ h => absurd h (Nat.not_lt_zero _), 0, rfl⟩
    case round =>
      obtain ⟨k, hk, rfl, hj, n, rfl⟩ := hrel
      have HJ := Lib.hid hj; clear hj
      by_cases hlt : k < a.length
      · obtain ⟨x, hx⟩ := get_some hlt
        obtain ⟨y, hy⟩ := get_some (l := b) (k := k) (by rw [← HL.out]; exact hlt)
        obtain ⟨b1, o1, _, h1, h2, _, rfl, rfl⟩ := ha.idx Try.underlying23 sz_int k hx
        obtain ⟨b2, o2, _, h3, h4, _, rfl, rfl⟩ := hb.idx Try.underlying23 sz_int k hy
        have h2 := h2.one
        have h4 := h4.one
        have HX := Lib.hid hx; clear hx
        have HY := Lib.hid hy; clear hy
        by_cases hxy : x = y
        · subst hxy
          go_wp2
          go_quiet (fail)
          go_wp2
          go_roundw
          case rel => exact ⟨k + 1, by omega, by go_num, at_step HX.out HY.out HJ.out, _, rfl⟩
          case measure => simp [intOf]; omega
        · have HN : Hid (decide (a = b) = false) := dec_f (ne_at HX.out HY.out hxy)
          have hne : (x != y) = true := by simpa using hxy
          clear hxy
          go_wp2
          go_quiet (fail)
          go_wp2
          go_ret
          exact ⟨ret_bool HN.out.symm, n + _, by rw [World.drewN_drewN]⟩
      · go_wp2
        go_ret
        exact ⟨ret_bool (dec_t (list_eq_of_take HL.out fun j hj => HJ.out j (by omega))).symm, n, rfl⟩
  · rw [dec_f (fun e => hl (by rw [e]))]
    go_enter Try.func91, Try.ntmps91
    go_wp2
    go_ret
    exact ⟨rfl, 0, rfl⟩
theorem spec_SignsSame_c (va vb : Value) (a b : List Int) (w : World) (ha : RdS w va a) (hb : RdS w vb b) :
    Calls Try.prog 91 #[va, vb] w (Tells w (.bool (decide (a = b)))) := (spec_SignsSame_q va vb a b w ha hb).mono fun _ _ h => h.tells

set_option maxHeartbeats 1000000 in
theorem Equal_int_q (va vb : Value) (a b : List Int) (w : World) (ha : RdS w va a) (hb : RdS w vb b) :
    Calls Try.prog 27 #[va, vb] w (QTells w (.bool (decide (a = b)))) := by
  have hla := fun w1 ty => ha.len Try.underlying23 w1 ty
  have hlb := fun w1 ty => hb.len Try.underlying23 w1 ty
  have ba := ha.le
  have bb := hb.le
  by_cases hl : a.length = b.length
  · have HL := Lib.hid hl
    rw [← hl] at hlb bb
    clear hl
    go_enter Try.func27, Try.ntmps27
    go_wp2
    go_loopw [13] (fun i wr => ∃ k : Nat, k ≤ a.length ∧ i = .int .i64 k ∧ (∀ j < k, a[j]? = b[j]?) ∧ ∃ n, wr = w.drewN n) (fun i _ => a.length - (intOf i).toNat)
    case atStart => exact ⟨0, Nat.zero_le _, rfl, fun _ h => absurd h (Nat.not_lt_zero _), 0, rfl⟩
    case round =>
      obtain ⟨k, hk, rfl, hj, n, rfl⟩ := hrel
      have HJ := Lib.hid hj; clear hj
      by_cases hlt : k < a.length
      · obtain ⟨x, hx⟩ := get_some hlt
        obtain ⟨y, hy⟩ := get_some (l := b) (k := k) (by rw [← HL.out]; exact hlt)
        obtain ⟨b1, o1, _, h1, h2, _, rfl, rfl⟩ := ha.idx Try.underlying23 sz_int k hx
        obtain ⟨b2, o2, _, h3, h4, _, rfl, rfl⟩ := hb.idx Try.underlying23 sz_int k hy
        have h2 := h2.one
        have h4 := h4.one
        have HX := Lib.hid hx; clear hx
        have HY := Lib.hid hy; clear hy
        by_cases hxy : x = y
        · subst hxy
          go_wp2
          go_quiet (fail)
          go_wp2
          go_roundw
          case rel => exact ⟨k + 1, by omega, by go_num, at_step HX.out HY.out HJ.out, _, rfl⟩
          case measure => simp [intOf]; omega
        · have HN : Hid (decide (a = b) = false) := dec_f (ne_at HX.out HY.out hxy)
          have hne : (x != y) = true := by simpa using hxy
          clear hxy
          go_wp2
          go_quiet (fail)
          go_wp2
          go_ret
          exact ⟨ret_bool HN.out.symm, n + _, by rw [World.drewN_drewN]⟩
      · go_wp2
        go_ret
        exact ⟨ret_bool (dec_t (list_eq_of_take HL.out fun j hj => HJ.out j (by omega))).symm, n, rfl⟩
  · rw [dec_f (fun e => hl (by rw [e]))]
    go_enter Try.func27, Try.ntmps27
    go_wp2
    go_ret
    exact ⟨rfl, 0, rfl⟩
theorem Equal_int_c (va vb : Value) (a b : List Int) (w : World) (ha : RdS w va a) (hb : RdS w vb b) :
    Calls Try.prog 27 #[va, vb] w (Tells w (.bool (decide (a = b)))) := (Equal_int_q va vb a b w ha hb).mono fun _ _ h => h.tells

set_option maxHeartbeats 1000000 in
theorem samePart_c (x y : DPart) (v_signs u_signs : Value) (w : World) (h_signs : RdS w v_signs x.signs) (k_signs : RdS w u_signs y.signs) :
    Calls Try.prog 86 #[.agg #[.int .i64 x.kind, .int .i64 x.n, v_signs], .agg #[.int .i64 y.kind, .int .i64 y.n, u_signs]] w (Tells w (.bool (decide (x = y)))) := by
  by_cases e_kind : x.kind = y.kind
  · have E_kind := Lib.hid e_kind
    have E2_kind : (x.kind == y.kind) = true := by rw [e_kind]; simp
    clear e_kind
    by_cases e_n : x.n = y.n
    · have E_n := Lib.hid e_n
      have E2_n : (x.n == y.n) = true := by rw [e_n]; simp
      clear e_n
      by_cases e_signs : x.signs = y.signs
      · have E_signs := Lib.hid e_signs
        clear e_signs
        have HE : Hid (x = y) := by
          have e_kind := E_kind.out
          have e_n := E_n.out
          have e_signs := E_signs.out
          show x = y
          cases x; cases y; simp_all
        rw [dec_t HE.out]
        go_enter Try.func86, Try.ntmps86
        go_wp2_with fail
        refine (Equal_int_c _ _ _ _ _ (h_signs.below blw) (k_signs.below blw)).mono ?_
        rintro e w1 ⟨rfl, hb1⟩
        have s1 : w.heap.size + 2 ≤ w1.heap.size := (by have := hb1.size; (try simp at this); omega)
        obtain ⟨hc1, hf1⟩ := bcell hb1
        have z1_0 : w.heap.size < w1.heap.size := (by omega)
        have z1_1 : w.heap.size + 1 < w1.heap.size := (by omega)
        rw [dec_t E_signs.out]
        go_wp2
        go_ret
        exact ⟨rfl, blw⟩
      · rw [dec_f (fun h => e_signs (by rw [h]))]
        go_enter Try.func86, Try.ntmps86
        go_wp2_with fail
        refine (Equal_int_c _ _ _ _ _ (h_signs.below blw) (k_signs.below blw)).mono ?_
        rintro e w1 ⟨rfl, hb1⟩
        have s1 : w.heap.size + 2 ≤ w1.heap.size := (by have := hb1.size; (try simp at this); omega)
        obtain ⟨hc1, hf1⟩ := bcell hb1
        have z1_0 : w.heap.size < w1.heap.size := (by omega)
        have z1_1 : w.heap.size + 1 < w1.heap.size := (by omega)
        rw [dec_f e_signs]
        go_wp2
        go_ret
        exact ⟨rfl, blw⟩
    · rw [dec_f (fun h => e_n (by rw [h]))]
      have E2_n : (x.n == y.n) = false := by simpa using e_n
      clear e_n
      go_enter Try.func86, Try.ntmps86
      go_wp2
      go_ret
      exact ⟨rfl, blw⟩
  · rw [dec_f (fun h => e_kind (by rw [h]))]
    have E2_kind : (x.kind == y.kind) = false := by simpa using e_kind
    clear e_kind
    go_enter Try.func86, Try.ntmps86
    go_wp2
    go_ret
    exact ⟨rfl, blw⟩

set_option maxHeartbeats 1000000 in
set_option maxRecDepth 100000 in
theorem EqualFunc_Part_c (va vb : Value) (a b : List DPart) (w : World) (ha : RdS w va a) (hb : RdS w vb b) :
    Calls Try.prog 85 #[va, vb, .func (.func 86) #[] #[]] w (Tells w (.bool (decide (a = b)))) := by
  have hla := fun w1 ty => ha.len Try.underlying32 w1 ty
  have hlb := fun w1 ty => hb.len Try.underlying32 w1 ty
  have ba := ha.le
  have bb := hb.le
  by_cases hl : a.length = b.length
  · have HL := Lib.hid hl
    rw [← hl] at hlb bb
    clear hl
    go_enter Try.func85, Try.ntmps85
    go_wp2
    go_loopw [17] (fun i wr => ∃ k : Nat, k ≤ a.length ∧ i = .int .i64 k ∧ (∀ j < k, a[j]? = b[j]?) ∧ Below w.heap.size w wr) (fun i _ => a.length - (intOf i).toNat)
    case atStart => exact ⟨0, Nat.zero_le _, rfl, fun _ h => absurd h (Nat.not_lt_zero _), Below.refl _ _⟩
    case round =>
      obtain ⟨k, hk, rfl, hj, hbw⟩ := hrel
      have hsz := hbw.size
      have HJ := Lib.hid hj; clear hj
      by_cases hlt : k < a.length
      · obtain ⟨x, hx⟩ := get_some hlt
        obtain ⟨y, hy⟩ := get_some (l := b) (k := k) (by rw [← HL.out]; exact hlt)
        obtain ⟨b1, o1, cs, h1, h2, h3⟩ := (ha.below hbw).idx Try.underlying32 szi_DPart k hx
        obtain ⟨v_signs, rfl, r_signs⟩ := inv_DPart h3
        obtain ⟨b2, o2, cs, g1, g2, g3⟩ := (hb.below hbw).idx Try.underlying32 szi_DPart k hy
        obtain ⟨u_signs, rfl, t_signs⟩ := inv_DPart g3
        have q0 := h2.zero
        have q1 := h2 1 _ rfl
        have q2 := h2 2 _ rfl
        have p0 := g2.zero
        have p1 := g2 1 _ rfl
        have p2 := g2 2 _ rfl
        have l1 : b1 < wr.heap.size := World.block_lt_of_cell? (w := wr) (a := ⟨b1, o1, none⟩) q0
        have l2 : b2 < wr.heap.size := World.block_lt_of_cell? (w := wr) (a := ⟨b2, o2, none⟩) p0
        obtain ⟨aa_signs, ca_signs, rfl⟩ := r_signs.isSlice
        obtain ⟨ab_signs, cb_signs, rfl⟩ := t_signs.isSlice
        have HX := Lib.hid hx; clear hx
        have HY := Lib.hid hy; clear hy
        by_cases hxy : x = y
        · subst hxy
          go_wp2_with fail
          refine (samePart_c x x _ _ _ (r_signs.below blw) (t_signs.below blw)).mono ?_
          rintro e w2 ⟨rfl, hb2⟩
          rw [dec_t rfl]
          go_wp2
          go_roundw
          case rel => exact ⟨k + 1, by omega, by go_num, at_step HX.out HY.out HJ.out, blw⟩
          case measure => simp [intOf]; omega
        · have HN : Hid (decide (a = b) = false) := dec_f (ne_at HX.out HY.out hxy)
          go_wp2_with fail
          refine (samePart_c x y _ _ _ (r_signs.below blw) (t_signs.below blw)).mono ?_
          rintro e w2 ⟨rfl, hb2⟩
          rw [dec_f hxy]
          go_wp2
          go_ret
          exact ⟨ret_bool HN.out.symm, blw⟩
      · go_wp2
        go_ret
        exact ⟨ret_bool (dec_t (list_eq_of_take HL.out fun j hj => HJ.out j (by omega))).symm, hbw⟩
  · rw [dec_f (fun e => hl (by rw [e]))]
    go_enter Try.func85, Try.ntmps85
    go_wp2
    go_ret
    exact ⟨rfl, Below.refl _ _⟩

theorem spec_SignsSame_qt (va vb : Value) (a : List Int) (w : World) (ha : RdS w va a) (hb : RdS w vb a) :
    Calls Try.prog 91 #[va, vb] w (QTells w (.bool true)) := by
  have := spec_SignsSame_q va vb a a w ha hb
  rwa [dec_t rfl] at this
theorem spec_SignsSame_qf (va vb : Value) (a b : List Int) (hne : ¬ a = b) (w : World) (ha : RdS w va a) (hb : RdS w vb b) :
    Calls Try.prog 91 #[va, vb] w (QTells w (.bool false)) := by
  have := spec_SignsSame_q va vb a b w ha hb
  rwa [dec_f hne] at this
theorem part_ne {x y : DPart} (h : ¬ x = y) (h1 : x.kind = y.kind) (h2 : x.n = y.n) : ¬ x.signs = y.signs := by
  intro h3
  cases x; cases y
  simp_all
set_option maxHeartbeats 1000000 in
set_option maxRecDepth 100000 in
theorem spec_OpSame_c (va vb : Value) (a b : List DPart) (w : World) (ha : RdS w va a) (hb : RdS w vb b) :
    Calls Try.prog 88 #[va, vb] w (Tells w (.bool (decide (a = b)))) := by
  have hla := fun w1 ty => ha.len Try.underlying32 w1 ty
  have hlb := fun w1 ty => hb.len Try.underlying32 w1 ty
  have ba := ha.le
  have bb := hb.le
  by_cases hl : a.length = b.length
  · have HL := Lib.hid hl
    rw [← hl] at hlb bb
    clear hl
    go_enter Try.func88, Try.ntmps88
    go_wp2
    go_loopw [14] (fun i wr => ∃ k : Nat, k ≤ a.length ∧ i = .int .i64 k ∧ (∀ j < k, a[j]? = b[j]?) ∧ Below w.heap.size w wr) (fun i _ => a.length - (intOf i).toNat)
    case atStart => exact ⟨0, Nat.zero_le _, rfl, fun _ h => absurd h (Nat.not_lt_zero _), Below.refl _ _⟩
    case round =>
      obtain ⟨k, hk, rfl, hj, hbw⟩ := hrel
      have hsz := hbw.size
      have HJ := Lib.hid hj; clear hj
      by_cases hlt : k < a.length
      · obtain ⟨x, hx⟩ := get_some hlt
        obtain ⟨y, hy⟩ := get_some (l := b) (k := k) (by rw [← HL.out]; exact hlt)
        obtain ⟨b1, o1, cs, h1, h2, h3⟩ := (ha.below hbw).idx Try.underlying32 szi_DPart k hx
        obtain ⟨v_signs, rfl, r_signs⟩ := inv_DPart h3
        obtain ⟨b2, o2, cs, g1, g2, g3⟩ := (hb.below hbw).idx Try.underlying32 szi_DPart k hy
        obtain ⟨u_signs, rfl, t_signs⟩ := inv_DPart g3
        have q0 := h2.zero
        have q1 := h2 1 _ rfl
        have q2 := h2 2 _ rfl
        have p0 := g2.zero
        have p1 := g2 1 _ rfl
        have p2 := g2 2 _ rfl
        have l1 : b1 < wr.heap.size := World.block_lt_of_cell? (w := wr) (a := ⟨b1, o1, none⟩) q0
        have l2 : b2 < wr.heap.size := World.block_lt_of_cell? (w := wr) (a := ⟨b2, o2, none⟩) p0
        obtain ⟨aa_signs, ca_signs, rfl⟩ := r_signs.isSlice
        obtain ⟨ab_signs, cb_signs, rfl⟩ := t_signs.isSlice
        have HX := Lib.hid hx; clear hx
        have HY := Lib.hid hy; clear hy
        by_cases hxy : x = y
        · subst hxy
          have k1 : (x.kind != x.kind) = false := by simp
          have k2 : (x.n != x.n) = false := by simp
          go_wp2
          go_quiet ((go_at_call 91; exact Calls.quiet_of (spec_SignsSame_qt _ _ x.signs _ (r_signs.below blw) (t_signs.below blw))))
          go_wp2
          go_roundw
          case rel => exact ⟨k + 1, by omega, by go_num, at_step HX.out HY.out HJ.out, blw⟩
          case measure => simp [intOf]; omega
        · have HN : Hid (decide (a = b) = false) := dec_f (ne_at HX.out HY.out hxy)
          by_cases e1 : x.kind = y.kind
          · have k1 : (x.kind != y.kind) = false := by simp [e1]
            by_cases e2 : x.n = y.n
            · have k2 : (x.n != y.n) = false := by simp [e2]
              have k3 := part_ne hxy e1 e2
              have K3 := Lib.hid k3
              clear e1 e2 hxy k3
              go_wp2
              go_quiet ((go_at_call 91; exact Calls.quiet_of (spec_SignsSame_qf _ _ x.signs y.signs K3.out _ (r_signs.below blw) (t_signs.below blw))))
              go_wp2
              go_ret
              exact ⟨ret_bool HN.out.symm, blw⟩
            · have k2 : (x.n != y.n) = true := by simpa using e2
              clear e1 e2 hxy
              go_wp2
              go_quiet (fail)
              go_wp2
              go_ret
              exact ⟨ret_bool HN.out.symm, blw⟩
          · have k1 : (x.kind != y.kind) = true := by simpa using e1
            clear e1 hxy
            go_wp2
            go_quiet (fail)
            go_wp2
            go_ret
            exact ⟨ret_bool HN.out.symm, blw⟩
      · go_wp2
        go_ret
        exact ⟨ret_bool (dec_t (list_eq_of_take HL.out fun j hj => HJ.out j (by omega))).symm, hbw⟩
  · rw [dec_f (fun e => hl (by rw [e]))]
    go_enter Try.func88, Try.ntmps88
    go_wp2
    go_ret
    exact ⟨rfl, Below.refl _ _⟩

end Go.Proofs.Ytiahgjnpinjblaa

namespace Go.Proofs.Ytiahgjnpinjblaa
open Go.RowKit

theorem impl_OpSame_c (va vb : Value) (a b : List DPart) (w : World) (ha : RdS w va a) (hb : RdS w vb b) :
    Calls Try.prog 76 #[va, vb] w (Tells w (.bool (decide (a = b)))) := by
  go_enter Try.func76, Try.ntmps76
  go_wp2_with fail
  refine (EqualFunc_Part_c _ _ a b _ ha hb).mono ?_
  rintro e w1 ⟨rfl, hb1⟩
  go_wp2
  go_ret
  exact ⟨rfl, hb1⟩






end Go.Proofs.Ytiahgjnpinjblaa

namespace Go.Proofs.Ytiahgjnpinjblaa
open Go.RowKit





end Go.Proofs.Ytiahgjnpinjblaa

