/- The laws' comparisons, where both sides read as one datum. -/
import Derived.Test.YtihbmefidbmmdaaTo1
import Derived.StillTailTactics
namespace Go.Proofs.Ytihbmefidbmmdaa
open Go.RowKit

set_option maxHeartbeats 1000000 in
theorem eqPart_c (x : DPart) (v_signs u_signs : Value) (w : World) (h_signs : RdS w v_signs x.signs) (k_signs : RdS w u_signs x.signs) :
    Calls Try.prog 96 #[.agg #[.int .i64 x.kind, .int .i64 x.n, v_signs], .agg #[.int .i64 x.kind, .int .i64 x.n, u_signs]] w (Tells w (.bool true)) := by
  go_enter Try.func96, Try.ntmps96
  go_wp2_with fail
  refine (eqIntS_c _ _ _ _ (h_signs.below (by repeat' (first | (with_reducible exact Below.refl _ _) | (with_reducible refine Below.setCell ?_ ?_ _) | (with_reducible refine Below.alloc ?_ ?_ _) | (with_reducible refine Below.drew ?_) | (with_reducible refine belowN ?_ _) | (with_reducible refine below_after ?_ (by assumption) ?_) | omega | (simp; done) | (simp; omega)))) (k_signs.below (by repeat' (first | (with_reducible exact Below.refl _ _) | (with_reducible refine Below.setCell ?_ ?_ _) | (with_reducible refine Below.alloc ?_ ?_ _) | (with_reducible refine Below.drew ?_) | (with_reducible refine belowN ?_ _) | (with_reducible refine below_after ?_ (by assumption) ?_) | omega | (simp; done) | (simp; omega))))).mono ?_
  rintro e w1 ⟨rfl, hb1⟩
  have s1 : w.heap.size + 2 ≤ w1.heap.size := by have := hb1.size; (try simp at this); omega
  obtain ⟨hc1, hf1⟩ := bcell hb1
  have z1_0 : w.heap.size < w1.heap.size := by omega
  have z1_1 : w.heap.size + 1 < w1.heap.size := by omega
  go_wp2
  go_ret
  exact ⟨rfl, (by repeat' (first | (with_reducible exact Below.refl _ _) | (with_reducible refine Below.setCell ?_ ?_ _) | (with_reducible refine Below.alloc ?_ ?_ _) | (with_reducible refine Below.drew ?_) | (with_reducible refine belowN ?_ _) | (with_reducible refine below_after ?_ (by assumption) ?_) | omega | (simp; done) | (simp; omega)))⟩

theorem szi_DPart : ∀ w1, (sizeOf 116).run Try.prog w1 = .ok 3 w1 := fun _ => by kernel_rfl
set_option maxHeartbeats 1000000 in
set_option maxRecDepth 100000 in
theorem eqPartS_c (va vb : Value) (a : List DPart) (w : World) (ha : RdS w va a) (hb : RdS w vb a) :
    Calls Try.prog 57 #[va, vb] w (Tells w (.bool true)) := by
  have hla := fun w1 ty => ha.len Try.underlying27 w1 ty
  have hlb := fun w1 ty => hb.len Try.underlying27 w1 ty
  have ba := ha.le
  go_enter Try.func57, Try.ntmps57
  go_wp2
  go_loopw [5] (fun i wr => ∃ k : Nat, k ≤ a.length ∧ i = .int .i64 k ∧ Below w.heap.size w wr) (fun i _ => a.length - (intOf i).toNat)
  case atStart => exact ⟨0, Nat.zero_le _, rfl, Below.refl _ _⟩
  case round =>
    obtain ⟨k, hk, rfl, hbw⟩ := hrel
    by_cases hlt : k < a.length
    · obtain ⟨x, hx⟩ := get_some hlt
      obtain ⟨b1, o1, cs, h1, h2, h3⟩ := (ha.below hbw).idx Try.underlying27 szi_DPart k hx
      obtain ⟨v_signs, rfl, r_signs⟩ := inv_DPart h3
      obtain ⟨b2, o2, cs, g1, g2, g3⟩ := (hb.below hbw).idx Try.underlying27 szi_DPart k hx
      obtain ⟨u_signs, rfl, t_signs⟩ := inv_DPart g3
      have q0 := h2.zero
      have q1 := h2 1 _ rfl
      have q2 := h2 2 _ rfl
      have p0 := g2.zero
      have p1 := g2 1 _ rfl
      have p2 := g2 2 _ rfl
      clear hx
      go_wp2_with fail
      go_still_tail 8, (by kernel_rfl)
      go_wp2_with fail
      refine (eqPart_c x _ _ _ (r_signs.below (by repeat' (first | (with_reducible exact Below.refl _ _) | (with_reducible refine Below.setCell ?_ ?_ _) | (with_reducible refine Below.alloc ?_ ?_ _) | (with_reducible refine Below.drew ?_) | (with_reducible refine belowN ?_ _) | (with_reducible refine below_after ?_ (by assumption) ?_) | omega | (simp; done) | (simp; omega)))) (t_signs.below (by repeat' (first | (with_reducible exact Below.refl _ _) | (with_reducible refine Below.setCell ?_ ?_ _) | (with_reducible refine Below.alloc ?_ ?_ _) | (with_reducible refine Below.drew ?_) | (with_reducible refine belowN ?_ _) | (with_reducible refine below_after ?_ (by assumption) ?_) | omega | (simp; done) | (simp; omega))))).mono ?_
      rintro e w2 ⟨rfl, hb2⟩
      have HBW : Hid (Below w.heap.size w w2) := (Below.drew hbw).trans (hb2.mono hbw.size)
      clear hb2 hbw
      go_wp2
      go_roundw
      case rel => exact ⟨k + 1, by omega, by go_num, HBW.out⟩
      case measure => simp [intOf]; omega
    · go_wp2
      go_ret
      exact ⟨rfl, hbw⟩

set_option maxHeartbeats 1000000 in
theorem eqEntry_c (x : DEntry) (v_o u_o : Value) (w : World) (h_o : RdS w v_o x.o) (k_o : RdS w u_o x.o) :
    Calls Try.prog 16 #[.agg #[.int .i64 x.client, .int .i64 x.seq, v_o], .agg #[.int .i64 x.client, .int .i64 x.seq, u_o]] w (Tells w (.bool true)) := by
  go_enter Try.func16, Try.ntmps16
  go_wp2_with fail
  refine (eqPartS_c _ _ _ _ (h_o.below (by repeat' (first | (with_reducible exact Below.refl _ _) | (with_reducible refine Below.setCell ?_ ?_ _) | (with_reducible refine Below.alloc ?_ ?_ _) | (with_reducible refine Below.drew ?_) | (with_reducible refine belowN ?_ _) | (with_reducible refine below_after ?_ (by assumption) ?_) | omega | (simp; done) | (simp; omega)))) (k_o.below (by repeat' (first | (with_reducible exact Below.refl _ _) | (with_reducible refine Below.setCell ?_ ?_ _) | (with_reducible refine Below.alloc ?_ ?_ _) | (with_reducible refine Below.drew ?_) | (with_reducible refine belowN ?_ _) | (with_reducible refine below_after ?_ (by assumption) ?_) | omega | (simp; done) | (simp; omega))))).mono ?_
  rintro e w1 ⟨rfl, hb1⟩
  have s1 : w.heap.size + 2 ≤ w1.heap.size := by have := hb1.size; (try simp at this); omega
  obtain ⟨hc1, hf1⟩ := bcell hb1
  have z1_0 : w.heap.size < w1.heap.size := by omega
  have z1_1 : w.heap.size + 1 < w1.heap.size := by omega
  go_wp2
  go_ret
  exact ⟨rfl, (by repeat' (first | (with_reducible exact Below.refl _ _) | (with_reducible refine Below.setCell ?_ ?_ _) | (with_reducible refine Below.alloc ?_ ?_ _) | (with_reducible refine Below.drew ?_) | (with_reducible refine belowN ?_ _) | (with_reducible refine below_after ?_ (by assumption) ?_) | omega | (simp; done) | (simp; omega)))⟩

theorem szi_DEntry : ∀ w1, (sizeOf 29).run Try.prog w1 = .ok 3 w1 := fun _ => by kernel_rfl
set_option maxHeartbeats 1000000 in
set_option maxRecDepth 100000 in
theorem eqEntryS_c (va vb : Value) (a : List DEntry) (w : World) (ha : RdS w va a) (hb : RdS w vb a) :
    Calls Try.prog 35 #[va, vb] w (Tells w (.bool true)) := by
  have hla := fun w1 ty => ha.len Try.underlying38 w1 ty
  have hlb := fun w1 ty => hb.len Try.underlying38 w1 ty
  have ba := ha.le
  go_enter Try.func35, Try.ntmps35
  go_wp2
  go_loopw [5] (fun i wr => ∃ k : Nat, k ≤ a.length ∧ i = .int .i64 k ∧ Below w.heap.size w wr) (fun i _ => a.length - (intOf i).toNat)
  case atStart => exact ⟨0, Nat.zero_le _, rfl, Below.refl _ _⟩
  case round =>
    obtain ⟨k, hk, rfl, hbw⟩ := hrel
    by_cases hlt : k < a.length
    · obtain ⟨x, hx⟩ := get_some hlt
      obtain ⟨b1, o1, cs, h1, h2, h3⟩ := (ha.below hbw).idx Try.underlying38 szi_DEntry k hx
      obtain ⟨v_o, rfl, r_o⟩ := inv_DEntry h3
      obtain ⟨b2, o2, cs, g1, g2, g3⟩ := (hb.below hbw).idx Try.underlying38 szi_DEntry k hx
      obtain ⟨u_o, rfl, t_o⟩ := inv_DEntry g3
      have q0 := h2.zero
      have q1 := h2 1 _ rfl
      have q2 := h2 2 _ rfl
      have p0 := g2.zero
      have p1 := g2 1 _ rfl
      have p2 := g2 2 _ rfl
      clear hx
      go_wp2_with fail
      go_still_tail 8, (by kernel_rfl)
      go_wp2_with fail
      refine (eqEntry_c x _ _ _ (r_o.below (by repeat' (first | (with_reducible exact Below.refl _ _) | (with_reducible refine Below.setCell ?_ ?_ _) | (with_reducible refine Below.alloc ?_ ?_ _) | (with_reducible refine Below.drew ?_) | (with_reducible refine belowN ?_ _) | (with_reducible refine below_after ?_ (by assumption) ?_) | omega | (simp; done) | (simp; omega)))) (t_o.below (by repeat' (first | (with_reducible exact Below.refl _ _) | (with_reducible refine Below.setCell ?_ ?_ _) | (with_reducible refine Below.alloc ?_ ?_ _) | (with_reducible refine Below.drew ?_) | (with_reducible refine belowN ?_ _) | (with_reducible refine below_after ?_ (by assumption) ?_) | omega | (simp; done) | (simp; omega))))).mono ?_
      rintro e w2 ⟨rfl, hb2⟩
      have HBW : Hid (Below w.heap.size w w2) := (Below.drew hbw).trans (hb2.mono hbw.size)
      clear hb2 hbw
      go_wp2
      go_roundw
      case rel => exact ⟨k + 1, by omega, by go_num, HBW.out⟩
      case measure => simp [intOf]; omega
    · go_wp2
      go_ret
      exact ⟨rfl, hbw⟩



end Go.Proofs.Ytihbmefidbmmdaa
