/- New rings and rings that begin anew. -/
import Derived.Test.YtfkaabpaolelgaaRok
import Derived.Test.YtfkaabpaolelgaaCp
import Derived.IntWalk
namespace Go.Proofs.Ytfkaabpaolelgaa
open Go.RowKit
def ring0 : DRing := ⟨0, 0, false, []⟩
def ringNew (room rev : Int) : DRing × Bool := if rev ≤ 1000000000 ∧ ringOk ⟨room, rev + 1, false, []⟩ = true then (⟨room, rev + 1, false, []⟩, true) else (ring0, false)
theorem ringNew_yes {room rev : Int} (h1 : rev ≤ 1000000000) (h2 : ringOk ⟨room, rev + 1, false, []⟩ = true) : ringNew room rev = (⟨room, rev + 1, false, []⟩, true) := if_pos ⟨h1, h2⟩
theorem ringNew_no {room rev : Int} (h : ¬ (rev ≤ 1000000000 ∧ ringOk ⟨room, rev + 1, false, []⟩ = true)) : ringNew room rev = (ring0, false) := if_neg h
theorem ringOk_next {r : DRing} (h : ringOk r = true) : 1 ≤ r.next ∧ r.next ≤ 1000000000 ∧ 1 ≤ r.cap ∧ r.cap ≤ 6 := by
  simp only [ringOk, ringHead, Bool.and_eq_true, within_iff] at h
  omega
theorem wrap_succ {n : Int} (h1 : -9223372036854775808 ≤ n) (h2 : n ≤ 9223372036854775807) : ∃ m, IntKind.i64.wrap (n + 1) = m ∧ ((n ≤ 9223372036854775806 ∧ m = n + 1) ∨ (n = 9223372036854775807 ∧ m = -9223372036854775808)) := by
  refine ⟨_, rfl, ?_⟩
  by_cases h : n ≤ 9223372036854775806
  · exact .inl ⟨h, IntWalk.i64_in _ (by omega)⟩
  · have : n = 9223372036854775807 := by omega
    subst this
    exact .inr ⟨rfl, rfl⟩
set_option maxRecDepth 100000 in
theorem impl_RingNew_c (room rev : Int) (w : World) (b1 : -9223372036854775808 ≤ rev) (b2 : rev ≤ 9223372036854775807) :
    Calls Try.prog 6 #[.int .i64 room, .int .i64 rev] w (Out_Ring_b w (ringNew room rev).1 (ringNew room rev).2) := by
  obtain ⟨m, hm, hcase⟩ := wrap_succ b1 b2
  have hok : ringOk ⟨room, m, false, []⟩ = true → m = rev + 1 ∧ rev ≤ 1000000000 := fun h => by
    have := ringOk_next h
    simp only at this
    omega
  by_cases h2 : ringOk ⟨room, m, false, []⟩ = true
  · have HM := Lib.hid (hok h2)
    have HV : Hid (ringNew room rev = (⟨room, m, false, []⟩, true)) := Lib.hid (by obtain ⟨e1, e2⟩ := HM.out; rw [e1] at h2 ⊢; exact ringNew_yes e2 h2)
    clear hok hcase b1 b2
    go_enter Try.func6, Try.ntmps6
    go_wp2_with fail
    refine (impl_RingOk_c ⟨room, m, false, []⟩ _ _ RdS.nil).mono ?_
    rintro e w1 ⟨rfl, hb1⟩
    rw [h2]
    have s1 := hb1.size
    (try simp at s1)
    obtain ⟨hc1, hf1⟩ := bcell hb1
    have z1 : w.heap.size < w1.heap.size := by omega
    have z2 : w.heap.size + 1 < w1.heap.size := by omega
    have y0 : w1.cell? ⟨w.heap.size, 0, none⟩ = some (.int .i64 0) := by rw [hc1 _ _ (by simp; try omega)]; simp [go_sem]
    have y1 : w1.cell? ⟨w.heap.size, 1, none⟩ = some (.int .i64 0) := by rw [hc1 _ _ (by simp; try omega)]; simp [go_sem]
    have y2 : w1.cell? ⟨w.heap.size, 2, none⟩ = some (.bool false) := by rw [hc1 _ _ (by simp; try omega)]; simp [go_sem]
    have y3 : w1.cell? ⟨w.heap.size, 3, none⟩ = some (.slice none 0 0) := by rw [hc1 _ _ (by simp; try omega)]; simp [go_sem]
    have HBW : Hid (Below w.heap.size w w1) := Lib.hid blw
    clear hb1
    go_wp2
    rw [HV.out]
    exact bodyPost_ret (v := .tuple #[.agg #[.int .i64 room, .int .i64 m, .bool false, .slice none 0 0], .bool true]) (by simp [results, Try.results6, go_sem, cell_setCell, *]) rfl ⟨.slice none 0 0, [], rfl, Sl.nil, Fresh.nil _ _, (((HBW.out.setCell (by simp) _).setCell (by simp) _).setCell (by simp) _).setCell (by simp) _⟩
  · have HV := Lib.hid (ringNew_no (room := room) (rev := rev) fun h => h2 (by
      obtain ⟨e1, e2⟩ := h
      have : m = rev + 1 := by omega
      rw [this]; exact e2))
    have h2 : ringOk ⟨room, m, false, []⟩ = false := by simpa using h2
    clear hok hcase b1 b2
    go_enter Try.func6, Try.ntmps6
    go_wp2_with fail
    refine (impl_RingOk_c ⟨room, m, false, []⟩ _ _ RdS.nil).mono ?_
    rintro e w1 ⟨rfl, hb1⟩
    rw [h2]
    have s1 := hb1.size
    (try simp at s1)
    obtain ⟨hc1, hf1⟩ := bcell hb1
    have z1 : w.heap.size < w1.heap.size := by omega
    have y0 : w1.cell? ⟨w.heap.size, 0, none⟩ = some (.int .i64 0) := by rw [hc1 _ _ (by simp; try omega)]; simp [go_sem]
    have y1 : w1.cell? ⟨w.heap.size, 1, none⟩ = some (.int .i64 0) := by rw [hc1 _ _ (by simp; try omega)]; simp [go_sem]
    have y2 : w1.cell? ⟨w.heap.size, 2, none⟩ = some (.bool false) := by rw [hc1 _ _ (by simp; try omega)]; simp [go_sem]
    have y3 : w1.cell? ⟨w.heap.size, 3, none⟩ = some (.slice none 0 0) := by rw [hc1 _ _ (by simp; try omega)]; simp [go_sem]
    have HBW : Hid (Below w.heap.size w w1) := Lib.hid blw
    clear hb1
    go_wp2
    rw [HV.out]
    exact bodyPost_ret (v := .tuple #[.agg #[.int .i64 0, .int .i64 0, .bool false, .slice none 0 0], .bool false]) (by simp [results, Try.results6, go_sem, cell_setCell, *]) rfl ⟨.slice none 0 0, [], rfl, Sl.nil, Fresh.nil _ _, (((HBW.out.setCell (by simp) _).setCell (by simp) _).setCell (by simp) _).setCell (by simp) _⟩
def ringResync (r : DRing) (rev : Int) : DRing × Bool := if ringOk r = true then ringNew r.cap rev else (ring0, false)
theorem ringResync_yes {r : DRing} (rev : Int) (h : ringOk r = true) : ringResync r rev = ringNew r.cap rev := if_pos h
theorem ringResync_no {r : DRing} (rev : Int) (h : ¬ ringOk r = true) : ringResync r rev = (ring0, false) := if_neg h
theorem ringNew_list (room rev : Int) : (ringNew room rev).1.list = [] := by unfold ringNew; split <;> rfl
theorem ringResync_list (r : DRing) (rev : Int) : (ringResync r rev).1.list = [] := by unfold ringResync; split; exact ringNew_list _ _; rfl
theorem Fresh.poke {B : Nat} {w : World} {f : List Pos} (h : Fresh B w f) (a : Addr) (u : Value) : Fresh B (w.setCell a u) f := h.put a u
theorem Sl.poke {α : Type} [GoT α] {M B : Nat} {w : World} {v : Value} {l : List α} {f : List Pos} (h : Sl M w v l f) (hf : Fresh B w f) {b o : Nat} (hb : b < B) (u : Value) : Sl M (w.setCell ⟨b, o, none⟩ u) v l f := by
  refine h.keep fun p hp => ?_
  rw [cell_setCell, if_neg]
  rintro ⟨e, _⟩
  have := hf.ge p hp
  omega
set_option maxRecDepth 100000 in
theorem impl_RingResync_c (r : DRing) (rev : Int) (v : Value) (w : World) (b1 : -9223372036854775808 ≤ rev) (b2 : rev ≤ 9223372036854775807) (h : RdS w v r.list) :
    Calls Try.prog 12 #[.agg #[.int .i64 r.cap, .int .i64 r.next, .bool r.out, v], .int .i64 rev] w (Out_Ring_b w (ringResync r rev).1 (ringResync r rev).2) := by
  by_cases h2 : ringOk r = true
  · have HV := Lib.hid (ringResync_yes rev h2)
    obtain ⟨R, ok, hR⟩ : ∃ R ok, ringNew r.cap rev = (R, ok) := ⟨_, _, rfl⟩
    have HR := Lib.hid hR
    go_enter Try.func12, Try.ntmps12
    go_wp2_with fail
    refine (impl_RingOk_c r _ _ (h.below blw)).mono ?_
    rintro e w1 ⟨rfl, hb1⟩
    rw [h2]
    have s1 := hb1.size
    (try simp at s1)
    obtain ⟨hc1, hf1⟩ := bcell hb1
    have z1 : w.heap.size < w1.heap.size := by omega
    have z2 : w.heap.size + 1 < w1.heap.size := by omega
    clear hR
    go_wp2_with fail
    refine (impl_RingNew_c r.cap rev _ b1 b2).mono ?_
    rw [HR.out]
    rintro e w2 ⟨v2, f2, rfl, sl2, fr2, hb2⟩
    simp only at sl2
    obtain ⟨a2, c2, rfl⟩ := RdS.isSlice ⟨_, sl2⟩
    have s2 := hb2.size
    have hbt : Below (w.heap.size + 2) ((w.alloc (.cells #[.int .i64 r.cap, .int .i64 r.next, .bool r.out, v] 27)).alloc (.cells #[.int .i64 0, .int .i64 0, .bool false, .slice none 0 0] 27)) w2 := (hb1.mono (by simp)).trans (hb2.mono (by omega))
    have y0 : w2.cell? ⟨w.heap.size + 1, 0, none⟩ = some (.int .i64 0) := by rw [hbt.cell (p := ⟨w.heap.size + 1, 0, none⟩) (by simp)]; simp [go_sem]
    have y1 : w2.cell? ⟨w.heap.size + 1, 1, none⟩ = some (.int .i64 0) := by rw [hbt.cell (p := ⟨w.heap.size + 1, 1, none⟩) (by simp)]; simp [go_sem]
    have y2 : w2.cell? ⟨w.heap.size + 1, 2, none⟩ = some (.bool false) := by rw [hbt.cell (p := ⟨w.heap.size + 1, 2, none⟩) (by simp)]; simp [go_sem]
    have y3 : w2.cell? ⟨w.heap.size + 1, 3, none⟩ = some (.slice none 0 0) := by rw [hbt.cell (p := ⟨w.heap.size + 1, 3, none⟩) (by simp)]; simp [go_sem]
    have t0 : w2.frozen? ⟨w.heap.size + 1, 0, none⟩ = false := by rw [hbt.frozen (p := ⟨w.heap.size + 1, 0, none⟩) (by simp)]; simp [go_sem]
    have t1 : w2.frozen? ⟨w.heap.size + 1, 1, none⟩ = false := by rw [hbt.frozen (p := ⟨w.heap.size + 1, 1, none⟩) (by simp)]; simp [go_sem]
    have t2 : w2.frozen? ⟨w.heap.size + 1, 2, none⟩ = false := by rw [hbt.frozen (p := ⟨w.heap.size + 1, 2, none⟩) (by simp)]; simp [go_sem]
    have t3 : w2.frozen? ⟨w.heap.size + 1, 3, none⟩ = false := by rw [hbt.frozen (p := ⟨w.heap.size + 1, 3, none⟩) (by simp)]; simp [go_sem]
    have HBW : Hid (Below w.heap.size w w2) := Lib.hid ((((Below.refl _ _).alloc (Nat.le_refl _) _).alloc (by simp) _).trans (hbt.mono (by omega)))
    have HS := Lib.hid sl2
    have HF := Lib.hid fr2
    clear hb1 hb2 hc1 hf1 sl2 fr2 hbt
    go_wp2
    rw [HV.out, HR.out]
    refine bodyPost_ret (v := .tuple #[.agg #[.int .i64 R.cap, .int .i64 R.next, .bool R.out, .slice a2 R.list.length c2], .bool ok]) (by simp [results, Try.results12, go_sem, cell_setCell, *]) rfl ⟨_, f2, rfl, ?_, ?_, (((HBW.out.setCell (by simp) _).setCell (by simp) _).setCell (by simp) _).setCell (by simp) _⟩
    · exact (((HS.out.poke HF.out (by omega) _).poke (HF.out.poke _ _) (by omega) _).poke ((HF.out.poke _ _).poke _ _) (by omega) _).poke (((HF.out.poke _ _).poke _ _).poke _ _) (by omega) _
    · exact ((((HF.out.poke _ _).poke _ _).poke _ _).poke _ _).mono (by omega)
  · have HV := Lib.hid (ringResync_no rev h2)
    have h2 : ringOk r = false := by simpa using h2
    go_enter Try.func12, Try.ntmps12
    go_wp2_with fail
    refine (impl_RingOk_c r _ _ (h.below blw)).mono ?_
    rintro e w1 ⟨rfl, hb1⟩
    rw [h2]
    have s1 := hb1.size
    (try simp at s1)
    obtain ⟨hc1, hf1⟩ := bcell hb1
    have z2 : w.heap.size + 1 < w1.heap.size := by omega
    have y0 : w1.cell? ⟨w.heap.size + 1, 0, none⟩ = some (.int .i64 0) := by rw [hc1 _ _ (by simp)]; simp [go_sem]
    have y1 : w1.cell? ⟨w.heap.size + 1, 1, none⟩ = some (.int .i64 0) := by rw [hc1 _ _ (by simp)]; simp [go_sem]
    have y2 : w1.cell? ⟨w.heap.size + 1, 2, none⟩ = some (.bool false) := by rw [hc1 _ _ (by simp)]; simp [go_sem]
    have y3 : w1.cell? ⟨w.heap.size + 1, 3, none⟩ = some (.slice none 0 0) := by rw [hc1 _ _ (by simp)]; simp [go_sem]
    have HBW : Hid (Below w.heap.size w w1) := Lib.hid blw
    clear hb1
    go_wp2
    rw [HV.out]
    exact bodyPost_ret (v := .tuple #[.agg #[.int .i64 0, .int .i64 0, .bool false, .slice none 0 0], .bool false]) (by simp [results, Try.results12, go_sem, cell_setCell, *]) rfl ⟨.slice none 0 0, [], rfl, Sl.nil, Fresh.nil _ _, (((HBW.out.setCell (by simp) _).setCell (by simp) _).setCell (by simp) _).setCell (by simp) _⟩
end Go.Proofs.Ytfkaabpaolelgaa
