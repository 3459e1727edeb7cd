/- What both packages ask of a ring. -/
import Derived.Test.YtfkaabpaolelgaaBu
import Derived.Test.YtfkaabpaolelgaaTos
namespace Go.Proofs.Ytfkaabpaolelgaa
open Go.RowKit
def ringHead (r : DRing) : Bool := within r.cap 1 6 && within r.next 1 1000000000 && decide ((r.list.length : Int) ≤ r.cap) && (!r.out || decide (r.list.length = 0))
def ringOk (r : DRing) : Bool := ringHead r && r.list.all entryOk
theorem ringOk_head {r : DRing} (h : ringHead r = false) : ringOk r = false := by simp [ringOk, h]
theorem ringOk_all {r : DRing} (h : r.list.all entryOk = false) : ringOk r = false := by simp [ringOk, h]
theorem ringOk_both {r : DRing} (h : r.list.all entryOk = true) : ringOk r = ringHead r := by simp [ringOk, h]
  
set_option maxHeartbeats 4000000 in
set_option maxRecDepth 100000 in
theorem impl_RingOk_c (r : DRing) (v : Value) (w : World) (h : RdS w v r.list) : Calls Try.prog 9 #[.agg #[.int .i64 r.cap, .int .i64 r.next, .bool r.out, v]] w (Tells w (.bool (ringOk r))) := by
  have hl := fun w1 ty => h.len Try.underlying23 w1 ty
  have ba := h.le
  by_cases h1 : within r.cap 1 6 = true
  rotate_left
  · have h1 : within r.cap 1 6 = false := by simpa using h1
    have HH : Hid (ringHead r = false) := Lib.hid (by simp [ringHead, h1])
    go_enter Try.func9, Try.ntmps9
    go_wp2_with fail
    refine (impl_within_c _ _ _ _).mono ?_
    rintro e w1 ⟨rfl, hb1⟩
    have s1 := hb1.size
    (try simp at s1)
    obtain ⟨hc1, hf1⟩ := bcell hb1
    have z1 : w.heap.size < w1.heap.size := by omega
    go_wp2
    go_ret
    exact ⟨ret_bool (ringOk_head HH.out).symm, blw⟩
  by_cases h2 : within r.next 1 1000000000 = true
  rotate_left
  · have h2 : within r.next 1 1000000000 = false := by simpa using h2
    have HH : Hid (ringHead r = false) := Lib.hid (by simp [ringHead, h2])
    go_enter Try.func9, Try.ntmps9
    go_wp2_with fail
    refine (impl_within_c _ _ _ _).mono ?_
    rintro e w1 ⟨rfl, hb1⟩
    have s1 := hb1.size
    (try simp at s1)
    obtain ⟨hc1, hf1⟩ := bcell hb1
    have z1 : w.heap.size < w1.heap.size := by omega
    go_wp2_with fail
    refine (impl_within_c _ _ _ _).mono ?_
    rintro e w2 ⟨rfl, hb2⟩
    have s2 := hb2.size
    (try simp at s2)
    obtain ⟨hc2, hf2⟩ := bcell hb2
    have z2 : w.heap.size < w2.heap.size := by omega
    go_wp2
    go_ret
    exact ⟨ret_bool (ringOk_head HH.out).symm, blw⟩
  by_cases h3 : (r.list.length : Int) ≤ r.cap
  rotate_left
  · have HH : Hid (ringHead r = false) := Lib.hid (by simp [ringHead, h3])
    have h3a : decide ((r.list.length : Int) ≤ r.cap) = false := by simpa using h3
    have h3b : decide (r.cap < (r.list.length : Int)) = true := by simpa using h3
    have h3c : r.cap < (r.list.length : Int) := by omega
    go_enter Try.func9, Try.ntmps9
    go_wp2_with fail
    refine (impl_within_c _ _ _ _).mono ?_
    rintro e w1 ⟨rfl, hb1⟩
    have s1 := hb1.size
    (try simp at s1)
    obtain ⟨hc1, hf1⟩ := bcell hb1
    have z1 : w.heap.size < w1.heap.size := by omega
    go_wp2_with fail
    refine (impl_within_c _ _ _ _).mono ?_
    rintro e w2 ⟨rfl, hb2⟩
    have s2 := hb2.size
    (try simp at s2)
    obtain ⟨hc2, hf2⟩ := bcell hb2
    have z2 : w.heap.size < w2.heap.size := by omega
    go_wp2
    go_ret
    exact ⟨ret_bool (ringOk_head HH.out).symm, blw⟩
  have h3a : decide ((r.list.length : Int) ≤ r.cap) = true := by simpa using h3
  have h3b : decide (r.cap < (r.list.length : Int)) = false := by simp; omega
  have h3c : ¬ r.cap < (r.list.length : Int) := by omega
  by_cases h4 : r.out = true
  rotate_left
  · have h4 : r.out = false := by simpa using h4
    have HH : Hid (ringHead r = true) := Lib.hid (by simp [ringHead, h1, h2, h3, h4])
    go_enter Try.func9, Try.ntmps9
    go_wp2_with fail
    refine (impl_within_c _ _ _ _).mono ?_
    rintro e w1 ⟨rfl, hb1⟩
    have s1 := hb1.size
    (try simp at s1)
    obtain ⟨hc1, hf1⟩ := bcell hb1
    have z1 : w.heap.size < w1.heap.size := by omega
    go_wp2_with fail
    refine (impl_within_c _ _ _ _).mono ?_
    rintro e w2 ⟨rfl, hb2⟩
    have s2 := hb2.size
    (try simp at s2)
    obtain ⟨hc2, hf2⟩ := bcell hb2
    have z2 : w.heap.size < w2.heap.size := by omega
    go_wp2
    go_loopw [36] (fun i wr => ∃ k : Nat, k ≤ r.list.length ∧ i = .int .i64 k ∧ (∀ j < k, ∀ y, r.list[j]? = some y → entryOk y = true) ∧ Below w.heap.size w wr) (fun i _ => r.list.length - (intOf i).toNat)
    case atStart => exact ⟨0, Nat.zero_le _, rfl, fun _ h => absurd h (Nat.not_lt_zero _), blw⟩
    case round =>
      obtain ⟨k, hk, rfl, hj, hbw⟩ := hrel
      have HJ := Lib.hid hj
      clear hj
      have hbw0 : Below w.heap.size w wr := hbw
      have hsz : w.heap.size ≤ wr.heap.size := by have := hbw.size; (try simp at this); omega
      by_cases hlt : k < r.list.length
    
      · obtain ⟨e, hx⟩ := get_some hlt
        obtain ⟨b1, o1, cs, g1, g2, g3⟩ := (h.below hbw0).idx Try.underlying23 szi_DEntry k hx
        obtain ⟨v_o, rfl, r_o⟩ := inv_DEntry g3
        have q0 := g2.zero
        have q1 := g2 1 _ rfl
        have q2 := g2 2 _ rfl
        obtain ⟨aa, ca, rfl⟩ := r_o.isSlice
        have HX := Lib.hid hx
        clear hx
        by_cases hok : entryOk e = true
        · go_wp2_with fail
          refine (impl_EntryOk_c e _ _ (r_o.below blw)).mono ?_
          rintro e' w1 ⟨rfl, hb1⟩
          rw [hok]
          have HB : Hid (Below w.heap.size w w1) := Lib.hid (blw)
          have HO := Lib.hid hok
          clear hok hb1
          go_wp2
          go_roundw
          case rel => exact ⟨k + 1, by omega, by go_num, yes_step HX.out HO.out HJ.out, HB.out⟩
          case measure => simp [intOf]; omega
        · have hok : entryOk e = false := by simpa using hok
          have HN : Hid (ringOk r = false) := Lib.hid (ringOk_all (all_no HX.out hok))
          go_wp2_with fail
          refine (impl_EntryOk_c e _ _ (r_o.below blw)).mono ?_
          rintro e' w1 ⟨rfl, hb1⟩
          rw [hok]
          clear hok
          go_wp2
          go_ret
          exact ⟨ret_bool HN.out.symm, blw⟩
      · have HA : Hid (ringOk r = true) := Lib.hid ((ringOk_both (all_yes fun j hj => HJ.out j (by omega))).trans HH.out)
        go_wp2
        go_ret
        exact ⟨ret_bool HA.out.symm, hbw⟩
  by_cases h5 : r.list.length = 0
  rotate_left
  · have HH : Hid (ringHead r = false) := Lib.hid (by simp only [ringHead, h1, h2, h3, h4]; simp [h5])
    have h5a : ((r.list.length : Int) == 0) = false := by simpa using h5
    have h5b : 0 < r.list.length := by omega
    have h5c : decide (0 < (r.list.length : Int)) = true := decide_eq_true (by omega)
    have h5d : decide (0 < r.list.length) = true := decide_eq_true (by omega)
    clear h5
    go_enter Try.func9, Try.ntmps9
    go_wp2_with fail
    refine (impl_within_c _ _ _ _).mono ?_
    rintro e w1 ⟨rfl, hb1⟩
    have s1 := hb1.size
    (try simp at s1)
    obtain ⟨hc1, hf1⟩ := bcell hb1
    have z1 : w.heap.size < w1.heap.size := by omega
    go_wp2_with fail
    refine (impl_within_c _ _ _ _).mono ?_
    rintro e w2 ⟨rfl, hb2⟩
    have s2 := hb2.size
    (try simp at s2)
    obtain ⟨hc2, hf2⟩ := bcell hb2
    have z2 : w.heap.size < w2.heap.size := by omega
    go_wp2
    go_ret
    exact ⟨ret_bool (ringOk_head HH.out).symm, blw⟩
  have HH : Hid (ringHead r = true) := Lib.hid (by simp only [ringHead, h1, h2, h3, h4]; simp [h5])
  have h5a : ((r.list.length : Int) == 0) = true := by simp only [h5]; rfl
  have h5b : ¬ 0 < r.list.length := by omega
  have h5c : decide (0 < (r.list.length : Int)) = false := decide_eq_false (by omega)
  have h5d : decide (0 < r.list.length) = false := decide_eq_false (by omega)
  clear h5
  go_enter Try.func9, Try.ntmps9
  go_wp2_with fail
  refine (impl_within_c _ _ _ _).mono ?_
  rintro e w1 ⟨rfl, hb1⟩
  have s1 := hb1.size
  (try simp at s1)
  obtain ⟨hc1, hf1⟩ := bcell hb1
  have z1 : w.heap.size < w1.heap.size := by omega
  go_wp2_with fail
  refine (impl_within_c _ _ _ _).mono ?_
  rintro e w2 ⟨rfl, hb2⟩
  have s2 := hb2.size
  (try simp at s2)
  obtain ⟨hc2, hf2⟩ := bcell hb2
  have z2 : w.heap.size < w2.heap.size := by omega
  go_wp2
  go_loopw [36] (fun i wr => ∃ k : Nat, k ≤ r.list.length ∧ i = .int .i64 k ∧ (∀ j < k, ∀ y, r.list[j]? = some y → entryOk y = true) ∧ Below w.heap.size w wr) (fun i _ => r.list.length - (intOf i).toNat)
  case atStart => exact ⟨0, Nat.zero_le _, rfl, fun _ h => absurd h (Nat.not_lt_zero _), blw⟩
  case round =>
    obtain ⟨k, hk, rfl, hj, hbw⟩ := hrel
    have HJ := Lib.hid hj
    clear hj
    have hbw0 : Below w.heap.size w wr := hbw
    have hsz : w.heap.size ≤ wr.heap.size := by have := hbw.size; (try simp at this); omega
    by_cases hlt : k < r.list.length
  
    · exfalso; omega
    · have HA : Hid (ringOk r = true) := Lib.hid ((ringOk_both (all_yes fun j hj => HJ.out j (by omega))).trans HH.out)
      go_wp2
      go_ret
      exact ⟨ret_bool HA.out.symm, hbw⟩
end Go.Proofs.Ytfkaabpaolelgaa
