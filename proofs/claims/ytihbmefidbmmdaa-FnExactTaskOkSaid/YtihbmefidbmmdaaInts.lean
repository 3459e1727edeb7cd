/- Slices of ints: copied, compared, measured, marked, held against their marks. -/
import Derived.Test.YtihbmefidbmmdaaFill
import Derived.Test.YtihbmefidbmmdaaChecked
namespace Go.Proofs.Ytihbmefidbmmdaa
open Go.RowKit
theorem sz_int : ∀ w1, (sizeOf 3).run Try.prog w1 = .ok 1 w1 := fun _ => by kernel_rfl

set_option maxHeartbeats 400000 in
theorem eqIntS_c (va vb : Value) (a : List Int) (w : World) (ha : RdS w va a) (hb : RdS w vb a) :
    Calls Try.prog 88 #[va, vb] w (Tells w (.bool true)) := by
  have hla := fun w1 ty => ha.len Try.underlying48 w1 ty
  have hlb := fun w1 ty => hb.len Try.underlying48 w1 ty
  have ba := ha.le
  go_enter Try.func88, Try.ntmps88
  go_wp2
  go_loopw [5] (fun i wr => ∃ k : Nat, k ≤ a.length ∧ i = .int .i64 k ∧ Below w.heap.size w wr) (fun i _ => a.length - (intOf i).toNat)
  case atStart => exact ⟨0, Nat.zero_le _, rfl, Below.refl _ _⟩
  case round =>
    obtain ⟨k, hk, rfl, hbw⟩ := hrel
    by_cases hlt : k < a.length
    · obtain ⟨x, hx⟩ := get_some hlt
      obtain ⟨b1, o1, _, h1, h2, _, rfl, rfl⟩ := (ha.below hbw).idx Try.underlying48 sz_int k hx
      obtain ⟨b2, o2, _, h3, h4, _, rfl, rfl⟩ := (hb.below hbw).idx Try.underlying48 sz_int k hx
      have h2 := h2.one
      have h4 := h4.one
      clear hx
      go_wp2
      go_quiet (fail)
      go_wp2
      go_roundw
      case rel => exact ⟨k + 1, by omega, by go_num, belowN hbw _⟩
      case measure => simp [intOf]; omega
    · go_wp2
      go_ret
      exact ⟨rfl, hbw⟩

/-- the measure: what is left, or -1 -/
def less (left : Int) (n : Nat) : Int := if (n : Int) ≤ left then left - n else -1
theorem less_pos {left : Int} {n : Nat} (h : (n : Int) ≤ left) : less left n = left - n := if_pos h
theorem less_neg {left : Int} {n : Nat} (h : ¬ (n : Int) ≤ left) : less left n = -1 := if_neg h
set_option maxHeartbeats 400000 in
theorem szIntS_c (M : Nat) (v : Value) (l : List Int) (fp : List Pos) (w : World) (left : Int) (h0 : 0 ≤ left) (h1 : left ≤ 1048576) (h : Sl M w v l fp) :
    Calls Try.prog 79 #[v, .int .i64 left] w (Tells w (.int .i64 (less left l.length))) := by
  have hl := fun w1 ty => h.len Try.underlying48 w1 ty
  have hb := h.le
  unfold maxLen at hb
  by_cases hle : (l.length : Int) ≤ left
  · rw [less_pos hle]
    go_enter Try.func79, Try.ntmps79
    go_wp2
    go_ret
    exact ⟨rfl, Below.refl _ _⟩
  · rw [less_neg hle]
    go_enter Try.func79, Try.ntmps79
    go_wp2
    go_ret
    exact ⟨rfl, Below.refl _ _⟩

theorem info_int : (Try.prog.info? 3).map (fun i => (i.zero, i.size, i.bytes)) = some (some (.int .i64 0), 1, 8) := by kernel_rfl
set_option maxHeartbeats 400000 in
theorem toIntS_c (v : Value) (l : List Int) (w : World) (h : RdS w v l) :
    Calls Try.prog 83 #[v] w (GivesS w l) := by
  have hl := fun w1 ty => h.len Try.underlying48 w1 ty
  have hb := h.le
  obtain ⟨i0, hi, hz0, hz1, hz2⟩ := info_parts info_int
  go_enter Try.func83, Try.ntmps83
  go_wp2_with (first | (at_make; refine wpList_make_full _ rfl _ _ 48 rfl w.heap.size 3 i0 (.int .i64 0) 1 Try.underlying48 hi hz0 hz1 .i64 .i64 _ _ l.length rfl rfl rfl rfl ?c1 ?c2 ?c3 ?_))
  case c1 => rw [hz2]; omega
  case c2 => unfold maxLen; omega
  case c3 => exact Nat.le_refl _
  intro w1 hown hgrow
  have HF : Hid (Fill 3 w1 w.heap.size w.heap.size l 0) := Fill.start hown rfl (le_BIG hb)
  have HB : Hid (Below w.heap.size w w1) := (Below.refl _ _).grown hgrow (Nat.le_refl _) (fun _ e => by cases e)
  clear hown hgrow
  go_wp2
  go_loopw [4] (fun i wr => ∃ k : Nat, k ≤ l.length ∧ i = .int .i64 k ∧ Fill 3 wr w.heap.size w.heap.size l k ∧ Below w.heap.size w wr) (fun i _ => l.length - (intOf i).toNat)
  case atStart => exact ⟨0, Nat.zero_le _, rfl, HF.out, HB.out⟩
  case round =>
    obtain ⟨k, hk, rfl, hf, hbw⟩ := hrel
    by_cases hlt : k < l.length
    · obtain ⟨x, hx⟩ := get_some hlt
      obtain ⟨b1, o1, _, h1, h2, _, rfl, rfl⟩ := (h.below hbw).idx Try.underlying48 sz_int k hx
      have h2 := h2.one
      obtain ⟨⟨u, hu⟩, hz⟩ := hf.cells hlt 0 (by decide)
      have HS : Hid (Fill 3 (wr.setCell ⟨w.heap.size, k, none⟩ (.int .i64 x)) w.heap.size w.heap.size l (k + 1)) := by
        have := hf.step (Below.refl _ _) hx (c := [.int .i64 x]) ⟨[], ⟨rfl, rfl⟩, List.nodup_nil, fun _ h => (by cases h), fun _ h => (by cases h)⟩
        show Fill 3 (wr.setCell ⟨w.heap.size, k, none⟩ (.int .i64 x)) w.heap.size w.heap.size l (k + 1)
        simpa [World.setCells, GoT.n] using this
      simp only [GoT.n, Nat.mul_one, Nat.add_zero] at hu hz
      clear hx
      go_wp2
      go_roundw
      case rel => exact ⟨k + 1, by omega, by go_num, HS.out, hbw.setCell (p := ⟨w.heap.size, k, none⟩) (Nat.le_refl _) _⟩
      case measure => simp [intOf]; omega
    · obtain rfl : k = l.length := by omega
      have hd := hf.done
      go_wp2
      go_ret
      exact ⟨_, rfl, hd, hbw⟩
end Go.Proofs.Ytihbmefidbmmdaa
