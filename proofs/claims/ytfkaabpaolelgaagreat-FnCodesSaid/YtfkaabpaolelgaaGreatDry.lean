/- The draws of lists: signs, parts, entries. -/
import Derived.Test.YtfkaabpaolelgaaGreatDrx
import Derived.Test.YtfkaabpaolelgaaGreatCp
namespace Go.Proofs.YtfkaabpaolelgaaGreat
open Go.RowKit
theorem OwnS.cu {α : Type} [GoT α] {B bc : Nat} {w w' : World} {v : Value} {l : List α} (h : OwnS B w v l) (hw : Wr [(bc, 1), (bc, 2)] w w') (hb : bc < B) : OwnS B w' v l := by
  obtain ⟨f, h1, h2⟩ := h
  exact ⟨f, h1.wr hw fun p hp hq => by have := h2.ge p hp; simp only [List.mem_cons, List.not_mem_nil, or_false] at hq; rcases hq with rfl | rfl <;> (simp only at this; omega), hw.fresh h1.live h2⟩
theorem Cu.lt {w0 w : World} {bc : Nat} {vb : Value} {bs : List DByte} (h : Cu w0 bc vb bs w) : bc < w.heap.size := let ⟨_, _, hx, _⟩ := h.bx; hx.lt
theorem wr_cu {a b c : World} {bc : Nat} {hs : List Pos} (h : Wr [(bc, 1), (bc, 2)] a b) (k : Wr hs b c) (hn : ∀ p ∈ hs, a.heap.size ≤ p.1) : Wr [(bc, 1), (bc, 2)] a c := h.trans2 k fun p hp => .inr (hn p hp)
set_option maxHeartbeats 2000000 in
set_option maxRecDepth 100000 in
theorem spec_l01Signs_s (w0 : World) (bc : Nat) (vb : Value) (bs : List DByte) (m : Nat) (w : World) (hc : Cu w0 bc vb bs w) (hm : m ≤ 1000) :
    Calls Tryz.prog 52 #[.pointer (some ⟨bc, 0, none⟩), .int .i64 m] w (fun e w' => ∃ (v : Value) (l : List Int), e = .returned v ∧ OwnS w.heap.size w' v l ∧ l.length ≤ m ∧ signsOk l = true ∧ CuOut w0 bc vb bs w w') := by
  obtain ⟨i0, hi, hz0, hz1, hz2⟩ := info_parts info_int1
  have hbl := hc.lt
  go_enter Tryz.func52, Tryz.ntmps52
  go_wp2_with fail
  refine (spec_l01Below_c w0 bc vb bs ((m : Int) + 1) _ (hc.below ((Below.refl _ _).alloc (Nat.le_refl _) _))).mono ?_
  rintro e' w1 ⟨x, rfl, hx, hc1⟩
  obtain ⟨hx0, hx1⟩ := hx.1 (by omega)
  obtain ⟨k0, rfl⟩ : ∃ k : Nat, x = k := ⟨x.toNat, by omega⟩
  have hk0 : k0 ≤ m := by omega
  have HC1 : Hid (CuOut w0 bc vb bs w w1) := Lib.hid ⟨hc1.1, (Wr.of_below ((Below.refl _ _).alloc (Nat.le_refl _) _)).trans hc1.2⟩
  clear hc1 hc hx
  go_wp2_with fail
  go_loopw [5, 6] (fun u i wr => ∃ (u' : Value) (l : List Int) (k : Nat), u' = u ∧ i = .int .i64 k ∧ l.length + k ≤ m ∧ signsOk l = true ∧ OwnS w.heap.size wr u' l ∧ CuOut w0 bc vb bs w wr) (fun _ i _ => (intOf i).toNat)
  case atStart => exact ⟨_, [], k0, rfl, rfl, by simpa using hk0, rfl, OwnS.empty _ _ _, HC1.out⟩
  case round =>
    obtain ⟨u, l, k, rfl, rfl, hlk, hso, hu, hcw⟩ := hrel
    have HSO := Lib.hid hso
    clear hso
    have HU := Lib.hid hu
    have HCW := Lib.hid hcw
    clear hu hcw
    by_cases hk : 0 < k
    · have hk2 : (0 : Int) < (k : Int) := by omega
      go_wp2_with fail
      refine (spec_l01Sign_c w0 bc vb bs _ HCW.out.1).mono ?_
      rintro e' w2 ⟨y, rfl, hy, hc2⟩
      have HSY : Hid (signsOk (l ++ [y]) = true) := Lib.hid (by have := HSO.out; simp only [signsOk] at this; simp [signsOk, this, hy])
      clear hy
      have HC2 := Lib.hid (HCW.out.trans hc2)
      have HROW := Lib.hid (HU.out.cu hc2.2 hbl).ints
      have hsz : w.heap.size ≤ w2.heap.size := HC2.out.2.size
      clear hc2
      go_wp2_with (at_builtin; go_must (refine wpList_append_row rfl _ _ 23 rfl Tryz.underlying23 hi hz0 hz1 hz2 rfl rfl rfl (HROW.out.below ((Below.refl _ _).alloc (Nat.le_refl _) _)) (built_int w2 y 3) (fun _ h => by cases h) ?c1 ?c2 ?c3 ?_))
      case c1 => exact le_BIG (by simp; omega)
      case c2 => simp; omega
      case c3 => simp; omega
      intro v' w3 hr hw hn3
      have HO := Lib.hid hr.ints.2
      have HC3 : Hid (CuOut w0 bc vb bs w w3) := Lib.hid ⟨(HC2.out.1.below ((Below.refl _ _).alloc (Nat.le_refl _) _)).wr hw (fun p hp => by have := HROW.out.2.1.ge p hp; have := HC2.out.1.o; omega), wr_cu (HC2.out.2.trans (Wr.of_below ((Below.refl _ _).alloc (Nat.le_refl _) _))) hw (fun p hp => HROW.out.2.1.ge p hp)⟩
      clear hr hw hn3
      go_wp2
      go_roundw
      case rel => exact ⟨_, l ++ [y], k - 1, rfl, by first | go_num | (congr 1; omega), by simp; omega, HSY.out, HO.out, HC3.out⟩
      case measure => simp [intOf]; omega
    · have hk0 : k = 0 := by omega
      subst hk0
      go_wp2
      go_ret
      exact ⟨u, l, rfl, HU.out, by omega, HSO.out, HCW.out⟩
theorem spec_l01Signs_c (w0 : World) (bc : Nat) (vb : Value) (bs : List DByte) (m : Nat) (w : World) (hc : Cu w0 bc vb bs w) (hm : m ≤ 1000) :
    Calls Tryz.prog 52 #[.pointer (some ⟨bc, 0, none⟩), .int .i64 m] w (fun e w' => ∃ (v : Value) (l : List Int), e = .returned v ∧ OwnS w.heap.size w' v l ∧ l.length ≤ m ∧ CuOut w0 bc vb bs w w') :=
  (spec_l01Signs_s w0 bc vb bs m w hc hm).mono fun _ _ ⟨v, l, h1, h2, h3, _, h5⟩ => ⟨v, l, h1, h2, h3, h5⟩
end Go.Proofs.YtfkaabpaolelgaaGreat
