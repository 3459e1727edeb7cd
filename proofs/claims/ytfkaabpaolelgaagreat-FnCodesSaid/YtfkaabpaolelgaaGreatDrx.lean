/- The draws of numbers, signs and parts. -/
import Derived.Test.YtfkaabpaolelgaaGreatDrw
import Derived.Test.YtfkaabpaolelgaaGreatWri
namespace Go.Proofs.YtfkaabpaolelgaaGreat
open Go.RowKit
theorem rd_int {M : Nat} {w : World} {c : List Value} {x : Int} {f : List Pos} (h : GoT.rd M w c x f) : c = [.int .i64 x] := h.1
theorem els_ints (w : World) : ∀ l : List Int, Els BIG w (l.map fun x => Value.int .i64 x) l []
  | [] => ⟨rfl, rfl⟩
  | x :: l => ⟨[.int .i64 x], l.map fun x => Value.int .i64 x, [], [], rfl, ⟨rfl, rfl⟩, els_ints w l, rfl⟩
theorem ints_alloc (w : World) (l : List Int) (E : TypeId) (hl : l.length ≤ 1000) : Sl BIG (w.alloc (.cells (l.map fun x => Value.int .i64 x).toArray E)) (.slice (some ⟨w.heap.size, 0, none⟩) l.length l.length) l (own w.heap.size 0 (l.length * GoT.n Int) ++ []) := by
  have hx : Bx (w.alloc (.cells (l.map fun x => Value.int .i64 x).toArray E)) w.heap.size (l.map fun x => Value.int .i64 x) := by
    have h := Bx.new (w := w) (c := (l.map fun x => Value.int .i64 x).toArray) (t := E) (b := w.heap.size) rfl
    simpa using h
  refine .inr ⟨w.heap.size, 0, l.length, _, [], rfl, Nat.le_refl _, Nat.le_trans hl (by decide), le_BIG (by omega), fun j u hj => ?_, els_ints _ l, fun p hp => ?_, rfl⟩
  · rw [Nat.zero_add]; exact (hx.2 j u hj).1
  · obtain ⟨q1, q2, q3⟩ := mem_own.1 hp
    have h1 : GoT.n Int = 1 := rfl
    rw [h1] at q3
    obtain ⟨y, hy⟩ := get_some (l := l) (k := p.2) (by omega)
    have := (hx.2 p.2 (.int .i64 y) (by rw [List.getElem?_map, hy]; rfl)).1
    rw [q1, this]; rfl
/-- a number below n -/
def Lt0 (n x : Int) : Prop := (0 < n → 0 ≤ x ∧ x < n) ∧ (n ≤ 0 → x = 0)
set_option maxHeartbeats 2000000 in
set_option maxRecDepth 100000 in
theorem spec_l01Below_c (w0 : World) (bc : Nat) (vb : Value) (bs : List DByte) (n : Int) (w : World) (hc : Cu w0 bc vb bs w) :
    Calls Tryz.prog 35 #[.pointer (some ⟨bc, 0, none⟩), .int .i64 n] w (fun e w' => ∃ x : Int, e = .returned (.int .i64 x) ∧ Lt0 n x ∧ CuOut w0 bc vb bs w w') := by
  by_cases h1 : n ≤ 0
  · have HC := Lib.hid hc
    clear hc
    go_enter Tryz.func35, Tryz.ntmps35
    go_wp2
    go_ret
    exact ⟨0, rfl, ⟨fun h => by omega, fun _ => rfl⟩, HC.out, Wr.refl _ _⟩
  have h1a : 0 < n := by omega
  have hn0 : n ≠ 0 := by omega
  by_cases h2 : n ≤ 256
  · go_enter Tryz.func35, Tryz.ntmps35
    go_wp2_with fail
    refine (spec_l01Byte_c w0 bc vb bs _ hc).mono ?_
    rintro e' w1 ⟨x, rfl, hx0, hx1, hc1⟩
    have HC1 := Lib.hid hc1
    have HXX : Hid (0 ≤ x % n ∧ x % n < n) := Lib.hid ⟨Int.emod_nonneg x hn0, Int.emod_lt_of_pos x h1a⟩
    clear hc1 hc
    go_wp2
    go_ret
    exact ⟨x % n, rfl, ⟨fun _ => HXX.out, fun h => by omega⟩, HC1.out⟩
  go_enter Tryz.func35, Tryz.ntmps35
  go_wp2_with fail
  refine (spec_l01Byte_c w0 bc vb bs _ hc).mono ?_
  rintro e' w1 ⟨x1, rfl, x10, x11, hc1⟩
  go_wp2_with fail
  refine (spec_l01Byte_c w0 bc vb bs _ hc1.1).mono ?_
  rintro e' w2 ⟨x2, rfl, x20, x21, hc2⟩
  go_wp2_with fail
  refine (spec_l01Byte_c w0 bc vb bs _ hc2.1).mono ?_
  rintro e' w3 ⟨x3, rfl, x30, x31, hc3⟩
  go_wp2_with fail
  refine (spec_l01Byte_c w0 bc vb bs _ hc3.1).mono ?_
  rintro e' w4 ⟨x4, rfl, x40, x41, hc4⟩
  have HC4 := Lib.hid (((hc1.trans hc2).trans hc3).trans hc4)
  have hs0 : 0 ≤ x1 * 16777216 + x2 * 65536 + x3 * 256 + x4 := by omega
  have HXX : Hid (0 ≤ (x1 * 16777216 + x2 * 65536 + x3 * 256 + x4) % n ∧ (x1 * 16777216 + x2 * 65536 + x3 * 256 + x4) % n < n) := Lib.hid ⟨Int.emod_nonneg _ hn0, Int.emod_lt_of_pos _ h1a⟩
  have hb1 : IntKind.i64.wrap (x1 * 16777216) = x1 * 16777216 := IntWalk.i64_in _ (by omega)
  have hb2 : IntKind.i64.wrap (x2 * 65536) = x2 * 65536 := IntWalk.i64_in _ (by omega)
  have hb3 : IntKind.i64.wrap (x3 * 256) = x3 * 256 := IntWalk.i64_in _ (by omega)
  have hb4 : IntKind.i64.wrap (x1 * 16777216 + x2 * 65536) = x1 * 16777216 + x2 * 65536 := IntWalk.i64_in _ (by omega)
  have hb5 : IntKind.i64.wrap (x1 * 16777216 + x2 * 65536 + x3 * 256) = x1 * 16777216 + x2 * 65536 + x3 * 256 := IntWalk.i64_in _ (by omega)
  have hb6 : IntKind.i64.wrap (x1 * 16777216 + x2 * 65536 + x3 * 256 + x4) = x1 * 16777216 + x2 * 65536 + x3 * 256 + x4 := IntWalk.i64_in _ (by omega)
  clear hc hc1 hc2 hc3 hc4
  go_wp2
  go_ret
  exact ⟨_, rfl, ⟨fun _ => HXX.out, fun h => by omega⟩, HC4.out⟩
theorem spec_l01Once_c (w0 : World) (bc : Nat) (vb : Value) (bs : List DByte) (n : Int) (w : World) (hc : Cu w0 bc vb bs w) :
    Calls Tryz.prog 37 #[.pointer (some ⟨bc, 0, none⟩), .int .i64 n] w (fun e w' => ∃ b : Bool, e = .returned (.bool b) ∧ CuOut w0 bc vb bs w w') := by
  go_enter Tryz.func37, Tryz.ntmps37
  go_wp2_with fail
  refine (spec_l01Below_c w0 bc vb bs n _ hc).mono ?_
  rintro e' w1 ⟨x, rfl, _, hc1⟩
  have HC1 := Lib.hid hc1
  clear hc1 hc
  go_wp2
  go_ret
  exact ⟨_, rfl, HC1.out⟩
theorem spec_l01Pick_c (w0 : World) (bc : Nat) (vb : Value) (bs : List DByte) (vl : Value) (l : List Int) (w : World) (hc : Cu w0 bc vb bs w) (hl : ∃ f, Sl BIG w vl l f ∧ ∀ p ∈ f, p.1 ≠ bc) (h0 : 0 < l.length) :
    Calls Tryz.prog 83 #[.pointer (some ⟨bc, 0, none⟩), vl] w (fun e w' => ∃ y : Int, e = .returned (.int .i64 y) ∧ y ∈ l ∧ CuOut w0 bc vb bs w w') := by
  obtain ⟨f, hs, hf⟩ := hl
  have hlx := fun w1 ty => (show RdS w vl l from ⟨_, hs⟩).len Tryz.underlying23 w1 ty
  have HS := Lib.hid hs
  have HF := Lib.hid hf
  clear hs hf
  go_enter Tryz.func83, Tryz.ntmps83
  go_wp2_with fail
  refine (spec_l01Below_c w0 bc vb bs (l.length : Int) _ hc).mono ?_
  rintro e' w1 ⟨x, rfl, hx, hc1⟩
  obtain ⟨hx0, hx1⟩ := hx.1 (by omega)
  obtain ⟨k, rfl⟩ : ∃ k : Nat, x = k := ⟨x.toNat, by omega⟩
  have hs1 : Sl BIG w1 vl l f := HS.out.wr hc1.2 (fun p hp hq => by simp only [List.mem_cons, List.not_mem_nil, or_false] at hq; have := HF.out p hp; rcases hq with rfl | rfl <;> exact this rfl)
  obtain ⟨y, hy⟩ := get_some (l := l) (k := k) (by omega)
  obtain ⟨b1, o1, cs, k1, k2, _, k3⟩ := (show RdS w1 vl l from ⟨_, hs1⟩).idx Tryz.underlying23 sz_int k hy
  obtain rfl := rd_int k3
  have q0 := k2.zero
  have HC1 := Lib.hid hc1
  have hk2 : (k : Int) < (l.length : Int) := by omega
  have HY := Lib.hid (List.mem_of_getElem? hy)
  clear hc1 hc hx k2 k3 hs1 hy
  go_wp2
  go_ret
  exact ⟨y, rfl, HY.out, HC1.out⟩
theorem spec_l01Sign_c (w0 : World) (bc : Nat) (vb : Value) (bs : List DByte) (w : World) (hc : Cu w0 bc vb bs w) :
    Calls Tryz.prog 72 #[.pointer (some ⟨bc, 0, none⟩)] w (fun e w' => ∃ y : Int, e = .returned (.int .i64 y) ∧ signOk y = true ∧ CuOut w0 bc vb bs w w') := by
  go_enter Tryz.func72, Tryz.ntmps72
  go_wp2_with fail
  refine (spec_l01Once_c w0 bc vb bs 8 _ hc).mono ?_
  rintro e' w1 ⟨b, rfl, hc1⟩
  have HC1 := Lib.hid hc1
  clear hc1 hc
  cases b
  · go_wp2_with fail
    refine (spec_l01Below_c w0 bc vb bs 6 _ HC1.out.1).mono ?_
    rintro e' w2 ⟨x, rfl, hx, hc2⟩
    obtain ⟨hx0, hx1⟩ := hx.1 (by decide)
    have HC2 := Lib.hid (HC1.out.trans hc2)
    have HS : Hid (signOk (97 + x) = true) := Lib.hid (by simp [signOk, within]; omega)
    have e97 : IntKind.i64.wrap (97 + x) = 97 + x := IntWalk.i64_in _ (by omega)
    clear hc2 hx
    go_wp2
    go_ret
    exact ⟨_, rfl, HS.out, HC2.out⟩
  · have hlt := HC1.out.1.bx
    obtain ⟨i, h, hx, _⟩ := hlt
    have hbl := hx.lt
    clear hx
    go_wp2_with fail
    refine (spec_l01Pick_c w0 bc vb bs _ [0, 127, 128, 2047, 2048, 55295, 57344, 65535, 65536, 1114111, 10, 32] _ (HC1.out.1.below ((Below.refl _ _).alloc (Nat.le_refl _) _)) ⟨_, ints_alloc w1 [0, 127, 128, 2047, 2048, 55295, 57344, 65535, 65536, 1114111, 10, 32] 3 (by decide), fun p hp => ?_⟩ (by decide)).mono ?_
    · rw [List.append_nil] at hp
      have := (mem_own.1 hp).1
      omega
    rintro e' w2 ⟨y, rfl, hy, hc2⟩
    have HS : Hid (signOk y = true) := Lib.hid ((show ∀ y ∈ ([0, 127, 128, 2047, 2048, 55295, 57344, 65535, 65536, 1114111, 10, 32] : List Int), signOk y = true by decide) y hy)
    have HC2 : Hid (CuOut w0 bc vb bs w w2) := Lib.hid ⟨hc2.1, HC1.out.2.trans ((Wr.of_below ((Below.refl _ _).alloc (Nat.le_refl _) _)).trans hc2.2)⟩
    clear hc2 hy
    go_wp2
    go_ret
    exact ⟨y, rfl, HS.out, HC2.out⟩
end Go.Proofs.YtfkaabpaolelgaaGreat
