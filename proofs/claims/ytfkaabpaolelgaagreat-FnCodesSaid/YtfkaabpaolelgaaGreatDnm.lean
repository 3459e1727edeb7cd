/- The draw of a name. -/
import Derived.Test.YtfkaabpaolelgaaGreatDry
import Derived.Test.YtfkaabpaolelgaaGreatDpl
namespace Go.Proofs.YtfkaabpaolelgaaGreat
open Go.RowKit
set_option maxHeartbeats 2000000 in
set_option maxRecDepth 100000 in
theorem spec_l01Str_c (w0 : World) (bc : Nat) (vb : Value) (bs : List DByte) (b : Nat) (s0 s1 s2 s3 : ByteArray) (w : World) (hc : Cu w0 bc vb bs w) (hx : Bx w b [.string s0, .string s1, .string s2, .string s3]) (hb : b ≠ bc) :
    Calls Tryz.prog 57 #[.pointer (some ⟨bc, 0, none⟩), .slice (some ⟨b, 0, none⟩) 4 4] w (fun e w' => ∃ s : ByteArray, e = .returned (.string s) ∧ (s = s0 ∨ s = s1 ∨ s = s2 ∨ s = s3) ∧ CuOut w0 bc vb bs w w') := by
  go_enter Tryz.func57, Tryz.ntmps57
  go_wp2_with fail
  refine (spec_l01Below_c w0 bc vb bs 4 _ hc).mono ?_
  rintro e' w1 ⟨x, rfl, hx1, hc1⟩
  obtain ⟨h0, h1⟩ := hx1.1 (by decide)
  obtain ⟨z, q0, q1, q2, q3⟩ := (hx.wr hc1.2 (fun p hp => by simp only [List.mem_cons, List.not_mem_nil, or_false] at hp; rcases hp with rfl | rfl <;> exact Ne.symm hb)).o4
  have HC1 := Lib.hid hc1
  clear hc1 hx1 hc hx
  obtain rfl | rfl | rfl | rfl : x = 0 ∨ x = 1 ∨ x = 2 ∨ x = 3 := by omega
  · clear h0 h1
    go_wp2
    go_ret
    exact ⟨s0, rfl, .inl rfl, HC1.out⟩
  · clear h0 h1
    go_wp2
    go_ret
    exact ⟨s1, rfl, .inr (.inl rfl), HC1.out⟩
  · clear h0 h1
    go_wp2
    go_ret
    exact ⟨s2, rfl, .inr (.inr (.inl rfl)), HC1.out⟩
  · clear h0 h1
    go_wp2
    go_ret
    exact ⟨s3, rfl, .inr (.inr (.inr rfl)), HC1.out⟩
theorem spec_l08Name_c (w0 : World) (bc : Nat) (vb : Value) (bs : List DByte) (w : World) (hc : Cu w0 bc vb bs w) :
    Calls Tryz.prog 24 #[.pointer (some ⟨bc, 0, none⟩)] w (fun e w' => ∃ s : ByteArray, e = .returned (.string s) ∧ nameOk s = true ∧ s.size ≤ 8 ∧ CuOut w0 bc vb bs w w') := by
  have hlt := hc.lt
  go_enter Tryz.func24, Tryz.ntmps24
  go_wp2_with fail
  refine (spec_l01Str_c w0 bc vb bs w.heap.size ⟨#[97]⟩ ⟨#[98]⟩ ⟨#[110, 111, 116, 101, 115]⟩ ⟨#[116, 111, 100, 111]⟩ _ (hc.below ((Below.refl _ _).alloc (Nat.le_refl _) _)) (Bx.new rfl) (by omega)).mono ?_
  rintro e' w1 ⟨s, rfl, hs, hc1⟩
  have HC1 : Hid (CuOut w0 bc vb bs w w1) := Lib.hid ⟨hc1.1, (Wr.of_below ((Below.refl _ _).alloc (Nat.le_refl _) _)).trans hc1.2⟩
  have HS : Hid (nameOk s = true ∧ s.size ≤ 8) := Lib.hid (by rcases hs with rfl | rfl | rfl | rfl <;> exact ⟨by decide, by decide⟩)
  clear hc1 hs hc
  go_wp2
  go_ret
  exact ⟨s, rfl, HS.out.1, HS.out.2, HC1.out⟩
end Go.Proofs.YtfkaabpaolelgaaGreat
