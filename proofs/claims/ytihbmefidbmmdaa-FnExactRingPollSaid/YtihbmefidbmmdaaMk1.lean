/- Slices of structs: marked. -/
import Derived.Test.YtihbmefidbmmdaaMk0
import Derived.Test.YtihbmefidbmmdaaEq1
import Derived.Test.YtihbmefidbmmdaaGom
import Derived.StillTailTactics
namespace Go.Proofs.Ytihbmefidbmmdaa
open Go.RowKit
set_option maxHeartbeats 2000000 in
set_option maxRecDepth 100000 in
theorem markPartS_c (B : Nat) (v : Value) (l : List DPart) (fp : List Pos) (w : World) (m : Int) (h0 : 0 ≤ m) (h1 : m + cntL l ≤ 4611686018427387904) (h : Sl BIG w v l fp) (hf : Fresh B w fp) :
    Calls Try.prog 70 #[v, .int .i64 m] w (Marks w v m l fp) := by
  have hl := fun w1 ty => h.len Try.underlying27 w1 ty
  have hb := BIG_le h.leM
  go_enter Try.func70, Try.ntmps70
  go_wp2
  go_loopw [1, 5] (fun c i wr => ∃ k : Nat, k ≤ l.length ∧ i = .int .i64 k ∧ c = .int .i64 (m + cntL (l.take k)) ∧ Sl BIG wr v (marked m l k) fp ∧ Wr fp w wr) (fun _ i _ => l.length - (intOf i).toNat)
  case atStart => exact ⟨0, Nat.zero_le _, rfl, by simp [cntL], by rw [marked_zero]; exact h, Wr.refl _ _⟩
  case round =>
    obtain ⟨k, hk, rfl, rfl, hs, hw⟩ := hrel
    have hc0 := cntL_take_le l k
    by_cases hlt : k < l.length
    · obtain ⟨x, hx⟩ := get_some hlt
      have hcs := cntL_take_succ hx
      have hcl := cntL_take_le l (k + 1)
      have hgx : GoM.cnt x = 2 + cntL x.signs := rfl
      have hgm := marked_set (k := m) hx
      obtain ⟨b1, o1, cs1, f_signs, g1, g2, g3, g4, g5, gnd, g7⟩ := hs.lens hf.nodup Try.underlying27 szi_DPart k (marked_get hx)
      obtain ⟨v_signs, f_signs', rfl, s_signs, rfl⟩ := g3
      have hfr := hw.fresh h.live hf
      have hff : Fresh B wr f_signs := ⟨gnd, fun p hp => hfr.ge p (g5 p hp), fun p hp => hfr.free p (g5 p hp)⟩
      have q0_0 := g2.zero
      have n0 := (g4 0 (by decide)).2
      have y0 := (g4 0 (by decide)).1
      have z0_0 := hfr.free _ y0
      have q0_1 := g2 1 _ rfl
      have n1 := (g4 1 (by decide)).2
      have y1 := (g4 1 (by decide)).1
      have z0_1 := hfr.free _ y1
      have q0_2 := g2 2 _ rfl
      have n2 := (g4 2 (by decide)).2
      have y2 := (g4 2 (by decide)).1
      have z0_2 := hfr.free _ y2
      simp only [Nat.add_zero] at n0 y0 z0_0
      have mo : ∀ j < 3, (b1, o1 + j) ∈ own b1 o1 3 ++ f_signs := fun j hj => List.mem_append.2 (.inl (mem_own.2 ⟨rfl, by simp, by simp; omega⟩))
      have mo0 := mo 0 (by decide)
      simp only [Nat.add_zero] at mo0
      have W0 : Wr (own b1 o1 3 ++ f_signs) wr wr := Wr.refl _ _
      have hsl := hs.live
      have A0 := g2
      obtain ⟨c, hc⟩ : ∃ c : Nat, cntL (l.take k) = c := ⟨_, rfl⟩
      rw [hc] at hcs hc0 hgm
      rw [hgx] at hcs
      have HGM := Lib.hid hgm
      have HCS := Lib.hid hcs
      have hlim : c + (2 + cntL x.signs) ≤ cntL l := by omega
      have S0_signs := s_signs
      have F0_signs := hff
      rw [hc]
      clear hx hcs hgm hgx hc hcl
      have n0_signs : (b1, o1) ∉ f_signs := fun hm => n0 (by simp [hm])
      have n1_signs : (b1, o1 + 1) ∉ f_signs := fun hm => n1 (by simp [hm])
      have n2_signs : (b1, o1 + 2) ∉ f_signs := fun hm => n2 (by simp [hm])
      go_wp2_with fail
      refine (markIntS_c B _ x.signs f_signs _ _ (by omega) (by omega) ((S0_signs.put n0_signs _).put n1_signs _) ((F0_signs.put _ _).put _ _)).mono ?_
      rintro e w1 ⟨rfl, hs1, hw1⟩
      have A1 := ((A0.put0 (by simp) _).put 1 (by simp) _).wr hw1 (fun j hj => fun hm => (g4 j (show j < 3 from by simpa using hj)).2 (by simp [hm]))
      simp only [List.set_cons_zero, List.set_cons_succ] at A1
      have W1 := ((W0.put mo0 _).put (mo 1 (by decide)) _).trans (hw1.sub (fun p hp => List.mem_append.2 (.inr hp)))
      have S1_signs := hs1
      have F1_signs := hw1.fresh ((S0_signs.put n0_signs _).put n1_signs _).live ((F0_signs.put _ _).put _ _)
      have q1_0 := A1.zero
      have z1_0 := (W1.fresh hsl hfr).free _ y0
      have q1_1 := A1 1 _ rfl
      have z1_1 := (W1.fresh hsl hfr).free _ y1
      have q1_2 := A1 2 _ rfl
      have z1_2 := (W1.fresh hsl hfr).free _ y2
      go_wp2
      go_roundw
      case rel =>
        refine ⟨k + 1, by omega, by go_num, by rw [HCS.out]; go_num, ?_, ?_⟩
        · rw [← HGM.out]
          refine g7 _ _ _ A1 ⟨_, _, rfl, (S1_signs.at_ (by omega)), rfl⟩ fun p hp hn ho => W1.cell p (hsl.lt p hp) fun hm => ?_
          rcases List.mem_append.1 hm with hm | hm
          · obtain ⟨e1, e2, e3⟩ := mem_own.1 hm
            exact ho (p.2 - o1) (by show _ < 3; omega) (by ext <;> simp <;> omega)
          · exact hn hm
        · exact hw.trans (W1.sub fun p hp => (List.mem_append.1 hp).elim (fun hm => by
            obtain ⟨e1, e2, e3⟩ := mem_own.1 hm
            have := (g4 (p.2 - o1) (by show _ < 3; omega)).1
            rw [show ((b1, o1 + (p.2 - o1)) : Pos) = p by ext <;> simp <;> omega] at this
            exact this) (g5 p))
      case measure => simp [intOf]; omega
    · obtain rfl : k = l.length := by omega
      rw [marked_all] at hs
      go_wp2
      go_ret
      exact ⟨ret_int (by simp), hs, hw⟩
end Go.Proofs.Ytihbmefidbmmdaa
