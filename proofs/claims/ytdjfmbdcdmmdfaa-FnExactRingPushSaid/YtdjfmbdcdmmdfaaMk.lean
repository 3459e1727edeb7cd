/- Marks. -/
import Derived.Test.YtdjfmbdcdmmdfaaRo
import Derived.Test.YtdjfmbdcdmmdfaaEz
import Derived.StillTailTactics
namespace Go.Proofs.Ytdjfmbdcdmmdfaa
open Go.RowKit
set_option maxHeartbeats 2000000 in
set_option maxRecDepth 100000 in
theorem markPartS_c (B : Nat) (v : Value) (l : List DPart) (fp : List Pos) (w : World) (m : Int) (h0 : 0 ≤ m) (h1 : m + cntL l ≤ 4611686018427387904) (h : Sl BIG w v l fp) (hf : Fresh B w fp) :
    Calls Try.prog 30 #[v, .int .i64 m] w (Marks w v m l fp) := by
  have hl := fun w1 ty => h.len Try.underlying35 w1 ty
  have hb := BIG_le h.leM
  go_enter Try.func30, Try.ntmps30
  go_wp2
  go_loopw [1, 5] (fun c i wr => ∃ k : Nat, k ≤ l.length ∧ i = .int .i64 k ∧ c = .int .i64 (m + cntL (l.take k)) ∧ Sl BIG wr v (marked m l k) fp ∧ Wr fp w wr) (fun _ i _ => l.length - (intOf i).toNat)
  case atStart => exact ⟨0, Nat.zero_le _, rfl, by simp [cntL], by rw [marked_zero]; exact h, Wr.refl _ _⟩
  case round =>
    obtain ⟨k, hk, rfl, rfl, hs, hw⟩ := hrel
    have hc0 := cntL_take_le l k
    by_cases hlt : k < l.length
    · obtain ⟨x, hx⟩ := get_some hlt
      have hcs := cntL_take_succ hx
      have hcl := cntL_take_le l (k + 1)
      have hgx : GoM.cnt x = 2 + cntL x.signs := rfl
      have hgm := marked_set (k := m) hx
      obtain ⟨b1, o1, cs1, f_signs, g1, g2, g3, g4, g5, gnd, g7⟩ := hs.lens hf.nodup Try.underlying35 szi_DPart k (marked_get hx)
      obtain ⟨v_signs, f_signs', rfl, s_signs, rfl⟩ := g3
      have hfr := hw.fresh h.live hf
      have hff : Fresh B wr f_signs := ⟨gnd, fun p hp => hfr.ge p (g5 p hp), fun p hp => hfr.free p (g5 p hp)⟩
      have q0_0 := g2.zero
      have n0 := (g4 0 (by decide)).2
      have y0 := (g4 0 (by decide)).1
      have z0_0 := hfr.free _ y0
      have q0_1 := g2 1 _ rfl
      have n1 := (g4 1 (by decide)).2
      have y1 := (g4 1 (by decide)).1
      have z0_1 := hfr.free _ y1
      have q0_2 := g2 2 _ rfl
      have n2 := (g4 2 (by decide)).2
      have y2 := (g4 2 (by decide)).1
      have z0_2 := hfr.free _ y2
      simp only [Nat.add_zero] at n0 y0 z0_0
      have mo : ∀ j < 3, (b1, o1 + j) ∈ own b1 o1 3 ++ f_signs := fun j hj => List.mem_append.2 (.inl (mem_own.2 ⟨rfl, by simp, by simp; omega⟩))
      have mo0 := mo 0 (by decide)
      simp only [Nat.add_zero] at mo0
      have W0 : Wr (own b1 o1 3 ++ f_signs) wr wr := Wr.refl _ _
      have hsl := hs.live
      have A0 := g2
      obtain ⟨c, hc⟩ : ∃ c : Nat, cntL (l.take k) = c := ⟨_, rfl⟩
      rw [hc] at hcs hc0 hgm
      rw [hgx] at hcs
      have HGM := Lib.hid hgm
      have HCS := Lib.hid hcs
      have hlim : c + (2 + cntL x.signs) ≤ cntL l := by omega
      have S0_signs := s_signs
      have F0_signs := hff
      rw [hc]
      clear hx hcs hgm hgx hc hcl
      have n0_signs : (b1, o1) ∉ f_signs := fun hm => n0 (by simp [hm])
      have n1_signs : (b1, o1 + 1) ∉ f_signs := fun hm => n1 (by simp [hm])
      have n2_signs : (b1, o1 + 2) ∉ f_signs := fun hm => n2 (by simp [hm])
      go_wp2_with fail
      refine (markIntS_c B _ x.signs f_signs _ _ (by omega) (by omega) ((S0_signs.put n0_signs _).put n1_signs _) ((F0_signs.put _ _).put _ _)).mono ?_
      rintro e w1 ⟨rfl, hs1, hw1⟩
      have A1 := ((A0.put0 (by simp) _).put 1 (by simp) _).wr hw1 (fun j hj => fun hm => (g4 j (show j < 3 from by simpa using hj)).2 (by simp [hm]))
      try dsimp only [List.set] at A1
      have W1 := ((W0.put mo0 _).put (mo 1 (by decide)) _).trans (hw1.sub (fun p hp => List.mem_append.2 (.inr hp)))
      have S1_signs := hs1
      have F1_signs := hw1.fresh ((S0_signs.put n0_signs _).put n1_signs _).live ((F0_signs.put _ _).put _ _)
      have q1_0 := A1.zero
      have z1_0 := (W1.fresh hsl hfr).free _ y0
      have q1_1 := A1 1 _ rfl
      have z1_1 := (W1.fresh hsl hfr).free _ y1
      have q1_2 := A1 2 _ rfl
      have z1_2 := (W1.fresh hsl hfr).free _ y2
      go_wp2
      go_roundw
      case rel =>
        refine ⟨k + 1, by omega, by go_num, by rw [HCS.out]; go_num, ?_, ?_⟩
        · rw [← HGM.out]
          refine g7 _ _ _ A1 ⟨_, _, rfl, (S1_signs.at_ (by omega)), rfl⟩ fun p hp hn ho => W1.cell p (hsl.lt p hp) fun hm => ?_
          rcases List.mem_append.1 hm with hm | hm
          · obtain ⟨e1, e2, e3⟩ := mem_own.1 hm
            exact ho (p.2 - o1) (by show _ < 3; omega) (by ext <;> simp <;> omega)
          · exact hn hm
        · exact hw.trans (W1.sub fun p hp => (List.mem_append.1 hp).elim (fun hm => by
            obtain ⟨e1, e2, e3⟩ := mem_own.1 hm
            have := (g4 (p.2 - o1) (by show _ < 3; omega)).1
            rw [show ((b1, o1 + (p.2 - o1)) : Pos) = p by ext <;> simp <;> omega] at this
            exact this) (g5 p))
      case measure => simp [intOf]; omega
    · obtain rfl : k = l.length := by omega
      rw [marked_all] at hs
      go_wp2
      go_ret
      exact ⟨ret_int (by simp), hs, hw⟩
end Go.Proofs.Ytdjfmbdcdmmdfaa

namespace Go.Proofs.Ytdjfmbdcdmmdfaa
open Go.RowKit
set_option maxHeartbeats 2000000 in
set_option maxRecDepth 100000 in
theorem heldPartS_c (v : Value) (l : List DPart) (w : World) (m : Int) (h0 : 0 ≤ m) (h1 : m + cntL l ≤ 4611686018427387904) (h : RdS w v l) (hm : mkL m l = l) :
    Calls Try.prog 43 #[v, .int .i64 m] w (Tells w (.int .i64 (m + cntL l))) := by
  have hl := fun w1 ty => h.len Try.underlying35 w1 ty
  have hb := h.le
  have HM := Lib.hid hm; clear hm
  go_enter Try.func43, Try.ntmps43
  go_wp2
  go_loopw [1, 5] (fun c i wr => ∃ k : Nat, k ≤ l.length ∧ i = .int .i64 k ∧ c = .int .i64 (m + cntL (l.take k)) ∧ Below w.heap.size w wr) (fun _ i _ => l.length - (intOf i).toNat)
  case atStart => exact ⟨0, Nat.zero_le _, rfl, by simp [cntL], Below.refl _ _⟩
  case round =>
    obtain ⟨k, hk, rfl, rfl, hbw⟩ := hrel
    have hsz := hbw.size
    have hc0 := cntL_take_le l k
    by_cases hlt : k < l.length
    · obtain ⟨x, hx⟩ := get_some hlt
      have hcs := cntL_take_succ hx
      have hcl := cntL_take_le l (k + 1)
      have hgx : GoM.cnt x = 2 + cntL x.signs := rfl
      obtain ⟨b1, o1, cs1, h2a, h2, h3⟩ := (h.below hbw).idx Try.underlying35 szi_DPart k hx
      obtain ⟨v_signs, rfl, r_signs⟩ := inv_DPart h3
      have hg : GoM.mrk (m + cntL (l.take k)) x = x := held_get HM.out hx
      obtain ⟨c, hc⟩ : ∃ c : Nat, cntL (l.take k) = c := ⟨_, rfl⟩
      rw [hc] at hcs hc0 hg
      rw [hgx] at hcs
      have HCS := Lib.hid hcs
      have hlim : c + (2 + cntL x.signs) ≤ cntL l := by omega
      rw [hc]
      clear hx hcs hgx hc hcl
      have e0 : x.kind = m + c := by have := congrArg (fun x : DPart => x.kind) hg; simp only [GoM.mrk] at this; omega
      have e1 : x.n = m + c + 1 := by have := congrArg (fun x : DPart => x.n) hg; simp only [GoM.mrk] at this; omega
      have E2 : Hid (mkL (m + c + 2) x.signs = x.signs) := by have := congrArg (fun x : DPart => x.signs) hg; simp only [GoM.mrk] at this; exact Lib.hid ((congrArg (fun z => mkL z x.signs) (by omega)).trans this)
      have q0 := h2.zero
      have q1 := h2 1 _ rfl
      have q2 := h2 2 _ rfl
      rw [e0] at q0
      rw [e1] at q1
      have l1 : b1 < wr.heap.size := World.block_lt_of_cell? (w := wr) (a := ⟨b1, o1, none⟩) q0
      clear hg e0 e1
      go_wp2_with fail
      refine (heldIntS_c _ x.signs _ _ (by omega) (by omega) (r_signs.below blw) (by refine (congrArg (fun z => mkL z x.signs) ?_).trans E2.out; omega)).mono ?_
      rintro e w1 ⟨rfl, hb1⟩
      have s1 : wr.heap.size ≤ w1.heap.size := (by have := hb1.size; (try simp at this); omega)
      have q0 : w1.cell? ⟨b1, o1, none⟩ = _ := (hb1.cell (p := ⟨b1, o1, none⟩) l1).trans q0
      obtain ⟨q1, q2⟩ := mv2 hb1 l1 q1 q2
      have l1 : b1 < w1.heap.size := by omega
      go_wp2
      go_roundw
      case rel => exact ⟨k + 1, by omega, by go_num, by rw [HCS.out]; go_num, blw⟩
      case measure => simp [intOf]; omega
    · obtain rfl : k = l.length := by omega
      go_wp2
      go_ret
      exact ⟨ret_int (by simp), hbw⟩
set_option maxHeartbeats 2000000 in
set_option maxRecDepth 100000 in
theorem markEntryS_c (B : Nat) (v : Value) (l : List DEntry) (fp : List Pos) (w : World) (m : Int) (h0 : 0 ≤ m) (h1 : m + cntL l ≤ 4611686018427387904) (h : Sl BIG w v l fp) (hf : Fresh B w fp) :
    Calls Try.prog 29 #[v, .int .i64 m] w (Marks w v m l fp) := by
  have hl := fun w1 ty => h.len Try.underlying30 w1 ty
  have hb := BIG_le h.leM
  go_enter Try.func29, Try.ntmps29
  go_wp2
  go_loopw [1, 5] (fun c i wr => ∃ k : Nat, k ≤ l.length ∧ i = .int .i64 k ∧ c = .int .i64 (m + cntL (l.take k)) ∧ Sl BIG wr v (marked m l k) fp ∧ Wr fp w wr) (fun _ i _ => l.length - (intOf i).toNat)
  case atStart => exact ⟨0, Nat.zero_le _, rfl, by simp [cntL], by rw [marked_zero]; exact h, Wr.refl _ _⟩
  case round =>
    obtain ⟨k, hk, rfl, rfl, hs, hw⟩ := hrel
    have hc0 := cntL_take_le l k
    by_cases hlt : k < l.length
    · obtain ⟨x, hx⟩ := get_some hlt
      have hcs := cntL_take_succ hx
      have hcl := cntL_take_le l (k + 1)
      have hgx : GoM.cnt x = 2 + cntL x.o := rfl
      have hgm := marked_set (k := m) hx
      obtain ⟨b1, o1, cs1, f_o, g1, g2, g3, g4, g5, gnd, g7⟩ := hs.lens hf.nodup Try.underlying30 szi_DEntry k (marked_get hx)
      obtain ⟨v_o, f_o', rfl, s_o, rfl⟩ := g3
      have hfr := hw.fresh h.live hf
      have hff : Fresh B wr f_o := ⟨gnd, fun p hp => hfr.ge p (g5 p hp), fun p hp => hfr.free p (g5 p hp)⟩
      have q0_0 := g2.zero
      have n0 := (g4 0 (by decide)).2
      have y0 := (g4 0 (by decide)).1
      have z0_0 := hfr.free _ y0
      have q0_1 := g2 1 _ rfl
      have n1 := (g4 1 (by decide)).2
      have y1 := (g4 1 (by decide)).1
      have z0_1 := hfr.free _ y1
      have q0_2 := g2 2 _ rfl
      have n2 := (g4 2 (by decide)).2
      have y2 := (g4 2 (by decide)).1
      have z0_2 := hfr.free _ y2
      simp only [Nat.add_zero] at n0 y0 z0_0
      have mo : ∀ j < 3, (b1, o1 + j) ∈ own b1 o1 3 ++ f_o := fun j hj => List.mem_append.2 (.inl (mem_own.2 ⟨rfl, by simp, by simp; omega⟩))
      have mo0 := mo 0 (by decide)
      simp only [Nat.add_zero] at mo0
      have W0 : Wr (own b1 o1 3 ++ f_o) wr wr := Wr.refl _ _
      have hsl := hs.live
      have A0 := g2
      obtain ⟨c, hc⟩ : ∃ c : Nat, cntL (l.take k) = c := ⟨_, rfl⟩
      rw [hc] at hcs hc0 hgm
      rw [hgx] at hcs
      have HGM := Lib.hid hgm
      have HCS := Lib.hid hcs
      have hlim : c + (2 + cntL x.o) ≤ cntL l := by omega
      have S0_o := s_o
      have F0_o := hff
      rw [hc]
      clear hx hcs hgm hgx hc hcl
      have n0_o : (b1, o1) ∉ f_o := fun hm => n0 (by simp [hm])
      have n1_o : (b1, o1 + 1) ∉ f_o := fun hm => n1 (by simp [hm])
      have n2_o : (b1, o1 + 2) ∉ f_o := fun hm => n2 (by simp [hm])
      go_wp2_with fail
      refine (markPartS_c B _ x.o f_o _ _ (by omega) (by omega) ((S0_o.put n0_o _).put n1_o _) ((F0_o.put _ _).put _ _)).mono ?_
      rintro e w1 ⟨rfl, hs1, hw1⟩
      have A1 := ((A0.put0 (by simp) _).put 1 (by simp) _).wr hw1 (fun j hj => fun hm => (g4 j (show j < 3 from by simpa using hj)).2 (by simp [hm]))
      try dsimp only [List.set] at A1
      have W1 := ((W0.put mo0 _).put (mo 1 (by decide)) _).trans (hw1.sub (fun p hp => List.mem_append.2 (.inr hp)))
      have S1_o := hs1
      have F1_o := hw1.fresh ((S0_o.put n0_o _).put n1_o _).live ((F0_o.put _ _).put _ _)
      have q1_0 := A1.zero
      have z1_0 := (W1.fresh hsl hfr).free _ y0
      have q1_1 := A1 1 _ rfl
      have z1_1 := (W1.fresh hsl hfr).free _ y1
      have q1_2 := A1 2 _ rfl
      have z1_2 := (W1.fresh hsl hfr).free _ y2
      go_wp2
      go_roundw
      case rel =>
        refine ⟨k + 1, by omega, by go_num, by rw [HCS.out]; go_num, ?_, ?_⟩
        · rw [← HGM.out]
          refine g7 _ _ _ A1 ⟨_, _, rfl, (S1_o.at_ (by omega)), rfl⟩ fun p hp hn ho => W1.cell p (hsl.lt p hp) fun hm => ?_
          rcases List.mem_append.1 hm with hm | hm
          · obtain ⟨e1, e2, e3⟩ := mem_own.1 hm
            exact ho (p.2 - o1) (by show _ < 3; omega) (by ext <;> simp <;> omega)
          · exact hn hm
        · exact hw.trans (W1.sub fun p hp => (List.mem_append.1 hp).elim (fun hm => by
            obtain ⟨e1, e2, e3⟩ := mem_own.1 hm
            have := (g4 (p.2 - o1) (by show _ < 3; omega)).1
            rw [show ((b1, o1 + (p.2 - o1)) : Pos) = p by ext <;> simp <;> omega] at this
            exact this) (g5 p))
      case measure => simp [intOf]; omega
    · obtain rfl : k = l.length := by omega
      rw [marked_all] at hs
      go_wp2
      go_ret
      exact ⟨ret_int (by simp), hs, hw⟩
set_option maxHeartbeats 2000000 in
set_option maxRecDepth 100000 in
theorem heldEntryS_c (v : Value) (l : List DEntry) (w : World) (m : Int) (h0 : 0 ≤ m) (h1 : m + cntL l ≤ 4611686018427387904) (h : RdS w v l) (hm : mkL m l = l) :
    Calls Try.prog 31 #[v, .int .i64 m] w (Tells w (.int .i64 (m + cntL l))) := by
  have hl := fun w1 ty => h.len Try.underlying30 w1 ty
  have hb := h.le
  have HM := Lib.hid hm; clear hm
  go_enter Try.func31, Try.ntmps31
  go_wp2
  go_loopw [1, 5] (fun c i wr => ∃ k : Nat, k ≤ l.length ∧ i = .int .i64 k ∧ c = .int .i64 (m + cntL (l.take k)) ∧ Below w.heap.size w wr) (fun _ i _ => l.length - (intOf i).toNat)
  case atStart => exact ⟨0, Nat.zero_le _, rfl, by simp [cntL], Below.refl _ _⟩
  case round =>
    obtain ⟨k, hk, rfl, rfl, hbw⟩ := hrel
    have hsz := hbw.size
    have hc0 := cntL_take_le l k
    by_cases hlt : k < l.length
    · obtain ⟨x, hx⟩ := get_some hlt
      have hcs := cntL_take_succ hx
      have hcl := cntL_take_le l (k + 1)
      have hgx : GoM.cnt x = 2 + cntL x.o := rfl
      obtain ⟨b1, o1, cs1, h2a, h2, h3⟩ := (h.below hbw).idx Try.underlying30 szi_DEntry k hx
      obtain ⟨v_o, rfl, r_o⟩ := inv_DEntry h3
      have hg : GoM.mrk (m + cntL (l.take k)) x = x := held_get HM.out hx
      obtain ⟨c, hc⟩ : ∃ c : Nat, cntL (l.take k) = c := ⟨_, rfl⟩
      rw [hc] at hcs hc0 hg
      rw [hgx] at hcs
      have HCS := Lib.hid hcs
      have hlim : c + (2 + cntL x.o) ≤ cntL l := by omega
      rw [hc]
      clear hx hcs hgx hc hcl
      have e0 : x.client = m + c := by have := congrArg (fun x : DEntry => x.client) hg; simp only [GoM.mrk] at this; omega
      have e1 : x.seq = m + c + 1 := by have := congrArg (fun x : DEntry => x.seq) hg; simp only [GoM.mrk] at this; omega
      have E2 : Hid (mkL (m + c + 2) x.o = x.o) := by have := congrArg (fun x : DEntry => x.o) hg; simp only [GoM.mrk] at this; exact Lib.hid ((congrArg (fun z => mkL z x.o) (by omega)).trans this)
      have q0 := h2.zero
      have q1 := h2 1 _ rfl
      have q2 := h2 2 _ rfl
      rw [e0] at q0
      rw [e1] at q1
      have l1 : b1 < wr.heap.size := World.block_lt_of_cell? (w := wr) (a := ⟨b1, o1, none⟩) q0
      clear hg e0 e1
      go_wp2_with fail
      refine (heldPartS_c _ x.o _ _ (by omega) (by omega) (r_o.below blw) (by refine (congrArg (fun z => mkL z x.o) ?_).trans E2.out; omega)).mono ?_
      rintro e w1 ⟨rfl, hb1⟩
      have s1 : wr.heap.size ≤ w1.heap.size := (by have := hb1.size; (try simp at this); omega)
      have q0 : w1.cell? ⟨b1, o1, none⟩ = _ := (hb1.cell (p := ⟨b1, o1, none⟩) l1).trans q0
      obtain ⟨q1, q2⟩ := mv2 hb1 l1 q1 q2
      have l1 : b1 < w1.heap.size := by omega
      go_wp2
      go_roundw
      case rel => exact ⟨k + 1, by omega, by go_num, by rw [HCS.out]; go_num, blw⟩
      case measure => simp [intOf]; omega
    · obtain rfl : k = l.length := by omega
      go_wp2
      go_ret
      exact ⟨ret_int (by simp), hbw⟩
set_option maxHeartbeats 1000000 in
theorem markEntry_c (B : Nat) (client : Int) (seq : Int) (v_o : Value) (l_o : List DPart) (f_o : List Pos) (w : World) (m : Int) (h0 : 0 ≤ m) (h1 : m + ((cntL l_o : Nat) : Int) ≤ 4611686018427387904) (s_o : Sl BIG w v_o l_o f_o) (hf : Fresh B w (f_o)) :
    Calls Try.prog 13 #[.agg #[.int .i64 client, .int .i64 seq, v_o], .int .i64 m] w (fun e w' => e = .returned (.int .i64 (m + ((cntL l_o : Nat) : Int))) ∧ Sl BIG w' v_o (mkL (m) l_o) f_o ∧ Wr (f_o) w w') := by
  have lt_o := Live.lt s_o.live
  have hbx : Below w.heap.size w (w.alloc (.cells #[.int .i64 client, .int .i64 seq, v_o] 37)) := (Below.refl _ _).alloc (Nat.le_refl _) _
  have F0_o : Fresh B _ f_o := (hf).belowL hbx lt_o
  have S0_o := s_o.belowW hbx
  have X0 : Wr (f_o) w _ := Wr.of_below hbx
  have c0_0 : (w.alloc (.cells #[.int .i64 client, .int .i64 seq, v_o] 37)).cell? ⟨w.heap.size, 0, none⟩ = some (.int .i64 client) := by simp
  have c0_1 : (w.alloc (.cells #[.int .i64 client, .int .i64 seq, v_o] 37)).cell? ⟨w.heap.size, 1, none⟩ = some (.int .i64 seq) := by simp
  have c0_2 : (w.alloc (.cells #[.int .i64 client, .int .i64 seq, v_o] 37)).cell? ⟨w.heap.size, 2, none⟩ = some (v_o) := by simp
  have z0 : w.heap.size < (w.alloc (.cells #[.int .i64 client, .int .i64 seq, v_o] 37)).heap.size := by simp
  have hnd := hf.nodup
  have HND := Lib.hid hnd
  clear hnd
  go_enter Try.func13, Try.ntmps13
  go_wp2_with fail
  refine (markPartS_c B _ l_o f_o _ _ (by omega) (by omega) S0_o F0_o).mono ?_
  rintro e w1 ⟨rfl, T1_o, hw1⟩
  have S1_o := T1_o
  have F1_o := hw1.fresh S0_o.live F0_o
  have X1 := X0.trans (hw1.sub (fun p hp => by simp [hp]))
  have z1 : w.heap.size < w1.heap.size := Nat.lt_of_lt_of_le z0 hw1.size
  have c1_0 : w1.cell? ⟨w.heap.size, 0, none⟩ = some (.int .i64 client) := (hw1.cell (w.heap.size, 0) z0 (fun hm => by have := lt_o _ hm; simp at this)).trans c0_0
  have c1_1 : w1.cell? ⟨w.heap.size, 1, none⟩ = some (.int .i64 seq) := (hw1.cell (w.heap.size, 1) z0 (fun hm => by have := lt_o _ hm; simp at this)).trans c0_1
  have c1_2 : w1.cell? ⟨w.heap.size, 2, none⟩ = some (v_o) := (hw1.cell (w.heap.size, 2) z0 (fun hm => by have := lt_o _ hm; simp at this)).trans c0_2
  clear hw1
  go_wp2
  go_ret
  exact ⟨ret_int (by omega), S1_o, X1⟩
set_option maxHeartbeats 1000000 in
theorem markRing_c (B : Nat) (cap : Int) (next : Int) (out : Bool) (v_list : Value) (l_list : List DEntry) (f_list : List Pos) (w : World) (m : Int) (h0 : 0 ≤ m) (h1 : m + ((cntL l_list : Nat) : Int) ≤ 4611686018427387904) (s_list : Sl BIG w v_list l_list f_list) (hf : Fresh B w (f_list)) :
    Calls Try.prog 12 #[.agg #[.int .i64 cap, .int .i64 next, .bool out, v_list], .int .i64 m] w (fun e w' => e = .returned (.int .i64 (m + ((cntL l_list : Nat) : Int))) ∧ Sl BIG w' v_list (mkL (m) l_list) f_list ∧ Wr (f_list) w w') := by
  have lt_list := Live.lt s_list.live
  have hbx : Below w.heap.size w (w.alloc (.cells #[.int .i64 cap, .int .i64 next, .bool out, v_list] 32)) := (Below.refl _ _).alloc (Nat.le_refl _) _
  have F0_list : Fresh B _ f_list := (hf).belowL hbx lt_list
  have S0_list := s_list.belowW hbx
  have X0 : Wr (f_list) w _ := Wr.of_below hbx
  have c0_0 : (w.alloc (.cells #[.int .i64 cap, .int .i64 next, .bool out, v_list] 32)).cell? ⟨w.heap.size, 0, none⟩ = some (.int .i64 cap) := by simp
  have c0_1 : (w.alloc (.cells #[.int .i64 cap, .int .i64 next, .bool out, v_list] 32)).cell? ⟨w.heap.size, 1, none⟩ = some (.int .i64 next) := by simp
  have c0_2 : (w.alloc (.cells #[.int .i64 cap, .int .i64 next, .bool out, v_list] 32)).cell? ⟨w.heap.size, 2, none⟩ = some (.bool out) := by simp
  have c0_3 : (w.alloc (.cells #[.int .i64 cap, .int .i64 next, .bool out, v_list] 32)).cell? ⟨w.heap.size, 3, none⟩ = some (v_list) := by simp
  have z0 : w.heap.size < (w.alloc (.cells #[.int .i64 cap, .int .i64 next, .bool out, v_list] 32)).heap.size := by simp
  have hnd := hf.nodup
  have HND := Lib.hid hnd
  clear hnd
  go_enter Try.func12, Try.ntmps12
  go_wp2_with fail
  refine (markEntryS_c B _ l_list f_list _ _ (by omega) (by omega) S0_list F0_list).mono ?_
  rintro e w1 ⟨rfl, T1_list, hw1⟩
  have S1_list := T1_list
  have F1_list := hw1.fresh S0_list.live F0_list
  have X1 := X0.trans (hw1.sub (fun p hp => by simp [hp]))
  have z1 : w.heap.size < w1.heap.size := Nat.lt_of_lt_of_le z0 hw1.size
  have c1_0 : w1.cell? ⟨w.heap.size, 0, none⟩ = some (.int .i64 cap) := (hw1.cell (w.heap.size, 0) z0 (fun hm => by have := lt_list _ hm; simp at this)).trans c0_0
  have c1_1 : w1.cell? ⟨w.heap.size, 1, none⟩ = some (.int .i64 next) := (hw1.cell (w.heap.size, 1) z0 (fun hm => by have := lt_list _ hm; simp at this)).trans c0_1
  have c1_2 : w1.cell? ⟨w.heap.size, 2, none⟩ = some (.bool out) := (hw1.cell (w.heap.size, 2) z0 (fun hm => by have := lt_list _ hm; simp at this)).trans c0_2
  have c1_3 : w1.cell? ⟨w.heap.size, 3, none⟩ = some (v_list) := (hw1.cell (w.heap.size, 3) z0 (fun hm => by have := lt_list _ hm; simp at this)).trans c0_3
  clear hw1
  go_wp2
  go_ret
  exact ⟨ret_int (by omega), S1_list, X1⟩
set_option maxHeartbeats 1000000 in
theorem heldRing_c (cap : Int) (next : Int) (out : Bool) (v_list : Value) (l_list : List DEntry) (w : World) (m : Int) (h0 : 0 ≤ m) (h1 : m + ((cntL l_list : Nat) : Int) ≤ 4611686018427387904) (h_list : RdS w v_list l_list) (hm_list : mkL (m) l_list = l_list) :
    Calls Try.prog 14 #[.agg #[.int .i64 cap, .int .i64 next, .bool out, v_list], .int .i64 m] w (Tells w (.int .i64 (m + ((cntL l_list : Nat) : Int)))) := by
  have HM_list := Lib.hid hm_list
  clear hm_list
  go_enter Try.func14, Try.ntmps14
  go_wp2_with fail
  refine (heldEntryS_c _ l_list _ _ (by omega) (by omega) (h_list.below blw) HM_list.out).mono ?_
  rintro e w1 ⟨rfl, hb1⟩
  have s1 := hb1.size
  (try simp at s1)
  obtain ⟨hc1, hf1⟩ := bcell hb1
  have z1 : w.heap.size < w1.heap.size := by omega
  go_wp2
  go_ret
  exact ⟨ret_int (by omega), blw⟩
end Go.Proofs.Ytdjfmbdcdmmdfaa

namespace Go.Proofs.Ytdjfmbdcdmmdfaa
open Go.RowKit
end Go.Proofs.Ytdjfmbdcdmmdfaa

namespace Go.Proofs.Ytdjfmbdcdmmdfaa
open Go.RowKit
end Go.Proofs.Ytdjfmbdcdmmdfaa

namespace Go.Proofs.Ytdjfmbdcdmmdfaa
open Go.RowKit
end Go.Proofs.Ytdjfmbdcdmmdfaa

