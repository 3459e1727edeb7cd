/- Marks. -/
import Derived.Test.YtkbhlgmgjpbloaaRo
import Derived.Test.YtkbhlgmgjpbloaaEz
import Derived.StillTailTactics
namespace Go.Proofs.Ytkbhlgmgjpbloaa
open Go.RowKit
set_option maxHeartbeats 2000000 in
set_option maxRecDepth 100000 in
theorem markPartS_c (B : Nat) (v : Value) (l : List DPart) (fp : List Pos) (w : World) (m : Int) (h0 : 0 ≤ m) (h1 : m + cntL l ≤ 4611686018427387904) (h : Sl BIG w v l fp) (hf : Fresh B w fp) :
    Calls Try.prog 71 #[v, .int .i64 m] w (Marks w v m l fp) := by
  have hl := fun w1 ty => h.len Try.underlying62 w1 ty
  have hb := BIG_le h.leM
  go_enter Try.func71, Try.ntmps71
  go_wp2
  go_loopw [1, 5] (fun c i wr => ∃ k : Nat, k ≤ l.length ∧ i = .int .i64 k ∧ c = .int .i64 (m + cntL (l.take k)) ∧ Sl BIG wr v (marked m l k) fp ∧ Wr fp w wr) (fun _ i _ => l.length - (intOf i).toNat)
  case atStart => exact ⟨0, Nat.zero_le _, rfl, by simp [cntL], by rw [marked_zero]; exact h, Wr.refl _ _⟩
  case round =>
    obtain ⟨k, hk, rfl, rfl, hs, hw⟩ := hrel
    have hc0 := cntL_take_le l k
    by_cases hlt : k < l.length
    · obtain ⟨x, hx⟩ := get_some hlt
      have hcs := cntL_take_succ hx
      have hcl := cntL_take_le l (k + 1)
      have hgx : GoM.cnt x = 2 + cntL x.signs := rfl
      have hgm := marked_set (k := m) hx
      obtain ⟨b1, o1, cs1, f_signs, g1, g2, g3, g4, g5, gnd, g7⟩ := hs.lens hf.nodup Try.underlying62 szi_DPart k (marked_get hx)
      obtain ⟨v_signs, f_signs', rfl, s_signs, rfl⟩ := g3
      have hfr := hw.fresh h.live hf
      have hff : Fresh B wr f_signs := ⟨gnd, fun p hp => hfr.ge p (g5 p hp), fun p hp => hfr.free p (g5 p hp)⟩
      have q0_0 := g2.zero
      have n0 := (g4 0 (by decide)).2
      have y0 := (g4 0 (by decide)).1
      have z0_0 := hfr.free _ y0
      have q0_1 := g2 1 _ rfl
      have n1 := (g4 1 (by decide)).2
      have y1 := (g4 1 (by decide)).1
      have z0_1 := hfr.free _ y1
      have q0_2 := g2 2 _ rfl
      have n2 := (g4 2 (by decide)).2
      have y2 := (g4 2 (by decide)).1
      have z0_2 := hfr.free _ y2
      simp only [Nat.add_zero] at n0 y0 z0_0
      have mo : ∀ j < 3, (b1, o1 + j) ∈ own b1 o1 3 ++ f_signs := fun j hj => List.mem_append.2 (.inl (mem_own.2 ⟨rfl, by simp, by simp; omega⟩))
      have mo0 := mo 0 (by decide)
      simp only [Nat.add_zero] at mo0
      have W0 : Wr (own b1 o1 3 ++ f_signs) wr wr := Wr.refl _ _
      have hsl := hs.live
      have A0 := g2
      obtain ⟨c, hc⟩ : ∃ c : Nat, cntL (l.take k) = c := ⟨_, rfl⟩
      rw [hc] at hcs hc0 hgm
      rw [hgx] at hcs
      have HGM := Lib.hid hgm
      have HCS := Lib.hid hcs
      have hlim : c + (2 + cntL x.signs) ≤ cntL l := by omega
      have S0_signs := s_signs
      have F0_signs := hff
      rw [hc]
      clear hx hcs hgm hgx hc hcl
      have n0_signs : (b1, o1) ∉ f_signs := fun hm => n0 (by simp [hm])
      have n1_signs : (b1, o1 + 1) ∉ f_signs := fun hm => n1 (by simp [hm])
      have n2_signs : (b1, o1 + 2) ∉ f_signs := fun hm => n2 (by simp [hm])
      go_wp2_with fail
      refine (markIntS_c B _ x.signs f_signs _ _ (by omega) (by omega) ((S0_signs.put n0_signs _).put n1_signs _) ((F0_signs.put _ _).put _ _)).mono ?_
      rintro e w1 ⟨rfl, hs1, hw1⟩
      have A1 := ((A0.put0 (by simp) _).put 1 (by simp) _).wr hw1 (fun j hj => fun hm => (g4 j (show j < 3 from by simpa using hj)).2 (by simp [hm]))
      simp only [List.set_cons_zero, List.set_cons_succ] at A1
      have W1 := ((W0.put mo0 _).put (mo 1 (by decide)) _).trans (hw1.sub (fun p hp => List.mem_append.2 (.inr hp)))
      have S1_signs := hs1
      have F1_signs := hw1.fresh ((S0_signs.put n0_signs _).put n1_signs _).live ((F0_signs.put _ _).put _ _)
      have q1_0 := A1.zero
      have z1_0 := (W1.fresh hsl hfr).free _ y0
      have q1_1 := A1 1 _ rfl
      have z1_1 := (W1.fresh hsl hfr).free _ y1
      have q1_2 := A1 2 _ rfl
      have z1_2 := (W1.fresh hsl hfr).free _ y2
      go_wp2
      go_roundw
      case rel =>
        refine ⟨k + 1, by omega, by go_num, by rw [HCS.out]; go_num, ?_, ?_⟩
        · rw [← HGM.out]
          refine g7 _ _ _ A1 ⟨_, _, rfl, (S1_signs.at_ (by omega)), rfl⟩ fun p hp hn ho => W1.cell p (hsl.lt p hp) fun hm => ?_
          rcases List.mem_append.1 hm with hm | hm
          · obtain ⟨e1, e2, e3⟩ := mem_own.1 hm
            exact ho (p.2 - o1) (by show _ < 3; omega) (by ext <;> simp <;> omega)
          · exact hn hm
        · exact hw.trans (W1.sub fun p hp => (List.mem_append.1 hp).elim (fun hm => by
            obtain ⟨e1, e2, e3⟩ := mem_own.1 hm
            have := (g4 (p.2 - o1) (by show _ < 3; omega)).1
            rw [show ((b1, o1 + (p.2 - o1)) : Pos) = p by ext <;> simp <;> omega] at this
            exact this) (g5 p))
      case measure => simp [intOf]; omega
    · obtain rfl : k = l.length := by omega
      rw [marked_all] at hs
      go_wp2
      go_ret
      exact ⟨ret_int (by simp), hs, hw⟩
end Go.Proofs.Ytkbhlgmgjpbloaa

namespace Go.Proofs.Ytkbhlgmgjpbloaa
open Go.RowKit
set_option maxHeartbeats 2000000 in
set_option maxRecDepth 100000 in
theorem heldPartS_c (v : Value) (l : List DPart) (w : World) (m : Int) (h0 : 0 ≤ m) (h1 : m + cntL l ≤ 4611686018427387904) (h : RdS w v l) (hm : mkL m l = l) :
    Calls Try.prog 72 #[v, .int .i64 m] w (Tells w (.int .i64 (m + cntL l))) := by
  have hl := fun w1 ty => h.len Try.underlying62 w1 ty
  have hb := h.le
  have HM := Lib.hid hm; clear hm
  go_enter Try.func72, Try.ntmps72
  go_wp2
  go_loopw [1, 5] (fun c i wr => ∃ k : Nat, k ≤ l.length ∧ i = .int .i64 k ∧ c = .int .i64 (m + cntL (l.take k)) ∧ Below w.heap.size w wr) (fun _ i _ => l.length - (intOf i).toNat)
  case atStart => exact ⟨0, Nat.zero_le _, rfl, by simp [cntL], Below.refl _ _⟩
  case round =>
    obtain ⟨k, hk, rfl, rfl, hbw⟩ := hrel
    have hsz := hbw.size
    have hc0 := cntL_take_le l k
    by_cases hlt : k < l.length
    · obtain ⟨x, hx⟩ := get_some hlt
      have hcs := cntL_take_succ hx
      have hcl := cntL_take_le l (k + 1)
      have hgx : GoM.cnt x = 2 + cntL x.signs := rfl
      obtain ⟨b1, o1, cs1, h2a, h2, h3⟩ := (h.below hbw).idx Try.underlying62 szi_DPart k hx
      obtain ⟨v_signs, rfl, r_signs⟩ := inv_DPart h3
      have hg : GoM.mrk (m + cntL (l.take k)) x = x := held_get HM.out hx
      obtain ⟨c, hc⟩ : ∃ c : Nat, cntL (l.take k) = c := ⟨_, rfl⟩
      rw [hc] at hcs hc0 hg
      rw [hgx] at hcs
      have HCS := Lib.hid hcs
      have hlim : c + (2 + cntL x.signs) ≤ cntL l := by omega
      rw [hc]
      clear hx hcs hgx hc hcl
      have e0 : x.kind = m + c := by have := congrArg (fun x : DPart => x.kind) hg; simp only [GoM.mrk] at this; omega
      have e1 : x.n = m + c + 1 := by have := congrArg (fun x : DPart => x.n) hg; simp only [GoM.mrk] at this; omega
      have E2 : Hid (mkL (m + c + 2) x.signs = x.signs) := by have := congrArg (fun x : DPart => x.signs) hg; simp only [GoM.mrk] at this; exact Lib.hid ((congrArg (fun z => mkL z x.signs) (by omega)).trans this)
      have q0 := h2.zero
      have q1 := h2 1 _ rfl
      have q2 := h2 2 _ rfl
      rw [e0] at q0
      rw [e1] at q1
      have l1 : b1 < wr.heap.size := World.block_lt_of_cell? (w := wr) (a := ⟨b1, o1, none⟩) q0
      clear hg e0 e1
      go_wp2_with fail
      refine (heldIntS_c _ x.signs _ _ (by omega) (by omega) (r_signs.below (by repeat' (first | (with_reducible exact Below.refl _ _) | (with_reducible assumption) | (with_reducible refine Below.setCell ?_ ?_ _) | (with_reducible refine Below.alloc ?_ ?_ _) | (with_reducible refine Below.drew ?_) | (with_reducible refine belowN ?_ _) | (with_reducible refine below_after ?_ (by assumption) ?_) | omega | (simp; done) | (simp; omega)))) (by refine (congrArg (fun z => mkL z x.signs) ?_).trans E2.out; omega)).mono ?_
      rintro e w1 ⟨rfl, hb1⟩
      have s1 : wr.heap.size ≤ w1.heap.size := (by have := hb1.size; (try simp at this); omega)
      have q0 : w1.cell? ⟨b1, o1, none⟩ = _ := (hb1.cell (p := ⟨b1, o1, none⟩) l1).trans q0
      have q1 : w1.cell? ⟨b1, o1 + 1, none⟩ = _ := (hb1.cell (p := ⟨b1, o1 + 1, none⟩) l1).trans q1
      have q2 : w1.cell? ⟨b1, o1 + 2, none⟩ = _ := (hb1.cell (p := ⟨b1, o1 + 2, none⟩) l1).trans q2
      have l1 : b1 < w1.heap.size := by omega
      go_wp2
      go_roundw
      case rel => exact ⟨k + 1, by omega, by go_num, by rw [HCS.out]; go_num, (by repeat' (first | (with_reducible exact Below.refl _ _) | (with_reducible assumption) | (with_reducible refine Below.setCell ?_ ?_ _) | (with_reducible refine Below.alloc ?_ ?_ _) | (with_reducible refine Below.drew ?_) | (with_reducible refine belowN ?_ _) | (with_reducible refine below_after ?_ (by assumption) ?_) | omega | (simp; done) | (simp; omega)))⟩
      case measure => simp [intOf]; omega
    · obtain rfl : k = l.length := by omega
      go_wp2
      go_ret
      exact ⟨ret_int (by simp), hbw⟩
set_option maxHeartbeats 2000000 in
set_option maxRecDepth 100000 in
theorem markEntryS_c (B : Nat) (v : Value) (l : List DEntry) (fp : List Pos) (w : World) (m : Int) (h0 : 0 ≤ m) (h1 : m + cntL l ≤ 4611686018427387904) (h : Sl BIG w v l fp) (hf : Fresh B w fp) :
    Calls Try.prog 41 #[v, .int .i64 m] w (Marks w v m l fp) := by
  have hl := fun w1 ty => h.len Try.underlying29 w1 ty
  have hb := BIG_le h.leM
  go_enter Try.func41, Try.ntmps41
  go_wp2
  go_loopw [1, 5] (fun c i wr => ∃ k : Nat, k ≤ l.length ∧ i = .int .i64 k ∧ c = .int .i64 (m + cntL (l.take k)) ∧ Sl BIG wr v (marked m l k) fp ∧ Wr fp w wr) (fun _ i _ => l.length - (intOf i).toNat)
  case atStart => exact ⟨0, Nat.zero_le _, rfl, by simp [cntL], by rw [marked_zero]; exact h, Wr.refl _ _⟩
  case round =>
    obtain ⟨k, hk, rfl, rfl, hs, hw⟩ := hrel
    have hc0 := cntL_take_le l k
    by_cases hlt : k < l.length
    · obtain ⟨x, hx⟩ := get_some hlt
      have hcs := cntL_take_succ hx
      have hcl := cntL_take_le l (k + 1)
      have hgx : GoM.cnt x = 2 + cntL x.o := rfl
      have hgm := marked_set (k := m) hx
      obtain ⟨b1, o1, cs1, f_o, g1, g2, g3, g4, g5, gnd, g7⟩ := hs.lens hf.nodup Try.underlying29 szi_DEntry k (marked_get hx)
      obtain ⟨v_o, f_o', rfl, s_o, rfl⟩ := g3
      have hfr := hw.fresh h.live hf
      have hff : Fresh B wr f_o := ⟨gnd, fun p hp => hfr.ge p (g5 p hp), fun p hp => hfr.free p (g5 p hp)⟩
      have q0_0 := g2.zero
      have n0 := (g4 0 (by decide)).2
      have y0 := (g4 0 (by decide)).1
      have z0_0 := hfr.free _ y0
      have q0_1 := g2 1 _ rfl
      have n1 := (g4 1 (by decide)).2
      have y1 := (g4 1 (by decide)).1
      have z0_1 := hfr.free _ y1
      have q0_2 := g2 2 _ rfl
      have n2 := (g4 2 (by decide)).2
      have y2 := (g4 2 (by decide)).1
      have z0_2 := hfr.free _ y2
      simp only [Nat.add_zero] at n0 y0 z0_0
      have mo : ∀ j < 3, (b1, o1 + j) ∈ own b1 o1 3 ++ f_o := fun j hj => List.mem_append.2 (.inl (mem_own.2 ⟨rfl, by simp, by simp; omega⟩))
      have mo0 := mo 0 (by decide)
      simp only [Nat.add_zero] at mo0
      have W0 : Wr (own b1 o1 3 ++ f_o) wr wr := Wr.refl _ _
      have hsl := hs.live
      have A0 := g2
      obtain ⟨c, hc⟩ : ∃ c : Nat, cntL (l.take k) = c := ⟨_, rfl⟩
      rw [hc] at hcs hc0 hgm
      rw [hgx] at hcs
      have HGM := Lib.hid hgm
      have HCS := Lib.hid hcs
      have hlim : c + (2 + cntL x.o) ≤ cntL l := by omega
      have S0_o := s_o
      have F0_o := hff
      rw [hc]
      clear hx hcs hgm hgx hc hcl
      have n0_o : (b1, o1) ∉ f_o := fun hm => n0 (by simp [hm])
      have n1_o : (b1, o1 + 1) ∉ f_o := fun hm => n1 (by simp [hm])
      have n2_o : (b1, o1 + 2) ∉ f_o := fun hm => n2 (by simp [hm])
      go_wp2_with fail
      refine (markPartS_c B _ x.o f_o _ _ (by omega) (by omega) ((S0_o.put n0_o _).put n1_o _) ((F0_o.put _ _).put _ _)).mono ?_
      rintro e w1 ⟨rfl, hs1, hw1⟩
      have A1 := ((A0.put0 (by simp) _).put 1 (by simp) _).wr hw1 (fun j hj => fun hm => (g4 j (show j < 3 from by simpa using hj)).2 (by simp [hm]))
      simp only [List.set_cons_zero, List.set_cons_succ] at A1
      have W1 := ((W0.put mo0 _).put (mo 1 (by decide)) _).trans (hw1.sub (fun p hp => List.mem_append.2 (.inr hp)))
      have S1_o := hs1
      have F1_o := hw1.fresh ((S0_o.put n0_o _).put n1_o _).live ((F0_o.put _ _).put _ _)
      have q1_0 := A1.zero
      have z1_0 := (W1.fresh hsl hfr).free _ y0
      have q1_1 := A1 1 _ rfl
      have z1_1 := (W1.fresh hsl hfr).free _ y1
      have q1_2 := A1 2 _ rfl
      have z1_2 := (W1.fresh hsl hfr).free _ y2
      go_wp2
      go_roundw
      case rel =>
        refine ⟨k + 1, by omega, by go_num, by rw [HCS.out]; go_num, ?_, ?_⟩
        · rw [← HGM.out]
          refine g7 _ _ _ A1 ⟨_, _, rfl, (S1_o.at_ (by omega)), rfl⟩ fun p hp hn ho => W1.cell p (hsl.lt p hp) fun hm => ?_
          rcases List.mem_append.1 hm with hm | hm
          · obtain ⟨e1, e2, e3⟩ := mem_own.1 hm
            exact ho (p.2 - o1) (by show _ < 3; omega) (by ext <;> simp <;> omega)
          · exact hn hm
        · exact hw.trans (W1.sub fun p hp => (List.mem_append.1 hp).elim (fun hm => by
            obtain ⟨e1, e2, e3⟩ := mem_own.1 hm
            have := (g4 (p.2 - o1) (by show _ < 3; omega)).1
            rw [show ((b1, o1 + (p.2 - o1)) : Pos) = p by ext <;> simp <;> omega] at this
            exact this) (g5 p))
      case measure => simp [intOf]; omega
    · obtain rfl : k = l.length := by omega
      rw [marked_all] at hs
      go_wp2
      go_ret
      exact ⟨ret_int (by simp), hs, hw⟩
set_option maxHeartbeats 2000000 in
set_option maxRecDepth 100000 in
theorem heldEntryS_c (v : Value) (l : List DEntry) (w : World) (m : Int) (h0 : 0 ≤ m) (h1 : m + cntL l ≤ 4611686018427387904) (h : RdS w v l) (hm : mkL m l = l) :
    Calls Try.prog 42 #[v, .int .i64 m] w (Tells w (.int .i64 (m + cntL l))) := by
  have hl := fun w1 ty => h.len Try.underlying29 w1 ty
  have hb := h.le
  have HM := Lib.hid hm; clear hm
  go_enter Try.func42, Try.ntmps42
  go_wp2
  go_loopw [1, 5] (fun c i wr => ∃ k : Nat, k ≤ l.length ∧ i = .int .i64 k ∧ c = .int .i64 (m + cntL (l.take k)) ∧ Below w.heap.size w wr) (fun _ i _ => l.length - (intOf i).toNat)
  case atStart => exact ⟨0, Nat.zero_le _, rfl, by simp [cntL], Below.refl _ _⟩
  case round =>
    obtain ⟨k, hk, rfl, rfl, hbw⟩ := hrel
    have hsz := hbw.size
    have hc0 := cntL_take_le l k
    by_cases hlt : k < l.length
    · obtain ⟨x, hx⟩ := get_some hlt
      have hcs := cntL_take_succ hx
      have hcl := cntL_take_le l (k + 1)
      have hgx : GoM.cnt x = 2 + cntL x.o := rfl
      obtain ⟨b1, o1, cs1, h2a, h2, h3⟩ := (h.below hbw).idx Try.underlying29 szi_DEntry k hx
      obtain ⟨v_o, rfl, r_o⟩ := inv_DEntry h3
      have hg : GoM.mrk (m + cntL (l.take k)) x = x := held_get HM.out hx
      obtain ⟨c, hc⟩ : ∃ c : Nat, cntL (l.take k) = c := ⟨_, rfl⟩
      rw [hc] at hcs hc0 hg
      rw [hgx] at hcs
      have HCS := Lib.hid hcs
      have hlim : c + (2 + cntL x.o) ≤ cntL l := by omega
      rw [hc]
      clear hx hcs hgx hc hcl
      have e0 : x.client = m + c := by have := congrArg (fun x : DEntry => x.client) hg; simp only [GoM.mrk] at this; omega
      have e1 : x.seq = m + c + 1 := by have := congrArg (fun x : DEntry => x.seq) hg; simp only [GoM.mrk] at this; omega
      have E2 : Hid (mkL (m + c + 2) x.o = x.o) := by have := congrArg (fun x : DEntry => x.o) hg; simp only [GoM.mrk] at this; exact Lib.hid ((congrArg (fun z => mkL z x.o) (by omega)).trans this)
      have q0 := h2.zero
      have q1 := h2 1 _ rfl
      have q2 := h2 2 _ rfl
      rw [e0] at q0
      rw [e1] at q1
      have l1 : b1 < wr.heap.size := World.block_lt_of_cell? (w := wr) (a := ⟨b1, o1, none⟩) q0
      clear hg e0 e1
      go_wp2_with fail
      refine (heldPartS_c _ x.o _ _ (by omega) (by omega) (r_o.below (by repeat' (first | (with_reducible exact Below.refl _ _) | (with_reducible assumption) | (with_reducible refine Below.setCell ?_ ?_ _) | (with_reducible refine Below.alloc ?_ ?_ _) | (with_reducible refine Below.drew ?_) | (with_reducible refine belowN ?_ _) | (with_reducible refine below_after ?_ (by assumption) ?_) | omega | (simp; done) | (simp; omega)))) (by refine (congrArg (fun z => mkL z x.o) ?_).trans E2.out; omega)).mono ?_
      rintro e w1 ⟨rfl, hb1⟩
      have s1 : wr.heap.size ≤ w1.heap.size := (by have := hb1.size; (try simp at this); omega)
      have q0 : w1.cell? ⟨b1, o1, none⟩ = _ := (hb1.cell (p := ⟨b1, o1, none⟩) l1).trans q0
      have q1 : w1.cell? ⟨b1, o1 + 1, none⟩ = _ := (hb1.cell (p := ⟨b1, o1 + 1, none⟩) l1).trans q1
      have q2 : w1.cell? ⟨b1, o1 + 2, none⟩ = _ := (hb1.cell (p := ⟨b1, o1 + 2, none⟩) l1).trans q2
      have l1 : b1 < w1.heap.size := by omega
      go_wp2
      go_roundw
      case rel => exact ⟨k + 1, by omega, by go_num, by rw [HCS.out]; go_num, (by repeat' (first | (with_reducible exact Below.refl _ _) | (with_reducible assumption) | (with_reducible refine Below.setCell ?_ ?_ _) | (with_reducible refine Below.alloc ?_ ?_ _) | (with_reducible refine Below.drew ?_) | (with_reducible refine belowN ?_ _) | (with_reducible refine below_after ?_ (by assumption) ?_) | omega | (simp; done) | (simp; omega)))⟩
      case measure => simp [intOf]; omega
    · obtain rfl : k = l.length := by omega
      go_wp2
      go_ret
      exact ⟨ret_int (by simp), hbw⟩
end Go.Proofs.Ytkbhlgmgjpbloaa

namespace Go.Proofs.Ytkbhlgmgjpbloaa
open Go.RowKit
set_option maxHeartbeats 2000000 in
set_option maxRecDepth 100000 in
theorem markSeenS_c (B : Nat) (v : Value) (l : List DSeen) (fp : List Pos) (w : World) (m : Int) (h0 : 0 ≤ m) (h1 : m + cntL l ≤ 4611686018427387904) (h : Sl BIG w v l fp) (hf : Fresh B w fp) :
    Calls Try.prog 65 #[v, .int .i64 m] w (Marks w v m l fp) := by
  have hl := fun w1 ty => h.len Try.underlying30 w1 ty
  have hb := BIG_le h.leM
  go_enter Try.func65, Try.ntmps65
  go_wp2
  go_loopw [1, 5] (fun c i wr => ∃ k : Nat, k ≤ l.length ∧ i = .int .i64 k ∧ c = .int .i64 (m + cntL (l.take k)) ∧ Sl BIG wr v (marked m l k) fp ∧ Wr fp w wr) (fun _ i _ => l.length - (intOf i).toNat)
  case atStart => exact ⟨0, Nat.zero_le _, rfl, by simp [cntL], by rw [marked_zero]; exact h, Wr.refl _ _⟩
  case round =>
    obtain ⟨k, hk, rfl, rfl, hs, hw⟩ := hrel
    have hc0 := cntL_take_le l k
    by_cases hlt : k < l.length
    · obtain ⟨x, hx⟩ := get_some hlt
      have hcs := cntL_take_succ hx
      have hcl := cntL_take_le l (k + 1)
      have hgx : GoM.cnt x = 3 := rfl
      have hgm := marked_set (k := m) hx
      obtain ⟨b1, o1, cs1, f, g1, g2, g3, g4, g5, gnd, g7⟩ := hs.lens hf.nodup Try.underlying30 szi_DSeen k (marked_get hx)
      obtain ⟨rfl, rfl⟩ := g3
      have hfr := hw.fresh h.live hf
      have hff : Fresh B wr [] := ⟨gnd, fun p hp => hfr.ge p (g5 p hp), fun p hp => hfr.free p (g5 p hp)⟩
      have q0_0 := g2.zero
      have n0 := (g4 0 (by decide)).2
      have y0 := (g4 0 (by decide)).1
      have z0_0 := hfr.free _ y0
      have q0_1 := g2 1 _ rfl
      have n1 := (g4 1 (by decide)).2
      have y1 := (g4 1 (by decide)).1
      have z0_1 := hfr.free _ y1
      have q0_2 := g2 2 _ rfl
      have n2 := (g4 2 (by decide)).2
      have y2 := (g4 2 (by decide)).1
      have z0_2 := hfr.free _ y2
      simp only [Nat.add_zero] at n0 y0 z0_0
      have mo : ∀ j < 3, (b1, o1 + j) ∈ own b1 o1 3 ++ [] := fun j hj => List.mem_append.2 (.inl (mem_own.2 ⟨rfl, by simp, by simp; omega⟩))
      have mo0 := mo 0 (by decide)
      simp only [Nat.add_zero] at mo0
      have W0 : Wr (own b1 o1 3 ++ []) wr wr := Wr.refl _ _
      have hsl := hs.live
      have A0 := g2
      obtain ⟨c, hc⟩ : ∃ c : Nat, cntL (l.take k) = c := ⟨_, rfl⟩
      rw [hc] at hcs hc0 hgm
      rw [hgx] at hcs
      have HGM := Lib.hid hgm
      have HCS := Lib.hid hcs
      have hlim : c + (3) ≤ cntL l := by omega
      rw [hc]
      clear hx hcs hgm hgx hc hcl
      go_wp2
      go_roundw
      case rel =>
        refine ⟨k + 1, by omega, by go_num, by rw [HCS.out]; go_num, ?_, ?_⟩
        · rw [← HGM.out]
          refine g7 _ _ _ (((A0.put0 (by simp) _).put 1 (by simp) _).put 2 (by simp) _) ⟨by (simp [GoM.mrk]; try omega), rfl⟩ fun p hp hn ho => (((W0.put mo0 _).put (mo 1 (by decide)) _).put (mo 2 (by decide)) _).cell p (hsl.lt p hp) fun hm => ?_
          rcases List.mem_append.1 hm with hm | hm
          · obtain ⟨e1, e2, e3⟩ := mem_own.1 hm
            exact ho (p.2 - o1) (by show _ < 3; omega) (by ext <;> simp <;> omega)
          · exact hn hm
        · exact hw.trans ((((W0.put mo0 _).put (mo 1 (by decide)) _).put (mo 2 (by decide)) _).sub fun p hp => (List.mem_append.1 hp).elim (fun hm => by
            obtain ⟨e1, e2, e3⟩ := mem_own.1 hm
            have := (g4 (p.2 - o1) (by show _ < 3; omega)).1
            rw [show ((b1, o1 + (p.2 - o1)) : Pos) = p by ext <;> simp <;> omega] at this
            exact this) (g5 p))
      case measure => simp [intOf]; omega
    · obtain rfl : k = l.length := by omega
      rw [marked_all] at hs
      go_wp2
      go_ret
      exact ⟨ret_int (by simp), hs, hw⟩
set_option maxHeartbeats 2000000 in
set_option maxRecDepth 100000 in
theorem heldSeenS_c (v : Value) (l : List DSeen) (w : World) (m : Int) (h0 : 0 ≤ m) (h1 : m + cntL l ≤ 4611686018427387904) (h : RdS w v l) (hm : mkL m l = l) :
    Calls Try.prog 66 #[v, .int .i64 m] w (Tells w (.int .i64 (m + cntL l))) := by
  have hl := fun w1 ty => h.len Try.underlying30 w1 ty
  have hb := h.le
  have HM := Lib.hid hm; clear hm
  go_enter Try.func66, Try.ntmps66
  go_wp2
  go_loopw [1, 5] (fun c i wr => ∃ k : Nat, k ≤ l.length ∧ i = .int .i64 k ∧ c = .int .i64 (m + cntL (l.take k)) ∧ Below w.heap.size w wr) (fun _ i _ => l.length - (intOf i).toNat)
  case atStart => exact ⟨0, Nat.zero_le _, rfl, by simp [cntL], Below.refl _ _⟩
  case round =>
    obtain ⟨k, hk, rfl, rfl, hbw⟩ := hrel
    have hsz := hbw.size
    have hc0 := cntL_take_le l k
    by_cases hlt : k < l.length
    · obtain ⟨x, hx⟩ := get_some hlt
      have hcs := cntL_take_succ hx
      have hcl := cntL_take_le l (k + 1)
      have hgx : GoM.cnt x = 3 := rfl
      obtain ⟨b1, o1, cs1, h2a, h2, h3⟩ := (h.below hbw).idx Try.underlying30 szi_DSeen k hx
      obtain rfl := inv_DSeen h3
      have hg : GoM.mrk (m + cntL (l.take k)) x = x := held_get HM.out hx
      obtain ⟨c, hc⟩ : ∃ c : Nat, cntL (l.take k) = c := ⟨_, rfl⟩
      rw [hc] at hcs hc0 hg
      rw [hgx] at hcs
      have HCS := Lib.hid hcs
      have hlim : c + (3) ≤ cntL l := by omega
      rw [hc]
      clear hx hcs hgx hc hcl
      have e0 : x.client = m + c := by have := congrArg (fun x : DSeen => x.client) hg; simp only [GoM.mrk] at this; omega
      have e1 : x.seq = m + c + 1 := by have := congrArg (fun x : DSeen => x.seq) hg; simp only [GoM.mrk] at this; omega
      have e2 : x.rev = m + c + 2 := by have := congrArg (fun x : DSeen => x.rev) hg; simp only [GoM.mrk] at this; omega
      have q0 := h2.zero
      have q1 := h2 1 _ rfl
      have q2 := h2 2 _ rfl
      rw [e0] at q0
      rw [e1] at q1
      rw [e2] at q2
      have l1 : b1 < wr.heap.size := World.block_lt_of_cell? (w := wr) (a := ⟨b1, o1, none⟩) q0
      clear hg e0 e1 e2
      go_wp2
      go_roundw
      case rel => exact ⟨k + 1, by omega, by go_num, by rw [HCS.out]; go_num, (by repeat' (first | (with_reducible exact Below.refl _ _) | (with_reducible assumption) | (with_reducible refine Below.setCell ?_ ?_ _) | (with_reducible refine Below.alloc ?_ ?_ _) | (with_reducible refine Below.drew ?_) | (with_reducible refine belowN ?_ _) | (with_reducible refine below_after ?_ (by assumption) ?_) | omega | (simp; done) | (simp; omega)))⟩
      case measure => simp [intOf]; omega
    · obtain rfl : k = l.length := by omega
      go_wp2
      go_ret
      exact ⟨ret_int (by simp), hbw⟩
set_option maxHeartbeats 1000000 in
theorem markDoc_c (B : Nat) (name : ByteArray) (from_ : Int) (v_text : Value) (v_list : Value) (v_seen : Value) (l_text : List Int) (l_list : List DEntry) (l_seen : List DSeen) (f_text : List Pos) (f_list : List Pos) (f_seen : List Pos) (w : World) (m : Int) (h0 : 0 ≤ m) (h1 : m + ((cntL l_text + cntL l_list + cntL l_seen : Nat) : Int) ≤ 4611686018427387904) (s_text : Sl BIG w v_text l_text f_text) (s_list : Sl BIG w v_list l_list f_list) (s_seen : Sl BIG w v_seen l_seen f_seen) (hf : Fresh B w (f_text ++ (f_list ++ f_seen))) :
    Calls Try.prog 22 #[.agg #[.string name, .int .i64 from_, v_text, v_list, v_seen], .int .i64 m] w (fun e w' => e = .returned (.int .i64 (m + ((cntL l_text + cntL l_list + cntL l_seen : Nat) : Int))) ∧ Sl BIG w' v_text (mkL (m) l_text) f_text ∧ Sl BIG w' v_list (mkL (m + cntL l_text) l_list) f_list ∧ Sl BIG w' v_seen (mkL (m + cntL l_text + cntL l_list) l_seen) f_seen ∧ Wr (f_text ++ (f_list ++ f_seen)) w w') := by
  have lt_text := Live.lt s_text.live
  have lt_list := Live.lt s_list.live
  have lt_seen := Live.lt s_seen.live
  have hbx : Below w.heap.size w (w.alloc (.cells #[.string name, .int .i64 from_, v_text, v_list, v_seen] 32)) := (Below.refl _ _).alloc (Nat.le_refl _) _
  have F0_text : Fresh B _ f_text := (hf.left).belowL hbx lt_text
  have S0_text := s_text.belowW hbx
  have F0_list : Fresh B _ f_list := (hf.right.left).belowL hbx lt_list
  have S0_list := s_list.belowW hbx
  have F0_seen : Fresh B _ f_seen := (hf.right.right).belowL hbx lt_seen
  have S0_seen := s_seen.belowW hbx
  have X0 : Wr (f_text ++ (f_list ++ f_seen)) w _ := Wr.of_below hbx
  have c0_0 : (w.alloc (.cells #[.string name, .int .i64 from_, v_text, v_list, v_seen] 32)).cell? ⟨w.heap.size, 0, none⟩ = some (.string name) := by simp
  have c0_1 : (w.alloc (.cells #[.string name, .int .i64 from_, v_text, v_list, v_seen] 32)).cell? ⟨w.heap.size, 1, none⟩ = some (.int .i64 from_) := by simp
  have c0_2 : (w.alloc (.cells #[.string name, .int .i64 from_, v_text, v_list, v_seen] 32)).cell? ⟨w.heap.size, 2, none⟩ = some (v_text) := by simp
  have c0_3 : (w.alloc (.cells #[.string name, .int .i64 from_, v_text, v_list, v_seen] 32)).cell? ⟨w.heap.size, 3, none⟩ = some (v_list) := by simp
  have c0_4 : (w.alloc (.cells #[.string name, .int .i64 from_, v_text, v_list, v_seen] 32)).cell? ⟨w.heap.size, 4, none⟩ = some (v_seen) := by simp
  have z0 : w.heap.size < (w.alloc (.cells #[.string name, .int .i64 from_, v_text, v_list, v_seen] 32)).heap.size := by simp
  have hnd := hf.nodup
  have HND := Lib.hid hnd
  clear hnd
  go_enter Try.func22, Try.ntmps22
  go_wp2_with fail
  refine (markIntS_c B _ l_text f_text _ _ (by omega) (by omega) S0_text F0_text).mono ?_
  rintro e w1 ⟨rfl, T1_text, hw1⟩
  have S1_text := T1_text
  have F1_text := hw1.fresh S0_text.live F0_text
  have S1_list := S0_list.wr hw1 (fun p hp hq => by have hh := HND.out; simp only [List.nodup_append, List.mem_append] at hh; grind)
  have F1_list := hw1.fresh S0_list.live F0_list
  have S1_seen := S0_seen.wr hw1 (fun p hp hq => by have hh := HND.out; simp only [List.nodup_append, List.mem_append] at hh; grind)
  have F1_seen := hw1.fresh S0_seen.live F0_seen
  have X1 := X0.trans (hw1.sub (fun p hp => by simp [hp]))
  have z1 : w.heap.size < w1.heap.size := Nat.lt_of_lt_of_le z0 hw1.size
  have c1_0 : w1.cell? ⟨w.heap.size, 0, none⟩ = some (.string name) := (hw1.cell (w.heap.size, 0) z0 (fun hm => by have := lt_text _ hm; simp at this)).trans c0_0
  have c1_1 : w1.cell? ⟨w.heap.size, 1, none⟩ = some (.int .i64 from_) := (hw1.cell (w.heap.size, 1) z0 (fun hm => by have := lt_text _ hm; simp at this)).trans c0_1
  have c1_2 : w1.cell? ⟨w.heap.size, 2, none⟩ = some (v_text) := (hw1.cell (w.heap.size, 2) z0 (fun hm => by have := lt_text _ hm; simp at this)).trans c0_2
  have c1_3 : w1.cell? ⟨w.heap.size, 3, none⟩ = some (v_list) := (hw1.cell (w.heap.size, 3) z0 (fun hm => by have := lt_text _ hm; simp at this)).trans c0_3
  have c1_4 : w1.cell? ⟨w.heap.size, 4, none⟩ = some (v_seen) := (hw1.cell (w.heap.size, 4) z0 (fun hm => by have := lt_text _ hm; simp at this)).trans c0_4
  clear hw1
  go_wp2_with fail
  refine (markEntryS_c B _ l_list f_list _ _ (by omega) (by omega) S1_list F1_list).mono ?_
  rintro e w2 ⟨rfl, T2_list, hw2⟩
  have S2_text := S1_text.wr hw2 (fun p hp hq => by have hh := HND.out; simp only [List.nodup_append, List.mem_append] at hh; grind)
  have F2_text := hw2.fresh S1_text.live F1_text
  have S2_list := T2_list
  have F2_list := hw2.fresh S1_list.live F1_list
  have S2_seen := S1_seen.wr hw2 (fun p hp hq => by have hh := HND.out; simp only [List.nodup_append, List.mem_append] at hh; grind)
  have F2_seen := hw2.fresh S1_seen.live F1_seen
  have X2 := X1.trans (hw2.sub (fun p hp => by simp [hp]))
  have z2 : w.heap.size < w2.heap.size := Nat.lt_of_lt_of_le z1 hw2.size
  have c2_0 : w2.cell? ⟨w.heap.size, 0, none⟩ = some (.string name) := (hw2.cell (w.heap.size, 0) z1 (fun hm => by have := lt_list _ hm; simp at this)).trans c1_0
  have c2_1 : w2.cell? ⟨w.heap.size, 1, none⟩ = some (.int .i64 from_) := (hw2.cell (w.heap.size, 1) z1 (fun hm => by have := lt_list _ hm; simp at this)).trans c1_1
  have c2_2 : w2.cell? ⟨w.heap.size, 2, none⟩ = some (v_text) := (hw2.cell (w.heap.size, 2) z1 (fun hm => by have := lt_list _ hm; simp at this)).trans c1_2
  have c2_3 : w2.cell? ⟨w.heap.size, 3, none⟩ = some (v_list) := (hw2.cell (w.heap.size, 3) z1 (fun hm => by have := lt_list _ hm; simp at this)).trans c1_3
  have c2_4 : w2.cell? ⟨w.heap.size, 4, none⟩ = some (v_seen) := (hw2.cell (w.heap.size, 4) z1 (fun hm => by have := lt_list _ hm; simp at this)).trans c1_4
  clear hw2
  go_wp2_with fail
  refine (markSeenS_c B _ l_seen f_seen _ _ (by omega) (by omega) S2_seen F2_seen).mono ?_
  rintro e w3 ⟨rfl, T3_seen, hw3⟩
  have S3_text := S2_text.wr hw3 (fun p hp hq => by have hh := HND.out; simp only [List.nodup_append, List.mem_append] at hh; grind)
  have F3_text := hw3.fresh S2_text.live F2_text
  have S3_list := S2_list.wr hw3 (fun p hp hq => by have hh := HND.out; simp only [List.nodup_append, List.mem_append] at hh; grind)
  have F3_list := hw3.fresh S2_list.live F2_list
  have S3_seen := T3_seen
  have F3_seen := hw3.fresh S2_seen.live F2_seen
  have X3 := X2.trans (hw3.sub (fun p hp => by simp [hp]))
  have z3 : w.heap.size < w3.heap.size := Nat.lt_of_lt_of_le z2 hw3.size
  have c3_0 : w3.cell? ⟨w.heap.size, 0, none⟩ = some (.string name) := (hw3.cell (w.heap.size, 0) z2 (fun hm => by have := lt_seen _ hm; simp at this)).trans c2_0
  have c3_1 : w3.cell? ⟨w.heap.size, 1, none⟩ = some (.int .i64 from_) := (hw3.cell (w.heap.size, 1) z2 (fun hm => by have := lt_seen _ hm; simp at this)).trans c2_1
  have c3_2 : w3.cell? ⟨w.heap.size, 2, none⟩ = some (v_text) := (hw3.cell (w.heap.size, 2) z2 (fun hm => by have := lt_seen _ hm; simp at this)).trans c2_2
  have c3_3 : w3.cell? ⟨w.heap.size, 3, none⟩ = some (v_list) := (hw3.cell (w.heap.size, 3) z2 (fun hm => by have := lt_seen _ hm; simp at this)).trans c2_3
  have c3_4 : w3.cell? ⟨w.heap.size, 4, none⟩ = some (v_seen) := (hw3.cell (w.heap.size, 4) z2 (fun hm => by have := lt_seen _ hm; simp at this)).trans c2_4
  clear hw3
  go_wp2
  go_ret
  exact ⟨ret_int (by omega), S3_text, S3_list, S3_seen, X3⟩
set_option maxHeartbeats 1000000 in
theorem heldDoc_c (name : ByteArray) (from_ : Int) (v_text : Value) (v_list : Value) (v_seen : Value) (l_text : List Int) (l_list : List DEntry) (l_seen : List DSeen) (w : World) (m : Int) (h0 : 0 ≤ m) (h1 : m + ((cntL l_text + cntL l_list + cntL l_seen : Nat) : Int) ≤ 4611686018427387904) (h_text : RdS w v_text l_text) (h_list : RdS w v_list l_list) (h_seen : RdS w v_seen l_seen) (hm_text : mkL (m) l_text = l_text) (hm_list : mkL (m + cntL l_text) l_list = l_list) (hm_seen : mkL (m + cntL l_text + cntL l_list) l_seen = l_seen) :
    Calls Try.prog 23 #[.agg #[.string name, .int .i64 from_, v_text, v_list, v_seen], .int .i64 m] w (Tells w (.int .i64 (m + ((cntL l_text + cntL l_list + cntL l_seen : Nat) : Int)))) := by
  have HM_text := Lib.hid hm_text
  have HM_list := Lib.hid hm_list
  have HM_seen := Lib.hid hm_seen
  clear hm_text hm_list hm_seen
  go_enter Try.func23, Try.ntmps23
  go_wp2_with fail
  refine (heldIntS_c _ l_text _ _ (by omega) (by omega) (h_text.below (by repeat' (first | (with_reducible exact Below.refl _ _) | (with_reducible assumption) | (with_reducible refine Below.setCell ?_ ?_ _) | (with_reducible refine Below.alloc ?_ ?_ _) | (with_reducible refine Below.drew ?_) | (with_reducible refine belowN ?_ _) | (with_reducible refine below_after ?_ (by assumption) ?_) | omega | (simp; done) | (simp; omega)))) HM_text.out).mono ?_
  rintro e w1 ⟨rfl, hb1⟩
  have s1 := hb1.size
  (try simp at s1)
  obtain ⟨hc1, hf1⟩ := bcell hb1
  have z1 : w.heap.size < w1.heap.size := by omega
  go_wp2_with fail
  refine (heldEntryS_c _ l_list _ _ (by omega) (by omega) (h_list.below (by repeat' (first | (with_reducible exact Below.refl _ _) | (with_reducible assumption) | (with_reducible refine Below.setCell ?_ ?_ _) | (with_reducible refine Below.alloc ?_ ?_ _) | (with_reducible refine Below.drew ?_) | (with_reducible refine belowN ?_ _) | (with_reducible refine below_after ?_ (by assumption) ?_) | omega | (simp; done) | (simp; omega)))) HM_list.out).mono ?_
  rintro e w2 ⟨rfl, hb2⟩
  have s2 := hb2.size
  (try simp at s2)
  obtain ⟨hc2, hf2⟩ := bcell hb2
  have z2 : w.heap.size < w2.heap.size := by omega
  go_wp2_with fail
  refine (heldSeenS_c _ l_seen _ _ (by omega) (by omega) (h_seen.below (by repeat' (first | (with_reducible exact Below.refl _ _) | (with_reducible assumption) | (with_reducible refine Below.setCell ?_ ?_ _) | (with_reducible refine Below.alloc ?_ ?_ _) | (with_reducible refine Below.drew ?_) | (with_reducible refine belowN ?_ _) | (with_reducible refine below_after ?_ (by assumption) ?_) | omega | (simp; done) | (simp; omega)))) HM_seen.out).mono ?_
  rintro e w3 ⟨rfl, hb3⟩
  have s3 := hb3.size
  (try simp at s3)
  obtain ⟨hc3, hf3⟩ := bcell hb3
  have z3 : w.heap.size < w3.heap.size := by omega
  go_wp2
  go_ret
  exact ⟨ret_int (by omega), (by repeat' (first | (with_reducible exact Below.refl _ _) | (with_reducible assumption) | (with_reducible refine Below.setCell ?_ ?_ _) | (with_reducible refine Below.alloc ?_ ?_ _) | (with_reducible refine Below.drew ?_) | (with_reducible refine belowN ?_ _) | (with_reducible refine below_after ?_ (by assumption) ?_) | omega | (simp; done) | (simp; omega)))⟩
end Go.Proofs.Ytkbhlgmgjpbloaa

namespace Go.Proofs.Ytkbhlgmgjpbloaa
open Go.RowKit
theorem szi_DPartS : ∀ w1, (sizeOf 62).run Try.prog w1 = .ok 1 w1 := fun _ => by kernel_rfl
set_option maxHeartbeats 2000000 in
theorem markPartSS_c (B : Nat) (v : Value) (l : List (List DPart)) (fp : List Pos) (w : World) (m : Int) (h0 : 0 ≤ m) (h1 : m + cntL l ≤ 4611686018427387904) (h : Sl BIG w v l fp) (hf : Fresh B w fp) :
    Calls Try.prog 36 #[v, .int .i64 m] w (Marks w v m l fp) := by
  have hl := fun w1 ty => h.len Try.underlying47 w1 ty
  have hb := BIG_le h.leM
  go_enter Try.func36, Try.ntmps36
  go_wp2
  go_loopw [1, 5] (fun c i wr => ∃ k : Nat, k ≤ l.length ∧ i = .int .i64 k ∧ c = .int .i64 (m + cntL (l.take k)) ∧ Sl BIG wr v (marked m l k) fp ∧ Wr fp w wr) (fun _ i _ => l.length - (intOf i).toNat)
  case atStart => exact ⟨0, Nat.zero_le _, rfl, by simp [cntL], by rw [marked_zero]; exact h, Wr.refl _ _⟩
  case round =>
    obtain ⟨k, hk, rfl, rfl, hs, hw⟩ := hrel
    have hc0 := cntL_take_le l k
    by_cases hlt : k < l.length
    · obtain ⟨x, hx⟩ := get_some hlt
      have hcs := cntL_take_succ hx
      have hcl := cntL_take_le l (k + 1)
      have hgx : GoM.cnt x = cntL x := rfl
      have hgm := marked_set (k := m) hx
      obtain ⟨b1, o1, cs1, f, g1, g2, g3, g4, g5, gnd, g7⟩ := hs.lens hf.nodup Try.underlying47 szi_DPartS k (marked_get hx)
      obtain ⟨u, rfl, s⟩ := g3
      have hfr := hw.fresh h.live hf
      have hff : Fresh B wr f := ⟨gnd, fun p hp => hfr.ge p (g5 p hp), fun p hp => hfr.free p (g5 p hp)⟩
      have q0 := g2.one
      have n0 := (g4 0 (by decide)).2
      simp only [Nat.add_zero] at n0
      have hsl := hs.live
      obtain ⟨c, hc⟩ : ∃ c : Nat, cntL (l.take k) = c := ⟨_, rfl⟩
      rw [hc] at hcs hc0 hgm
      rw [hgx] at hcs
      have HGM := Lib.hid hgm
      have HCS := Lib.hid hcs
      have hlim : c + cntL x ≤ cntL l := by omega
      rw [hc]
      clear hx hcs hgm hgx hc hcl
      go_wp2_with fail
      refine (markPartS_c B _ x f _ _ (by omega) (by omega) s hff).mono ?_
      rintro e w1 ⟨rfl, hs1, hw1⟩
      have A1 := g2.wr hw1 (fun j hj => fun hm => (g4 j (show j < 1 from by simpa using hj)).2 (by simp [hm]))
      go_wp2
      go_roundw
      case rel =>
        refine ⟨k + 1, by omega, by go_num, by rw [HCS.out]; go_num, ?_, ?_⟩
        · rw [← HGM.out]
          exact g7 _ _ _ A1 ⟨_, rfl, hs1⟩ fun p hp hn ho => hw1.cell p (hsl.lt p hp) hn
        · exact hw.trans (hw1.sub fun p hp => g5 p hp)
      case measure => simp [intOf]; omega
    · obtain rfl : k = l.length := by omega
      rw [marked_all] at hs
      go_wp2
      go_ret
      exact ⟨ret_int (by simp), hs, hw⟩
set_option maxHeartbeats 2000000 in
theorem heldPartSS_c (v : Value) (l : List (List DPart)) (w : World) (m : Int) (h0 : 0 ≤ m) (h1 : m + cntL l ≤ 4611686018427387904) (h : RdS w v l) (hm : mkL m l = l) :
    Calls Try.prog 37 #[v, .int .i64 m] w (Tells w (.int .i64 (m + cntL l))) := by
  have hl := fun w1 ty => h.len Try.underlying47 w1 ty
  have hb := h.le
  have HM := Lib.hid hm; clear hm
  go_enter Try.func37, Try.ntmps37
  go_wp2
  go_loopw [1, 5] (fun c i wr => ∃ k : Nat, k ≤ l.length ∧ i = .int .i64 k ∧ c = .int .i64 (m + cntL (l.take k)) ∧ Below w.heap.size w wr) (fun _ i _ => l.length - (intOf i).toNat)
  case atStart => exact ⟨0, Nat.zero_le _, rfl, by simp [cntL], Below.refl _ _⟩
  case round =>
    obtain ⟨k, hk, rfl, rfl, hbw⟩ := hrel
    have hsz := hbw.size
    have hc0 := cntL_take_le l k
    by_cases hlt : k < l.length
    · obtain ⟨x, hx⟩ := get_some hlt
      have hcs := cntL_take_succ hx
      have hcl := cntL_take_le l (k + 1)
      have hgx : GoM.cnt x = cntL x := rfl
      obtain ⟨b1, o1, cs1, h2a, h2, fq, u, rfl, s⟩ := (h.below hbw).idx Try.underlying47 szi_DPartS k hx
      have r : RdS wr u x := ⟨_, s⟩
      have hg : mkL (m + cntL (l.take k)) x = x := held_get HM.out hx
      obtain ⟨c, hc⟩ : ∃ c : Nat, cntL (l.take k) = c := ⟨_, rfl⟩
      rw [hc] at hcs hc0 hg
      rw [hgx] at hcs
      have HCS := Lib.hid hcs
      have HG := Lib.hid hg
      have hlim : c + cntL x ≤ cntL l := by omega
      have q0 := h2.one
      rw [hc]
      clear hx hcs hgx hc hcl hg
      go_wp2_with fail
      refine (heldPartS_c _ x _ _ (by omega) (by omega) r HG.out).mono ?_
      rintro e w1 ⟨rfl, hb1⟩
      go_wp2
      go_roundw
      case rel => exact ⟨k + 1, by omega, by go_num, by rw [HCS.out]; go_num, (by repeat' (first | (with_reducible exact Below.refl _ _) | (with_reducible assumption) | (with_reducible refine Below.setCell ?_ ?_ _) | (with_reducible refine Below.alloc ?_ ?_ _) | (with_reducible refine Below.drew ?_) | (with_reducible refine belowN ?_ _) | (with_reducible refine below_after ?_ (by assumption) ?_) | omega | (simp; done) | (simp; omega)))⟩
      case measure => simp [intOf]; omega
    · obtain rfl : k = l.length := by omega
      go_wp2
      go_ret
      exact ⟨ret_int (by simp), hbw⟩
set_option maxHeartbeats 1000000 in
set_option maxRecDepth 100000 in
theorem eqPartSS_c (va vb : Value) (a : List (List DPart)) (w : World) (ha : RdS w va a) (hb : RdS w vb a) :
    Calls Try.prog 35 #[va, vb] w (Tells w (.bool true)) := by
  have hla := fun w1 ty => ha.len Try.underlying47 w1 ty
  have hlb := fun w1 ty => hb.len Try.underlying47 w1 ty
  have ba := ha.le
  go_enter Try.func35, Try.ntmps35
  go_wp2
  go_loopw [5] (fun i wr => ∃ k : Nat, k ≤ a.length ∧ i = .int .i64 k ∧ Below w.heap.size w wr) (fun i _ => a.length - (intOf i).toNat)
  case atStart => exact ⟨0, Nat.zero_le _, rfl, Below.refl _ _⟩
  case round =>
    obtain ⟨k, hk, rfl, hbw⟩ := hrel
    have hsz := hbw.size
    by_cases hlt : k < a.length
    · obtain ⟨x, hx⟩ := get_some hlt
      obtain ⟨b1, o1, _, h1, h2, f1, u1, rfl, s1⟩ := (ha.below hbw).idx Try.underlying47 szi_DPartS k hx
      obtain ⟨b2, o2, _, h3, h4, f2, u2, rfl, s2⟩ := (hb.below hbw).idx Try.underlying47 szi_DPartS k hx
      have q1 := h2.one
      have q2 := h4.one
      have r1 : RdS wr u1 x := ⟨_, s1⟩
      have r2 : RdS wr u2 x := ⟨_, s2⟩
      clear hx s1 s2
      go_wp2_with fail
      go_still_tail 8, (by kernel_rfl)
      go_wp2_with fail
      refine (eqPartS_c _ _ x _ (r1.below (by repeat' (first | (with_reducible exact Below.refl _ _) | (with_reducible assumption) | (with_reducible refine Below.setCell ?_ ?_ _) | (with_reducible refine Below.alloc ?_ ?_ _) | (with_reducible refine Below.drew ?_) | (with_reducible refine belowN ?_ _) | (with_reducible refine below_after ?_ (by assumption) ?_) | omega | (simp; done) | (simp; omega)))) (r2.below (by repeat' (first | (with_reducible exact Below.refl _ _) | (with_reducible assumption) | (with_reducible refine Below.setCell ?_ ?_ _) | (with_reducible refine Below.alloc ?_ ?_ _) | (with_reducible refine Below.drew ?_) | (with_reducible refine belowN ?_ _) | (with_reducible refine below_after ?_ (by assumption) ?_) | omega | (simp; done) | (simp; omega))))).mono ?_
      rintro e w1 ⟨rfl, hb1⟩
      go_wp2
      go_roundw
      case rel => exact ⟨k + 1, by omega, by go_num, (by repeat' (first | (with_reducible exact Below.refl _ _) | (with_reducible assumption) | (with_reducible refine Below.setCell ?_ ?_ _) | (with_reducible refine Below.alloc ?_ ?_ _) | (with_reducible refine Below.drew ?_) | (with_reducible refine belowN ?_ _) | (with_reducible refine below_after ?_ (by assumption) ?_) | omega | (simp; done) | (simp; omega)))⟩
      case measure => simp [intOf]; omega
    · go_wp2
      go_ret
      exact ⟨rfl, hbw⟩
end Go.Proofs.Ytkbhlgmgjpbloaa

