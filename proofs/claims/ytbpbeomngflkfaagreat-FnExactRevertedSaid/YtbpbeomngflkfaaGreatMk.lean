/- Marks. -/
import Derived.Test.YtbpbeomngflkfaaGreatRo
import Derived.Test.YtbpbeomngflkfaaGreatEz
import Derived.StillTailTactics
namespace Go.Proofs.YtbpbeomngflkfaaGreat
open Go.RowKit
set_option maxHeartbeats 2000000 in
set_option maxRecDepth 100000 in
theorem markPartS_c (B : Nat) (v : Value) (l : List DPart) (fp : List Pos) (w : World) (m : Int) (h0 : 0 ≤ m) (h1 : m + cntL l ≤ 4611686018427387904) (h : Sl BIG w v l fp) (hf : Fresh B w fp) :
    Calls Tryz.prog 16 #[v, .int .i64 m] w (Marks w v m l fp) := by
  have hl := fun w1 ty => h.len Tryz.underlying37 w1 ty
  have hb := BIG_le h.leM
  go_enter Tryz.func16, Tryz.ntmps16
  go_wp2
  go_loopw [1, 5] (fun c i wr => ∃ k : Nat, k ≤ l.length ∧ i = .int .i64 k ∧ c = .int .i64 (m + cntL (l.take k)) ∧ Sl BIG wr v (marked m l k) fp ∧ Wr fp w wr) (fun _ i _ => l.length - (intOf i).toNat)
  case atStart => exact ⟨0, Nat.zero_le _, rfl, by simp [cntL], by rw [marked_zero]; exact h, Wr.refl _ _⟩
  case round =>
    obtain ⟨k, hk, rfl, rfl, hs, hw⟩ := hrel
    have hc0 := cntL_take_le l k
    by_cases hlt : k < l.length
    · obtain ⟨x, hx⟩ := get_some hlt
      have hcs := cntL_take_succ hx
      have hcl := cntL_take_le l (k + 1)
      have hgx : GoM.cnt x = 2 + cntL x.signs := rfl
      have hgm := marked_set (k := m) hx
      obtain ⟨b1, o1, cs1, f_signs, g1, g2, g3, g4, g5, gnd, g7⟩ := hs.lens hf.nodup Tryz.underlying37 szi_DPart k (marked_get hx)
      obtain ⟨v_signs, f_signs', rfl, s_signs, rfl⟩ := g3
      have hfr := hw.fresh h.live hf
      have hff : Fresh B wr f_signs := ⟨gnd, fun p hp => hfr.ge p (g5 p hp), fun p hp => hfr.free p (g5 p hp)⟩
      have q0_0 := g2.zero
      have n0 := (g4 0 (by decide)).2
      have y0 := (g4 0 (by decide)).1
      have z0_0 := hfr.free _ y0
      have q0_1 := g2 1 _ rfl
      have n1 := (g4 1 (by decide)).2
      have y1 := (g4 1 (by decide)).1
      have z0_1 := hfr.free _ y1
      have q0_2 := g2 2 _ rfl
      have n2 := (g4 2 (by decide)).2
      have y2 := (g4 2 (by decide)).1
      have z0_2 := hfr.free _ y2
      simp only [Nat.add_zero] at n0 y0 z0_0
      have mo : ∀ j < 3, (b1, o1 + j) ∈ own b1 o1 3 ++ f_signs := fun j hj => List.mem_append.2 (.inl (mem_own.2 ⟨rfl, by simp, by simp; omega⟩))
      have mo0 := mo 0 (by decide)
      simp only [Nat.add_zero] at mo0
      have W0 : Wr (own b1 o1 3 ++ f_signs) wr wr := Wr.refl _ _
      have hsl := hs.live
      have A0 := g2
      obtain ⟨c, hc⟩ : ∃ c : Nat, cntL (l.take k) = c := ⟨_, rfl⟩
      rw [hc] at hcs hc0 hgm
      rw [hgx] at hcs
      have HGM := Lib.hid hgm
      have HCS := Lib.hid hcs
      have hlim : c + (2 + cntL x.signs) ≤ cntL l := by omega
      have S0_signs := s_signs
      have F0_signs := hff
      rw [hc]
      clear hx hcs hgm hgx hc hcl
      have n0_signs : (b1, o1) ∉ f_signs := fun hm => n0 (by simp [hm])
      have n1_signs : (b1, o1 + 1) ∉ f_signs := fun hm => n1 (by simp [hm])
      have n2_signs : (b1, o1 + 2) ∉ f_signs := fun hm => n2 (by simp [hm])
      go_wp2_with fail
      refine (markIntS_c B _ x.signs f_signs _ _ (by omega) (by omega) ((S0_signs.put n0_signs _).put n1_signs _) ((F0_signs.put _ _).put _ _)).mono ?_
      rintro e w1 ⟨rfl, hs1, hw1⟩
      have A1 := ((A0.put0 (by simp) _).put 1 (by simp) _).wr hw1 (fun j hj => fun hm => (g4 j (show j < 3 from by simpa using hj)).2 (by simp [hm]))
      try dsimp only [List.set] at A1
      have W1 := ((W0.put mo0 _).put (mo 1 (by decide)) _).trans (hw1.sub (fun p hp => List.mem_append.2 (.inr hp)))
      have S1_signs := hs1
      have F1_signs := hw1.fresh ((S0_signs.put n0_signs _).put n1_signs _).live ((F0_signs.put _ _).put _ _)
      have q1_0 := A1.zero
      have z1_0 := (W1.fresh hsl hfr).free _ y0
      have q1_1 := A1 1 _ rfl
      have z1_1 := (W1.fresh hsl hfr).free _ y1
      have q1_2 := A1 2 _ rfl
      have z1_2 := (W1.fresh hsl hfr).free _ y2
      go_wp2
      go_roundw
      case rel =>
        refine ⟨k + 1, by omega, by go_num, by rw [HCS.out]; go_num, ?_, ?_⟩
        · rw [← HGM.out]
          refine g7 _ _ _ A1 ⟨_, _, rfl, (S1_signs.at_ (by omega)), rfl⟩ fun p hp hn ho => W1.cell p (hsl.lt p hp) fun hm => ?_
          rcases List.mem_append.1 hm with hm | hm
          · obtain ⟨e1, e2, e3⟩ := mem_own.1 hm
            exact ho (p.2 - o1) (by show _ < 3; omega) (by ext <;> simp <;> omega)
          · exact hn hm
        · exact hw.trans (W1.sub fun p hp => (List.mem_append.1 hp).elim (fun hm => by
            obtain ⟨e1, e2, e3⟩ := mem_own.1 hm
            have := (g4 (p.2 - o1) (by show _ < 3; omega)).1
            rw [show ((b1, o1 + (p.2 - o1)) : Pos) = p by ext <;> simp <;> omega] at this
            exact this) (g5 p))
      case measure => simp [intOf]; omega
    · obtain rfl : k = l.length := by omega
      rw [marked_all] at hs
      go_wp2
      go_ret
      exact ⟨ret_int (by simp), hs, hw⟩
end Go.Proofs.YtbpbeomngflkfaaGreat

namespace Go.Proofs.YtbpbeomngflkfaaGreat
open Go.RowKit
set_option maxHeartbeats 2000000 in
set_option maxRecDepth 100000 in
theorem heldPartS_c (v : Value) (l : List DPart) (w : World) (m : Int) (h0 : 0 ≤ m) (h1 : m + cntL l ≤ 4611686018427387904) (h : RdS w v l) (hm : mkL m l = l) :
    Calls Tryz.prog 27 #[v, .int .i64 m] w (Tells w (.int .i64 (m + cntL l))) := by
  have hl := fun w1 ty => h.len Tryz.underlying37 w1 ty
  have hb := h.le
  have HM := Lib.hid hm; clear hm
  go_enter Tryz.func27, Tryz.ntmps27
  go_wp2
  go_loopw [1, 5] (fun c i wr => ∃ k : Nat, k ≤ l.length ∧ i = .int .i64 k ∧ c = .int .i64 (m + cntL (l.take k)) ∧ Below w.heap.size w wr) (fun _ i _ => l.length - (intOf i).toNat)
  case atStart => exact ⟨0, Nat.zero_le _, rfl, by simp [cntL], Below.refl _ _⟩
  case round =>
    obtain ⟨k, hk, rfl, rfl, hbw⟩ := hrel
    have hsz := hbw.size
    have hc0 := cntL_take_le l k
    by_cases hlt : k < l.length
    · obtain ⟨x, hx⟩ := get_some hlt
      have hcs := cntL_take_succ hx
      have hcl := cntL_take_le l (k + 1)
      have hgx : GoM.cnt x = 2 + cntL x.signs := rfl
      obtain ⟨b1, o1, cs1, h2a, h2, h3⟩ := (h.below hbw).idx Tryz.underlying37 szi_DPart k hx
      obtain ⟨v_signs, rfl, r_signs⟩ := inv_DPart h3
      have hg : GoM.mrk (m + cntL (l.take k)) x = x := held_get HM.out hx
      obtain ⟨c, hc⟩ : ∃ c : Nat, cntL (l.take k) = c := ⟨_, rfl⟩
      rw [hc] at hcs hc0 hg
      rw [hgx] at hcs
      have HCS := Lib.hid hcs
      have hlim : c + (2 + cntL x.signs) ≤ cntL l := by omega
      rw [hc]
      clear hx hcs hgx hc hcl
      have e0 : x.kind = m + c := by have := congrArg (fun x : DPart => x.kind) hg; simp only [GoM.mrk] at this; omega
      have e1 : x.n = m + c + 1 := by have := congrArg (fun x : DPart => x.n) hg; simp only [GoM.mrk] at this; omega
      have E2 : Hid (mkL (m + c + 2) x.signs = x.signs) := by have := congrArg (fun x : DPart => x.signs) hg; simp only [GoM.mrk] at this; exact Lib.hid ((congrArg (fun z => mkL z x.signs) (by omega)).trans this)
      have q0 := h2.zero
      have q1 := h2 1 _ rfl
      have q2 := h2 2 _ rfl
      rw [e0] at q0
      rw [e1] at q1
      have l1 : b1 < wr.heap.size := World.block_lt_of_cell? (w := wr) (a := ⟨b1, o1, none⟩) q0
      clear hg e0 e1
      go_wp2_with fail
      refine (heldIntS_c _ x.signs _ _ (by omega) (by omega) (r_signs.below blw) (by refine (congrArg (fun z => mkL z x.signs) ?_).trans E2.out; omega)).mono ?_
      rintro e w1 ⟨rfl, hb1⟩
      have s1 : wr.heap.size ≤ w1.heap.size := (by have := hb1.size; (try simp at this); omega)
      have q0 : w1.cell? ⟨b1, o1, none⟩ = _ := (hb1.cell (p := ⟨b1, o1, none⟩) l1).trans q0
      obtain ⟨q1, q2⟩ := mv2 hb1 l1 q1 q2
      have l1 : b1 < w1.heap.size := by omega
      go_wp2
      go_roundw
      case rel => exact ⟨k + 1, by omega, by go_num, by rw [HCS.out]; go_num, blw⟩
      case measure => simp [intOf]; omega
    · obtain rfl : k = l.length := by omega
      go_wp2
      go_ret
      exact ⟨ret_int (by simp), hbw⟩
set_option maxHeartbeats 2000000 in
set_option maxRecDepth 100000 in
theorem markEntryS_c (B : Nat) (v : Value) (l : List DEntry) (fp : List Pos) (w : World) (m : Int) (h0 : 0 ≤ m) (h1 : m + cntL l ≤ 4611686018427387904) (h : Sl BIG w v l fp) (hf : Fresh B w fp) :
    Calls Tryz.prog 60 #[v, .int .i64 m] w (Marks w v m l fp) := by
  have hl := fun w1 ty => h.len Tryz.underlying30 w1 ty
  have hb := BIG_le h.leM
  go_enter Tryz.func60, Tryz.ntmps60
  go_wp2
  go_loopw [1, 5] (fun c i wr => ∃ k : Nat, k ≤ l.length ∧ i = .int .i64 k ∧ c = .int .i64 (m + cntL (l.take k)) ∧ Sl BIG wr v (marked m l k) fp ∧ Wr fp w wr) (fun _ i _ => l.length - (intOf i).toNat)
  case atStart => exact ⟨0, Nat.zero_le _, rfl, by simp [cntL], by rw [marked_zero]; exact h, Wr.refl _ _⟩
  case round =>
    obtain ⟨k, hk, rfl, rfl, hs, hw⟩ := hrel
    have hc0 := cntL_take_le l k
    by_cases hlt : k < l.length
    · obtain ⟨x, hx⟩ := get_some hlt
      have hcs := cntL_take_succ hx
      have hcl := cntL_take_le l (k + 1)
      have hgx : GoM.cnt x = 2 + cntL x.o := rfl
      have hgm := marked_set (k := m) hx
      obtain ⟨b1, o1, cs1, f_o, g1, g2, g3, g4, g5, gnd, g7⟩ := hs.lens hf.nodup Tryz.underlying30 szi_DEntry k (marked_get hx)
      obtain ⟨v_o, f_o', rfl, s_o, rfl⟩ := g3
      have hfr := hw.fresh h.live hf
      have hff : Fresh B wr f_o := ⟨gnd, fun p hp => hfr.ge p (g5 p hp), fun p hp => hfr.free p (g5 p hp)⟩
      have q0_0 := g2.zero
      have n0 := (g4 0 (by decide)).2
      have y0 := (g4 0 (by decide)).1
      have z0_0 := hfr.free _ y0
      have q0_1 := g2 1 _ rfl
      have n1 := (g4 1 (by decide)).2
      have y1 := (g4 1 (by decide)).1
      have z0_1 := hfr.free _ y1
      have q0_2 := g2 2 _ rfl
      have n2 := (g4 2 (by decide)).2
      have y2 := (g4 2 (by decide)).1
      have z0_2 := hfr.free _ y2
      simp only [Nat.add_zero] at n0 y0 z0_0
      have mo : ∀ j < 3, (b1, o1 + j) ∈ own b1 o1 3 ++ f_o := fun j hj => List.mem_append.2 (.inl (mem_own.2 ⟨rfl, by simp, by simp; omega⟩))
      have mo0 := mo 0 (by decide)
      simp only [Nat.add_zero] at mo0
      have W0 : Wr (own b1 o1 3 ++ f_o) wr wr := Wr.refl _ _
      have hsl := hs.live
      have A0 := g2
      obtain ⟨c, hc⟩ : ∃ c : Nat, cntL (l.take k) = c := ⟨_, rfl⟩
      rw [hc] at hcs hc0 hgm
      rw [hgx] at hcs
      have HGM := Lib.hid hgm
      have HCS := Lib.hid hcs
      have hlim : c + (2 + cntL x.o) ≤ cntL l := by omega
      have S0_o := s_o
      have F0_o := hff
      rw [hc]
      clear hx hcs hgm hgx hc hcl
      have n0_o : (b1, o1) ∉ f_o := fun hm => n0 (by simp [hm])
      have n1_o : (b1, o1 + 1) ∉ f_o := fun hm => n1 (by simp [hm])
      have n2_o : (b1, o1 + 2) ∉ f_o := fun hm => n2 (by simp [hm])
      go_wp2_with fail
      refine (markPartS_c B _ x.o f_o _ _ (by omega) (by omega) ((S0_o.put n0_o _).put n1_o _) ((F0_o.put _ _).put _ _)).mono ?_
      rintro e w1 ⟨rfl, hs1, hw1⟩
      have A1 := ((A0.put0 (by simp) _).put 1 (by simp) _).wr hw1 (fun j hj => fun hm => (g4 j (show j < 3 from by simpa using hj)).2 (by simp [hm]))
      try dsimp only [List.set] at A1
      have W1 := ((W0.put mo0 _).put (mo 1 (by decide)) _).trans (hw1.sub (fun p hp => List.mem_append.2 (.inr hp)))
      have S1_o := hs1
      have F1_o := hw1.fresh ((S0_o.put n0_o _).put n1_o _).live ((F0_o.put _ _).put _ _)
      have q1_0 := A1.zero
      have z1_0 := (W1.fresh hsl hfr).free _ y0
      have q1_1 := A1 1 _ rfl
      have z1_1 := (W1.fresh hsl hfr).free _ y1
      have q1_2 := A1 2 _ rfl
      have z1_2 := (W1.fresh hsl hfr).free _ y2
      go_wp2
      go_roundw
      case rel =>
        refine ⟨k + 1, by omega, by go_num, by rw [HCS.out]; go_num, ?_, ?_⟩
        · rw [← HGM.out]
          refine g7 _ _ _ A1 ⟨_, _, rfl, (S1_o.at_ (by omega)), rfl⟩ fun p hp hn ho => W1.cell p (hsl.lt p hp) fun hm => ?_
          rcases List.mem_append.1 hm with hm | hm
          · obtain ⟨e1, e2, e3⟩ := mem_own.1 hm
            exact ho (p.2 - o1) (by show _ < 3; omega) (by ext <;> simp <;> omega)
          · exact hn hm
        · exact hw.trans (W1.sub fun p hp => (List.mem_append.1 hp).elim (fun hm => by
            obtain ⟨e1, e2, e3⟩ := mem_own.1 hm
            have := (g4 (p.2 - o1) (by show _ < 3; omega)).1
            rw [show ((b1, o1 + (p.2 - o1)) : Pos) = p by ext <;> simp <;> omega] at this
            exact this) (g5 p))
      case measure => simp [intOf]; omega
    · obtain rfl : k = l.length := by omega
      rw [marked_all] at hs
      go_wp2
      go_ret
      exact ⟨ret_int (by simp), hs, hw⟩
set_option maxHeartbeats 2000000 in
set_option maxRecDepth 100000 in
theorem heldEntryS_c (v : Value) (l : List DEntry) (w : World) (m : Int) (h0 : 0 ≤ m) (h1 : m + cntL l ≤ 4611686018427387904) (h : RdS w v l) (hm : mkL m l = l) :
    Calls Tryz.prog 63 #[v, .int .i64 m] w (Tells w (.int .i64 (m + cntL l))) := by
  have hl := fun w1 ty => h.len Tryz.underlying30 w1 ty
  have hb := h.le
  have HM := Lib.hid hm; clear hm
  go_enter Tryz.func63, Tryz.ntmps63
  go_wp2
  go_loopw [1, 5] (fun c i wr => ∃ k : Nat, k ≤ l.length ∧ i = .int .i64 k ∧ c = .int .i64 (m + cntL (l.take k)) ∧ Below w.heap.size w wr) (fun _ i _ => l.length - (intOf i).toNat)
  case atStart => exact ⟨0, Nat.zero_le _, rfl, by simp [cntL], Below.refl _ _⟩
  case round =>
    obtain ⟨k, hk, rfl, rfl, hbw⟩ := hrel
    have hsz := hbw.size
    have hc0 := cntL_take_le l k
    by_cases hlt : k < l.length
    · obtain ⟨x, hx⟩ := get_some hlt
      have hcs := cntL_take_succ hx
      have hcl := cntL_take_le l (k + 1)
      have hgx : GoM.cnt x = 2 + cntL x.o := rfl
      obtain ⟨b1, o1, cs1, h2a, h2, h3⟩ := (h.below hbw).idx Tryz.underlying30 szi_DEntry k hx
      obtain ⟨v_o, rfl, r_o⟩ := inv_DEntry h3
      have hg : GoM.mrk (m + cntL (l.take k)) x = x := held_get HM.out hx
      obtain ⟨c, hc⟩ : ∃ c : Nat, cntL (l.take k) = c := ⟨_, rfl⟩
      rw [hc] at hcs hc0 hg
      rw [hgx] at hcs
      have HCS := Lib.hid hcs
      have hlim : c + (2 + cntL x.o) ≤ cntL l := by omega
      rw [hc]
      clear hx hcs hgx hc hcl
      have e0 : x.client = m + c := by have := congrArg (fun x : DEntry => x.client) hg; simp only [GoM.mrk] at this; omega
      have e1 : x.seq = m + c + 1 := by have := congrArg (fun x : DEntry => x.seq) hg; simp only [GoM.mrk] at this; omega
      have E2 : Hid (mkL (m + c + 2) x.o = x.o) := by have := congrArg (fun x : DEntry => x.o) hg; simp only [GoM.mrk] at this; exact Lib.hid ((congrArg (fun z => mkL z x.o) (by omega)).trans this)
      have q0 := h2.zero
      have q1 := h2 1 _ rfl
      have q2 := h2 2 _ rfl
      rw [e0] at q0
      rw [e1] at q1
      have l1 : b1 < wr.heap.size := World.block_lt_of_cell? (w := wr) (a := ⟨b1, o1, none⟩) q0
      clear hg e0 e1
      go_wp2_with fail
      refine (heldPartS_c _ x.o _ _ (by omega) (by omega) (r_o.below blw) (by refine (congrArg (fun z => mkL z x.o) ?_).trans E2.out; omega)).mono ?_
      rintro e w1 ⟨rfl, hb1⟩
      have s1 : wr.heap.size ≤ w1.heap.size := (by have := hb1.size; (try simp at this); omega)
      have q0 : w1.cell? ⟨b1, o1, none⟩ = _ := (hb1.cell (p := ⟨b1, o1, none⟩) l1).trans q0
      obtain ⟨q1, q2⟩ := mv2 hb1 l1 q1 q2
      have l1 : b1 < w1.heap.size := by omega
      go_wp2
      go_roundw
      case rel => exact ⟨k + 1, by omega, by go_num, by rw [HCS.out]; go_num, blw⟩
      case measure => simp [intOf]; omega
    · obtain rfl : k = l.length := by omega
      go_wp2
      go_ret
      exact ⟨ret_int (by simp), hbw⟩
end Go.Proofs.YtbpbeomngflkfaaGreat

namespace Go.Proofs.YtbpbeomngflkfaaGreat
open Go.RowKit
set_option maxHeartbeats 2000000 in
set_option maxRecDepth 100000 in
theorem markSeenS_c (B : Nat) (v : Value) (l : List DSeen) (fp : List Pos) (w : World) (m : Int) (h0 : 0 ≤ m) (h1 : m + cntL l ≤ 4611686018427387904) (h : Sl BIG w v l fp) (hf : Fresh B w fp) :
    Calls Tryz.prog 61 #[v, .int .i64 m] w (Marks w v m l fp) := by
  have hl := fun w1 ty => h.len Tryz.underlying31 w1 ty
  have hb := BIG_le h.leM
  go_enter Tryz.func61, Tryz.ntmps61
  go_wp2
  go_loopw [1, 5] (fun c i wr => ∃ k : Nat, k ≤ l.length ∧ i = .int .i64 k ∧ c = .int .i64 (m + cntL (l.take k)) ∧ Sl BIG wr v (marked m l k) fp ∧ Wr fp w wr) (fun _ i _ => l.length - (intOf i).toNat)
  case atStart => exact ⟨0, Nat.zero_le _, rfl, by simp [cntL], by rw [marked_zero]; exact h, Wr.refl _ _⟩
  case round =>
    obtain ⟨k, hk, rfl, rfl, hs, hw⟩ := hrel
    have hc0 := cntL_take_le l k
    by_cases hlt : k < l.length
    · obtain ⟨x, hx⟩ := get_some hlt
      have hcs := cntL_take_succ hx
      have hcl := cntL_take_le l (k + 1)
      have hgx : GoM.cnt x = 3 := rfl
      have hgm := marked_set (k := m) hx
      obtain ⟨b1, o1, cs1, f, g1, g2, g3, g4, g5, gnd, g7⟩ := hs.lens hf.nodup Tryz.underlying31 szi_DSeen k (marked_get hx)
      obtain ⟨rfl, rfl⟩ := g3
      have hfr := hw.fresh h.live hf
      have hff : Fresh B wr [] := ⟨gnd, fun p hp => hfr.ge p (g5 p hp), fun p hp => hfr.free p (g5 p hp)⟩
      have q0_0 := g2.zero
      have n0 := (g4 0 (by decide)).2
      have y0 := (g4 0 (by decide)).1
      have z0_0 := hfr.free _ y0
      have q0_1 := g2 1 _ rfl
      have n1 := (g4 1 (by decide)).2
      have y1 := (g4 1 (by decide)).1
      have z0_1 := hfr.free _ y1
      have q0_2 := g2 2 _ rfl
      have n2 := (g4 2 (by decide)).2
      have y2 := (g4 2 (by decide)).1
      have z0_2 := hfr.free _ y2
      simp only [Nat.add_zero] at n0 y0 z0_0
      have mo : ∀ j < 3, (b1, o1 + j) ∈ own b1 o1 3 ++ [] := fun j hj => List.mem_append.2 (.inl (mem_own.2 ⟨rfl, by simp, by simp; omega⟩))
      have mo0 := mo 0 (by decide)
      simp only [Nat.add_zero] at mo0
      have W0 : Wr (own b1 o1 3 ++ []) wr wr := Wr.refl _ _
      have hsl := hs.live
      have A0 := g2
      obtain ⟨c, hc⟩ : ∃ c : Nat, cntL (l.take k) = c := ⟨_, rfl⟩
      rw [hc] at hcs hc0 hgm
      rw [hgx] at hcs
      have HGM := Lib.hid hgm
      have HCS := Lib.hid hcs
      have hlim : c + (3) ≤ cntL l := by omega
      rw [hc]
      clear hx hcs hgm hgx hc hcl
      go_wp2
      go_roundw
      case rel =>
        refine ⟨k + 1, by omega, by go_num, by rw [HCS.out]; go_num, ?_, ?_⟩
        · rw [← HGM.out]
          refine g7 _ _ _ (((A0.put0 (by simp) _).put 1 (by simp) _).put 2 (by simp) _) ⟨by (simp [GoM.mrk]; try omega), rfl⟩ fun p hp hn ho => (((W0.put mo0 _).put (mo 1 (by decide)) _).put (mo 2 (by decide)) _).cell p (hsl.lt p hp) fun hm => ?_
          rcases List.mem_append.1 hm with hm | hm
          · obtain ⟨e1, e2, e3⟩ := mem_own.1 hm
            exact ho (p.2 - o1) (by show _ < 3; omega) (by ext <;> simp <;> omega)
          · exact hn hm
        · exact hw.trans ((((W0.put mo0 _).put (mo 1 (by decide)) _).put (mo 2 (by decide)) _).sub fun p hp => (List.mem_append.1 hp).elim (fun hm => by
            obtain ⟨e1, e2, e3⟩ := mem_own.1 hm
            have := (g4 (p.2 - o1) (by show _ < 3; omega)).1
            rw [show ((b1, o1 + (p.2 - o1)) : Pos) = p by ext <;> simp <;> omega] at this
            exact this) (g5 p))
      case measure => simp [intOf]; omega
    · obtain rfl : k = l.length := by omega
      rw [marked_all] at hs
      go_wp2
      go_ret
      exact ⟨ret_int (by simp), hs, hw⟩
set_option maxHeartbeats 2000000 in
set_option maxRecDepth 100000 in
theorem heldSeenS_c (v : Value) (l : List DSeen) (w : World) (m : Int) (h0 : 0 ≤ m) (h1 : m + cntL l ≤ 4611686018427387904) (h : RdS w v l) (hm : mkL m l = l) :
    Calls Tryz.prog 64 #[v, .int .i64 m] w (Tells w (.int .i64 (m + cntL l))) := by
  have hl := fun w1 ty => h.len Tryz.underlying31 w1 ty
  have hb := h.le
  have HM := Lib.hid hm; clear hm
  go_enter Tryz.func64, Tryz.ntmps64
  go_wp2
  go_loopw [1, 5] (fun c i wr => ∃ k : Nat, k ≤ l.length ∧ i = .int .i64 k ∧ c = .int .i64 (m + cntL (l.take k)) ∧ Below w.heap.size w wr) (fun _ i _ => l.length - (intOf i).toNat)
  case atStart => exact ⟨0, Nat.zero_le _, rfl, by simp [cntL], Below.refl _ _⟩
  case round =>
    obtain ⟨k, hk, rfl, rfl, hbw⟩ := hrel
    have hsz := hbw.size
    have hc0 := cntL_take_le l k
    by_cases hlt : k < l.length
    · obtain ⟨x, hx⟩ := get_some hlt
      have hcs := cntL_take_succ hx
      have hcl := cntL_take_le l (k + 1)
      have hgx : GoM.cnt x = 3 := rfl
      obtain ⟨b1, o1, cs1, h2a, h2, h3⟩ := (h.below hbw).idx Tryz.underlying31 szi_DSeen k hx
      obtain rfl := inv_DSeen h3
      have hg : GoM.mrk (m + cntL (l.take k)) x = x := held_get HM.out hx
      obtain ⟨c, hc⟩ : ∃ c : Nat, cntL (l.take k) = c := ⟨_, rfl⟩
      rw [hc] at hcs hc0 hg
      rw [hgx] at hcs
      have HCS := Lib.hid hcs
      have hlim : c + (3) ≤ cntL l := by omega
      rw [hc]
      clear hx hcs hgx hc hcl
      have e0 : x.client = m + c := by have := congrArg (fun x : DSeen => x.client) hg; simp only [GoM.mrk] at this; omega
      have e1 : x.seq = m + c + 1 := by have := congrArg (fun x : DSeen => x.seq) hg; simp only [GoM.mrk] at this; omega
      have e2 : x.rev = m + c + 2 := by have := congrArg (fun x : DSeen => x.rev) hg; simp only [GoM.mrk] at this; omega
      have q0 := h2.zero
      have q1 := h2 1 _ rfl
      have q2 := h2 2 _ rfl
      rw [e0] at q0
      rw [e1] at q1
      rw [e2] at q2
      have l1 : b1 < wr.heap.size := World.block_lt_of_cell? (w := wr) (a := ⟨b1, o1, none⟩) q0
      clear hg e0 e1 e2
      go_wp2
      go_roundw
      case rel => exact ⟨k + 1, by omega, by go_num, by rw [HCS.out]; go_num, blw⟩
      case measure => simp [intOf]; omega
    · obtain rfl : k = l.length := by omega
      go_wp2
      go_ret
      exact ⟨ret_int (by simp), hbw⟩
set_option maxHeartbeats 1000000 in
theorem markDoc_c (B : Nat) (name : ByteArray) (from_ : Int) (v_text : Value) (v_list : Value) (v_seen : Value) (l_text : List Int) (l_list : List DEntry) (l_seen : List DSeen) (f_text : List Pos) (f_list : List Pos) (f_seen : List Pos) (w : World) (m : Int) (h0 : 0 ≤ m) (h1 : m + ((cntL l_text + cntL l_list + cntL l_seen : Nat) : Int) ≤ 4611686018427387904) (s_text : Sl BIG w v_text l_text f_text) (s_list : Sl BIG w v_list l_list f_list) (s_seen : Sl BIG w v_seen l_seen f_seen) (hf : Fresh B w (f_text ++ (f_list ++ f_seen))) :
    Calls Tryz.prog 15 #[.agg #[.string name, .int .i64 from_, v_text, v_list, v_seen], .int .i64 m] w (fun e w' => e = .returned (.int .i64 (m + ((cntL l_text + cntL l_list + cntL l_seen : Nat) : Int))) ∧ Sl BIG w' v_text (mkL (m) l_text) f_text ∧ Sl BIG w' v_list (mkL (m + cntL l_text) l_list) f_list ∧ Sl BIG w' v_seen (mkL (m + cntL l_text + cntL l_list) l_seen) f_seen ∧ Wr (f_text ++ (f_list ++ f_seen)) w w') := by
  have lt_text := Live.lt s_text.live
  have lt_list := Live.lt s_list.live
  have lt_seen := Live.lt s_seen.live
  have hbx : Below w.heap.size w (w.alloc (.cells #[.string name, .int .i64 from_, v_text, v_list, v_seen] 33)) := (Below.refl _ _).alloc (Nat.le_refl _) _
  have F0_text : Fresh B _ f_text := (hf.left).belowL hbx lt_text
  have S0_text := s_text.belowW hbx
  have F0_list : Fresh B _ f_list := (hf.right.left).belowL hbx lt_list
  have S0_list := s_list.belowW hbx
  have F0_seen : Fresh B _ f_seen := (hf.right.right).belowL hbx lt_seen
  have S0_seen := s_seen.belowW hbx
  have X0 : Wr (f_text ++ (f_list ++ f_seen)) w _ := Wr.of_below hbx
  have c0_0 : (w.alloc (.cells #[.string name, .int .i64 from_, v_text, v_list, v_seen] 33)).cell? ⟨w.heap.size, 0, none⟩ = some (.string name) := by simp
  have c0_1 : (w.alloc (.cells #[.string name, .int .i64 from_, v_text, v_list, v_seen] 33)).cell? ⟨w.heap.size, 1, none⟩ = some (.int .i64 from_) := by simp
  have c0_2 : (w.alloc (.cells #[.string name, .int .i64 from_, v_text, v_list, v_seen] 33)).cell? ⟨w.heap.size, 2, none⟩ = some (v_text) := by simp
  have c0_3 : (w.alloc (.cells #[.string name, .int .i64 from_, v_text, v_list, v_seen] 33)).cell? ⟨w.heap.size, 3, none⟩ = some (v_list) := by simp
  have c0_4 : (w.alloc (.cells #[.string name, .int .i64 from_, v_text, v_list, v_seen] 33)).cell? ⟨w.heap.size, 4, none⟩ = some (v_seen) := by simp
  have z0 : w.heap.size < (w.alloc (.cells #[.string name, .int .i64 from_, v_text, v_list, v_seen] 33)).heap.size := by simp
  have hnd := hf.nodup
  have HND := Lib.hid hnd
  clear hnd
  go_enter Tryz.func15, Tryz.ntmps15
  go_wp2_with fail
  refine (markIntS_c B _ l_text f_text _ _ (by omega) (by omega) S0_text F0_text).mono ?_
  rintro e w1 ⟨rfl, T1_text, hw1⟩
  have S1_text := T1_text
  have F1_text := hw1.fresh S0_text.live F0_text
  have S1_list := S0_list.wr hw1 (fun p hp hq => by have hh := HND.out; simp only [List.nodup_append] at hh; (try simp only [List.mem_append] at hh); grind)
  have F1_list := hw1.fresh S0_list.live F0_list
  have S1_seen := S0_seen.wr hw1 (fun p hp hq => by have hh := HND.out; simp only [List.nodup_append] at hh; (try simp only [List.mem_append] at hh); grind)
  have F1_seen := hw1.fresh S0_seen.live F0_seen
  have X1 := X0.trans (hw1.sub (fun p hp => by simp [hp]))
  have z1 : w.heap.size < w1.heap.size := Nat.lt_of_lt_of_le z0 hw1.size
  have c1_0 : w1.cell? ⟨w.heap.size, 0, none⟩ = some (.string name) := (hw1.cell (w.heap.size, 0) z0 (fun hm => by have := lt_text _ hm; simp at this)).trans c0_0
  have c1_1 : w1.cell? ⟨w.heap.size, 1, none⟩ = some (.int .i64 from_) := (hw1.cell (w.heap.size, 1) z0 (fun hm => by have := lt_text _ hm; simp at this)).trans c0_1
  have c1_2 : w1.cell? ⟨w.heap.size, 2, none⟩ = some (v_text) := (hw1.cell (w.heap.size, 2) z0 (fun hm => by have := lt_text _ hm; simp at this)).trans c0_2
  have c1_3 : w1.cell? ⟨w.heap.size, 3, none⟩ = some (v_list) := (hw1.cell (w.heap.size, 3) z0 (fun hm => by have := lt_text _ hm; simp at this)).trans c0_3
  have c1_4 : w1.cell? ⟨w.heap.size, 4, none⟩ = some (v_seen) := (hw1.cell (w.heap.size, 4) z0 (fun hm => by have := lt_text _ hm; simp at this)).trans c0_4
  clear hw1
  go_wp2_with fail
  refine (markEntryS_c B _ l_list f_list _ _ (by omega) (by omega) S1_list F1_list).mono ?_
  rintro e w2 ⟨rfl, T2_list, hw2⟩
  have S2_text := S1_text.wr hw2 (fun p hp hq => by have hh := HND.out; simp only [List.nodup_append] at hh; (try simp only [List.mem_append] at hh); grind)
  have F2_text := hw2.fresh S1_text.live F1_text
  have S2_list := T2_list
  have F2_list := hw2.fresh S1_list.live F1_list
  have S2_seen := S1_seen.wr hw2 (fun p hp hq => by have hh := HND.out; simp only [List.nodup_append] at hh; (try simp only [List.mem_append] at hh); grind)
  have F2_seen := hw2.fresh S1_seen.live F1_seen
  have X2 := X1.trans (hw2.sub (fun p hp => by simp [hp]))
  have z2 : w.heap.size < w2.heap.size := Nat.lt_of_lt_of_le z1 hw2.size
  have c2_0 : w2.cell? ⟨w.heap.size, 0, none⟩ = some (.string name) := (hw2.cell (w.heap.size, 0) z1 (fun hm => by have := lt_list _ hm; simp at this)).trans c1_0
  have c2_1 : w2.cell? ⟨w.heap.size, 1, none⟩ = some (.int .i64 from_) := (hw2.cell (w.heap.size, 1) z1 (fun hm => by have := lt_list _ hm; simp at this)).trans c1_1
  have c2_2 : w2.cell? ⟨w.heap.size, 2, none⟩ = some (v_text) := (hw2.cell (w.heap.size, 2) z1 (fun hm => by have := lt_list _ hm; simp at this)).trans c1_2
  have c2_3 : w2.cell? ⟨w.heap.size, 3, none⟩ = some (v_list) := (hw2.cell (w.heap.size, 3) z1 (fun hm => by have := lt_list _ hm; simp at this)).trans c1_3
  have c2_4 : w2.cell? ⟨w.heap.size, 4, none⟩ = some (v_seen) := (hw2.cell (w.heap.size, 4) z1 (fun hm => by have := lt_list _ hm; simp at this)).trans c1_4
  clear hw2
  go_wp2_with fail
  refine (markSeenS_c B _ l_seen f_seen _ _ (by omega) (by omega) S2_seen F2_seen).mono ?_
  rintro e w3 ⟨rfl, T3_seen, hw3⟩
  have S3_text := S2_text.wr hw3 (fun p hp hq => by have hh := HND.out; simp only [List.nodup_append] at hh; (try simp only [List.mem_append] at hh); grind)
  have F3_text := hw3.fresh S2_text.live F2_text
  have S3_list := S2_list.wr hw3 (fun p hp hq => by have hh := HND.out; simp only [List.nodup_append] at hh; (try simp only [List.mem_append] at hh); grind)
  have F3_list := hw3.fresh S2_list.live F2_list
  have S3_seen := T3_seen
  have F3_seen := hw3.fresh S2_seen.live F2_seen
  have X3 := X2.trans (hw3.sub (fun p hp => by simp [hp]))
  have z3 : w.heap.size < w3.heap.size := Nat.lt_of_lt_of_le z2 hw3.size
  have c3_0 : w3.cell? ⟨w.heap.size, 0, none⟩ = some (.string name) := (hw3.cell (w.heap.size, 0) z2 (fun hm => by have := lt_seen _ hm; simp at this)).trans c2_0
  have c3_1 : w3.cell? ⟨w.heap.size, 1, none⟩ = some (.int .i64 from_) := (hw3.cell (w.heap.size, 1) z2 (fun hm => by have := lt_seen _ hm; simp at this)).trans c2_1
  have c3_2 : w3.cell? ⟨w.heap.size, 2, none⟩ = some (v_text) := (hw3.cell (w.heap.size, 2) z2 (fun hm => by have := lt_seen _ hm; simp at this)).trans c2_2
  have c3_3 : w3.cell? ⟨w.heap.size, 3, none⟩ = some (v_list) := (hw3.cell (w.heap.size, 3) z2 (fun hm => by have := lt_seen _ hm; simp at this)).trans c2_3
  have c3_4 : w3.cell? ⟨w.heap.size, 4, none⟩ = some (v_seen) := (hw3.cell (w.heap.size, 4) z2 (fun hm => by have := lt_seen _ hm; simp at this)).trans c2_4
  clear hw3
  go_wp2
  go_ret
  exact ⟨ret_int (by omega), S3_text, S3_list, S3_seen, X3⟩
set_option maxHeartbeats 1000000 in
theorem heldDoc_c (name : ByteArray) (from_ : Int) (v_text : Value) (v_list : Value) (v_seen : Value) (l_text : List Int) (l_list : List DEntry) (l_seen : List DSeen) (w : World) (m : Int) (h0 : 0 ≤ m) (h1 : m + ((cntL l_text + cntL l_list + cntL l_seen : Nat) : Int) ≤ 4611686018427387904) (h_text : RdS w v_text l_text) (h_list : RdS w v_list l_list) (h_seen : RdS w v_seen l_seen) (hm_text : mkL (m) l_text = l_text) (hm_list : mkL (m + cntL l_text) l_list = l_list) (hm_seen : mkL (m + cntL l_text + cntL l_list) l_seen = l_seen) :
    Calls Tryz.prog 17 #[.agg #[.string name, .int .i64 from_, v_text, v_list, v_seen], .int .i64 m] w (Tells w (.int .i64 (m + ((cntL l_text + cntL l_list + cntL l_seen : Nat) : Int)))) := by
  have HM_text := Lib.hid hm_text
  have HM_list := Lib.hid hm_list
  have HM_seen := Lib.hid hm_seen
  clear hm_text hm_list hm_seen
  go_enter Tryz.func17, Tryz.ntmps17
  go_wp2_with fail
  refine (heldIntS_c _ l_text _ _ (by omega) (by omega) (h_text.below blw) HM_text.out).mono ?_
  rintro e w1 ⟨rfl, hb1⟩
  have s1 := hb1.size
  (try simp at s1)
  obtain ⟨hc1, hf1⟩ := bcell hb1
  have z1 : w.heap.size < w1.heap.size := by omega
  go_wp2_with fail
  refine (heldEntryS_c _ l_list _ _ (by omega) (by omega) (h_list.below blw) HM_list.out).mono ?_
  rintro e w2 ⟨rfl, hb2⟩
  have s2 := hb2.size
  (try simp at s2)
  obtain ⟨hc2, hf2⟩ := bcell hb2
  have z2 : w.heap.size < w2.heap.size := by omega
  go_wp2_with fail
  refine (heldSeenS_c _ l_seen _ _ (by omega) (by omega) (h_seen.below blw) HM_seen.out).mono ?_
  rintro e w3 ⟨rfl, hb3⟩
  have s3 := hb3.size
  (try simp at s3)
  obtain ⟨hc3, hf3⟩ := bcell hb3
  have z3 : w.heap.size < w3.heap.size := by omega
  go_wp2
  go_ret
  exact ⟨ret_int (by omega), blw⟩
end Go.Proofs.YtbpbeomngflkfaaGreat

namespace Go.Proofs.YtbpbeomngflkfaaGreat
open Go.RowKit
end Go.Proofs.YtbpbeomngflkfaaGreat

namespace Go.Proofs.YtbpbeomngflkfaaGreat
open Go.RowKit
set_option maxHeartbeats 2000000 in
set_option maxRecDepth 100000 in
theorem markDocS_c (B : Nat) (v : Value) (l : List DDoc) (fp : List Pos) (w : World) (m : Int) (h0 : 0 ≤ m) (h1 : m + cntL l ≤ 4611686018427387904) (h : Sl BIG w v l fp) (hf : Fresh B w fp) :
    Calls Tryz.prog 79 #[v, .int .i64 m] w (Marks w v m l fp) := by
  have hl := fun w1 ty => h.len Tryz.underlying49 w1 ty
  have hb := BIG_le h.leM
  go_enter Tryz.func79, Tryz.ntmps79
  go_wp2
  go_loopw [1, 5] (fun c i wr => ∃ k : Nat, k ≤ l.length ∧ i = .int .i64 k ∧ c = .int .i64 (m + cntL (l.take k)) ∧ Sl BIG wr v (marked m l k) fp ∧ Wr fp w wr) (fun _ i _ => l.length - (intOf i).toNat)
  case atStart => exact ⟨0, Nat.zero_le _, rfl, by simp [cntL], by rw [marked_zero]; exact h, Wr.refl _ _⟩
  case round =>
    obtain ⟨k, hk, rfl, rfl, hs, hw⟩ := hrel
    have hc0 := cntL_take_le l k
    by_cases hlt : k < l.length
    · obtain ⟨x, hx⟩ := get_some hlt
      have hcs := cntL_take_succ hx
      have hcl := cntL_take_le l (k + 1)
      have hgx : GoM.cnt x = 2 + cntL x.text + cntL x.list + cntL x.seen := rfl
      have hgm := marked_set (k := m) hx
      obtain ⟨b1, o1, cs1, f, g1, g2, g3, g4, g5, gnd, g7⟩ := hs.lens hf.nodup Tryz.underlying49 szi_DDoc k (marked_get hx)
      obtain ⟨v_text, v_list, v_seen, f_text, f_list, f_seen, rfl, n_name, s_text, s_list, s_seen, rfl⟩ := g3
      have hfr := hw.fresh h.live hf
      have hff : Fresh B wr (f_text ++ (f_list ++ f_seen)) := ⟨gnd, fun p hp => hfr.ge p (g5 p hp), fun p hp => hfr.free p (g5 p hp)⟩
      have q0_0 := g2.zero
      have n0 := (g4 0 (by decide)).2
      have y0 := (g4 0 (by decide)).1
      have z0_0 := hfr.free _ y0
      have q0_1 := g2 1 _ rfl
      have n1 := (g4 1 (by decide)).2
      have y1 := (g4 1 (by decide)).1
      have z0_1 := hfr.free _ y1
      have q0_2 := g2 2 _ rfl
      have n2 := (g4 2 (by decide)).2
      have y2 := (g4 2 (by decide)).1
      have z0_2 := hfr.free _ y2
      have q0_3 := g2 3 _ rfl
      have n3 := (g4 3 (by decide)).2
      have y3 := (g4 3 (by decide)).1
      have z0_3 := hfr.free _ y3
      have q0_4 := g2 4 _ rfl
      have n4 := (g4 4 (by decide)).2
      have y4 := (g4 4 (by decide)).1
      have z0_4 := hfr.free _ y4
      simp only [Nat.add_zero] at n0 y0 z0_0
      have mo : ∀ j < 5, (b1, o1 + j) ∈ own b1 o1 5 ++ (f_text ++ (f_list ++ f_seen)) := fun j hj => List.mem_append.2 (.inl (mem_own.2 ⟨rfl, by simp, by simp; omega⟩))
      have mo0 := mo 0 (by decide)
      simp only [Nat.add_zero] at mo0
      have W0 : Wr (own b1 o1 5 ++ (f_text ++ (f_list ++ f_seen))) wr wr := Wr.refl _ _
      have hsl := hs.live
      have A0 := g2
      obtain ⟨c, hc⟩ : ∃ c : Nat, cntL (l.take k) = c := ⟨_, rfl⟩
      rw [hc] at hcs hc0 hgm
      rw [hgx] at hcs
      have HGM := Lib.hid hgm
      have HCS := Lib.hid hcs
      have hlim : c + (2 + cntL x.text + cntL x.list + cntL x.seen) ≤ cntL l := by omega
      have S0_text := s_text
      have F0_text := hff.left
      have S0_list := s_list
      have F0_list := hff.right.left
      have S0_seen := s_seen
      have F0_seen := hff.right.right
      rw [hc]
      clear hx hcs hgm hgx hc hcl
      have n0_text : (b1, o1) ∉ f_text := fun hm => n0 (by simp [hm])
      have n1_text : (b1, o1 + 1) ∉ f_text := fun hm => n1 (by simp [hm])
      have n2_text : (b1, o1 + 2) ∉ f_text := fun hm => n2 (by simp [hm])
      have n3_text : (b1, o1 + 3) ∉ f_text := fun hm => n3 (by simp [hm])
      have n4_text : (b1, o1 + 4) ∉ f_text := fun hm => n4 (by simp [hm])
      have n0_list : (b1, o1) ∉ f_list := fun hm => n0 (by simp [hm])
      have n1_list : (b1, o1 + 1) ∉ f_list := fun hm => n1 (by simp [hm])
      have n2_list : (b1, o1 + 2) ∉ f_list := fun hm => n2 (by simp [hm])
      have n3_list : (b1, o1 + 3) ∉ f_list := fun hm => n3 (by simp [hm])
      have n4_list : (b1, o1 + 4) ∉ f_list := fun hm => n4 (by simp [hm])
      have n0_seen : (b1, o1) ∉ f_seen := fun hm => n0 (by simp [hm])
      have n1_seen : (b1, o1 + 1) ∉ f_seen := fun hm => n1 (by simp [hm])
      have n2_seen : (b1, o1 + 2) ∉ f_seen := fun hm => n2 (by simp [hm])
      have n3_seen : (b1, o1 + 3) ∉ f_seen := fun hm => n3 (by simp [hm])
      have n4_seen : (b1, o1 + 4) ∉ f_seen := fun hm => n4 (by simp [hm])
      go_wp2_with fail
      refine (markText_c _ _ (by omega) (by omega)).mono ?_
      rintro e w1 ⟨rfl, hb1⟩
      have hw1 : Wr [] _ w1 := Wr.of_below hb1
      have A1 := A0.wr hw1 (fun _ _ h => by cases h)
      try dsimp only [List.set] at A1
      have W1 := W0.trans (hw1.sub (fun _ h => by cases h))
      have S1_text := S0_text.wr hw1 (fun _ _ h => by cases h)
      have F1_text := hw1.fresh S0_text.live F0_text
      have S1_list := S0_list.wr hw1 (fun _ _ h => by cases h)
      have F1_list := hw1.fresh S0_list.live F0_list
      have S1_seen := S0_seen.wr hw1 (fun _ _ h => by cases h)
      have F1_seen := hw1.fresh S0_seen.live F0_seen
      have q1_0 := A1.zero
      have z1_0 := (W1.fresh hsl hfr).free _ y0
      have q1_1 := A1 1 _ rfl
      have z1_1 := (W1.fresh hsl hfr).free _ y1
      have q1_2 := A1 2 _ rfl
      have z1_2 := (W1.fresh hsl hfr).free _ y2
      have q1_3 := A1 3 _ rfl
      have z1_3 := (W1.fresh hsl hfr).free _ y3
      have q1_4 := A1 4 _ rfl
      have z1_4 := (W1.fresh hsl hfr).free _ y4
      go_wp2_with fail
      refine (markIntS_c B _ x.text f_text _ _ (by omega) (by omega) ((S1_text.put n0_text _).put n1_text _) ((F1_text.put _ _).put _ _)).mono ?_
      rintro e w2 ⟨rfl, hs2, hw2⟩
      have A2 := ((A1.put0 (by simp) _).put 1 (by simp) _).wr hw2 (fun j hj => fun hm => (g4 j (show j < 5 from by simpa using hj)).2 (by simp [hm]))
      try dsimp only [List.set] at A2
      have W2 := ((W1.put mo0 _).put (mo 1 (by decide)) _).trans (hw2.sub (fun p hp => List.mem_append.2 (.inr (by simp [hp]))))
      have S2_text := hs2
      have F2_text := hw2.fresh ((S1_text.put n0_text _).put n1_text _).live ((F1_text.put _ _).put _ _)
      have S2_list := ((S1_list.put n0_list _).put n1_list _).wr hw2 (fun p hp hq => by have hh := gnd; simp only [List.nodup_append, List.mem_append] at hh; grind)
      have F2_list := hw2.fresh ((S1_list.put n0_list _).put n1_list _).live ((F1_list.put _ _).put _ _)
      have S2_seen := ((S1_seen.put n0_seen _).put n1_seen _).wr hw2 (fun p hp hq => by have hh := gnd; simp only [List.nodup_append, List.mem_append] at hh; grind)
      have F2_seen := hw2.fresh ((S1_seen.put n0_seen _).put n1_seen _).live ((F1_seen.put _ _).put _ _)
      have q2_0 := A2.zero
      have z2_0 := (W2.fresh hsl hfr).free _ y0
      have q2_1 := A2 1 _ rfl
      have z2_1 := (W2.fresh hsl hfr).free _ y1
      have q2_2 := A2 2 _ rfl
      have z2_2 := (W2.fresh hsl hfr).free _ y2
      have q2_3 := A2 3 _ rfl
      have z2_3 := (W2.fresh hsl hfr).free _ y3
      have q2_4 := A2 4 _ rfl
      have z2_4 := (W2.fresh hsl hfr).free _ y4
      go_wp2_with fail
      refine (markEntryS_c B _ x.list f_list _ _ (by omega) (by omega) S2_list F2_list).mono ?_
      rintro e w3 ⟨rfl, hs3, hw3⟩
      have A3 := A2.wr hw3 (fun j hj => fun hm => (g4 j (show j < 5 from by simpa using hj)).2 (by simp [hm]))
      try dsimp only [List.set] at A3
      have W3 := W2.trans (hw3.sub (fun p hp => List.mem_append.2 (.inr (by simp [hp]))))
      have S3_text := S2_text.wr hw3 (fun p hp hq => by have hh := gnd; simp only [List.nodup_append, List.mem_append] at hh; grind)
      have F3_text := hw3.fresh S2_text.live F2_text
      have S3_list := hs3
      have F3_list := hw3.fresh S2_list.live F2_list
      have S3_seen := S2_seen.wr hw3 (fun p hp hq => by have hh := gnd; simp only [List.nodup_append, List.mem_append] at hh; grind)
      have F3_seen := hw3.fresh S2_seen.live F2_seen
      have q3_0 := A3.zero
      have z3_0 := (W3.fresh hsl hfr).free _ y0
      have q3_1 := A3 1 _ rfl
      have z3_1 := (W3.fresh hsl hfr).free _ y1
      have q3_2 := A3 2 _ rfl
      have z3_2 := (W3.fresh hsl hfr).free _ y2
      have q3_3 := A3 3 _ rfl
      have z3_3 := (W3.fresh hsl hfr).free _ y3
      have q3_4 := A3 4 _ rfl
      have z3_4 := (W3.fresh hsl hfr).free _ y4
      go_wp2_with fail
      refine (markSeenS_c B _ x.seen f_seen _ _ (by omega) (by omega) S3_seen F3_seen).mono ?_
      rintro e w4 ⟨rfl, hs4, hw4⟩
      have A4 := A3.wr hw4 (fun j hj => fun hm => (g4 j (show j < 5 from by simpa using hj)).2 (by simp [hm]))
      try dsimp only [List.set] at A4
      have W4 := W3.trans (hw4.sub (fun p hp => List.mem_append.2 (.inr (by simp [hp]))))
      have S4_text := S3_text.wr hw4 (fun p hp hq => by have hh := gnd; simp only [List.nodup_append, List.mem_append] at hh; grind)
      have F4_text := hw4.fresh S3_text.live F3_text
      have S4_list := S3_list.wr hw4 (fun p hp hq => by have hh := gnd; simp only [List.nodup_append, List.mem_append] at hh; grind)
      have F4_list := hw4.fresh S3_list.live F3_list
      have S4_seen := hs4
      have F4_seen := hw4.fresh S3_seen.live F3_seen
      have q4_0 := A4.zero
      have z4_0 := (W4.fresh hsl hfr).free _ y0
      have q4_1 := A4 1 _ rfl
      have z4_1 := (W4.fresh hsl hfr).free _ y1
      have q4_2 := A4 2 _ rfl
      have z4_2 := (W4.fresh hsl hfr).free _ y2
      have q4_3 := A4 3 _ rfl
      have z4_3 := (W4.fresh hsl hfr).free _ y3
      have q4_4 := A4 4 _ rfl
      have z4_4 := (W4.fresh hsl hfr).free _ y4
      go_wp2
      go_roundw
      case rel =>
        refine ⟨k + 1, by omega, by go_num, by rw [HCS.out]; go_num, ?_, ?_⟩
        · rw [← HGM.out]
          refine g7 _ _ _ A4 ⟨_, _, _, _, _, _, rfl, (mText_le _), (S4_text.at_ (by omega)), (S4_list.at_ (by omega)), (S4_seen.at_ (by omega)), rfl⟩ fun p hp hn ho => W4.cell p (hsl.lt p hp) fun hm => ?_
          rcases List.mem_append.1 hm with hm | hm
          · obtain ⟨e1, e2, e3⟩ := mem_own.1 hm
            exact ho (p.2 - o1) (by show _ < 5; omega) (by ext <;> simp <;> omega)
          · exact hn hm
        · exact hw.trans (W4.sub fun p hp => (List.mem_append.1 hp).elim (fun hm => by
            obtain ⟨e1, e2, e3⟩ := mem_own.1 hm
            have := (g4 (p.2 - o1) (by show _ < 5; omega)).1
            rw [show ((b1, o1 + (p.2 - o1)) : Pos) = p by ext <;> simp <;> omega] at this
            exact this) (g5 p))
      case measure => simp [intOf]; omega
    · obtain rfl : k = l.length := by omega
      rw [marked_all] at hs
      go_wp2
      go_ret
      exact ⟨ret_int (by simp), hs, hw⟩
set_option maxHeartbeats 2000000 in
set_option maxRecDepth 100000 in
theorem heldDocS_c (v : Value) (l : List DDoc) (w : World) (m : Int) (h0 : 0 ≤ m) (h1 : m + cntL l ≤ 4611686018427387904) (h : RdS w v l) (hm : mkL m l = l) :
    Calls Tryz.prog 81 #[v, .int .i64 m] w (Tells w (.int .i64 (m + cntL l))) := by
  have hl := fun w1 ty => h.len Tryz.underlying49 w1 ty
  have hb := h.le
  have HM := Lib.hid hm; clear hm
  go_enter Tryz.func81, Tryz.ntmps81
  go_wp2
  go_loopw [1, 5] (fun c i wr => ∃ k : Nat, k ≤ l.length ∧ i = .int .i64 k ∧ c = .int .i64 (m + cntL (l.take k)) ∧ Below w.heap.size w wr) (fun _ i _ => l.length - (intOf i).toNat)
  case atStart => exact ⟨0, Nat.zero_le _, rfl, by simp [cntL], Below.refl _ _⟩
  case round =>
    obtain ⟨k, hk, rfl, rfl, hbw⟩ := hrel
    have hsz := hbw.size
    have hc0 := cntL_take_le l k
    by_cases hlt : k < l.length
    · obtain ⟨x, hx⟩ := get_some hlt
      have hcs := cntL_take_succ hx
      have hcl := cntL_take_le l (k + 1)
      have hgx : GoM.cnt x = 2 + cntL x.text + cntL x.list + cntL x.seen := rfl
      obtain ⟨b1, o1, cs1, h2a, h2, h3⟩ := (h.below hbw).idx Tryz.underlying49 szi_DDoc k hx
      obtain ⟨v_text, v_list, v_seen, rfl, _, r_text, r_list, r_seen⟩ := inv_DDoc h3
      have hg : GoM.mrk (m + cntL (l.take k)) x = x := held_get HM.out hx
      obtain ⟨c, hc⟩ : ∃ c : Nat, cntL (l.take k) = c := ⟨_, rfl⟩
      rw [hc] at hcs hc0 hg
      rw [hgx] at hcs
      have HCS := Lib.hid hcs
      have hlim : c + (2 + cntL x.text + cntL x.list + cntL x.seen) ≤ cntL l := by omega
      rw [hc]
      clear hx hcs hgx hc hcl
      have e0 : x.name = mText (m + c) := by have := congrArg (fun x : DDoc => x.name) hg; simp only [GoM.mrk] at this; rw [← this]; try (congr 1; omega)
      have e1 : x.from_ = m + c + 1 := by have := congrArg (fun x : DDoc => x.from_) hg; simp only [GoM.mrk] at this; omega
      have E2 : Hid (mkL (m + c + 2) x.text = x.text) := by have := congrArg (fun x : DDoc => x.text) hg; simp only [GoM.mrk] at this; exact Lib.hid ((congrArg (fun z => mkL z x.text) (by omega)).trans this)
      have E3 : Hid (mkL (m + c + 2 + cntL x.text) x.list = x.list) := by have := congrArg (fun x : DDoc => x.list) hg; simp only [GoM.mrk] at this; exact Lib.hid ((congrArg (fun z => mkL z x.list) (by omega)).trans this)
      have E4 : Hid (mkL (m + c + 2 + cntL x.text + cntL x.list) x.seen = x.seen) := by have := congrArg (fun x : DDoc => x.seen) hg; simp only [GoM.mrk] at this; exact Lib.hid ((congrArg (fun z => mkL z x.seen) (by omega)).trans this)
      have q0 := h2.zero
      have q1 := h2 1 _ rfl
      have q2 := h2 2 _ rfl
      have q3 := h2 3 _ rfl
      have q4 := h2 4 _ rfl
      rw [e0] at q0
      rw [e1] at q1
      have l1 : b1 < wr.heap.size := World.block_lt_of_cell? (w := wr) (a := ⟨b1, o1, none⟩) q0
      clear hg e0 e1
      go_wp2_with fail
      obtain ⟨X, hX, F, hF, hFs⟩ := fam_of wr
      have cc : ∀ x, (F x).cell? ⟨b1, o1, none⟩ = some _ := fun x => ((hF x).cell (p := ⟨b1, o1, none⟩) l1).trans q0
      have HF := Lib.hid hF
      have HFs := Lib.hid hFs
      clear hF hFs
      have Hm := Lib.hid (fun (W' : World) => markText_c (m + c) W' (by omega) (by omega))
      refine wp_region_fam (F := F) (by kernel_rfl) (by kernel_rfl) (HFs.out _ blw) ?_
      repeat (go_big_quiet_step ((go_at_call 131; (with_reducible exact Calls.fam_tells HF.out HFs.out (Hm.out _)))))
      refine wpQuiet_nil ?_
      intro x'
      obtain ⟨w1, hwx⟩ : ∃ wx : World, F x' = wx := ⟨_, rfl⟩
      have hb1 : Below wr.heap.size wr w1 := by rw [← hwx]; exact HF.out x'
      rw [hwx]
      clear hwx cc HF HFs Hm
      have s1 : wr.heap.size ≤ w1.heap.size := (by have := hb1.size; (try simp at this); omega)
      have q0 : w1.cell? ⟨b1, o1, none⟩ = _ := (hb1.cell (p := ⟨b1, o1, none⟩) l1).trans q0
      obtain ⟨q1, q2, q3, q4⟩ := mv4 hb1 l1 q1 q2 q3 q4
      have l1 : b1 < w1.heap.size := by omega
      go_wp2_with fail
      refine (heldIntS_c _ x.text _ _ (by omega) (by omega) (r_text.below blw) (by refine (congrArg (fun z => mkL z x.text) ?_).trans E2.out; omega)).mono ?_
      rintro e w2 ⟨rfl, hb2⟩
      have s2 : w1.heap.size ≤ w2.heap.size := (by have := hb2.size; (try simp at this); omega)
      have q0 : w2.cell? ⟨b1, o1, none⟩ = _ := (hb2.cell (p := ⟨b1, o1, none⟩) l1).trans q0
      obtain ⟨q1, q2, q3, q4⟩ := mv4 hb2 l1 q1 q2 q3 q4
      have l1 : b1 < w2.heap.size := by omega
      go_wp2_with fail
      refine (heldEntryS_c _ x.list _ _ (by omega) (by omega) (r_list.below blw) (by refine (congrArg (fun z => mkL z x.list) ?_).trans E3.out; omega)).mono ?_
      rintro e w3 ⟨rfl, hb3⟩
      have s3 : w2.heap.size ≤ w3.heap.size := (by have := hb3.size; (try simp at this); omega)
      have q0 : w3.cell? ⟨b1, o1, none⟩ = _ := (hb3.cell (p := ⟨b1, o1, none⟩) l1).trans q0
      obtain ⟨q1, q2, q3, q4⟩ := mv4 hb3 l1 q1 q2 q3 q4
      have l1 : b1 < w3.heap.size := by omega
      go_wp2_with fail
      refine (heldSeenS_c _ x.seen _ _ (by omega) (by omega) (r_seen.below blw) (by refine (congrArg (fun z => mkL z x.seen) ?_).trans E4.out; omega)).mono ?_
      rintro e w4 ⟨rfl, hb4⟩
      have s4 : w3.heap.size ≤ w4.heap.size := (by have := hb4.size; (try simp at this); omega)
      have q0 : w4.cell? ⟨b1, o1, none⟩ = _ := (hb4.cell (p := ⟨b1, o1, none⟩) l1).trans q0
      obtain ⟨q1, q2, q3, q4⟩ := mv4 hb4 l1 q1 q2 q3 q4
      have l1 : b1 < w4.heap.size := by omega
      go_wp2
      go_roundw
      case rel => exact ⟨k + 1, by omega, by go_num, by rw [HCS.out]; go_num, blw⟩
      case measure => simp [intOf]; omega
    · obtain rfl : k = l.length := by omega
      go_wp2
      go_ret
      exact ⟨ret_int (by simp), hbw⟩
set_option maxHeartbeats 2000000 in
set_option maxRecDepth 100000 in
theorem markSubS_c (B : Nat) (v : Value) (l : List DSub) (fp : List Pos) (w : World) (m : Int) (h0 : 0 ≤ m) (h1 : m + cntL l ≤ 4611686018427387904) (h : Sl BIG w v l fp) (hf : Fresh B w fp) :
    Calls Tryz.prog 80 #[v, .int .i64 m] w (Marks w v m l fp) := by
  have hl := fun w1 ty => h.len Tryz.underlying50 w1 ty
  have hb := BIG_le h.leM
  go_enter Tryz.func80, Tryz.ntmps80
  go_wp2
  go_loopw [1, 5] (fun c i wr => ∃ k : Nat, k ≤ l.length ∧ i = .int .i64 k ∧ c = .int .i64 (m + cntL (l.take k)) ∧ Sl BIG wr v (marked m l k) fp ∧ Wr fp w wr) (fun _ i _ => l.length - (intOf i).toNat)
  case atStart => exact ⟨0, Nat.zero_le _, rfl, by simp [cntL], by rw [marked_zero]; exact h, Wr.refl _ _⟩
  case round =>
    obtain ⟨k, hk, rfl, rfl, hs, hw⟩ := hrel
    have hc0 := cntL_take_le l k
    by_cases hlt : k < l.length
    · obtain ⟨x, hx⟩ := get_some hlt
      have hcs := cntL_take_succ hx
      have hcl := cntL_take_le l (k + 1)
      have hgx : GoM.cnt x = 5 + cntL x.r.list := rfl
      have hgm := marked_set (k := m) hx
      obtain ⟨b1, o1, cs1, f_r_list, g1, g2, g3, g4, g5, gnd, g7⟩ := hs.lens hf.nodup Tryz.underlying50 szi_DSub k (marked_get hx)
      obtain ⟨c_r, f_r', rfl, n_doc, s_r, rfl⟩ := g3
      obtain ⟨v_r_list, f_r_list', rfl, s_r_list, rfl⟩ := s_r
      have hfr := hw.fresh h.live hf
      have hff : Fresh B wr f_r_list := ⟨gnd, fun p hp => hfr.ge p (g5 p hp), fun p hp => hfr.free p (g5 p hp)⟩
      try simp only [List.cons_append, List.nil_append] at g2
      try simp only [List.cons_append, List.nil_append] at g7
      have q0_0 := g2.zero
      have n0 := (g4 0 (by decide)).2
      have y0 := (g4 0 (by decide)).1
      have z0_0 := hfr.free _ y0
      have q0_1 := g2 1 _ rfl
      have n1 := (g4 1 (by decide)).2
      have y1 := (g4 1 (by decide)).1
      have z0_1 := hfr.free _ y1
      have q0_2 := g2 2 _ rfl
      have n2 := (g4 2 (by decide)).2
      have y2 := (g4 2 (by decide)).1
      have z0_2 := hfr.free _ y2
      have q0_3 := g2 3 _ rfl
      have n3 := (g4 3 (by decide)).2
      have y3 := (g4 3 (by decide)).1
      have z0_3 := hfr.free _ y3
      have q0_4 := g2 4 _ rfl
      have n4 := (g4 4 (by decide)).2
      have y4 := (g4 4 (by decide)).1
      have z0_4 := hfr.free _ y4
      have q0_5 := g2 5 _ rfl
      have n5 := (g4 5 (by decide)).2
      have y5 := (g4 5 (by decide)).1
      have z0_5 := hfr.free _ y5
      simp only [Nat.add_zero] at n0 y0 z0_0
      have mo : ∀ j < 6, (b1, o1 + j) ∈ own b1 o1 6 ++ f_r_list := fun j hj => List.mem_append.2 (.inl (mem_own.2 ⟨rfl, by simp, by simp; omega⟩))
      have mo0 := mo 0 (by decide)
      simp only [Nat.add_zero] at mo0
      have W0 : Wr (own b1 o1 6 ++ f_r_list) wr wr := Wr.refl _ _
      have hsl := hs.live
      have A0 := g2
      obtain ⟨c, hc⟩ : ∃ c : Nat, cntL (l.take k) = c := ⟨_, rfl⟩
      rw [hc] at hcs hc0 hgm
      rw [hgx] at hcs
      have HGM := Lib.hid hgm
      have HCS := Lib.hid hcs
      have hlim : c + (5 + cntL x.r.list) ≤ cntL l := by omega
      have S0_r_list := s_r_list
      have F0_r_list := hff
      rw [hc]
      clear hx hcs hgm hgx hc hcl
      have n0_r_list : (b1, o1) ∉ f_r_list := fun hm => n0 (by simp [hm])
      have n1_r_list : (b1, o1 + 1) ∉ f_r_list := fun hm => n1 (by simp [hm])
      have n2_r_list : (b1, o1 + 2) ∉ f_r_list := fun hm => n2 (by simp [hm])
      have n3_r_list : (b1, o1 + 3) ∉ f_r_list := fun hm => n3 (by simp [hm])
      have n4_r_list : (b1, o1 + 4) ∉ f_r_list := fun hm => n4 (by simp [hm])
      have n5_r_list : (b1, o1 + 5) ∉ f_r_list := fun hm => n5 (by simp [hm])
      go_wp2_with fail
      refine (markText_c _ _ (by omega) (by omega)).mono ?_
      rintro e w1 ⟨rfl, hb1⟩
      have hw1 : Wr [] _ w1 := Wr.of_below hb1
      have A1 := (A0.put0 (by simp) _).wr hw1 (fun _ _ h => by cases h)
      try dsimp only [List.set] at A1
      have W1 := (W0.put mo0 _).trans (hw1.sub (fun _ h => by cases h))
      have S1_r_list := (S0_r_list.put n0_r_list _).wr hw1 (fun _ _ h => by cases h)
      have F1_r_list := hw1.fresh (S0_r_list.put n0_r_list _).live (F0_r_list.put _ _)
      have q1_0 := A1.zero
      have z1_0 := (W1.fresh hsl hfr).free _ y0
      have q1_1 := A1 1 _ rfl
      have z1_1 := (W1.fresh hsl hfr).free _ y1
      have q1_2 := A1 2 _ rfl
      have z1_2 := (W1.fresh hsl hfr).free _ y2
      have q1_3 := A1 3 _ rfl
      have z1_3 := (W1.fresh hsl hfr).free _ y3
      have q1_4 := A1 4 _ rfl
      have z1_4 := (W1.fresh hsl hfr).free _ y4
      have q1_5 := A1 5 _ rfl
      have z1_5 := (W1.fresh hsl hfr).free _ y5
      go_wp2_with fail
      refine (markEntryS_c B _ x.r.list f_r_list _ _ (by omega) (by omega) ((((S1_r_list.put n1_r_list _).put n2_r_list _).put n3_r_list _).put n4_r_list _) ((((F1_r_list.put _ _).put _ _).put _ _).put _ _)).mono ?_
      rintro e w2 ⟨rfl, hs2, hw2⟩
      have A2 := ((((A1.put 1 (by simp) _).put 2 (by simp) _).put 3 (by simp) _).put 4 (by simp) _).wr hw2 (fun j hj => fun hm => (g4 j (show j < 6 from by simpa using hj)).2 (by simp [hm]))
      try dsimp only [List.set] at A2
      have W2 := ((((W1.put (mo 1 (by decide)) _).put (mo 2 (by decide)) _).put (mo 3 (by decide)) _).put (mo 4 (by decide)) _).trans (hw2.sub (fun p hp => List.mem_append.2 (.inr hp)))
      have S2_r_list := hs2
      have F2_r_list := hw2.fresh ((((S1_r_list.put n1_r_list _).put n2_r_list _).put n3_r_list _).put n4_r_list _).live ((((F1_r_list.put _ _).put _ _).put _ _).put _ _)
      have q2_0 := A2.zero
      have z2_0 := (W2.fresh hsl hfr).free _ y0
      have q2_1 := A2 1 _ rfl
      have z2_1 := (W2.fresh hsl hfr).free _ y1
      have q2_2 := A2 2 _ rfl
      have z2_2 := (W2.fresh hsl hfr).free _ y2
      have q2_3 := A2 3 _ rfl
      have z2_3 := (W2.fresh hsl hfr).free _ y3
      have q2_4 := A2 4 _ rfl
      have z2_4 := (W2.fresh hsl hfr).free _ y4
      have q2_5 := A2 5 _ rfl
      have z2_5 := (W2.fresh hsl hfr).free _ y5
      go_wp2
      go_roundw
      case rel =>
        refine ⟨k + 1, by omega, by go_num, by rw [HCS.out]; go_num, ?_, ?_⟩
        · rw [← HGM.out]
          refine g7 _ _ _ A2 ⟨_, _, rfl, (mText_le _), ⟨_, _, (by (try simp only [GoM.mrk, Int.add_assoc, Int.reduceAdd]) <;> (try rfl)), (S2_r_list.at_ (by omega)), rfl⟩, rfl⟩ fun p hp hn ho => W2.cell p (hsl.lt p hp) fun hm => ?_
          rcases List.mem_append.1 hm with hm | hm
          · obtain ⟨e1, e2, e3⟩ := mem_own.1 hm
            exact ho (p.2 - o1) (by show _ < 6; omega) (by ext <;> simp <;> omega)
          · exact hn hm
        · exact hw.trans (W2.sub fun p hp => (List.mem_append.1 hp).elim (fun hm => by
            obtain ⟨e1, e2, e3⟩ := mem_own.1 hm
            have := (g4 (p.2 - o1) (by show _ < 6; omega)).1
            rw [show ((b1, o1 + (p.2 - o1)) : Pos) = p by ext <;> simp <;> omega] at this
            exact this) (g5 p))
      case measure => simp [intOf]; omega
    · obtain rfl : k = l.length := by omega
      rw [marked_all] at hs
      go_wp2
      go_ret
      exact ⟨ret_int (by simp), hs, hw⟩
set_option maxHeartbeats 2000000 in
set_option maxRecDepth 100000 in
theorem heldSubS_c (v : Value) (l : List DSub) (w : World) (m : Int) (h0 : 0 ≤ m) (h1 : m + cntL l ≤ 4611686018427387904) (h : RdS w v l) (hm : mkL m l = l) :
    Calls Tryz.prog 82 #[v, .int .i64 m] w (Tells w (.int .i64 (m + cntL l))) := by
  have hl := fun w1 ty => h.len Tryz.underlying50 w1 ty
  have hb := h.le
  have HM := Lib.hid hm; clear hm
  go_enter Tryz.func82, Tryz.ntmps82
  go_wp2
  go_loopw [1, 5] (fun c i wr => ∃ k : Nat, k ≤ l.length ∧ i = .int .i64 k ∧ c = .int .i64 (m + cntL (l.take k)) ∧ Below w.heap.size w wr) (fun _ i _ => l.length - (intOf i).toNat)
  case atStart => exact ⟨0, Nat.zero_le _, rfl, by simp [cntL], Below.refl _ _⟩
  case round =>
    obtain ⟨k, hk, rfl, rfl, hbw⟩ := hrel
    have hsz := hbw.size
    have hc0 := cntL_take_le l k
    by_cases hlt : k < l.length
    · obtain ⟨x, hx⟩ := get_some hlt
      have hcs := cntL_take_succ hx
      have hcl := cntL_take_le l (k + 1)
      have hgx : GoM.cnt x = 5 + cntL x.r.list := rfl
      obtain ⟨b1, o1, cs1, h2a, h2, h3⟩ := (h.below hbw).idx Tryz.underlying50 szi_DSub k hx
      obtain ⟨v_r_list, rfl, _, r_r_list⟩ := inv_DSub h3
      have hg : GoM.mrk (m + cntL (l.take k)) x = x := held_get HM.out hx
      obtain ⟨c, hc⟩ : ∃ c : Nat, cntL (l.take k) = c := ⟨_, rfl⟩
      rw [hc] at hcs hc0 hg
      rw [hgx] at hcs
      have HCS := Lib.hid hcs
      have hlim : c + (5 + cntL x.r.list) ≤ cntL l := by omega
      rw [hc]
      clear hx hcs hgx hc hcl
      have e0 : x.id = m + c := by have := congrArg (fun x : DSub => x.id) hg; simp only [GoM.mrk] at this; omega
      have e1 : x.doc = mText (m + c + 1) := by have := congrArg (fun x : DSub => x.doc) hg; simp only [GoM.mrk] at this; rw [← this]; try (congr 1; omega)
      have e2 : x.r.cap = m + c + 2 := by have := congrArg (fun x : DSub => x.r.cap) hg; simp only [GoM.mrk] at this; omega
      have e3 : x.r.next = m + c + 3 := by have := congrArg (fun x : DSub => x.r.next) hg; simp only [GoM.mrk] at this; omega
      have e4 : x.r.out = ((m + (c : Int) + 1 + 1 + 1 + 1) % 3 == 0) := by have := congrArg (fun x : DSub => x.r.out) hg; simp only [GoM.mrk] at this; rw [← this, Bool.eq_iff_iff, decide_eq_true_eq, beq_iff_eq]; constructor <;> intro h <;> (try rw [← h]) <;> (try congr 1) <;> (try omega)
      have E5 : Hid (mkL (m + c + 5) x.r.list = x.r.list) := by have := congrArg (fun x : DSub => x.r.list) hg; simp only [GoM.mrk] at this; exact Lib.hid ((congrArg (fun z => mkL z x.r.list) (by omega)).trans this)
      have q0 := h2.zero
      have q1 := h2 1 _ rfl
      have q2 := h2 2 _ rfl
      have q3 := h2 3 _ rfl
      have q4 := h2 4 _ rfl
      have q5 := h2 5 _ rfl
      rw [e0] at q0
      rw [e1] at q1
      rw [e2] at q2
      rw [e3] at q3
      rw [e4] at q4
      have l1 : b1 < wr.heap.size := World.block_lt_of_cell? (w := wr) (a := ⟨b1, o1, none⟩) q0
      clear hg e0 e1 e2 e3 e4
      go_wp2_with fail
      obtain ⟨X, hX, F, hF, hFs⟩ := fam_of wr
      have cc : ∀ x, (F x).cell? ⟨b1, o1 + 1, none⟩ = some _ := fun x => ((hF x).cell (p := ⟨b1, o1 + 1, none⟩) l1).trans q1
      have HF := Lib.hid hF
      have HFs := Lib.hid hFs
      clear hF hFs
      have Hm := Lib.hid (fun (W' : World) => markText_c (m + c + 1) W' (by omega) (by omega))
      refine wp_region_fam (F := F) (by kernel_rfl) (by kernel_rfl) (HFs.out _ blw) ?_
      repeat (go_big_quiet_step ((go_at_call 131; (with_reducible exact Calls.fam_tells HF.out HFs.out (Hm.out _)))))
      refine wpQuiet_nil ?_
      intro x'
      obtain ⟨w1, hwx⟩ : ∃ wx : World, F x' = wx := ⟨_, rfl⟩
      have hb1 : Below wr.heap.size wr w1 := by rw [← hwx]; exact HF.out x'
      rw [hwx]
      clear hwx cc HF HFs Hm
      have s1 : wr.heap.size ≤ w1.heap.size := (by have := hb1.size; (try simp at this); omega)
      have q0 : w1.cell? ⟨b1, o1, none⟩ = _ := (hb1.cell (p := ⟨b1, o1, none⟩) l1).trans q0
      obtain ⟨q1, q2, q3, q4, q5⟩ := mv5 hb1 l1 q1 q2 q3 q4 q5
      have l1 : b1 < w1.heap.size := by omega
      go_wp2_with fail
      refine (heldEntryS_c _ x.r.list _ _ (by omega) (by omega) (r_r_list.below blw) (by refine (congrArg (fun z => mkL z x.r.list) ?_).trans E5.out; omega)).mono ?_
      rintro e w2 ⟨rfl, hb2⟩
      have s2 : w1.heap.size ≤ w2.heap.size := (by have := hb2.size; (try simp at this); omega)
      have q0 : w2.cell? ⟨b1, o1, none⟩ = _ := (hb2.cell (p := ⟨b1, o1, none⟩) l1).trans q0
      obtain ⟨q1, q2, q3, q4, q5⟩ := mv5 hb2 l1 q1 q2 q3 q4 q5
      have l1 : b1 < w2.heap.size := by omega
      go_wp2
      go_roundw
      case rel => exact ⟨k + 1, by omega, by go_num, by rw [HCS.out]; go_num, blw⟩
      case measure => simp [intOf]; omega
    · obtain rfl : k = l.length := by omega
      go_wp2
      go_ret
      exact ⟨ret_int (by simp), hbw⟩
set_option maxHeartbeats 1000000 in
theorem markHub_c (B : Nat) (shut : Bool) (last : Int) (v_docs : Value) (v_subs : Value) (l_docs : List DDoc) (l_subs : List DSub) (f_docs : List Pos) (f_subs : List Pos) (w : World) (m : Int) (h0 : 0 ≤ m) (h1 : m + ((cntL l_docs + cntL l_subs : Nat) : Int) ≤ 4611686018427387904) (s_docs : Sl BIG w v_docs l_docs f_docs) (s_subs : Sl BIG w v_subs l_subs f_subs) (hf : Fresh B w (f_docs ++ f_subs)) :
    Calls Tryz.prog 23 #[.agg #[.bool shut, v_docs, v_subs, .int .i64 last], .int .i64 m] w (fun e w' => e = .returned (.int .i64 (m + ((cntL l_docs + cntL l_subs : Nat) : Int))) ∧ Sl BIG w' v_docs (mkL (m) l_docs) f_docs ∧ Sl BIG w' v_subs (mkL (m + cntL l_docs) l_subs) f_subs ∧ Wr (f_docs ++ f_subs) w w') := by
  have lt_docs := Live.lt s_docs.live
  have lt_subs := Live.lt s_subs.live
  have hbx : Below w.heap.size w (w.alloc (.cells #[.bool shut, v_docs, v_subs, .int .i64 last] 52)) := (Below.refl _ _).alloc (Nat.le_refl _) _
  have F0_docs : Fresh B _ f_docs := (hf.left).belowL hbx lt_docs
  have S0_docs := s_docs.belowW hbx
  have F0_subs : Fresh B _ f_subs := (hf.right).belowL hbx lt_subs
  have S0_subs := s_subs.belowW hbx
  have X0 : Wr (f_docs ++ f_subs) w _ := Wr.of_below hbx
  have c0_0 : (w.alloc (.cells #[.bool shut, v_docs, v_subs, .int .i64 last] 52)).cell? ⟨w.heap.size, 0, none⟩ = some (.bool shut) := by simp
  have c0_1 : (w.alloc (.cells #[.bool shut, v_docs, v_subs, .int .i64 last] 52)).cell? ⟨w.heap.size, 1, none⟩ = some (v_docs) := by simp
  have c0_2 : (w.alloc (.cells #[.bool shut, v_docs, v_subs, .int .i64 last] 52)).cell? ⟨w.heap.size, 2, none⟩ = some (v_subs) := by simp
  have c0_3 : (w.alloc (.cells #[.bool shut, v_docs, v_subs, .int .i64 last] 52)).cell? ⟨w.heap.size, 3, none⟩ = some (.int .i64 last) := by simp
  have z0 : w.heap.size < (w.alloc (.cells #[.bool shut, v_docs, v_subs, .int .i64 last] 52)).heap.size := by simp
  have hnd := hf.nodup
  have HND := Lib.hid hnd
  clear hnd
  go_enter Tryz.func23, Tryz.ntmps23
  go_wp2_with fail
  refine (markDocS_c B _ l_docs f_docs _ _ (by omega) (by omega) S0_docs F0_docs).mono ?_
  rintro e w1 ⟨rfl, T1_docs, hw1⟩
  have S1_docs := T1_docs
  have F1_docs := hw1.fresh S0_docs.live F0_docs
  have S1_subs := S0_subs.wr hw1 (fun p hp hq => by have hh := HND.out; simp only [List.nodup_append] at hh; (try simp only [List.mem_append] at hh); grind)
  have F1_subs := hw1.fresh S0_subs.live F0_subs
  have X1 := X0.trans (hw1.sub (fun p hp => by simp [hp]))
  have z1 : w.heap.size < w1.heap.size := Nat.lt_of_lt_of_le z0 hw1.size
  have c1_0 : w1.cell? ⟨w.heap.size, 0, none⟩ = some (.bool shut) := (hw1.cell (w.heap.size, 0) z0 (fun hm => by have := lt_docs _ hm; simp at this)).trans c0_0
  have c1_1 : w1.cell? ⟨w.heap.size, 1, none⟩ = some (v_docs) := (hw1.cell (w.heap.size, 1) z0 (fun hm => by have := lt_docs _ hm; simp at this)).trans c0_1
  have c1_2 : w1.cell? ⟨w.heap.size, 2, none⟩ = some (v_subs) := (hw1.cell (w.heap.size, 2) z0 (fun hm => by have := lt_docs _ hm; simp at this)).trans c0_2
  have c1_3 : w1.cell? ⟨w.heap.size, 3, none⟩ = some (.int .i64 last) := (hw1.cell (w.heap.size, 3) z0 (fun hm => by have := lt_docs _ hm; simp at this)).trans c0_3
  clear hw1
  go_wp2_with fail
  refine (markSubS_c B _ l_subs f_subs _ _ (by omega) (by omega) S1_subs F1_subs).mono ?_
  rintro e w2 ⟨rfl, T2_subs, hw2⟩
  have S2_docs := S1_docs.wr hw2 (fun p hp hq => by have hh := HND.out; simp only [List.nodup_append] at hh; (try simp only [List.mem_append] at hh); grind)
  have F2_docs := hw2.fresh S1_docs.live F1_docs
  have S2_subs := T2_subs
  have F2_subs := hw2.fresh S1_subs.live F1_subs
  have X2 := X1.trans (hw2.sub (fun p hp => by simp [hp]))
  have z2 : w.heap.size < w2.heap.size := Nat.lt_of_lt_of_le z1 hw2.size
  have c2_0 : w2.cell? ⟨w.heap.size, 0, none⟩ = some (.bool shut) := (hw2.cell (w.heap.size, 0) z1 (fun hm => by have := lt_subs _ hm; simp at this)).trans c1_0
  have c2_1 : w2.cell? ⟨w.heap.size, 1, none⟩ = some (v_docs) := (hw2.cell (w.heap.size, 1) z1 (fun hm => by have := lt_subs _ hm; simp at this)).trans c1_1
  have c2_2 : w2.cell? ⟨w.heap.size, 2, none⟩ = some (v_subs) := (hw2.cell (w.heap.size, 2) z1 (fun hm => by have := lt_subs _ hm; simp at this)).trans c1_2
  have c2_3 : w2.cell? ⟨w.heap.size, 3, none⟩ = some (.int .i64 last) := (hw2.cell (w.heap.size, 3) z1 (fun hm => by have := lt_subs _ hm; simp at this)).trans c1_3
  clear hw2
  go_wp2
  go_ret
  exact ⟨ret_int (by omega), S2_docs, S2_subs, X2⟩
set_option maxHeartbeats 1000000 in
theorem heldHub_c (shut : Bool) (last : Int) (v_docs : Value) (v_subs : Value) (l_docs : List DDoc) (l_subs : List DSub) (w : World) (m : Int) (h0 : 0 ≤ m) (h1 : m + ((cntL l_docs + cntL l_subs : Nat) : Int) ≤ 4611686018427387904) (h_docs : RdS w v_docs l_docs) (h_subs : RdS w v_subs l_subs) (hm_docs : mkL (m) l_docs = l_docs) (hm_subs : mkL (m + cntL l_docs) l_subs = l_subs) :
    Calls Tryz.prog 24 #[.agg #[.bool shut, v_docs, v_subs, .int .i64 last], .int .i64 m] w (Tells w (.int .i64 (m + ((cntL l_docs + cntL l_subs : Nat) : Int)))) := by
  have HM_docs := Lib.hid hm_docs
  have HM_subs := Lib.hid hm_subs
  clear hm_docs hm_subs
  go_enter Tryz.func24, Tryz.ntmps24
  go_wp2_with fail
  refine (heldDocS_c _ l_docs _ _ (by omega) (by omega) (h_docs.below blw) HM_docs.out).mono ?_
  rintro e w1 ⟨rfl, hb1⟩
  have s1 := hb1.size
  (try simp at s1)
  obtain ⟨hc1, hf1⟩ := bcell hb1
  have z1 : w.heap.size < w1.heap.size := by omega
  go_wp2_with fail
  refine (heldSubS_c _ l_subs _ _ (by omega) (by omega) (h_subs.below blw) HM_subs.out).mono ?_
  rintro e w2 ⟨rfl, hb2⟩
  have s2 := hb2.size
  (try simp at s2)
  obtain ⟨hc2, hf2⟩ := bcell hb2
  have z2 : w.heap.size < w2.heap.size := by omega
  go_wp2
  go_ret
  exact ⟨ret_int (by omega), blw⟩
end Go.Proofs.YtbpbeomngflkfaaGreat

