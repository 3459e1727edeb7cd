/- Slices of structs: marked. -/
import Derived.Test.YtdbfgolabnomgaaMk0
import Derived.Test.YtdbfgolabnomgaaEq1
import Derived.Test.YtdbfgolabnomgaaGom
import Derived.StillTailTactics
namespace Go.Proofs.Ytdbfgolabnomgaa
open Go.RowKit
set_option maxHeartbeats 2000000 in
set_option maxRecDepth 100000 in
theorem markPartS_c (B : Nat) (v : Value) (l : List DPart) (fp : List Pos) (w : World) (m : Int) (h0 : 0 ≤ m) (h1 : m + cntL l ≤ 4611686018427387904) (h : Sl BIG w v l fp) (hf : Fresh B w fp) :
    Calls Try.prog 51 #[v, .int .i64 m] w (Marks w v m l fp) := by
  have hl := fun w1 ty => h.len Try.underlying47 w1 ty
  have hb := BIG_le h.leM
  go_enter Try.func51, Try.ntmps51
  go_wp2
  go_loopw [1, 5] (fun c i wr => ∃ k : Nat, k ≤ l.length ∧ i = .int .i64 k ∧ c = .int .i64 (m + cntL (l.take k)) ∧ Sl BIG wr v (marked m l k) fp ∧ Wr fp w wr) (fun _ i _ => l.length - (intOf i).toNat)
  case atStart => exact ⟨0, Nat.zero_le _, rfl, by simp [cntL], by rw [marked_zero]; exact h, Wr.refl _ _⟩
  case round =>
    obtain ⟨k, hk, rfl, rfl, hs, hw⟩ := hrel
    have hc0 := cntL_take_le l k
    by_cases hlt : k < l.length
    · obtain ⟨x, hx⟩ := get_some hlt
      have hcs := cntL_take_succ hx
      have hcl := cntL_take_le l (k + 1)
      have hgx : GoM.cnt x = 2 + cntL x.signs := rfl
      have hgm := marked_set (k := m) hx
      obtain ⟨b1, o1, cs1, f_signs, g1, g2, g3, g4, g5, gnd, g7⟩ := hs.lens hf.nodup Try.underlying47 szi_DPart k (marked_get hx)
      obtain ⟨v_signs, f_signs', rfl, s_signs, rfl⟩ := g3
      have hfr := hw.fresh h.live hf
      have hff : Fresh B wr f_signs := ⟨gnd, fun p hp => hfr.ge p (g5 p hp), fun p hp => hfr.free p (g5 p hp)⟩
      have q0_0 := g2.zero
      have n0 := (g4 0 (by decide)).2
      have y0 := (g4 0 (by decide)).1
      have z0_0 := hfr.free _ y0
      have q0_1 := g2 1 _ rfl
      have n1 := (g4 1 (by decide)).2
      have y1 := (g4 1 (by decide)).1
      have z0_1 := hfr.free _ y1
      have q0_2 := g2 2 _ rfl
      have n2 := (g4 2 (by decide)).2
      have y2 := (g4 2 (by decide)).1
      have z0_2 := hfr.free _ y2
      simp only [Nat.add_zero] at n0 y0 z0_0
      have mo : ∀ j < 3, (b1, o1 + j) ∈ own b1 o1 3 ++ f_signs := fun j hj => List.mem_append.2 (.inl (mem_own.2 ⟨rfl, by simp, by simp; omega⟩))
      have mo0 := mo 0 (by decide)
      simp only [Nat.add_zero] at mo0
      have W0 : Wr (own b1 o1 3 ++ f_signs) wr wr := Wr.refl _ _
      have hsl := hs.live
      have A0 := g2
      obtain ⟨c, hc⟩ : ∃ c : Nat, cntL (l.take k) = c := ⟨_, rfl⟩
      rw [hc] at hcs hc0 hgm
      rw [hgx] at hcs
      have HGM := Lib.hid hgm
      have HCS := Lib.hid hcs
      have hlim : c + (2 + cntL x.signs) ≤ cntL l := by omega
      have S0_signs := s_signs
      have F0_signs := hff
      rw [hc]
      clear hx hcs hgm hgx hc hcl
      have n0_signs : (b1, o1) ∉ f_signs := fun hm => n0 (by simp [hm])
      have n1_signs : (b1, o1 + 1) ∉ f_signs := fun hm => n1 (by simp [hm])
      have n2_signs : (b1, o1 + 2) ∉ f_signs := fun hm => n2 (by simp [hm])
      go_wp2_with fail
      refine (markIntS_c B _ x.signs f_signs _ _ (by omega) (by omega) ((S0_signs.put n0_signs _).put n1_signs _) ((F0_signs.put _ _).put _ _)).mono ?_
      rintro e w1 ⟨rfl, hs1, hw1⟩
      have A1 := ((A0.put0 (by simp) _).put 1 (by simp) _).wr hw1 (fun j hj => fun hm => (g4 j (show j < 3 from by simpa using hj)).2 (by simp [hm]))
      simp only [List.set_cons_zero, List.set_cons_succ] at A1
      have W1 := ((W0.put mo0 _).put (mo 1 (by decide)) _).trans (hw1.sub (fun p hp => List.mem_append.2 (.inr hp)))
      have S1_signs := hs1
      have F1_signs := hw1.fresh ((S0_signs.put n0_signs _).put n1_signs _).live ((F0_signs.put _ _).put _ _)
      have q1_0 := A1.zero
      have z1_0 := (W1.fresh hsl hfr).free _ y0
      have q1_1 := A1 1 _ rfl
      have z1_1 := (W1.fresh hsl hfr).free _ y1
      have q1_2 := A1 2 _ rfl
      have z1_2 := (W1.fresh hsl hfr).free _ y2
      go_wp2
      go_roundw
      case rel =>
        refine ⟨k + 1, by omega, by go_num, by rw [HCS.out]; go_num, ?_, ?_⟩
        · rw [← HGM.out]
          refine g7 _ _ _ A1 ⟨_, _, rfl, (S1_signs.at_ (by omega)), rfl⟩ fun p hp hn ho => W1.cell p (hsl.lt p hp) fun hm => ?_
          rcases List.mem_append.1 hm with hm | hm
          · obtain ⟨e1, e2, e3⟩ := mem_own.1 hm
            exact ho (p.2 - o1) (by show _ < 3; omega) (by ext <;> simp <;> omega)
          · exact hn hm
        · exact hw.trans (W1.sub fun p hp => (List.mem_append.1 hp).elim (fun hm => by
            obtain ⟨e1, e2, e3⟩ := mem_own.1 hm
            have := (g4 (p.2 - o1) (by show _ < 3; omega)).1
            rw [show ((b1, o1 + (p.2 - o1)) : Pos) = p by ext <;> simp <;> omega] at this
            exact this) (g5 p))
      case measure => simp [intOf]; omega
    · obtain rfl : k = l.length := by omega
      rw [marked_all] at hs
      go_wp2
      go_ret
      exact ⟨ret_int (by simp), hs, hw⟩
theorem szi_IntS : ∀ w1, (sizeOf 22).run Try.prog w1 = .ok 1 w1 := fun _ => by kernel_rfl
set_option maxHeartbeats 2000000 in
theorem markIntSS_c (B : Nat) (v : Value) (l : List (List Int)) (fp : List Pos) (w : World) (m : Int) (h0 : 0 ≤ m) (h1 : m + cntL l ≤ 4611686018427387904) (h : Sl BIG w v l fp) (hf : Fresh B w fp) :
    Calls Try.prog 21 #[v, .int .i64 m] w (Marks w v m l fp) := by
  have hl := fun w1 ty => h.len Try.underlying23 w1 ty
  have hb := BIG_le h.leM
  go_enter Try.func21, Try.ntmps21
  go_wp2
  go_loopw [1, 5] (fun c i wr => ∃ k : Nat, k ≤ l.length ∧ i = .int .i64 k ∧ c = .int .i64 (m + cntL (l.take k)) ∧ Sl BIG wr v (marked m l k) fp ∧ Wr fp w wr) (fun _ i _ => l.length - (intOf i).toNat)
  case atStart => exact ⟨0, Nat.zero_le _, rfl, by simp [cntL], by rw [marked_zero]; exact h, Wr.refl _ _⟩
  case round =>
    obtain ⟨k, hk, rfl, rfl, hs, hw⟩ := hrel
    have hc0 := cntL_take_le l k
    by_cases hlt : k < l.length
    · obtain ⟨x, hx⟩ := get_some hlt
      have hcs := cntL_take_succ hx
      have hcl := cntL_take_le l (k + 1)
      have hgx : GoM.cnt x = cntL x := rfl
      have hgm := marked_set (k := m) hx
      obtain ⟨b1, o1, cs1, f, g1, g2, g3, g4, g5, gnd, g7⟩ := hs.lens hf.nodup Try.underlying23 szi_IntS k (marked_get hx)
      obtain ⟨u, rfl, s⟩ := g3
      have hfr := hw.fresh h.live hf
      have hff : Fresh B wr f := ⟨gnd, fun p hp => hfr.ge p (g5 p hp), fun p hp => hfr.free p (g5 p hp)⟩
      have q0 := g2.one
      have n0 := (g4 0 (by decide)).2
      simp only [Nat.add_zero] at n0
      have hsl := hs.live
      obtain ⟨c, hc⟩ : ∃ c : Nat, cntL (l.take k) = c := ⟨_, rfl⟩
      rw [hc] at hcs hc0 hgm
      rw [hgx] at hcs
      have HGM := Lib.hid hgm
      have HCS := Lib.hid hcs
      have hlim : c + cntL x ≤ cntL l := by omega
      rw [hc]
      clear hx hcs hgm hgx hc hcl
      go_wp2_with fail
      refine (markIntS_c B _ x f _ _ (by omega) (by omega) s hff).mono ?_
      rintro e w1 ⟨rfl, hs1, hw1⟩
      have A1 := g2.wr hw1 (fun j hj => fun hm => (g4 j (show j < 1 from by simpa using hj)).2 (by simp [hm]))
      go_wp2
      go_roundw
      case rel =>
        refine ⟨k + 1, by omega, by go_num, by rw [HCS.out]; go_num, ?_, ?_⟩
        · rw [← HGM.out]
          exact g7 _ _ _ A1 ⟨_, rfl, hs1⟩ fun p hp hn ho => hw1.cell p (hsl.lt p hp) hn
        · exact hw.trans (hw1.sub fun p hp => g5 p hp)
      case measure => simp [intOf]; omega
    · obtain rfl : k = l.length := by omega
      rw [marked_all] at hs
      go_wp2
      go_ret
      exact ⟨ret_int (by simp), hs, hw⟩
set_option maxHeartbeats 2000000 in
theorem heldIntSS_c (v : Value) (l : List (List Int)) (w : World) (m : Int) (h0 : 0 ≤ m) (h1 : m + cntL l ≤ 4611686018427387904) (h : RdS w v l) (hm : mkL m l = l) :
    Calls Try.prog 22 #[v, .int .i64 m] w (Tells w (.int .i64 (m + cntL l))) := by
  have hl := fun w1 ty => h.len Try.underlying23 w1 ty
  have hb := h.le
  have HM := Lib.hid hm; clear hm
  go_enter Try.func22, Try.ntmps22
  go_wp2
  go_loopw [1, 5] (fun c i wr => ∃ k : Nat, k ≤ l.length ∧ i = .int .i64 k ∧ c = .int .i64 (m + cntL (l.take k)) ∧ Below w.heap.size w wr) (fun _ i _ => l.length - (intOf i).toNat)
  case atStart => exact ⟨0, Nat.zero_le _, rfl, by simp [cntL], Below.refl _ _⟩
  case round =>
    obtain ⟨k, hk, rfl, rfl, hbw⟩ := hrel
    have hsz := hbw.size
    have hc0 := cntL_take_le l k
    by_cases hlt : k < l.length
    · obtain ⟨x, hx⟩ := get_some hlt
      have hcs := cntL_take_succ hx
      have hcl := cntL_take_le l (k + 1)
      have hgx : GoM.cnt x = cntL x := rfl
      obtain ⟨b1, o1, cs1, h2a, h2, fq, u, rfl, s⟩ := (h.below hbw).idx Try.underlying23 szi_IntS k hx
      have r : RdS wr u x := ⟨_, s⟩
      have hg : mkL (m + cntL (l.take k)) x = x := held_get HM.out hx
      obtain ⟨c, hc⟩ : ∃ c : Nat, cntL (l.take k) = c := ⟨_, rfl⟩
      rw [hc] at hcs hc0 hg
      rw [hgx] at hcs
      have HCS := Lib.hid hcs
      have HG := Lib.hid hg
      have hlim : c + cntL x ≤ cntL l := by omega
      have q0 := h2.one
      rw [hc]
      clear hx hcs hgx hc hcl hg
      go_wp2_with fail
      refine (heldIntS_c _ x _ _ (by omega) (by omega) r HG.out).mono ?_
      rintro e w1 ⟨rfl, hb1⟩
      go_wp2
      go_roundw
      case rel => exact ⟨k + 1, by omega, by go_num, by rw [HCS.out]; go_num, (by repeat' (first | (with_reducible exact Below.refl _ _) | (with_reducible assumption) | (with_reducible refine Below.setCell ?_ ?_ _) | (with_reducible refine Below.alloc ?_ ?_ _) | (with_reducible refine Below.drew ?_) | (with_reducible refine belowN ?_ _) | (with_reducible refine below_after ?_ (by assumption) ?_) | omega | (simp; done) | (simp; omega)))⟩
      case measure => simp [intOf]; omega
    · obtain rfl : k = l.length := by omega
      go_wp2
      go_ret
      exact ⟨ret_int (by simp), hbw⟩
set_option maxHeartbeats 1000000 in
set_option maxRecDepth 100000 in
theorem eqIntSS_c (va vb : Value) (a : List (List Int)) (w : World) (ha : RdS w va a) (hb : RdS w vb a) :
    Calls Try.prog 18 #[va, vb] w (Tells w (.bool true)) := by
  have hla := fun w1 ty => ha.len Try.underlying23 w1 ty
  have hlb := fun w1 ty => hb.len Try.underlying23 w1 ty
  have ba := ha.le
  go_enter Try.func18, Try.ntmps18
  go_wp2
  go_loopw [5] (fun i wr => ∃ k : Nat, k ≤ a.length ∧ i = .int .i64 k ∧ Below w.heap.size w wr) (fun i _ => a.length - (intOf i).toNat)
  case atStart => exact ⟨0, Nat.zero_le _, rfl, Below.refl _ _⟩
  case round =>
    obtain ⟨k, hk, rfl, hbw⟩ := hrel
    have hsz := hbw.size
    by_cases hlt : k < a.length
    · obtain ⟨x, hx⟩ := get_some hlt
      obtain ⟨b1, o1, _, h1, h2, f1, u1, rfl, s1⟩ := (ha.below hbw).idx Try.underlying23 szi_IntS k hx
      obtain ⟨b2, o2, _, h3, h4, f2, u2, rfl, s2⟩ := (hb.below hbw).idx Try.underlying23 szi_IntS k hx
      have q1 := h2.one
      have q2 := h4.one
      have r1 : RdS wr u1 x := ⟨_, s1⟩
      have r2 : RdS wr u2 x := ⟨_, s2⟩
      clear hx s1 s2
      go_wp2_with fail
      go_still_tail 8, (by kernel_rfl)
      go_wp2_with fail
      refine (eqIntS_c _ _ x _ (r1.below (by repeat' (first | (with_reducible exact Below.refl _ _) | (with_reducible assumption) | (with_reducible refine Below.setCell ?_ ?_ _) | (with_reducible refine Below.alloc ?_ ?_ _) | (with_reducible refine Below.drew ?_) | (with_reducible refine belowN ?_ _) | (with_reducible refine below_after ?_ (by assumption) ?_) | omega | (simp; done) | (simp; omega)))) (r2.below (by repeat' (first | (with_reducible exact Below.refl _ _) | (with_reducible assumption) | (with_reducible refine Below.setCell ?_ ?_ _) | (with_reducible refine Below.alloc ?_ ?_ _) | (with_reducible refine Below.drew ?_) | (with_reducible refine belowN ?_ _) | (with_reducible refine below_after ?_ (by assumption) ?_) | omega | (simp; done) | (simp; omega))))).mono ?_
      rintro e w1 ⟨rfl, hb1⟩
      go_wp2
      go_roundw
      case rel => exact ⟨k + 1, by omega, by go_num, (by repeat' (first | (with_reducible exact Below.refl _ _) | (with_reducible assumption) | (with_reducible refine Below.setCell ?_ ?_ _) | (with_reducible refine Below.alloc ?_ ?_ _) | (with_reducible refine Below.drew ?_) | (with_reducible refine belowN ?_ _) | (with_reducible refine below_after ?_ (by assumption) ?_) | omega | (simp; done) | (simp; omega)))⟩
      case measure => simp [intOf]; omega
    · go_wp2
      go_ret
      exact ⟨rfl, hbw⟩
end Go.Proofs.Ytdbfgolabnomgaa
