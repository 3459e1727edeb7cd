/- Documents: what is forgotten. -/
import Derived.Test.YtkbhlgmgjpbloaaDfo
import Derived.Test.YtkbhlgmgjpbloaaRo
import Derived.Deep.Cut
namespace Go.Proofs.Ytkbhlgmgjpbloaa
open Go.RowKit
attribute [local go_sem ↓] Go.wp_at_zero Go.wp_at_succ
theorem forget_no {d : DDoc} {n : Int} (h : ¬ (docOk d = true ∧ 0 ≤ n)) : forget d n = (doc0, false) := if_neg h
theorem forget_all {d : DDoc} {n : Int} (h : docOk d = true ∧ 0 ≤ n) (h2 : ¬ 0 < (d.list.length : Int) - n) : forget d n = (d, true) := by unfold forget; rw [if_pos h, if_neg h2]
theorem forget_some {d : DDoc} {n : Int} (h : docOk d = true ∧ 0 ≤ n) (h2 : 0 < (d.list.length : Int) - n) : forget d n = (⟨d.name, d.from_ + ((d.list.length : Int) - n), (textAt d (d.from_ + ((d.list.length : Int) - n))).1, d.list.drop ((d.list.length : Int) - n).toNat, d.seen⟩, true) := by
  unfold forget; rw [if_pos h, if_pos h2]
theorem Fresh.three {B : Nat} {w : World} {a b c : List Pos} (h1 : Fresh B w a) (h2 : Fresh B w b) (h3 : Fresh B w c) (d12 : ∀ p ∈ a, p ∉ b) (d13 : ∀ p ∈ a, p ∉ c) (d23 : ∀ p ∈ b, p ∉ c) : Fresh B w (a ++ (b ++ c)) :=
  h1.join (h2.join h3 fun p hp q hq e => d23 p hp (e ▸ hq)) fun p hp q hq e => by
    subst e
    rcases List.mem_append.1 hq with hq | hq
    · exact d12 p hp hq
    · exact d13 p hp hq
theorem Fresh.subset {B : Nat} {w : World} {a b : List Pos} (h : Fresh B w b) (nd : a.Nodup) (hs : ∀ p ∈ a, p ∈ b) : Fresh B w a := ⟨nd, fun p hp => h.ge p (hs p hp), fun p hp => h.free p (hs p hp)⟩
theorem docOk_sizes {d : DDoc} (h : docOk d = true) : d.text.length ≤ 4000000 ∧ szL d.list ≤ 4000000 ∧ d.seen.length ≤ 4000000 := by
  have hp := docOk_iff.1 h
  have := hp.tlen; have := hp.sz; have := hp.slen
  omega
theorem forget_cnt (d : DDoc) (n : Int) : cntL (forget d n).1.text + (cntL (forget d n).1.list + cntL (forget d n).1.seen) ≤ 5 * (200 + szL d.text + szL d.list + szL d.seen) := by
  have h1 := cntL_le d.text; have h2 := cntL_le d.list; have h3 := cntL_le d.seen
  unfold forget
  split
  · split
    · have h4 := cntL_le (textAt d (d.from_ + ((d.list.length : Int) - n))).1
      have h5 := textAt_len d (d.from_ + ((d.list.length : Int) - n))
      have h6 := cntL_le (d.list.drop ((d.list.length : Int) - n).toNat)
      have h7 := (szL_sub d.list ((d.list.length : Int) - n).toNat).2
      rw [szL_int] at h4
      simp only
      omega
    · simp only; omega
  · simp [doc0, cntL]

set_option maxHeartbeats 16000000 in
set_option maxRecDepth 100000 in
theorem spec_Forget_c (d : DDoc) (v_text v_list v_seen : Value) (n : Int) (w : World) (n_name : d.name.size ≤ BIG) (h_text : RdS w v_text d.text) (h_list : RdS w v_list d.list) (h_seen : RdS w v_seen d.seen) (bn : n ≤ 9223372036854775807) : Calls Try.prog 43 #[.agg #[.string d.name, .int .i64 d.from_, v_text, v_list, v_seen], .int .i64 n] w (Out_Doc_b w (forget d n).1 (forget d n).2) := by
  obtain ⟨W, hW⟩ : ∃ W : World, W = (w.alloc (.cells #[.string d.name, .int .i64 d.from_, v_text, v_list, v_seen] 32)).alloc (.cells #[.string ⟨#[]⟩, .int .i64 0, .slice none 0 0, .slice none 0 0, .slice none 0 0] 32) := ⟨_, rfl⟩
  have hWB : Below w.heap.size w W := by rw [hW]; exact (by repeat' (first | (with_reducible exact Below.refl _ _) | (with_reducible assumption) | (with_reducible refine Below.setCell ?_ ?_ _) | (with_reducible refine Below.alloc ?_ ?_ _) | (with_reducible refine Below.drew ?_) | (with_reducible refine belowN ?_ _) | (with_reducible refine below_after ?_ (by assumption) ?_) | omega | (simp; done) | (simp; omega)))
  have sW := hWB.size
  have zd : w.heap.size < W.heap.size := by rw [hW]; first | (simp; done) | (simp; omega)
  have kd0 : W.cell? ⟨w.heap.size, 0, none⟩ = some (.string d.name) := by rw [hW]; simp [go_sem]
  have kd1 : W.cell? ⟨w.heap.size, 1, none⟩ = some (.int .i64 d.from_) := by rw [hW]; simp [go_sem]
  have kd2 : W.cell? ⟨w.heap.size, 2, none⟩ = some (v_text) := by rw [hW]; simp [go_sem]
  have kd3 : W.cell? ⟨w.heap.size, 3, none⟩ = some (v_list) := by rw [hW]; simp [go_sem]
  have kd4 : W.cell? ⟨w.heap.size, 4, none⟩ = some (v_seen) := by rw [hW]; simp [go_sem]
  have zr : w.heap.size + 1 < W.heap.size := by rw [hW]; first | (simp; done) | (simp; omega)
  have kr0 : W.cell? ⟨w.heap.size + 1, 0, none⟩ = some (.string ⟨#[]⟩) := by rw [hW]; simp [go_sem]
  have fr0 : W.frozen? ⟨w.heap.size + 1, 0, none⟩ = false := by rw [hW]; simp [go_sem]
  have kr1 : W.cell? ⟨w.heap.size + 1, 1, none⟩ = some (.int .i64 0) := by rw [hW]; simp [go_sem]
  have fr1 : W.frozen? ⟨w.heap.size + 1, 1, none⟩ = false := by rw [hW]; simp [go_sem]
  have kr2 : W.cell? ⟨w.heap.size + 1, 2, none⟩ = some (.slice none 0 0) := by rw [hW]; simp [go_sem]
  have fr2 : W.frozen? ⟨w.heap.size + 1, 2, none⟩ = false := by rw [hW]; simp [go_sem]
  have kr3 : W.cell? ⟨w.heap.size + 1, 3, none⟩ = some (.slice none 0 0) := by rw [hW]; simp [go_sem]
  have fr3 : W.frozen? ⟨w.heap.size + 1, 3, none⟩ = false := by rw [hW]; simp [go_sem]
  have kr4 : W.cell? ⟨w.heap.size + 1, 4, none⟩ = some (.slice none 0 0) := by rw [hW]; simp [go_sem]
  have fr4 : W.frozen? ⟨w.heap.size + 1, 4, none⟩ = false := by rw [hW]; simp [go_sem]
  have HXT := Lib.hid (h_text.below hWB)
  have HXL := Lib.hid (h_list.below hWB)
  have HXS := Lib.hid (h_seen.below hWB)
  have hll := fun w1 ty => h_list.len Try.underlying29 w1 ty
  clear h_text h_list h_seen
  by_cases hd : docOk d = true
  rotate_left
  · have HV := Lib.hid (forget_no (n := n) fun h => hd h.1)
    have hd : docOk d = false := by simpa using hd
    go_enter Try.func43, Try.ntmps43
    go_wp2_with fail
    rw [← hW]
    clear hW
    go_wp2_with fail
    refine (spec_DocOk_c d _ _ _ _ n_name (HXT.out.below (by repeat' (first | (with_reducible exact Below.refl _ _) | (with_reducible assumption) | (with_reducible refine Below.setCell ?_ ?_ _) | (with_reducible refine Below.alloc ?_ ?_ _) | (with_reducible refine Below.drew ?_) | (with_reducible refine belowN ?_ _) | (with_reducible refine below_after ?_ (by assumption) ?_) | omega | (simp; done) | (simp; omega)))) (HXL.out.below (by repeat' (first | (with_reducible exact Below.refl _ _) | (with_reducible assumption) | (with_reducible refine Below.setCell ?_ ?_ _) | (with_reducible refine Below.alloc ?_ ?_ _) | (with_reducible refine Below.drew ?_) | (with_reducible refine belowN ?_ _) | (with_reducible refine below_after ?_ (by assumption) ?_) | omega | (simp; done) | (simp; omega)))) (HXS.out.below (by repeat' (first | (with_reducible exact Below.refl _ _) | (with_reducible assumption) | (with_reducible refine Below.setCell ?_ ?_ _) | (with_reducible refine Below.alloc ?_ ?_ _) | (with_reducible refine Below.drew ?_) | (with_reducible refine belowN ?_ _) | (with_reducible refine below_after ?_ (by assumption) ?_) | omega | (simp; done) | (simp; omega))))).mono ?_
    rintro e' w1 ⟨rfl, hb1⟩
    rw [hd]
    have B1 : Below W.heap.size W w1 := (show Below W.heap.size W _ from (by repeat' (first | (with_reducible exact Below.refl _ _) | (with_reducible assumption) | (with_reducible refine Below.setCell ?_ ?_ _) | (with_reducible refine Below.alloc ?_ ?_ _) | (with_reducible refine Below.drew ?_) | (with_reducible refine belowN ?_ _) | (with_reducible refine below_after ?_ (by assumption) ?_) | omega | (simp; done) | (simp; omega)))).trans (hb1.mono (by first | omega | (simp; done) | (simp; omega)))
    have s1 := B1.size
    have z1d : w.heap.size < w1.heap.size := Nat.lt_of_lt_of_le zd s1
    have y1d0 := (B1.cell (p := ⟨w.heap.size, 0, none⟩) zd).trans kd0
    have y1d1 := (B1.cell (p := ⟨w.heap.size, 1, none⟩) zd).trans kd1
    have y1d2 := (B1.cell (p := ⟨w.heap.size, 2, none⟩) zd).trans kd2
    have y1d3 := (B1.cell (p := ⟨w.heap.size, 3, none⟩) zd).trans kd3
    have y1d4 := (B1.cell (p := ⟨w.heap.size, 4, none⟩) zd).trans kd4
    have z1r : w.heap.size + 1 < w1.heap.size := Nat.lt_of_lt_of_le zr s1
    have y1r0 := (B1.cell (p := ⟨w.heap.size + 1, 0, none⟩) zr).trans kr0
    have t1r0 := (B1.frozen (p := ⟨w.heap.size + 1, 0, none⟩) zr).trans fr0
    have y1r1 := (B1.cell (p := ⟨w.heap.size + 1, 1, none⟩) zr).trans kr1
    have t1r1 := (B1.frozen (p := ⟨w.heap.size + 1, 1, none⟩) zr).trans fr1
    have y1r2 := (B1.cell (p := ⟨w.heap.size + 1, 2, none⟩) zr).trans kr2
    have t1r2 := (B1.frozen (p := ⟨w.heap.size + 1, 2, none⟩) zr).trans fr2
    have y1r3 := (B1.cell (p := ⟨w.heap.size + 1, 3, none⟩) zr).trans kr3
    have t1r3 := (B1.frozen (p := ⟨w.heap.size + 1, 3, none⟩) zr).trans fr3
    have y1r4 := (B1.cell (p := ⟨w.heap.size + 1, 4, none⟩) zr).trans kr4
    have t1r4 := (B1.frozen (p := ⟨w.heap.size + 1, 4, none⟩) zr).trans fr4
    clear hb1
    go_wp2
    have HB : Hid (Below w.heap.size w (((((w1.setCell ⟨w.heap.size + 1, 0, none⟩ (.string ⟨#[]⟩)).setCell ⟨w.heap.size + 1, 1, none⟩ (.int .i64 0)).setCell ⟨w.heap.size + 1, 2, none⟩ (.slice none 0 0)).setCell ⟨w.heap.size + 1, 3, none⟩ (.slice none 0 0)).setCell ⟨w.heap.size + 1, 4, none⟩ (.slice none 0 0))) := Lib.hid ((((((hWB.trans (B1.mono (by omega))).setCell (by simp) _).setCell (by simp) _).setCell (by simp) _).setCell (by simp) _).setCell (by simp) _)
    rw [HV.out]
    exact bodyPost_ret (v := .tuple #[.agg #[.string ⟨#[]⟩, .int .i64 0, .slice none 0 0, .slice none 0 0, .slice none 0 0], .bool false]) (by simp [results, Try.results43, go_sem, cell_setCell, *]) rfl ⟨_, _, _, [], [], [], rfl, Sl.nil, Sl.nil, Sl.nil, le_BIG (Nat.zero_le _), by simpa using Fresh.nil _ _, HB.out⟩
  by_cases hn : 0 ≤ n
  rotate_left
  · have HV := Lib.hid (forget_no (d := d) fun h => hn h.2)
    have hn1 : decide (n < 0) = true := by rw [decide_eq_true_eq]; omega
    go_enter Try.func43, Try.ntmps43
    go_wp2_with fail
    rw [← hW]
    clear hW
    go_wp2_with fail
    refine (spec_DocOk_c d _ _ _ _ n_name (HXT.out.below (by repeat' (first | (with_reducible exact Below.refl _ _) | (with_reducible assumption) | (with_reducible refine Below.setCell ?_ ?_ _) | (with_reducible refine Below.alloc ?_ ?_ _) | (with_reducible refine Below.drew ?_) | (with_reducible refine belowN ?_ _) | (with_reducible refine below_after ?_ (by assumption) ?_) | omega | (simp; done) | (simp; omega)))) (HXL.out.below (by repeat' (first | (with_reducible exact Below.refl _ _) | (with_reducible assumption) | (with_reducible refine Below.setCell ?_ ?_ _) | (with_reducible refine Below.alloc ?_ ?_ _) | (with_reducible refine Below.drew ?_) | (with_reducible refine belowN ?_ _) | (with_reducible refine below_after ?_ (by assumption) ?_) | omega | (simp; done) | (simp; omega)))) (HXS.out.below (by repeat' (first | (with_reducible exact Below.refl _ _) | (with_reducible assumption) | (with_reducible refine Below.setCell ?_ ?_ _) | (with_reducible refine Below.alloc ?_ ?_ _) | (with_reducible refine Below.drew ?_) | (with_reducible refine belowN ?_ _) | (with_reducible refine below_after ?_ (by assumption) ?_) | omega | (simp; done) | (simp; omega))))).mono ?_
    rintro e' w1 ⟨rfl, hb1⟩
    rw [hd]
    have B1 : Below W.heap.size W w1 := (show Below W.heap.size W _ from (by repeat' (first | (with_reducible exact Below.refl _ _) | (with_reducible assumption) | (with_reducible refine Below.setCell ?_ ?_ _) | (with_reducible refine Below.alloc ?_ ?_ _) | (with_reducible refine Below.drew ?_) | (with_reducible refine belowN ?_ _) | (with_reducible refine below_after ?_ (by assumption) ?_) | omega | (simp; done) | (simp; omega)))).trans (hb1.mono (by first | omega | (simp; done) | (simp; omega)))
    have s1 := B1.size
    have z1d : w.heap.size < w1.heap.size := Nat.lt_of_lt_of_le zd s1
    have y1d0 := (B1.cell (p := ⟨w.heap.size, 0, none⟩) zd).trans kd0
    have y1d1 := (B1.cell (p := ⟨w.heap.size, 1, none⟩) zd).trans kd1
    have y1d2 := (B1.cell (p := ⟨w.heap.size, 2, none⟩) zd).trans kd2
    have y1d3 := (B1.cell (p := ⟨w.heap.size, 3, none⟩) zd).trans kd3
    have y1d4 := (B1.cell (p := ⟨w.heap.size, 4, none⟩) zd).trans kd4
    have z1r : w.heap.size + 1 < w1.heap.size := Nat.lt_of_lt_of_le zr s1
    have y1r0 := (B1.cell (p := ⟨w.heap.size + 1, 0, none⟩) zr).trans kr0
    have t1r0 := (B1.frozen (p := ⟨w.heap.size + 1, 0, none⟩) zr).trans fr0
    have y1r1 := (B1.cell (p := ⟨w.heap.size + 1, 1, none⟩) zr).trans kr1
    have t1r1 := (B1.frozen (p := ⟨w.heap.size + 1, 1, none⟩) zr).trans fr1
    have y1r2 := (B1.cell (p := ⟨w.heap.size + 1, 2, none⟩) zr).trans kr2
    have t1r2 := (B1.frozen (p := ⟨w.heap.size + 1, 2, none⟩) zr).trans fr2
    have y1r3 := (B1.cell (p := ⟨w.heap.size + 1, 3, none⟩) zr).trans kr3
    have t1r3 := (B1.frozen (p := ⟨w.heap.size + 1, 3, none⟩) zr).trans fr3
    have y1r4 := (B1.cell (p := ⟨w.heap.size + 1, 4, none⟩) zr).trans kr4
    have t1r4 := (B1.frozen (p := ⟨w.heap.size + 1, 4, none⟩) zr).trans fr4
    clear hb1
    go_wp2
    have HB : Hid (Below w.heap.size w (((((w1.setCell ⟨w.heap.size + 1, 0, none⟩ (.string ⟨#[]⟩)).setCell ⟨w.heap.size + 1, 1, none⟩ (.int .i64 0)).setCell ⟨w.heap.size + 1, 2, none⟩ (.slice none 0 0)).setCell ⟨w.heap.size + 1, 3, none⟩ (.slice none 0 0)).setCell ⟨w.heap.size + 1, 4, none⟩ (.slice none 0 0))) := Lib.hid ((((((hWB.trans (B1.mono (by omega))).setCell (by simp) _).setCell (by simp) _).setCell (by simp) _).setCell (by simp) _).setCell (by simp) _)
    rw [HV.out]
    exact bodyPost_ret (v := .tuple #[.agg #[.string ⟨#[]⟩, .int .i64 0, .slice none 0 0, .slice none 0 0, .slice none 0 0], .bool false]) (by simp [results, Try.results43, go_sem, cell_setCell, *]) rfl ⟨_, _, _, [], [], [], rfl, Sl.nil, Sl.nil, Sl.nil, le_BIG (Nat.zero_le _), by simpa using Fresh.nil _ _, HB.out⟩
  have hn1 : decide (n < 0) = false := by rw [decide_eq_false_iff_not]; omega
  obtain ⟨bt, bl, bs⟩ := docOk_sizes hd
  have hp := docOk_iff.1 hd
  have hl8 := hp.len
  have hbd := headRev_bd hd
  clear hp
  have hwn : IntKind.i64.wrap ((d.list.length : Int) - n) = (d.list.length : Int) - n := IntWalk.i64_in _ (by omega)
  by_cases h2 : 0 < (d.list.length : Int) - n
  rotate_left
  · have HV := Lib.hid (forget_all ⟨hd, hn⟩ h2)
    have h3 : decide ((d.list.length : Int) - n ≤ 0) = true := by rw [decide_eq_true_eq]; omega
    have h4 : decide (0 < (d.list.length : Int) - n) = false := by rw [decide_eq_false_iff_not]; omega
    have h5 : (d.list.length : Int) ≤ n := by omega
    go_enter Try.func43, Try.ntmps43
    go_wp2_with fail
    rw [← hW]
    clear hW
    go_wp2_with fail
    refine (spec_DocOk_c d _ _ _ _ n_name (HXT.out.below (by repeat' (first | (with_reducible exact Below.refl _ _) | (with_reducible assumption) | (with_reducible refine Below.setCell ?_ ?_ _) | (with_reducible refine Below.alloc ?_ ?_ _) | (with_reducible refine Below.drew ?_) | (with_reducible refine belowN ?_ _) | (with_reducible refine below_after ?_ (by assumption) ?_) | omega | (simp; done) | (simp; omega)))) (HXL.out.below (by repeat' (first | (with_reducible exact Below.refl _ _) | (with_reducible assumption) | (with_reducible refine Below.setCell ?_ ?_ _) | (with_reducible refine Below.alloc ?_ ?_ _) | (with_reducible refine Below.drew ?_) | (with_reducible refine belowN ?_ _) | (with_reducible refine below_after ?_ (by assumption) ?_) | omega | (simp; done) | (simp; omega)))) (HXS.out.below (by repeat' (first | (with_reducible exact Below.refl _ _) | (with_reducible assumption) | (with_reducible refine Below.setCell ?_ ?_ _) | (with_reducible refine Below.alloc ?_ ?_ _) | (with_reducible refine Below.drew ?_) | (with_reducible refine belowN ?_ _) | (with_reducible refine below_after ?_ (by assumption) ?_) | omega | (simp; done) | (simp; omega))))).mono ?_
    rintro e' w1 ⟨rfl, hb1⟩
    rw [hd]
    have B1 : Below W.heap.size W w1 := (show Below W.heap.size W _ from (by repeat' (first | (with_reducible exact Below.refl _ _) | (with_reducible assumption) | (with_reducible refine Below.setCell ?_ ?_ _) | (with_reducible refine Below.alloc ?_ ?_ _) | (with_reducible refine Below.drew ?_) | (with_reducible refine belowN ?_ _) | (with_reducible refine below_after ?_ (by assumption) ?_) | omega | (simp; done) | (simp; omega)))).trans (hb1.mono (by first | omega | (simp; done) | (simp; omega)))
    have s1 := B1.size
    have z1d : w.heap.size < w1.heap.size := Nat.lt_of_lt_of_le zd s1
    have y1d0 := (B1.cell (p := ⟨w.heap.size, 0, none⟩) zd).trans kd0
    have y1d1 := (B1.cell (p := ⟨w.heap.size, 1, none⟩) zd).trans kd1
    have y1d2 := (B1.cell (p := ⟨w.heap.size, 2, none⟩) zd).trans kd2
    have y1d3 := (B1.cell (p := ⟨w.heap.size, 3, none⟩) zd).trans kd3
    have y1d4 := (B1.cell (p := ⟨w.heap.size, 4, none⟩) zd).trans kd4
    have z1r : w.heap.size + 1 < w1.heap.size := Nat.lt_of_lt_of_le zr s1
    have y1r0 := (B1.cell (p := ⟨w.heap.size + 1, 0, none⟩) zr).trans kr0
    have t1r0 := (B1.frozen (p := ⟨w.heap.size + 1, 0, none⟩) zr).trans fr0
    have y1r1 := (B1.cell (p := ⟨w.heap.size + 1, 1, none⟩) zr).trans kr1
    have t1r1 := (B1.frozen (p := ⟨w.heap.size + 1, 1, none⟩) zr).trans fr1
    have y1r2 := (B1.cell (p := ⟨w.heap.size + 1, 2, none⟩) zr).trans kr2
    have t1r2 := (B1.frozen (p := ⟨w.heap.size + 1, 2, none⟩) zr).trans fr2
    have y1r3 := (B1.cell (p := ⟨w.heap.size + 1, 3, none⟩) zr).trans kr3
    have t1r3 := (B1.frozen (p := ⟨w.heap.size + 1, 3, none⟩) zr).trans fr3
    have y1r4 := (B1.cell (p := ⟨w.heap.size + 1, 4, none⟩) zr).trans kr4
    have t1r4 := (B1.frozen (p := ⟨w.heap.size + 1, 4, none⟩) zr).trans fr4
    clear hb1
    go_wp2_with fail
    refine (spec_l08Copy_c d _ _ _ _ n_name (HXT.out.below (by repeat' (first | (with_reducible exact Below.refl _ _) | (with_reducible assumption) | (with_reducible refine Below.setCell ?_ ?_ _) | (with_reducible refine Below.alloc ?_ ?_ _) | (with_reducible refine Below.drew ?_) | (with_reducible refine belowN ?_ _) | (with_reducible refine below_after ?_ (by assumption) ?_) | omega | (simp; done) | (simp; omega)))) (HXL.out.below (by repeat' (first | (with_reducible exact Below.refl _ _) | (with_reducible assumption) | (with_reducible refine Below.setCell ?_ ?_ _) | (with_reducible refine Below.alloc ?_ ?_ _) | (with_reducible refine Below.drew ?_) | (with_reducible refine belowN ?_ _) | (with_reducible refine below_after ?_ (by assumption) ?_) | omega | (simp; done) | (simp; omega)))) (HXS.out.below (by repeat' (first | (with_reducible exact Below.refl _ _) | (with_reducible assumption) | (with_reducible refine Below.setCell ?_ ?_ _) | (with_reducible refine Below.alloc ?_ ?_ _) | (with_reducible refine Below.drew ?_) | (with_reducible refine belowN ?_ _) | (with_reducible refine below_after ?_ (by assumption) ?_) | omega | (simp; done) | (simp; omega)))) bt bl bs).mono ?_
    rintro e' w2 ⟨_, rfl, ⟨fp2, hrd2, hfr2⟩, hb2⟩
    obtain ⟨v2t, v2l, v2s, f2t, f2l, f2s, rfl, n2, S2t, S2l, S2s, rfl⟩ := hrd2
    obtain ⟨a2t, c2t, rfl⟩ := RdS.isSlice ⟨_, S2t⟩
    obtain ⟨a2l, c2l, rfl⟩ := RdS.isSlice ⟨_, S2l⟩
    obtain ⟨a2s, c2s, rfl⟩ := RdS.isSlice ⟨_, S2s⟩
    have HFR2 : Hid (Fresh W.heap.size w2 (f2t ++ (f2l ++ f2s))) := Lib.hid (hfr2.mono (by first | omega | (simp; omega)))
    have HS2t := Lib.hid S2t
    have HS2l := Lib.hid S2l
    have HS2s := Lib.hid S2s
    clear hfr2 S2t S2l S2s
    have B2 : Below W.heap.size W w2 := (show Below W.heap.size W _ from (by repeat' (first | (with_reducible exact Below.refl _ _) | (with_reducible assumption) | (with_reducible refine Below.setCell ?_ ?_ _) | (with_reducible refine Below.alloc ?_ ?_ _) | (with_reducible refine Below.drew ?_) | (with_reducible refine belowN ?_ _) | (with_reducible refine below_after ?_ (by assumption) ?_) | omega | (simp; done) | (simp; omega)))).trans (hb2.mono (by first | omega | (simp; done) | (simp; omega)))
    have s2 := B2.size
    have z2d : w.heap.size < w2.heap.size := Nat.lt_of_lt_of_le zd s2
    have y2d0 := (B2.cell (p := ⟨w.heap.size, 0, none⟩) zd).trans kd0
    have y2d1 := (B2.cell (p := ⟨w.heap.size, 1, none⟩) zd).trans kd1
    have y2d2 := (B2.cell (p := ⟨w.heap.size, 2, none⟩) zd).trans kd2
    have y2d3 := (B2.cell (p := ⟨w.heap.size, 3, none⟩) zd).trans kd3
    have y2d4 := (B2.cell (p := ⟨w.heap.size, 4, none⟩) zd).trans kd4
    have z2r : w.heap.size + 1 < w2.heap.size := Nat.lt_of_lt_of_le zr s2
    have y2r0 := (B2.cell (p := ⟨w.heap.size + 1, 0, none⟩) zr).trans kr0
    have t2r0 := (B2.frozen (p := ⟨w.heap.size + 1, 0, none⟩) zr).trans fr0
    have y2r1 := (B2.cell (p := ⟨w.heap.size + 1, 1, none⟩) zr).trans kr1
    have t2r1 := (B2.frozen (p := ⟨w.heap.size + 1, 1, none⟩) zr).trans fr1
    have y2r2 := (B2.cell (p := ⟨w.heap.size + 1, 2, none⟩) zr).trans kr2
    have t2r2 := (B2.frozen (p := ⟨w.heap.size + 1, 2, none⟩) zr).trans fr2
    have y2r3 := (B2.cell (p := ⟨w.heap.size + 1, 3, none⟩) zr).trans kr3
    have t2r3 := (B2.frozen (p := ⟨w.heap.size + 1, 3, none⟩) zr).trans fr3
    have y2r4 := (B2.cell (p := ⟨w.heap.size + 1, 4, none⟩) zr).trans kr4
    have t2r4 := (B2.frozen (p := ⟨w.heap.size + 1, 4, none⟩) zr).trans fr4
    clear hb2
    skip
    skip
    go_upto_region 4 with (fail)
    obtain ⟨V, hV⟩ : ∃ V : World, V = w2.alloc (.cells #[.string d.name, .int .i64 d.from_, .slice a2t d.text.length c2t, .slice a2l d.list.length c2l, .slice a2s d.seen.length c2s] 32) := ⟨_, rfl⟩
    have hVB : Below w2.heap.size w2 V := by rw [hV]; exact (Below.refl _ _).alloc (Nat.le_refl _) _
    have sV : w2.heap.size + 1 ≤ V.heap.size := by rw [hV]; simp
    have hWV : Below W.heap.size W V := B2.trans (hVB.mono (by omega))
    have zdd : w.heap.size < V.heap.size := by omega
    have zrr : w.heap.size + 1 < V.heap.size := by omega
    have zoo : w2.heap.size < V.heap.size := by omega
    have kdd0 : V.cell? ⟨w.heap.size, 0, none⟩ = some (.string d.name) := (hVB.cell (p := ⟨w.heap.size, 0, none⟩) z2d).trans y2d0
    have kdd1 : V.cell? ⟨w.heap.size, 1, none⟩ = some (.int .i64 d.from_) := (hVB.cell (p := ⟨w.heap.size, 1, none⟩) z2d).trans y2d1
    have kdd2 : V.cell? ⟨w.heap.size, 2, none⟩ = some (v_text) := (hVB.cell (p := ⟨w.heap.size, 2, none⟩) z2d).trans y2d2
    have kdd3 : V.cell? ⟨w.heap.size, 3, none⟩ = some (v_list) := (hVB.cell (p := ⟨w.heap.size, 3, none⟩) z2d).trans y2d3
    have kdd4 : V.cell? ⟨w.heap.size, 4, none⟩ = some (v_seen) := (hVB.cell (p := ⟨w.heap.size, 4, none⟩) z2d).trans y2d4
    have krr0 : V.cell? ⟨w.heap.size + 1, 0, none⟩ = some (.string ⟨#[]⟩) := (hVB.cell (p := ⟨w.heap.size + 1, 0, none⟩) z2r).trans y2r0
    have frr0 : V.frozen? ⟨w.heap.size + 1, 0, none⟩ = false := (hVB.frozen (p := ⟨w.heap.size + 1, 0, none⟩) z2r).trans t2r0
    have krr1 : V.cell? ⟨w.heap.size + 1, 1, none⟩ = some (.int .i64 0) := (hVB.cell (p := ⟨w.heap.size + 1, 1, none⟩) z2r).trans y2r1
    have frr1 : V.frozen? ⟨w.heap.size + 1, 1, none⟩ = false := (hVB.frozen (p := ⟨w.heap.size + 1, 1, none⟩) z2r).trans t2r1
    have krr2 : V.cell? ⟨w.heap.size + 1, 2, none⟩ = some (.slice none 0 0) := (hVB.cell (p := ⟨w.heap.size + 1, 2, none⟩) z2r).trans y2r2
    have frr2 : V.frozen? ⟨w.heap.size + 1, 2, none⟩ = false := (hVB.frozen (p := ⟨w.heap.size + 1, 2, none⟩) z2r).trans t2r2
    have krr3 : V.cell? ⟨w.heap.size + 1, 3, none⟩ = some (.slice none 0 0) := (hVB.cell (p := ⟨w.heap.size + 1, 3, none⟩) z2r).trans y2r3
    have frr3 : V.frozen? ⟨w.heap.size + 1, 3, none⟩ = false := (hVB.frozen (p := ⟨w.heap.size + 1, 3, none⟩) z2r).trans t2r3
    have krr4 : V.cell? ⟨w.heap.size + 1, 4, none⟩ = some (.slice none 0 0) := (hVB.cell (p := ⟨w.heap.size + 1, 4, none⟩) z2r).trans y2r4
    have frr4 : V.frozen? ⟨w.heap.size + 1, 4, none⟩ = false := (hVB.frozen (p := ⟨w.heap.size + 1, 4, none⟩) z2r).trans t2r4
    have koo0 : V.cell? ⟨w2.heap.size, 0, none⟩ = some (.string d.name) := by rw [hV]; simp [go_sem]
    have foo0 : V.frozen? ⟨w2.heap.size, 0, none⟩ = false := by rw [hV]; simp [go_sem]
    have koo1 : V.cell? ⟨w2.heap.size, 1, none⟩ = some (.int .i64 d.from_) := by rw [hV]; simp [go_sem]
    have foo1 : V.frozen? ⟨w2.heap.size, 1, none⟩ = false := by rw [hV]; simp [go_sem]
    have koo2 : V.cell? ⟨w2.heap.size, 2, none⟩ = some (.slice a2t d.text.length c2t) := by rw [hV]; simp [go_sem]
    have foo2 : V.frozen? ⟨w2.heap.size, 2, none⟩ = false := by rw [hV]; simp [go_sem]
    have koo3 : V.cell? ⟨w2.heap.size, 3, none⟩ = some (.slice a2l d.list.length c2l) := by rw [hV]; simp [go_sem]
    have foo3 : V.frozen? ⟨w2.heap.size, 3, none⟩ = false := by rw [hV]; simp [go_sem]
    have koo4 : V.cell? ⟨w2.heap.size, 4, none⟩ = some (.slice a2s d.seen.length c2s) := by rw [hV]; simp [go_sem]
    have foo4 : V.frozen? ⟨w2.heap.size, 4, none⟩ = false := by rw [hV]; simp [go_sem]
    rw [← hV]
    clear hV
    have HFV : Hid (Fresh W.heap.size V (f2t ++ (f2l ++ f2s))) := Lib.hid (HFR2.out.belowL hVB (Live.lt (Live.append.2 ⟨HS2t.out.live, Live.append.2 ⟨HS2l.out.live, HS2s.out.live⟩⟩)))
    have HVt := Lib.hid (HS2t.out.belowW hVB)
    have HVl := Lib.hid (HS2l.out.belowW hVB)
    have HVs := Lib.hid (HS2s.out.belowW hVB)
    have HLV : Hid (∀ p ∈ f2t ++ (f2l ++ f2s), p.1 < w2.heap.size) := Lib.hid (Live.lt (Live.append.2 ⟨HS2t.out.live, Live.append.2 ⟨HS2l.out.live, HS2s.out.live⟩⟩))
    have hne1 : ¬ (w.heap.size + 1 = w2.heap.size) := by omega
    have hne2 : ¬ (w2.heap.size = w.heap.size + 1) := by omega
    have hne3 : ¬ (w.heap.size = w2.heap.size) := by omega
    have HFRV := Lib.hid HFV.out
    have HB : Hid (Below w.heap.size w (((((V.setCell ⟨w.heap.size + 1, 0, none⟩ (.string d.name)).setCell ⟨w.heap.size + 1, 1, none⟩ (.int .i64 d.from_)).setCell ⟨w.heap.size + 1, 2, none⟩ (.slice a2t d.text.length c2t)).setCell ⟨w.heap.size + 1, 3, none⟩ (.slice a2l d.list.length c2l)).setCell ⟨w.heap.size + 1, 4, none⟩ (.slice a2s d.seen.length c2s))) := Lib.hid ((((((hWB.trans (hWV.mono (by omega))).setCell (by first | (simp; done) | (simp; omega)) (.string d.name)).setCell (by first | (simp; done) | (simp; omega)) (.int .i64 d.from_)).setCell (by first | (simp; done) | (simp; omega)) (.slice a2t d.text.length c2t)).setCell (by first | (simp; done) | (simp; omega)) (.slice a2l d.list.length c2l)).setCell (by first | (simp; done) | (simp; omega)) (.slice a2s d.seen.length c2s))
    have HNR : Hid (∀ j, ∀ f, ((w.heap.size + 1, j) : Pos) ∈ f → f = f2t ++ (f2l ++ f2s) → False) := Lib.hid (by rintro j f hm rfl; have := HFV.out.ge _ hm; simp only at this; omega)
    go_wp2
    rw [HV.out]
    exact bodyPost_ret (v := .tuple #[.agg #[.string d.name, .int .i64 d.from_, .slice a2t d.text.length c2t, .slice a2l d.list.length c2l, .slice a2s d.seen.length c2s], .bool true]) (by simp [results, Try.results43, go_sem, cell_setCell, *]) rfl ⟨_, _, _, f2t, f2l, f2s, rfl, (((((HVt.out.put (b := w.heap.size + 1) (o := 0) (fun hm => HNR.out 0 _ (List.mem_append.2 (.inl hm)) rfl) (.string d.name)).put (b := w.heap.size + 1) (o := 1) (fun hm => HNR.out 1 _ (List.mem_append.2 (.inl hm)) rfl) (.int .i64 d.from_)).put (b := w.heap.size + 1) (o := 2) (fun hm => HNR.out 2 _ (List.mem_append.2 (.inl hm)) rfl) (.slice a2t d.text.length c2t)).put (b := w.heap.size + 1) (o := 3) (fun hm => HNR.out 3 _ (List.mem_append.2 (.inl hm)) rfl) (.slice a2l d.list.length c2l)).put (b := w.heap.size + 1) (o := 4) (fun hm => HNR.out 4 _ (List.mem_append.2 (.inl hm)) rfl) (.slice a2s d.seen.length c2s)), (((((HVl.out.put (b := w.heap.size + 1) (o := 0) (fun hm => HNR.out 0 _ (List.mem_append.2 (.inr (List.mem_append.2 (.inl hm)))) rfl) (.string d.name)).put (b := w.heap.size + 1) (o := 1) (fun hm => HNR.out 1 _ (List.mem_append.2 (.inr (List.mem_append.2 (.inl hm)))) rfl) (.int .i64 d.from_)).put (b := w.heap.size + 1) (o := 2) (fun hm => HNR.out 2 _ (List.mem_append.2 (.inr (List.mem_append.2 (.inl hm)))) rfl) (.slice a2t d.text.length c2t)).put (b := w.heap.size + 1) (o := 3) (fun hm => HNR.out 3 _ (List.mem_append.2 (.inr (List.mem_append.2 (.inl hm)))) rfl) (.slice a2l d.list.length c2l)).put (b := w.heap.size + 1) (o := 4) (fun hm => HNR.out 4 _ (List.mem_append.2 (.inr (List.mem_append.2 (.inl hm)))) rfl) (.slice a2s d.seen.length c2s)), (((((HVs.out.put (b := w.heap.size + 1) (o := 0) (fun hm => HNR.out 0 _ (List.mem_append.2 (.inr (List.mem_append.2 (.inr hm)))) rfl) (.string d.name)).put (b := w.heap.size + 1) (o := 1) (fun hm => HNR.out 1 _ (List.mem_append.2 (.inr (List.mem_append.2 (.inr hm)))) rfl) (.int .i64 d.from_)).put (b := w.heap.size + 1) (o := 2) (fun hm => HNR.out 2 _ (List.mem_append.2 (.inr (List.mem_append.2 (.inr hm)))) rfl) (.slice a2t d.text.length c2t)).put (b := w.heap.size + 1) (o := 3) (fun hm => HNR.out 3 _ (List.mem_append.2 (.inr (List.mem_append.2 (.inr hm)))) rfl) (.slice a2l d.list.length c2l)).put (b := w.heap.size + 1) (o := 4) (fun hm => HNR.out 4 _ (List.mem_append.2 (.inr (List.mem_append.2 (.inr hm)))) rfl) (.slice a2s d.seen.length c2s)), n_name, ((((((HFV.out.mono (by omega)).put ⟨w.heap.size + 1, 0, none⟩ (.string d.name)).put ⟨w.heap.size + 1, 1, none⟩ (.int .i64 d.from_)).put ⟨w.heap.size + 1, 2, none⟩ (.slice a2t d.text.length c2t)).put ⟨w.heap.size + 1, 3, none⟩ (.slice a2l d.list.length c2l)).put ⟨w.heap.size + 1, 4, none⟩ (.slice a2s d.seen.length c2s)), HB.out⟩
  have HV := Lib.hid (forget_some ⟨hd, hn⟩ h2)
  have h3 : decide ((d.list.length : Int) - n ≤ 0) = false := by rw [decide_eq_false_iff_not]; omega
  have h4 : decide (0 < (d.list.length : Int) - n) = true := by rw [decide_eq_true_eq]; omega
  obtain ⟨G, hG⟩ : ∃ G : Nat, ((d.list.length : Int) - n).toNat = G := ⟨_, rfl⟩
  have hGi : (G : Int) = (d.list.length : Int) - n := by omega
  have hGl : G ≤ d.list.length := by omega
  obtain ⟨LD, hLD⟩ : ∃ LD, d.list.drop G = LD := ⟨_, rfl⟩
  have hszd : szL LD ≤ 4000000 := by rw [← hLD]; exact Nat.le_trans (szL_drop _ _) bl
  replace HV := Lib.hid (HV.out.trans (by rw [hG, hLD]))
  have HG := Lib.hid hGi
  clear hG
  obtain ⟨vc, hcut, hcr⟩ := HXL.out.cutl Try.underlying29 szi_DEntry hGl
  rw [hGi] at hcut
  rw [hLD] at hcr
  have HCR := Lib.hid hcr
  clear hcr hGi hLD
  go_enter Try.func43, Try.ntmps43
  go_wp2_with fail
  rw [← hW]
  clear hW
  go_wp2_with fail
  refine (spec_DocOk_c d _ _ _ _ n_name (HXT.out.below (by repeat' (first | (with_reducible exact Below.refl _ _) | (with_reducible assumption) | (with_reducible refine Below.setCell ?_ ?_ _) | (with_reducible refine Below.alloc ?_ ?_ _) | (with_reducible refine Below.drew ?_) | (with_reducible refine belowN ?_ _) | (with_reducible refine below_after ?_ (by assumption) ?_) | omega | (simp; done) | (simp; omega)))) (HXL.out.below (by repeat' (first | (with_reducible exact Below.refl _ _) | (with_reducible assumption) | (with_reducible refine Below.setCell ?_ ?_ _) | (with_reducible refine Below.alloc ?_ ?_ _) | (with_reducible refine Below.drew ?_) | (with_reducible refine belowN ?_ _) | (with_reducible refine below_after ?_ (by assumption) ?_) | omega | (simp; done) | (simp; omega)))) (HXS.out.below (by repeat' (first | (with_reducible exact Below.refl _ _) | (with_reducible assumption) | (with_reducible refine Below.setCell ?_ ?_ _) | (with_reducible refine Below.alloc ?_ ?_ _) | (with_reducible refine Below.drew ?_) | (with_reducible refine belowN ?_ _) | (with_reducible refine below_after ?_ (by assumption) ?_) | omega | (simp; done) | (simp; omega))))).mono ?_
  rintro e' w1 ⟨rfl, hb1⟩
  rw [hd]
  have B1 : Below W.heap.size W w1 := (show Below W.heap.size W _ from (by repeat' (first | (with_reducible exact Below.refl _ _) | (with_reducible assumption) | (with_reducible refine Below.setCell ?_ ?_ _) | (with_reducible refine Below.alloc ?_ ?_ _) | (with_reducible refine Below.drew ?_) | (with_reducible refine belowN ?_ _) | (with_reducible refine below_after ?_ (by assumption) ?_) | omega | (simp; done) | (simp; omega)))).trans (hb1.mono (by first | omega | (simp; done) | (simp; omega)))
  have s1 := B1.size
  have z1d : w.heap.size < w1.heap.size := Nat.lt_of_lt_of_le zd s1
  have y1d0 := (B1.cell (p := ⟨w.heap.size, 0, none⟩) zd).trans kd0
  have y1d1 := (B1.cell (p := ⟨w.heap.size, 1, none⟩) zd).trans kd1
  have y1d2 := (B1.cell (p := ⟨w.heap.size, 2, none⟩) zd).trans kd2
  have y1d3 := (B1.cell (p := ⟨w.heap.size, 3, none⟩) zd).trans kd3
  have y1d4 := (B1.cell (p := ⟨w.heap.size, 4, none⟩) zd).trans kd4
  have z1r : w.heap.size + 1 < w1.heap.size := Nat.lt_of_lt_of_le zr s1
  have y1r0 := (B1.cell (p := ⟨w.heap.size + 1, 0, none⟩) zr).trans kr0
  have t1r0 := (B1.frozen (p := ⟨w.heap.size + 1, 0, none⟩) zr).trans fr0
  have y1r1 := (B1.cell (p := ⟨w.heap.size + 1, 1, none⟩) zr).trans kr1
  have t1r1 := (B1.frozen (p := ⟨w.heap.size + 1, 1, none⟩) zr).trans fr1
  have y1r2 := (B1.cell (p := ⟨w.heap.size + 1, 2, none⟩) zr).trans kr2
  have t1r2 := (B1.frozen (p := ⟨w.heap.size + 1, 2, none⟩) zr).trans fr2
  have y1r3 := (B1.cell (p := ⟨w.heap.size + 1, 3, none⟩) zr).trans kr3
  have t1r3 := (B1.frozen (p := ⟨w.heap.size + 1, 3, none⟩) zr).trans fr3
  have y1r4 := (B1.cell (p := ⟨w.heap.size + 1, 4, none⟩) zr).trans kr4
  have t1r4 := (B1.frozen (p := ⟨w.heap.size + 1, 4, none⟩) zr).trans fr4
  clear hb1
  go_wp2_with fail
  refine (spec_l08Copy_c d _ _ _ _ n_name (HXT.out.below (by repeat' (first | (with_reducible exact Below.refl _ _) | (with_reducible assumption) | (with_reducible refine Below.setCell ?_ ?_ _) | (with_reducible refine Below.alloc ?_ ?_ _) | (with_reducible refine Below.drew ?_) | (with_reducible refine belowN ?_ _) | (with_reducible refine below_after ?_ (by assumption) ?_) | omega | (simp; done) | (simp; omega)))) (HXL.out.below (by repeat' (first | (with_reducible exact Below.refl _ _) | (with_reducible assumption) | (with_reducible refine Below.setCell ?_ ?_ _) | (with_reducible refine Below.alloc ?_ ?_ _) | (with_reducible refine Below.drew ?_) | (with_reducible refine belowN ?_ _) | (with_reducible refine below_after ?_ (by assumption) ?_) | omega | (simp; done) | (simp; omega)))) (HXS.out.below (by repeat' (first | (with_reducible exact Below.refl _ _) | (with_reducible assumption) | (with_reducible refine Below.setCell ?_ ?_ _) | (with_reducible refine Below.alloc ?_ ?_ _) | (with_reducible refine Below.drew ?_) | (with_reducible refine belowN ?_ _) | (with_reducible refine below_after ?_ (by assumption) ?_) | omega | (simp; done) | (simp; omega)))) bt bl bs).mono ?_
  rintro e' w2 ⟨_, rfl, ⟨fp2, hrd2, hfr2⟩, hb2⟩
  obtain ⟨v2t, v2l, v2s, f2t, f2l, f2s, rfl, n2, S2t, S2l, S2s, rfl⟩ := hrd2
  obtain ⟨a2t, c2t, rfl⟩ := RdS.isSlice ⟨_, S2t⟩
  obtain ⟨a2l, c2l, rfl⟩ := RdS.isSlice ⟨_, S2l⟩
  obtain ⟨a2s, c2s, rfl⟩ := RdS.isSlice ⟨_, S2s⟩
  have HFR2 : Hid (Fresh W.heap.size w2 (f2t ++ (f2l ++ f2s))) := Lib.hid (hfr2.mono (by first | omega | (simp; omega)))
  have HS2t := Lib.hid S2t
  have HS2l := Lib.hid S2l
  have HS2s := Lib.hid S2s
  clear hfr2 S2t S2l S2s
  have B2 : Below W.heap.size W w2 := (show Below W.heap.size W _ from (by repeat' (first | (with_reducible exact Below.refl _ _) | (with_reducible assumption) | (with_reducible refine Below.setCell ?_ ?_ _) | (with_reducible refine Below.alloc ?_ ?_ _) | (with_reducible refine Below.drew ?_) | (with_reducible refine belowN ?_ _) | (with_reducible refine below_after ?_ (by assumption) ?_) | omega | (simp; done) | (simp; omega)))).trans (hb2.mono (by first | omega | (simp; done) | (simp; omega)))
  have s2 := B2.size
  have z2d : w.heap.size < w2.heap.size := Nat.lt_of_lt_of_le zd s2
  have y2d0 := (B2.cell (p := ⟨w.heap.size, 0, none⟩) zd).trans kd0
  have y2d1 := (B2.cell (p := ⟨w.heap.size, 1, none⟩) zd).trans kd1
  have y2d2 := (B2.cell (p := ⟨w.heap.size, 2, none⟩) zd).trans kd2
  have y2d3 := (B2.cell (p := ⟨w.heap.size, 3, none⟩) zd).trans kd3
  have y2d4 := (B2.cell (p := ⟨w.heap.size, 4, none⟩) zd).trans kd4
  have z2r : w.heap.size + 1 < w2.heap.size := Nat.lt_of_lt_of_le zr s2
  have y2r0 := (B2.cell (p := ⟨w.heap.size + 1, 0, none⟩) zr).trans kr0
  have t2r0 := (B2.frozen (p := ⟨w.heap.size + 1, 0, none⟩) zr).trans fr0
  have y2r1 := (B2.cell (p := ⟨w.heap.size + 1, 1, none⟩) zr).trans kr1
  have t2r1 := (B2.frozen (p := ⟨w.heap.size + 1, 1, none⟩) zr).trans fr1
  have y2r2 := (B2.cell (p := ⟨w.heap.size + 1, 2, none⟩) zr).trans kr2
  have t2r2 := (B2.frozen (p := ⟨w.heap.size + 1, 2, none⟩) zr).trans fr2
  have y2r3 := (B2.cell (p := ⟨w.heap.size + 1, 3, none⟩) zr).trans kr3
  have t2r3 := (B2.frozen (p := ⟨w.heap.size + 1, 3, none⟩) zr).trans fr3
  have y2r4 := (B2.cell (p := ⟨w.heap.size + 1, 4, none⟩) zr).trans kr4
  have t2r4 := (B2.frozen (p := ⟨w.heap.size + 1, 4, none⟩) zr).trans fr4
  clear hb2
  skip
  go_upto_region 4 with (fail)
  obtain ⟨V, hV⟩ : ∃ V : World, V = w2.alloc (.cells #[.string d.name, .int .i64 d.from_, .slice a2t d.text.length c2t, .slice a2l d.list.length c2l, .slice a2s d.seen.length c2s] 32) := ⟨_, rfl⟩
  have hVB : Below w2.heap.size w2 V := by rw [hV]; exact (Below.refl _ _).alloc (Nat.le_refl _) _
  have sV : w2.heap.size + 1 ≤ V.heap.size := by rw [hV]; simp
  have hWV : Below W.heap.size W V := B2.trans (hVB.mono (by omega))
  have zdd : w.heap.size < V.heap.size := by omega
  have zrr : w.heap.size + 1 < V.heap.size := by omega
  have zoo : w2.heap.size < V.heap.size := by omega
  have kdd0 : V.cell? ⟨w.heap.size, 0, none⟩ = some (.string d.name) := (hVB.cell (p := ⟨w.heap.size, 0, none⟩) z2d).trans y2d0
  have kdd1 : V.cell? ⟨w.heap.size, 1, none⟩ = some (.int .i64 d.from_) := (hVB.cell (p := ⟨w.heap.size, 1, none⟩) z2d).trans y2d1
  have kdd2 : V.cell? ⟨w.heap.size, 2, none⟩ = some (v_text) := (hVB.cell (p := ⟨w.heap.size, 2, none⟩) z2d).trans y2d2
  have kdd3 : V.cell? ⟨w.heap.size, 3, none⟩ = some (v_list) := (hVB.cell (p := ⟨w.heap.size, 3, none⟩) z2d).trans y2d3
  have kdd4 : V.cell? ⟨w.heap.size, 4, none⟩ = some (v_seen) := (hVB.cell (p := ⟨w.heap.size, 4, none⟩) z2d).trans y2d4
  have krr0 : V.cell? ⟨w.heap.size + 1, 0, none⟩ = some (.string ⟨#[]⟩) := (hVB.cell (p := ⟨w.heap.size + 1, 0, none⟩) z2r).trans y2r0
  have frr0 : V.frozen? ⟨w.heap.size + 1, 0, none⟩ = false := (hVB.frozen (p := ⟨w.heap.size + 1, 0, none⟩) z2r).trans t2r0
  have krr1 : V.cell? ⟨w.heap.size + 1, 1, none⟩ = some (.int .i64 0) := (hVB.cell (p := ⟨w.heap.size + 1, 1, none⟩) z2r).trans y2r1
  have frr1 : V.frozen? ⟨w.heap.size + 1, 1, none⟩ = false := (hVB.frozen (p := ⟨w.heap.size + 1, 1, none⟩) z2r).trans t2r1
  have krr2 : V.cell? ⟨w.heap.size + 1, 2, none⟩ = some (.slice none 0 0) := (hVB.cell (p := ⟨w.heap.size + 1, 2, none⟩) z2r).trans y2r2
  have frr2 : V.frozen? ⟨w.heap.size + 1, 2, none⟩ = false := (hVB.frozen (p := ⟨w.heap.size + 1, 2, none⟩) z2r).trans t2r2
  have krr3 : V.cell? ⟨w.heap.size + 1, 3, none⟩ = some (.slice none 0 0) := (hVB.cell (p := ⟨w.heap.size + 1, 3, none⟩) z2r).trans y2r3
  have frr3 : V.frozen? ⟨w.heap.size + 1, 3, none⟩ = false := (hVB.frozen (p := ⟨w.heap.size + 1, 3, none⟩) z2r).trans t2r3
  have krr4 : V.cell? ⟨w.heap.size + 1, 4, none⟩ = some (.slice none 0 0) := (hVB.cell (p := ⟨w.heap.size + 1, 4, none⟩) z2r).trans y2r4
  have frr4 : V.frozen? ⟨w.heap.size + 1, 4, none⟩ = false := (hVB.frozen (p := ⟨w.heap.size + 1, 4, none⟩) z2r).trans t2r4
  have koo0 : V.cell? ⟨w2.heap.size, 0, none⟩ = some (.string d.name) := by rw [hV]; simp [go_sem]
  have foo0 : V.frozen? ⟨w2.heap.size, 0, none⟩ = false := by rw [hV]; simp [go_sem]
  have koo1 : V.cell? ⟨w2.heap.size, 1, none⟩ = some (.int .i64 d.from_) := by rw [hV]; simp [go_sem]
  have foo1 : V.frozen? ⟨w2.heap.size, 1, none⟩ = false := by rw [hV]; simp [go_sem]
  have koo2 : V.cell? ⟨w2.heap.size, 2, none⟩ = some (.slice a2t d.text.length c2t) := by rw [hV]; simp [go_sem]
  have foo2 : V.frozen? ⟨w2.heap.size, 2, none⟩ = false := by rw [hV]; simp [go_sem]
  have koo3 : V.cell? ⟨w2.heap.size, 3, none⟩ = some (.slice a2l d.list.length c2l) := by rw [hV]; simp [go_sem]
  have foo3 : V.frozen? ⟨w2.heap.size, 3, none⟩ = false := by rw [hV]; simp [go_sem]
  have koo4 : V.cell? ⟨w2.heap.size, 4, none⟩ = some (.slice a2s d.seen.length c2s) := by rw [hV]; simp [go_sem]
  have foo4 : V.frozen? ⟨w2.heap.size, 4, none⟩ = false := by rw [hV]; simp [go_sem]
  rw [← hV]
  clear hV
  have HFV : Hid (Fresh W.heap.size V (f2t ++ (f2l ++ f2s))) := Lib.hid (HFR2.out.belowL hVB (Live.lt (Live.append.2 ⟨HS2t.out.live, Live.append.2 ⟨HS2l.out.live, HS2s.out.live⟩⟩)))
  have HVt := Lib.hid (HS2t.out.belowW hVB)
  have HVl := Lib.hid (HS2l.out.belowW hVB)
  have HVs := Lib.hid (HS2s.out.belowW hVB)
  have HLV : Hid (∀ p ∈ f2t ++ (f2l ++ f2s), p.1 < w2.heap.size) := Lib.hid (Live.lt (Live.append.2 ⟨HS2t.out.live, Live.append.2 ⟨HS2l.out.live, HS2s.out.live⟩⟩))
  have hne1 : ¬ (w.heap.size + 1 = w2.heap.size) := by omega
  have hne2 : ¬ (w2.heap.size = w.heap.size + 1) := by omega
  have hne3 : ¬ (w.heap.size = w2.heap.size) := by omega
  go_wp2_with fail
  refine (spec_TextAt_c d _ _ _ (d.from_ + ((d.list.length : Int) - n)) _ n_name (HXT.out.below hWV) (HXL.out.below hWV) (HXS.out.below hWV)).mono ?_
  rintro e' w3 ⟨v3, f3, rfl, S3, F3, hb3⟩
  obtain ⟨a3, c3, rfl⟩ := RdS.isSlice ⟨_, S3⟩
  have HS3 := Lib.hid S3
  have HF3 : Hid (Fresh V.heap.size w3 f3) := Lib.hid F3
  clear S3 F3
  have B3 : Below V.heap.size V w3 := (show Below V.heap.size V _ from (by repeat' (first | (with_reducible exact Below.refl _ _) | (with_reducible assumption) | (with_reducible refine Below.setCell ?_ ?_ _) | (with_reducible refine Below.alloc ?_ ?_ _) | (with_reducible refine Below.drew ?_) | (with_reducible refine belowN ?_ _) | (with_reducible refine below_after ?_ (by assumption) ?_) | omega | (simp; done) | (simp; omega)))).trans (hb3.mono (by first | omega | (simp; done) | (simp; omega)))
  have s3 := B3.size
  have z3dd : w.heap.size < w3.heap.size := Nat.lt_of_lt_of_le zdd s3
  have y3dd0 := (B3.cell (p := ⟨w.heap.size, 0, none⟩) zdd).trans kdd0
  have y3dd1 := (B3.cell (p := ⟨w.heap.size, 1, none⟩) zdd).trans kdd1
  have y3dd2 := (B3.cell (p := ⟨w.heap.size, 2, none⟩) zdd).trans kdd2
  have y3dd3 := (B3.cell (p := ⟨w.heap.size, 3, none⟩) zdd).trans kdd3
  have y3dd4 := (B3.cell (p := ⟨w.heap.size, 4, none⟩) zdd).trans kdd4
  have z3rr : w.heap.size + 1 < w3.heap.size := Nat.lt_of_lt_of_le zrr s3
  have y3rr0 := (B3.cell (p := ⟨w.heap.size + 1, 0, none⟩) zrr).trans krr0
  have t3rr0 := (B3.frozen (p := ⟨w.heap.size + 1, 0, none⟩) zrr).trans frr0
  have y3rr1 := (B3.cell (p := ⟨w.heap.size + 1, 1, none⟩) zrr).trans krr1
  have t3rr1 := (B3.frozen (p := ⟨w.heap.size + 1, 1, none⟩) zrr).trans frr1
  have y3rr2 := (B3.cell (p := ⟨w.heap.size + 1, 2, none⟩) zrr).trans krr2
  have t3rr2 := (B3.frozen (p := ⟨w.heap.size + 1, 2, none⟩) zrr).trans frr2
  have y3rr3 := (B3.cell (p := ⟨w.heap.size + 1, 3, none⟩) zrr).trans krr3
  have t3rr3 := (B3.frozen (p := ⟨w.heap.size + 1, 3, none⟩) zrr).trans frr3
  have y3rr4 := (B3.cell (p := ⟨w.heap.size + 1, 4, none⟩) zrr).trans krr4
  have t3rr4 := (B3.frozen (p := ⟨w.heap.size + 1, 4, none⟩) zrr).trans frr4
  have z3oo : w2.heap.size < w3.heap.size := Nat.lt_of_lt_of_le zoo s3
  have y3oo0 := (B3.cell (p := ⟨w2.heap.size, 0, none⟩) zoo).trans koo0
  have t3oo0 := (B3.frozen (p := ⟨w2.heap.size, 0, none⟩) zoo).trans foo0
  have y3oo1 := (B3.cell (p := ⟨w2.heap.size, 1, none⟩) zoo).trans koo1
  have t3oo1 := (B3.frozen (p := ⟨w2.heap.size, 1, none⟩) zoo).trans foo1
  have y3oo2 := (B3.cell (p := ⟨w2.heap.size, 2, none⟩) zoo).trans koo2
  have t3oo2 := (B3.frozen (p := ⟨w2.heap.size, 2, none⟩) zoo).trans foo2
  have y3oo3 := (B3.cell (p := ⟨w2.heap.size, 3, none⟩) zoo).trans koo3
  have t3oo3 := (B3.frozen (p := ⟨w2.heap.size, 3, none⟩) zoo).trans foo3
  have y3oo4 := (B3.cell (p := ⟨w2.heap.size, 4, none⟩) zoo).trans koo4
  have t3oo4 := (B3.frozen (p := ⟨w2.heap.size, 4, none⟩) zoo).trans foo4
  clear hb3
  obtain ⟨TX, hTX⟩ : ∃ TX, (textAt d (d.from_ + ((d.list.length : Int) - n))).1 = TX := ⟨_, rfl⟩
  rw [hTX] at HS3
  rw [hTX]
  replace HV := Lib.hid (HV.out.trans (by rw [hTX]))
  clear hTX
  go_wp2_with fail
  obtain ⟨U, hU⟩ : ∃ U : World, U = ((w3.setCell ⟨w2.heap.size, 2, none⟩ (.slice a3 TX.length c3)).setCell ⟨w2.heap.size, 1, none⟩ (.int .i64 (d.from_ + ((d.list.length : Int) - n)))) := ⟨_, rfl⟩
  have hUs : U.heap.size = w3.heap.size := by rw [hU]; simp
  have HWU : Hid (Below W.heap.size W U) := Lib.hid (by rw [hU]; exact ((hWV.trans (B3.mono (by omega))).setCell (by first | omega | (simp; omega)) _).setCell (by first | omega | (simp; omega)) _)
  have udd0 : U.cell? ⟨w.heap.size, 0, none⟩ = some (.string d.name) := by rw [hU]; simp [go_sem, cell_setCell, *]
  have udd1 : U.cell? ⟨w.heap.size, 1, none⟩ = some (.int .i64 d.from_) := by rw [hU]; simp [go_sem, cell_setCell, *]
  have udd2 : U.cell? ⟨w.heap.size, 2, none⟩ = some (v_text) := by rw [hU]; simp [go_sem, cell_setCell, *]
  have udd3 : U.cell? ⟨w.heap.size, 3, none⟩ = some (v_list) := by rw [hU]; simp [go_sem, cell_setCell, *]
  have udd4 : U.cell? ⟨w.heap.size, 4, none⟩ = some (v_seen) := by rw [hU]; simp [go_sem, cell_setCell, *]
  have urr0 : U.cell? ⟨w.heap.size + 1, 0, none⟩ = some (.string ⟨#[]⟩) := by rw [hU]; simp [go_sem, cell_setCell, *]
  have grr0 : U.frozen? ⟨w.heap.size + 1, 0, none⟩ = false := by rw [hU]; simp [go_sem, *]
  have urr1 : U.cell? ⟨w.heap.size + 1, 1, none⟩ = some (.int .i64 0) := by rw [hU]; simp [go_sem, cell_setCell, *]
  have grr1 : U.frozen? ⟨w.heap.size + 1, 1, none⟩ = false := by rw [hU]; simp [go_sem, *]
  have urr2 : U.cell? ⟨w.heap.size + 1, 2, none⟩ = some (.slice none 0 0) := by rw [hU]; simp [go_sem, cell_setCell, *]
  have grr2 : U.frozen? ⟨w.heap.size + 1, 2, none⟩ = false := by rw [hU]; simp [go_sem, *]
  have urr3 : U.cell? ⟨w.heap.size + 1, 3, none⟩ = some (.slice none 0 0) := by rw [hU]; simp [go_sem, cell_setCell, *]
  have grr3 : U.frozen? ⟨w.heap.size + 1, 3, none⟩ = false := by rw [hU]; simp [go_sem, *]
  have urr4 : U.cell? ⟨w.heap.size + 1, 4, none⟩ = some (.slice none 0 0) := by rw [hU]; simp [go_sem, cell_setCell, *]
  have grr4 : U.frozen? ⟨w.heap.size + 1, 4, none⟩ = false := by rw [hU]; simp [go_sem, *]
  have uoo0 : U.cell? ⟨w2.heap.size, 0, none⟩ = some (.string d.name) := by rw [hU]; simp [go_sem, cell_setCell, *]
  have goo0 : U.frozen? ⟨w2.heap.size, 0, none⟩ = false := by rw [hU]; simp [go_sem, *]
  have uoo1 : U.cell? ⟨w2.heap.size, 1, none⟩ = some (.int .i64 (d.from_ + ((d.list.length : Int) - n))) := by rw [hU]; simp [go_sem, cell_setCell, *]
  have goo1 : U.frozen? ⟨w2.heap.size, 1, none⟩ = false := by rw [hU]; simp [go_sem, *]
  have uoo2 : U.cell? ⟨w2.heap.size, 2, none⟩ = some (.slice a3 TX.length c3) := by rw [hU]; simp [go_sem, cell_setCell, *]
  have goo2 : U.frozen? ⟨w2.heap.size, 2, none⟩ = false := by rw [hU]; simp [go_sem, *]
  have uoo3 : U.cell? ⟨w2.heap.size, 3, none⟩ = some (.slice a2l d.list.length c2l) := by rw [hU]; simp [go_sem, cell_setCell, *]
  have goo3 : U.frozen? ⟨w2.heap.size, 3, none⟩ = false := by rw [hU]; simp [go_sem, *]
  have uoo4 : U.cell? ⟨w2.heap.size, 4, none⟩ = some (.slice a2s d.seen.length c2s) := by rw [hU]; simp [go_sem, cell_setCell, *]
  have goo4 : U.frozen? ⟨w2.heap.size, 4, none⟩ = false := by rw [hU]; simp [go_sem, *]
  have HNOO : Hid (∀ j, ((w2.heap.size, j) : Pos) ∈ f3 ++ f2s → False) := Lib.hid (fun j hm => by
    rcases List.mem_append.1 hm with hm | hm
    · have := HF3.out.ge _ hm; simp only at this; omega
    · have := HLV.out (w2.heap.size, j) (by simp [hm]); simp only at this; omega)
  have HFW : Hid (Fresh W.heap.size w3 (f2t ++ (f2l ++ f2s))) := Lib.hid (HFV.out.belowL B3 (fun p hp => Nat.lt_of_lt_of_le (HLV.out p hp) (by omega)))
  have HFU3 : Hid (Fresh V.heap.size U f3) := Lib.hid (by rw [hU]; exact (HF3.out.put _ _).put _ _)
  have HFUs : Hid (Fresh W.heap.size U f2s) := Lib.hid (by rw [hU]; exact (HFW.out.right.right.put _ _).put _ _)
  have HSU3 : Hid (Sl BIG U (.slice a3 TX.length c3) TX f3) := Lib.hid (by rw [hU]; exact (HS3.out.put (fun hm => HNOO.out 2 (List.mem_append.2 (.inl hm))) _).put (fun hm => HNOO.out 1 (List.mem_append.2 (.inl hm))) _)
  have HSUs : Hid (Sl BIG U (.slice a2s d.seen.length c2s) d.seen f2s) := Lib.hid (by rw [hU]; exact ((HVs.out.belowW B3).put (fun hm => HNOO.out 2 (List.mem_append.2 (.inr hm))) _).put (fun hm => HNOO.out 1 (List.mem_append.2 (.inr hm))) _)
  rw [← hU]
  clear hU
  refine (spec_l08Entries_c _ LD _ ((HCR.out.below HWU.out)) hszd).mono ?_
  rintro e' w4 ⟨v4, rfl, ⟨f4, S4, F4⟩, hb4⟩
  obtain ⟨a4, c4, rfl⟩ := RdS.isSlice ⟨_, S4⟩
  have s4 := hb4.size
  have HB4 := Lib.hid hb4
  have zzdd : w.heap.size < U.heap.size := by omega
  have vdd0 := (hb4.cell (p := ⟨w.heap.size, 0, none⟩) zzdd).trans udd0
  have vdd1 := (hb4.cell (p := ⟨w.heap.size, 1, none⟩) zzdd).trans udd1
  have vdd2 := (hb4.cell (p := ⟨w.heap.size, 2, none⟩) zzdd).trans udd2
  have vdd3 := (hb4.cell (p := ⟨w.heap.size, 3, none⟩) zzdd).trans udd3
  have vdd4 := (hb4.cell (p := ⟨w.heap.size, 4, none⟩) zzdd).trans udd4
  have zzrr : w.heap.size + 1 < U.heap.size := by omega
  have vrr0 := (hb4.cell (p := ⟨w.heap.size + 1, 0, none⟩) zzrr).trans urr0
  have hrr0 := (hb4.frozen (p := ⟨w.heap.size + 1, 0, none⟩) zzrr).trans grr0
  have vrr1 := (hb4.cell (p := ⟨w.heap.size + 1, 1, none⟩) zzrr).trans urr1
  have hrr1 := (hb4.frozen (p := ⟨w.heap.size + 1, 1, none⟩) zzrr).trans grr1
  have vrr2 := (hb4.cell (p := ⟨w.heap.size + 1, 2, none⟩) zzrr).trans urr2
  have hrr2 := (hb4.frozen (p := ⟨w.heap.size + 1, 2, none⟩) zzrr).trans grr2
  have vrr3 := (hb4.cell (p := ⟨w.heap.size + 1, 3, none⟩) zzrr).trans urr3
  have hrr3 := (hb4.frozen (p := ⟨w.heap.size + 1, 3, none⟩) zzrr).trans grr3
  have vrr4 := (hb4.cell (p := ⟨w.heap.size + 1, 4, none⟩) zzrr).trans urr4
  have hrr4 := (hb4.frozen (p := ⟨w.heap.size + 1, 4, none⟩) zzrr).trans grr4
  have zzoo : w2.heap.size < U.heap.size := by omega
  have voo0 := (hb4.cell (p := ⟨w2.heap.size, 0, none⟩) zzoo).trans uoo0
  have hoo0 := (hb4.frozen (p := ⟨w2.heap.size, 0, none⟩) zzoo).trans goo0
  have voo1 := (hb4.cell (p := ⟨w2.heap.size, 1, none⟩) zzoo).trans uoo1
  have hoo1 := (hb4.frozen (p := ⟨w2.heap.size, 1, none⟩) zzoo).trans goo1
  have voo2 := (hb4.cell (p := ⟨w2.heap.size, 2, none⟩) zzoo).trans uoo2
  have hoo2 := (hb4.frozen (p := ⟨w2.heap.size, 2, none⟩) zzoo).trans goo2
  have voo3 := (hb4.cell (p := ⟨w2.heap.size, 3, none⟩) zzoo).trans uoo3
  have hoo3 := (hb4.frozen (p := ⟨w2.heap.size, 3, none⟩) zzoo).trans goo3
  have voo4 := (hb4.cell (p := ⟨w2.heap.size, 4, none⟩) zzoo).trans uoo4
  have hoo4 := (hb4.frozen (p := ⟨w2.heap.size, 4, none⟩) zzoo).trans goo4
  have HL3 : Hid (∀ p ∈ f3, p.1 < U.heap.size) := Lib.hid (Live.lt HSU3.out.live)
  have HLs : Hid (∀ p ∈ f2s, p.1 < w2.heap.size) := Lib.hid (fun p hp => HLV.out p (by simp [hp]))
  have HS43 := Lib.hid (HSU3.out.belowW hb4)
  have HS4s := Lib.hid (HSUs.out.belowW hb4)
  have HS4 := Lib.hid S4
  have HF4 := Lib.hid F4
  have HJ : Hid (Fresh W.heap.size w4 (f3 ++ (f4 ++ f2s))) := Lib.hid (Fresh.three ((HFU3.out.belowL hb4 HL3.out).mono (by omega)) (F4.mono (by omega)) (HFUs.out.belowL hb4 (fun p hp => Nat.lt_of_lt_of_le (HLs.out p hp) (by omega))) (fun p hp hq => by have := F4.ge p hq; have := HL3.out p hp; omega) (fun p hp hq => by have := HF3.out.ge p hp; have := HLs.out p hq; omega) (fun p hp hq => by have := F4.ge p hp; have := HLs.out p hq; omega))
  replace HNOO : Hid (∀ j, ((w2.heap.size, j) : Pos) ∈ f3 ++ (f4 ++ f2s) → False) := Lib.hid (fun j hm => by
    rcases List.mem_append.1 hm with hm | hm
    · exact HNOO.out j (List.mem_append.2 (.inl hm))
    · rcases List.mem_append.1 hm with hm | hm
      · have := HF4.out.ge _ hm; simp only at this; omega
      · exact HNOO.out j (List.mem_append.2 (.inr hm)))
  clear S4 F4 hb4
  go_wp2
  have HB : Hid (Below w.heap.size w ((((((w4.setCell ⟨w2.heap.size, 3, none⟩ (.slice a4 LD.length c4)).setCell ⟨w.heap.size + 1, 0, none⟩ (.string d.name)).setCell ⟨w.heap.size + 1, 1, none⟩ (.int .i64 (d.from_ + ((d.list.length : Int) - n)))).setCell ⟨w.heap.size + 1, 2, none⟩ (.slice a3 TX.length c3)).setCell ⟨w.heap.size + 1, 3, none⟩ (.slice a4 LD.length c4)).setCell ⟨w.heap.size + 1, 4, none⟩ (.slice a2s d.seen.length c2s))) := Lib.hid (((((((hWB.trans ((HWU.out.trans (HB4.out.mono (by omega))).mono (by omega))).setCell (by first | (simp; done) | (simp; omega)) (.slice a4 LD.length c4)).setCell (by first | (simp; done) | (simp; omega)) (.string d.name)).setCell (by first | (simp; done) | (simp; omega)) (.int .i64 (d.from_ + ((d.list.length : Int) - n)))).setCell (by first | (simp; done) | (simp; omega)) (.slice a3 TX.length c3)).setCell (by first | (simp; done) | (simp; omega)) (.slice a4 LD.length c4)).setCell (by first | (simp; done) | (simp; omega)) (.slice a2s d.seen.length c2s))
  have HNR : Hid (∀ j, ∀ f, ((w.heap.size + 1, j) : Pos) ∈ f → f = f3 ++ (f4 ++ f2s) → False) := Lib.hid (by rintro j f hm rfl; have := HJ.out.ge _ hm; simp only at this; omega)
  have HNO : Hid (∀ j, ∀ f, ((w2.heap.size, j) : Pos) ∈ f → f = f3 ++ (f4 ++ f2s) → False) := Lib.hid (by rintro j f hm rfl; exact HNOO.out j hm)
  rw [HV.out]
  exact bodyPost_ret (v := .tuple #[.agg #[.string d.name, .int .i64 (d.from_ + ((d.list.length : Int) - n)), .slice a3 TX.length c3, .slice a4 LD.length c4, .slice a2s d.seen.length c2s], .bool true]) (by simp [results, Try.results43, go_sem, cell_setCell, *]) rfl ⟨_, _, _, f3, f4, f2s, rfl, ((((((HS43.out.put (b := w2.heap.size) (o := 3) (fun hm => HNO.out 3 _ (List.mem_append.2 (.inl hm)) rfl) (.slice a4 LD.length c4)).put (b := w.heap.size + 1) (o := 0) (fun hm => HNR.out 0 _ (List.mem_append.2 (.inl hm)) rfl) (.string d.name)).put (b := w.heap.size + 1) (o := 1) (fun hm => HNR.out 1 _ (List.mem_append.2 (.inl hm)) rfl) (.int .i64 (d.from_ + ((d.list.length : Int) - n)))).put (b := w.heap.size + 1) (o := 2) (fun hm => HNR.out 2 _ (List.mem_append.2 (.inl hm)) rfl) (.slice a3 TX.length c3)).put (b := w.heap.size + 1) (o := 3) (fun hm => HNR.out 3 _ (List.mem_append.2 (.inl hm)) rfl) (.slice a4 LD.length c4)).put (b := w.heap.size + 1) (o := 4) (fun hm => HNR.out 4 _ (List.mem_append.2 (.inl hm)) rfl) (.slice a2s d.seen.length c2s)), ((((((HS4.out.put (b := w2.heap.size) (o := 3) (fun hm => HNO.out 3 _ (List.mem_append.2 (.inr (List.mem_append.2 (.inl hm)))) rfl) (.slice a4 LD.length c4)).put (b := w.heap.size + 1) (o := 0) (fun hm => HNR.out 0 _ (List.mem_append.2 (.inr (List.mem_append.2 (.inl hm)))) rfl) (.string d.name)).put (b := w.heap.size + 1) (o := 1) (fun hm => HNR.out 1 _ (List.mem_append.2 (.inr (List.mem_append.2 (.inl hm)))) rfl) (.int .i64 (d.from_ + ((d.list.length : Int) - n)))).put (b := w.heap.size + 1) (o := 2) (fun hm => HNR.out 2 _ (List.mem_append.2 (.inr (List.mem_append.2 (.inl hm)))) rfl) (.slice a3 TX.length c3)).put (b := w.heap.size + 1) (o := 3) (fun hm => HNR.out 3 _ (List.mem_append.2 (.inr (List.mem_append.2 (.inl hm)))) rfl) (.slice a4 LD.length c4)).put (b := w.heap.size + 1) (o := 4) (fun hm => HNR.out 4 _ (List.mem_append.2 (.inr (List.mem_append.2 (.inl hm)))) rfl) (.slice a2s d.seen.length c2s)), ((((((HS4s.out.put (b := w2.heap.size) (o := 3) (fun hm => HNO.out 3 _ (List.mem_append.2 (.inr (List.mem_append.2 (.inr hm)))) rfl) (.slice a4 LD.length c4)).put (b := w.heap.size + 1) (o := 0) (fun hm => HNR.out 0 _ (List.mem_append.2 (.inr (List.mem_append.2 (.inr hm)))) rfl) (.string d.name)).put (b := w.heap.size + 1) (o := 1) (fun hm => HNR.out 1 _ (List.mem_append.2 (.inr (List.mem_append.2 (.inr hm)))) rfl) (.int .i64 (d.from_ + ((d.list.length : Int) - n)))).put (b := w.heap.size + 1) (o := 2) (fun hm => HNR.out 2 _ (List.mem_append.2 (.inr (List.mem_append.2 (.inr hm)))) rfl) (.slice a3 TX.length c3)).put (b := w.heap.size + 1) (o := 3) (fun hm => HNR.out 3 _ (List.mem_append.2 (.inr (List.mem_append.2 (.inr hm)))) rfl) (.slice a4 LD.length c4)).put (b := w.heap.size + 1) (o := 4) (fun hm => HNR.out 4 _ (List.mem_append.2 (.inr (List.mem_append.2 (.inr hm)))) rfl) (.slice a2s d.seen.length c2s)), n_name, (((((((HJ.out.mono (by omega)).put ⟨w2.heap.size, 3, none⟩ (.slice a4 LD.length c4)).put ⟨w.heap.size + 1, 0, none⟩ (.string d.name)).put ⟨w.heap.size + 1, 1, none⟩ (.int .i64 (d.from_ + ((d.list.length : Int) - n)))).put ⟨w.heap.size + 1, 2, none⟩ (.slice a3 TX.length c3)).put ⟨w.heap.size + 1, 3, none⟩ (.slice a4 LD.length c4)).put ⟨w.heap.size + 1, 4, none⟩ (.slice a2s d.seen.length c2s)), HB.out⟩
set_option maxHeartbeats 16000000 in
set_option maxRecDepth 100000 in
theorem impl_Forget_c (d : DDoc) (v_text v_list v_seen : Value) (n : Int) (w : World) (n_name : d.name.size ≤ BIG) (h_text : RdS w v_text d.text) (h_list : RdS w v_list d.list) (h_seen : RdS w v_seen d.seen) (bn : n ≤ 9223372036854775807) : Calls Try.prog 44 #[.agg #[.string d.name, .int .i64 d.from_, v_text, v_list, v_seen], .int .i64 n] w (Out_Doc_b w (forget d n).1 (forget d n).2) := by
  obtain ⟨W, hW⟩ : ∃ W : World, W = (w.alloc (.cells #[.string d.name, .int .i64 d.from_, v_text, v_list, v_seen] 32)).alloc (.cells #[.string ⟨#[]⟩, .int .i64 0, .slice none 0 0, .slice none 0 0, .slice none 0 0] 32) := ⟨_, rfl⟩
  have hWB : Below w.heap.size w W := by rw [hW]; exact (by repeat' (first | (with_reducible exact Below.refl _ _) | (with_reducible assumption) | (with_reducible refine Below.setCell ?_ ?_ _) | (with_reducible refine Below.alloc ?_ ?_ _) | (with_reducible refine Below.drew ?_) | (with_reducible refine belowN ?_ _) | (with_reducible refine below_after ?_ (by assumption) ?_) | omega | (simp; done) | (simp; omega)))
  have sW := hWB.size
  have zd : w.heap.size < W.heap.size := by rw [hW]; first | (simp; done) | (simp; omega)
  have kd0 : W.cell? ⟨w.heap.size, 0, none⟩ = some (.string d.name) := by rw [hW]; simp [go_sem]
  have kd1 : W.cell? ⟨w.heap.size, 1, none⟩ = some (.int .i64 d.from_) := by rw [hW]; simp [go_sem]
  have kd2 : W.cell? ⟨w.heap.size, 2, none⟩ = some (v_text) := by rw [hW]; simp [go_sem]
  have kd3 : W.cell? ⟨w.heap.size, 3, none⟩ = some (v_list) := by rw [hW]; simp [go_sem]
  have kd4 : W.cell? ⟨w.heap.size, 4, none⟩ = some (v_seen) := by rw [hW]; simp [go_sem]
  have zr : w.heap.size + 1 < W.heap.size := by rw [hW]; first | (simp; done) | (simp; omega)
  have kr0 : W.cell? ⟨w.heap.size + 1, 0, none⟩ = some (.string ⟨#[]⟩) := by rw [hW]; simp [go_sem]
  have fr0 : W.frozen? ⟨w.heap.size + 1, 0, none⟩ = false := by rw [hW]; simp [go_sem]
  have kr1 : W.cell? ⟨w.heap.size + 1, 1, none⟩ = some (.int .i64 0) := by rw [hW]; simp [go_sem]
  have fr1 : W.frozen? ⟨w.heap.size + 1, 1, none⟩ = false := by rw [hW]; simp [go_sem]
  have kr2 : W.cell? ⟨w.heap.size + 1, 2, none⟩ = some (.slice none 0 0) := by rw [hW]; simp [go_sem]
  have fr2 : W.frozen? ⟨w.heap.size + 1, 2, none⟩ = false := by rw [hW]; simp [go_sem]
  have kr3 : W.cell? ⟨w.heap.size + 1, 3, none⟩ = some (.slice none 0 0) := by rw [hW]; simp [go_sem]
  have fr3 : W.frozen? ⟨w.heap.size + 1, 3, none⟩ = false := by rw [hW]; simp [go_sem]
  have kr4 : W.cell? ⟨w.heap.size + 1, 4, none⟩ = some (.slice none 0 0) := by rw [hW]; simp [go_sem]
  have fr4 : W.frozen? ⟨w.heap.size + 1, 4, none⟩ = false := by rw [hW]; simp [go_sem]
  have HXT := Lib.hid (h_text.below hWB)
  have HXL := Lib.hid (h_list.below hWB)
  have HXS := Lib.hid (h_seen.below hWB)
  have hll := fun w1 ty => h_list.len Try.underlying29 w1 ty
  clear h_text h_list h_seen
  by_cases hd : docOk d = true
  rotate_left
  · have HV := Lib.hid (forget_no (n := n) fun h => hd h.1)
    have hd : docOk d = false := by simpa using hd
    go_enter Try.func44, Try.ntmps44
    go_wp2_with fail
    rw [← hW]
    clear hW
    go_wp2_with fail
    refine (impl_DocOk_c d _ _ _ _ n_name (HXT.out.below (by repeat' (first | (with_reducible exact Below.refl _ _) | (with_reducible assumption) | (with_reducible refine Below.setCell ?_ ?_ _) | (with_reducible refine Below.alloc ?_ ?_ _) | (with_reducible refine Below.drew ?_) | (with_reducible refine belowN ?_ _) | (with_reducible refine below_after ?_ (by assumption) ?_) | omega | (simp; done) | (simp; omega)))) (HXL.out.below (by repeat' (first | (with_reducible exact Below.refl _ _) | (with_reducible assumption) | (with_reducible refine Below.setCell ?_ ?_ _) | (with_reducible refine Below.alloc ?_ ?_ _) | (with_reducible refine Below.drew ?_) | (with_reducible refine belowN ?_ _) | (with_reducible refine below_after ?_ (by assumption) ?_) | omega | (simp; done) | (simp; omega)))) (HXS.out.below (by repeat' (first | (with_reducible exact Below.refl _ _) | (with_reducible assumption) | (with_reducible refine Below.setCell ?_ ?_ _) | (with_reducible refine Below.alloc ?_ ?_ _) | (with_reducible refine Below.drew ?_) | (with_reducible refine belowN ?_ _) | (with_reducible refine below_after ?_ (by assumption) ?_) | omega | (simp; done) | (simp; omega))))).mono ?_
    rintro e' w1 ⟨rfl, hb1⟩
    rw [hd]
    have B1 : Below W.heap.size W w1 := (show Below W.heap.size W _ from (by repeat' (first | (with_reducible exact Below.refl _ _) | (with_reducible assumption) | (with_reducible refine Below.setCell ?_ ?_ _) | (with_reducible refine Below.alloc ?_ ?_ _) | (with_reducible refine Below.drew ?_) | (with_reducible refine belowN ?_ _) | (with_reducible refine below_after ?_ (by assumption) ?_) | omega | (simp; done) | (simp; omega)))).trans (hb1.mono (by first | omega | (simp; done) | (simp; omega)))
    have s1 := B1.size
    have z1d : w.heap.size < w1.heap.size := Nat.lt_of_lt_of_le zd s1
    have y1d0 := (B1.cell (p := ⟨w.heap.size, 0, none⟩) zd).trans kd0
    have y1d1 := (B1.cell (p := ⟨w.heap.size, 1, none⟩) zd).trans kd1
    have y1d2 := (B1.cell (p := ⟨w.heap.size, 2, none⟩) zd).trans kd2
    have y1d3 := (B1.cell (p := ⟨w.heap.size, 3, none⟩) zd).trans kd3
    have y1d4 := (B1.cell (p := ⟨w.heap.size, 4, none⟩) zd).trans kd4
    have z1r : w.heap.size + 1 < w1.heap.size := Nat.lt_of_lt_of_le zr s1
    have y1r0 := (B1.cell (p := ⟨w.heap.size + 1, 0, none⟩) zr).trans kr0
    have t1r0 := (B1.frozen (p := ⟨w.heap.size + 1, 0, none⟩) zr).trans fr0
    have y1r1 := (B1.cell (p := ⟨w.heap.size + 1, 1, none⟩) zr).trans kr1
    have t1r1 := (B1.frozen (p := ⟨w.heap.size + 1, 1, none⟩) zr).trans fr1
    have y1r2 := (B1.cell (p := ⟨w.heap.size + 1, 2, none⟩) zr).trans kr2
    have t1r2 := (B1.frozen (p := ⟨w.heap.size + 1, 2, none⟩) zr).trans fr2
    have y1r3 := (B1.cell (p := ⟨w.heap.size + 1, 3, none⟩) zr).trans kr3
    have t1r3 := (B1.frozen (p := ⟨w.heap.size + 1, 3, none⟩) zr).trans fr3
    have y1r4 := (B1.cell (p := ⟨w.heap.size + 1, 4, none⟩) zr).trans kr4
    have t1r4 := (B1.frozen (p := ⟨w.heap.size + 1, 4, none⟩) zr).trans fr4
    clear hb1
    go_wp2
    have HB : Hid (Below w.heap.size w (((((w1.setCell ⟨w.heap.size + 1, 0, none⟩ (.string ⟨#[]⟩)).setCell ⟨w.heap.size + 1, 1, none⟩ (.int .i64 0)).setCell ⟨w.heap.size + 1, 2, none⟩ (.slice none 0 0)).setCell ⟨w.heap.size + 1, 3, none⟩ (.slice none 0 0)).setCell ⟨w.heap.size + 1, 4, none⟩ (.slice none 0 0))) := Lib.hid ((((((hWB.trans (B1.mono (by omega))).setCell (by simp) _).setCell (by simp) _).setCell (by simp) _).setCell (by simp) _).setCell (by simp) _)
    rw [HV.out]
    exact bodyPost_ret (v := .tuple #[.agg #[.string ⟨#[]⟩, .int .i64 0, .slice none 0 0, .slice none 0 0, .slice none 0 0], .bool false]) (by simp [results, Try.results44, go_sem, cell_setCell, *]) rfl ⟨_, _, _, [], [], [], rfl, Sl.nil, Sl.nil, Sl.nil, le_BIG (Nat.zero_le _), by simpa using Fresh.nil _ _, HB.out⟩
  by_cases hn : 0 ≤ n
  rotate_left
  · have HV := Lib.hid (forget_no (d := d) fun h => hn h.2)
    have hn1 : decide (n < 0) = true := by rw [decide_eq_true_eq]; omega
    go_enter Try.func44, Try.ntmps44
    go_wp2_with fail
    rw [← hW]
    clear hW
    go_wp2_with fail
    refine (impl_DocOk_c d _ _ _ _ n_name (HXT.out.below (by repeat' (first | (with_reducible exact Below.refl _ _) | (with_reducible assumption) | (with_reducible refine Below.setCell ?_ ?_ _) | (with_reducible refine Below.alloc ?_ ?_ _) | (with_reducible refine Below.drew ?_) | (with_reducible refine belowN ?_ _) | (with_reducible refine below_after ?_ (by assumption) ?_) | omega | (simp; done) | (simp; omega)))) (HXL.out.below (by repeat' (first | (with_reducible exact Below.refl _ _) | (with_reducible assumption) | (with_reducible refine Below.setCell ?_ ?_ _) | (with_reducible refine Below.alloc ?_ ?_ _) | (with_reducible refine Below.drew ?_) | (with_reducible refine belowN ?_ _) | (with_reducible refine below_after ?_ (by assumption) ?_) | omega | (simp; done) | (simp; omega)))) (HXS.out.below (by repeat' (first | (with_reducible exact Below.refl _ _) | (with_reducible assumption) | (with_reducible refine Below.setCell ?_ ?_ _) | (with_reducible refine Below.alloc ?_ ?_ _) | (with_reducible refine Below.drew ?_) | (with_reducible refine belowN ?_ _) | (with_reducible refine below_after ?_ (by assumption) ?_) | omega | (simp; done) | (simp; omega))))).mono ?_
    rintro e' w1 ⟨rfl, hb1⟩
    rw [hd]
    have B1 : Below W.heap.size W w1 := (show Below W.heap.size W _ from (by repeat' (first | (with_reducible exact Below.refl _ _) | (with_reducible assumption) | (with_reducible refine Below.setCell ?_ ?_ _) | (with_reducible refine Below.alloc ?_ ?_ _) | (with_reducible refine Below.drew ?_) | (with_reducible refine belowN ?_ _) | (with_reducible refine below_after ?_ (by assumption) ?_) | omega | (simp; done) | (simp; omega)))).trans (hb1.mono (by first | omega | (simp; done) | (simp; omega)))
    have s1 := B1.size
    have z1d : w.heap.size < w1.heap.size := Nat.lt_of_lt_of_le zd s1
    have y1d0 := (B1.cell (p := ⟨w.heap.size, 0, none⟩) zd).trans kd0
    have y1d1 := (B1.cell (p := ⟨w.heap.size, 1, none⟩) zd).trans kd1
    have y1d2 := (B1.cell (p := ⟨w.heap.size, 2, none⟩) zd).trans kd2
    have y1d3 := (B1.cell (p := ⟨w.heap.size, 3, none⟩) zd).trans kd3
    have y1d4 := (B1.cell (p := ⟨w.heap.size, 4, none⟩) zd).trans kd4
    have z1r : w.heap.size + 1 < w1.heap.size := Nat.lt_of_lt_of_le zr s1
    have y1r0 := (B1.cell (p := ⟨w.heap.size + 1, 0, none⟩) zr).trans kr0
    have t1r0 := (B1.frozen (p := ⟨w.heap.size + 1, 0, none⟩) zr).trans fr0
    have y1r1 := (B1.cell (p := ⟨w.heap.size + 1, 1, none⟩) zr).trans kr1
    have t1r1 := (B1.frozen (p := ⟨w.heap.size + 1, 1, none⟩) zr).trans fr1
    have y1r2 := (B1.cell (p := ⟨w.heap.size + 1, 2, none⟩) zr).trans kr2
    have t1r2 := (B1.frozen (p := ⟨w.heap.size + 1, 2, none⟩) zr).trans fr2
    have y1r3 := (B1.cell (p := ⟨w.heap.size + 1, 3, none⟩) zr).trans kr3
    have t1r3 := (B1.frozen (p := ⟨w.heap.size + 1, 3, none⟩) zr).trans fr3
    have y1r4 := (B1.cell (p := ⟨w.heap.size + 1, 4, none⟩) zr).trans kr4
    have t1r4 := (B1.frozen (p := ⟨w.heap.size + 1, 4, none⟩) zr).trans fr4
    clear hb1
    go_wp2
    have HB : Hid (Below w.heap.size w (((((w1.setCell ⟨w.heap.size + 1, 0, none⟩ (.string ⟨#[]⟩)).setCell ⟨w.heap.size + 1, 1, none⟩ (.int .i64 0)).setCell ⟨w.heap.size + 1, 2, none⟩ (.slice none 0 0)).setCell ⟨w.heap.size + 1, 3, none⟩ (.slice none 0 0)).setCell ⟨w.heap.size + 1, 4, none⟩ (.slice none 0 0))) := Lib.hid ((((((hWB.trans (B1.mono (by omega))).setCell (by simp) _).setCell (by simp) _).setCell (by simp) _).setCell (by simp) _).setCell (by simp) _)
    rw [HV.out]
    exact bodyPost_ret (v := .tuple #[.agg #[.string ⟨#[]⟩, .int .i64 0, .slice none 0 0, .slice none 0 0, .slice none 0 0], .bool false]) (by simp [results, Try.results44, go_sem, cell_setCell, *]) rfl ⟨_, _, _, [], [], [], rfl, Sl.nil, Sl.nil, Sl.nil, le_BIG (Nat.zero_le _), by simpa using Fresh.nil _ _, HB.out⟩
  have hn1 : decide (n < 0) = false := by rw [decide_eq_false_iff_not]; omega
  obtain ⟨bt, bl, bs⟩ := docOk_sizes hd
  have hp := docOk_iff.1 hd
  have hl8 := hp.len
  have hbd := headRev_bd hd
  clear hp
  have hwn : IntKind.i64.wrap ((d.list.length : Int) - n) = (d.list.length : Int) - n := IntWalk.i64_in _ (by omega)
  by_cases h2 : 0 < (d.list.length : Int) - n
  rotate_left
  · have HV := Lib.hid (forget_all ⟨hd, hn⟩ h2)
    have h3 : decide ((d.list.length : Int) - n ≤ 0) = true := by rw [decide_eq_true_eq]; omega
    have h4 : decide (0 < (d.list.length : Int) - n) = false := by rw [decide_eq_false_iff_not]; omega
    have h5 : (d.list.length : Int) ≤ n := by omega
    go_enter Try.func44, Try.ntmps44
    go_wp2_with fail
    rw [← hW]
    clear hW
    go_wp2_with fail
    refine (impl_DocOk_c d _ _ _ _ n_name (HXT.out.below (by repeat' (first | (with_reducible exact Below.refl _ _) | (with_reducible assumption) | (with_reducible refine Below.setCell ?_ ?_ _) | (with_reducible refine Below.alloc ?_ ?_ _) | (with_reducible refine Below.drew ?_) | (with_reducible refine belowN ?_ _) | (with_reducible refine below_after ?_ (by assumption) ?_) | omega | (simp; done) | (simp; omega)))) (HXL.out.below (by repeat' (first | (with_reducible exact Below.refl _ _) | (with_reducible assumption) | (with_reducible refine Below.setCell ?_ ?_ _) | (with_reducible refine Below.alloc ?_ ?_ _) | (with_reducible refine Below.drew ?_) | (with_reducible refine belowN ?_ _) | (with_reducible refine below_after ?_ (by assumption) ?_) | omega | (simp; done) | (simp; omega)))) (HXS.out.below (by repeat' (first | (with_reducible exact Below.refl _ _) | (with_reducible assumption) | (with_reducible refine Below.setCell ?_ ?_ _) | (with_reducible refine Below.alloc ?_ ?_ _) | (with_reducible refine Below.drew ?_) | (with_reducible refine belowN ?_ _) | (with_reducible refine below_after ?_ (by assumption) ?_) | omega | (simp; done) | (simp; omega))))).mono ?_
    rintro e' w1 ⟨rfl, hb1⟩
    rw [hd]
    have B1 : Below W.heap.size W w1 := (show Below W.heap.size W _ from (by repeat' (first | (with_reducible exact Below.refl _ _) | (with_reducible assumption) | (with_reducible refine Below.setCell ?_ ?_ _) | (with_reducible refine Below.alloc ?_ ?_ _) | (with_reducible refine Below.drew ?_) | (with_reducible refine belowN ?_ _) | (with_reducible refine below_after ?_ (by assumption) ?_) | omega | (simp; done) | (simp; omega)))).trans (hb1.mono (by first | omega | (simp; done) | (simp; omega)))
    have s1 := B1.size
    have z1d : w.heap.size < w1.heap.size := Nat.lt_of_lt_of_le zd s1
    have y1d0 := (B1.cell (p := ⟨w.heap.size, 0, none⟩) zd).trans kd0
    have y1d1 := (B1.cell (p := ⟨w.heap.size, 1, none⟩) zd).trans kd1
    have y1d2 := (B1.cell (p := ⟨w.heap.size, 2, none⟩) zd).trans kd2
    have y1d3 := (B1.cell (p := ⟨w.heap.size, 3, none⟩) zd).trans kd3
    have y1d4 := (B1.cell (p := ⟨w.heap.size, 4, none⟩) zd).trans kd4
    have z1r : w.heap.size + 1 < w1.heap.size := Nat.lt_of_lt_of_le zr s1
    have y1r0 := (B1.cell (p := ⟨w.heap.size + 1, 0, none⟩) zr).trans kr0
    have t1r0 := (B1.frozen (p := ⟨w.heap.size + 1, 0, none⟩) zr).trans fr0
    have y1r1 := (B1.cell (p := ⟨w.heap.size + 1, 1, none⟩) zr).trans kr1
    have t1r1 := (B1.frozen (p := ⟨w.heap.size + 1, 1, none⟩) zr).trans fr1
    have y1r2 := (B1.cell (p := ⟨w.heap.size + 1, 2, none⟩) zr).trans kr2
    have t1r2 := (B1.frozen (p := ⟨w.heap.size + 1, 2, none⟩) zr).trans fr2
    have y1r3 := (B1.cell (p := ⟨w.heap.size + 1, 3, none⟩) zr).trans kr3
    have t1r3 := (B1.frozen (p := ⟨w.heap.size + 1, 3, none⟩) zr).trans fr3
    have y1r4 := (B1.cell (p := ⟨w.heap.size + 1, 4, none⟩) zr).trans kr4
    have t1r4 := (B1.frozen (p := ⟨w.heap.size + 1, 4, none⟩) zr).trans fr4
    clear hb1
    go_wp2_with fail
    refine (impl_copyDoc_c d _ _ _ _ n_name (HXT.out.below (by repeat' (first | (with_reducible exact Below.refl _ _) | (with_reducible assumption) | (with_reducible refine Below.setCell ?_ ?_ _) | (with_reducible refine Below.alloc ?_ ?_ _) | (with_reducible refine Below.drew ?_) | (with_reducible refine belowN ?_ _) | (with_reducible refine below_after ?_ (by assumption) ?_) | omega | (simp; done) | (simp; omega)))) (HXL.out.below (by repeat' (first | (with_reducible exact Below.refl _ _) | (with_reducible assumption) | (with_reducible refine Below.setCell ?_ ?_ _) | (with_reducible refine Below.alloc ?_ ?_ _) | (with_reducible refine Below.drew ?_) | (with_reducible refine belowN ?_ _) | (with_reducible refine below_after ?_ (by assumption) ?_) | omega | (simp; done) | (simp; omega)))) (HXS.out.below (by repeat' (first | (with_reducible exact Below.refl _ _) | (with_reducible assumption) | (with_reducible refine Below.setCell ?_ ?_ _) | (with_reducible refine Below.alloc ?_ ?_ _) | (with_reducible refine Below.drew ?_) | (with_reducible refine belowN ?_ _) | (with_reducible refine below_after ?_ (by assumption) ?_) | omega | (simp; done) | (simp; omega)))) bt bl bs).mono ?_
    rintro e' w2 ⟨_, rfl, ⟨fp2, hrd2, hfr2⟩, hb2⟩
    obtain ⟨v2t, v2l, v2s, f2t, f2l, f2s, rfl, n2, S2t, S2l, S2s, rfl⟩ := hrd2
    obtain ⟨a2t, c2t, rfl⟩ := RdS.isSlice ⟨_, S2t⟩
    obtain ⟨a2l, c2l, rfl⟩ := RdS.isSlice ⟨_, S2l⟩
    obtain ⟨a2s, c2s, rfl⟩ := RdS.isSlice ⟨_, S2s⟩
    have HFR2 : Hid (Fresh W.heap.size w2 (f2t ++ (f2l ++ f2s))) := Lib.hid (hfr2.mono (by first | omega | (simp; omega)))
    have HS2t := Lib.hid S2t
    have HS2l := Lib.hid S2l
    have HS2s := Lib.hid S2s
    clear hfr2 S2t S2l S2s
    have B2 : Below W.heap.size W w2 := (show Below W.heap.size W _ from (by repeat' (first | (with_reducible exact Below.refl _ _) | (with_reducible assumption) | (with_reducible refine Below.setCell ?_ ?_ _) | (with_reducible refine Below.alloc ?_ ?_ _) | (with_reducible refine Below.drew ?_) | (with_reducible refine belowN ?_ _) | (with_reducible refine below_after ?_ (by assumption) ?_) | omega | (simp; done) | (simp; omega)))).trans (hb2.mono (by first | omega | (simp; done) | (simp; omega)))
    have s2 := B2.size
    have z2d : w.heap.size < w2.heap.size := Nat.lt_of_lt_of_le zd s2
    have y2d0 := (B2.cell (p := ⟨w.heap.size, 0, none⟩) zd).trans kd0
    have y2d1 := (B2.cell (p := ⟨w.heap.size, 1, none⟩) zd).trans kd1
    have y2d2 := (B2.cell (p := ⟨w.heap.size, 2, none⟩) zd).trans kd2
    have y2d3 := (B2.cell (p := ⟨w.heap.size, 3, none⟩) zd).trans kd3
    have y2d4 := (B2.cell (p := ⟨w.heap.size, 4, none⟩) zd).trans kd4
    have z2r : w.heap.size + 1 < w2.heap.size := Nat.lt_of_lt_of_le zr s2
    have y2r0 := (B2.cell (p := ⟨w.heap.size + 1, 0, none⟩) zr).trans kr0
    have t2r0 := (B2.frozen (p := ⟨w.heap.size + 1, 0, none⟩) zr).trans fr0
    have y2r1 := (B2.cell (p := ⟨w.heap.size + 1, 1, none⟩) zr).trans kr1
    have t2r1 := (B2.frozen (p := ⟨w.heap.size + 1, 1, none⟩) zr).trans fr1
    have y2r2 := (B2.cell (p := ⟨w.heap.size + 1, 2, none⟩) zr).trans kr2
    have t2r2 := (B2.frozen (p := ⟨w.heap.size + 1, 2, none⟩) zr).trans fr2
    have y2r3 := (B2.cell (p := ⟨w.heap.size + 1, 3, none⟩) zr).trans kr3
    have t2r3 := (B2.frozen (p := ⟨w.heap.size + 1, 3, none⟩) zr).trans fr3
    have y2r4 := (B2.cell (p := ⟨w.heap.size + 1, 4, none⟩) zr).trans kr4
    have t2r4 := (B2.frozen (p := ⟨w.heap.size + 1, 4, none⟩) zr).trans fr4
    clear hb2
    skip
    skip
    go_upto_region 4 with (fail)
    obtain ⟨V, hV⟩ : ∃ V : World, V = w2.alloc (.cells #[.string d.name, .int .i64 d.from_, .slice a2t d.text.length c2t, .slice a2l d.list.length c2l, .slice a2s d.seen.length c2s] 32) := ⟨_, rfl⟩
    have hVB : Below w2.heap.size w2 V := by rw [hV]; exact (Below.refl _ _).alloc (Nat.le_refl _) _
    have sV : w2.heap.size + 1 ≤ V.heap.size := by rw [hV]; simp
    have hWV : Below W.heap.size W V := B2.trans (hVB.mono (by omega))
    have zdd : w.heap.size < V.heap.size := by omega
    have zrr : w.heap.size + 1 < V.heap.size := by omega
    have zoo : w2.heap.size < V.heap.size := by omega
    have kdd0 : V.cell? ⟨w.heap.size, 0, none⟩ = some (.string d.name) := (hVB.cell (p := ⟨w.heap.size, 0, none⟩) z2d).trans y2d0
    have kdd1 : V.cell? ⟨w.heap.size, 1, none⟩ = some (.int .i64 d.from_) := (hVB.cell (p := ⟨w.heap.size, 1, none⟩) z2d).trans y2d1
    have kdd2 : V.cell? ⟨w.heap.size, 2, none⟩ = some (v_text) := (hVB.cell (p := ⟨w.heap.size, 2, none⟩) z2d).trans y2d2
    have kdd3 : V.cell? ⟨w.heap.size, 3, none⟩ = some (v_list) := (hVB.cell (p := ⟨w.heap.size, 3, none⟩) z2d).trans y2d3
    have kdd4 : V.cell? ⟨w.heap.size, 4, none⟩ = some (v_seen) := (hVB.cell (p := ⟨w.heap.size, 4, none⟩) z2d).trans y2d4
    have krr0 : V.cell? ⟨w.heap.size + 1, 0, none⟩ = some (.string ⟨#[]⟩) := (hVB.cell (p := ⟨w.heap.size + 1, 0, none⟩) z2r).trans y2r0
    have frr0 : V.frozen? ⟨w.heap.size + 1, 0, none⟩ = false := (hVB.frozen (p := ⟨w.heap.size + 1, 0, none⟩) z2r).trans t2r0
    have krr1 : V.cell? ⟨w.heap.size + 1, 1, none⟩ = some (.int .i64 0) := (hVB.cell (p := ⟨w.heap.size + 1, 1, none⟩) z2r).trans y2r1
    have frr1 : V.frozen? ⟨w.heap.size + 1, 1, none⟩ = false := (hVB.frozen (p := ⟨w.heap.size + 1, 1, none⟩) z2r).trans t2r1
    have krr2 : V.cell? ⟨w.heap.size + 1, 2, none⟩ = some (.slice none 0 0) := (hVB.cell (p := ⟨w.heap.size + 1, 2, none⟩) z2r).trans y2r2
    have frr2 : V.frozen? ⟨w.heap.size + 1, 2, none⟩ = false := (hVB.frozen (p := ⟨w.heap.size + 1, 2, none⟩) z2r).trans t2r2
    have krr3 : V.cell? ⟨w.heap.size + 1, 3, none⟩ = some (.slice none 0 0) := (hVB.cell (p := ⟨w.heap.size + 1, 3, none⟩) z2r).trans y2r3
    have frr3 : V.frozen? ⟨w.heap.size + 1, 3, none⟩ = false := (hVB.frozen (p := ⟨w.heap.size + 1, 3, none⟩) z2r).trans t2r3
    have krr4 : V.cell? ⟨w.heap.size + 1, 4, none⟩ = some (.slice none 0 0) := (hVB.cell (p := ⟨w.heap.size + 1, 4, none⟩) z2r).trans y2r4
    have frr4 : V.frozen? ⟨w.heap.size + 1, 4, none⟩ = false := (hVB.frozen (p := ⟨w.heap.size + 1, 4, none⟩) z2r).trans t2r4
    have koo0 : V.cell? ⟨w2.heap.size, 0, none⟩ = some (.string d.name) := by rw [hV]; simp [go_sem]
    have foo0 : V.frozen? ⟨w2.heap.size, 0, none⟩ = false := by rw [hV]; simp [go_sem]
    have koo1 : V.cell? ⟨w2.heap.size, 1, none⟩ = some (.int .i64 d.from_) := by rw [hV]; simp [go_sem]
    have foo1 : V.frozen? ⟨w2.heap.size, 1, none⟩ = false := by rw [hV]; simp [go_sem]
    have koo2 : V.cell? ⟨w2.heap.size, 2, none⟩ = some (.slice a2t d.text.length c2t) := by rw [hV]; simp [go_sem]
    have foo2 : V.frozen? ⟨w2.heap.size, 2, none⟩ = false := by rw [hV]; simp [go_sem]
    have koo3 : V.cell? ⟨w2.heap.size, 3, none⟩ = some (.slice a2l d.list.length c2l) := by rw [hV]; simp [go_sem]
    have foo3 : V.frozen? ⟨w2.heap.size, 3, none⟩ = false := by rw [hV]; simp [go_sem]
    have koo4 : V.cell? ⟨w2.heap.size, 4, none⟩ = some (.slice a2s d.seen.length c2s) := by rw [hV]; simp [go_sem]
    have foo4 : V.frozen? ⟨w2.heap.size, 4, none⟩ = false := by rw [hV]; simp [go_sem]
    rw [← hV]
    clear hV
    have HFV : Hid (Fresh W.heap.size V (f2t ++ (f2l ++ f2s))) := Lib.hid (HFR2.out.belowL hVB (Live.lt (Live.append.2 ⟨HS2t.out.live, Live.append.2 ⟨HS2l.out.live, HS2s.out.live⟩⟩)))
    have HVt := Lib.hid (HS2t.out.belowW hVB)
    have HVl := Lib.hid (HS2l.out.belowW hVB)
    have HVs := Lib.hid (HS2s.out.belowW hVB)
    have HLV : Hid (∀ p ∈ f2t ++ (f2l ++ f2s), p.1 < w2.heap.size) := Lib.hid (Live.lt (Live.append.2 ⟨HS2t.out.live, Live.append.2 ⟨HS2l.out.live, HS2s.out.live⟩⟩))
    have hne1 : ¬ (w.heap.size + 1 = w2.heap.size) := by omega
    have hne2 : ¬ (w2.heap.size = w.heap.size + 1) := by omega
    have hne3 : ¬ (w.heap.size = w2.heap.size) := by omega
    have HFRV := Lib.hid HFV.out
    have HB : Hid (Below w.heap.size w (((((V.setCell ⟨w.heap.size + 1, 0, none⟩ (.string d.name)).setCell ⟨w.heap.size + 1, 1, none⟩ (.int .i64 d.from_)).setCell ⟨w.heap.size + 1, 2, none⟩ (.slice a2t d.text.length c2t)).setCell ⟨w.heap.size + 1, 3, none⟩ (.slice a2l d.list.length c2l)).setCell ⟨w.heap.size + 1, 4, none⟩ (.slice a2s d.seen.length c2s))) := Lib.hid ((((((hWB.trans (hWV.mono (by omega))).setCell (by first | (simp; done) | (simp; omega)) (.string d.name)).setCell (by first | (simp; done) | (simp; omega)) (.int .i64 d.from_)).setCell (by first | (simp; done) | (simp; omega)) (.slice a2t d.text.length c2t)).setCell (by first | (simp; done) | (simp; omega)) (.slice a2l d.list.length c2l)).setCell (by first | (simp; done) | (simp; omega)) (.slice a2s d.seen.length c2s))
    have HNR : Hid (∀ j, ∀ f, ((w.heap.size + 1, j) : Pos) ∈ f → f = f2t ++ (f2l ++ f2s) → False) := Lib.hid (by rintro j f hm rfl; have := HFV.out.ge _ hm; simp only at this; omega)
    go_wp2
    rw [HV.out]
    exact bodyPost_ret (v := .tuple #[.agg #[.string d.name, .int .i64 d.from_, .slice a2t d.text.length c2t, .slice a2l d.list.length c2l, .slice a2s d.seen.length c2s], .bool true]) (by simp [results, Try.results44, go_sem, cell_setCell, *]) rfl ⟨_, _, _, f2t, f2l, f2s, rfl, (((((HVt.out.put (b := w.heap.size + 1) (o := 0) (fun hm => HNR.out 0 _ (List.mem_append.2 (.inl hm)) rfl) (.string d.name)).put (b := w.heap.size + 1) (o := 1) (fun hm => HNR.out 1 _ (List.mem_append.2 (.inl hm)) rfl) (.int .i64 d.from_)).put (b := w.heap.size + 1) (o := 2) (fun hm => HNR.out 2 _ (List.mem_append.2 (.inl hm)) rfl) (.slice a2t d.text.length c2t)).put (b := w.heap.size + 1) (o := 3) (fun hm => HNR.out 3 _ (List.mem_append.2 (.inl hm)) rfl) (.slice a2l d.list.length c2l)).put (b := w.heap.size + 1) (o := 4) (fun hm => HNR.out 4 _ (List.mem_append.2 (.inl hm)) rfl) (.slice a2s d.seen.length c2s)), (((((HVl.out.put (b := w.heap.size + 1) (o := 0) (fun hm => HNR.out 0 _ (List.mem_append.2 (.inr (List.mem_append.2 (.inl hm)))) rfl) (.string d.name)).put (b := w.heap.size + 1) (o := 1) (fun hm => HNR.out 1 _ (List.mem_append.2 (.inr (List.mem_append.2 (.inl hm)))) rfl) (.int .i64 d.from_)).put (b := w.heap.size + 1) (o := 2) (fun hm => HNR.out 2 _ (List.mem_append.2 (.inr (List.mem_append.2 (.inl hm)))) rfl) (.slice a2t d.text.length c2t)).put (b := w.heap.size + 1) (o := 3) (fun hm => HNR.out 3 _ (List.mem_append.2 (.inr (List.mem_append.2 (.inl hm)))) rfl) (.slice a2l d.list.length c2l)).put (b := w.heap.size + 1) (o := 4) (fun hm => HNR.out 4 _ (List.mem_append.2 (.inr (List.mem_append.2 (.inl hm)))) rfl) (.slice a2s d.seen.length c2s)), (((((HVs.out.put (b := w.heap.size + 1) (o := 0) (fun hm => HNR.out 0 _ (List.mem_append.2 (.inr (List.mem_append.2 (.inr hm)))) rfl) (.string d.name)).put (b := w.heap.size + 1) (o := 1) (fun hm => HNR.out 1 _ (List.mem_append.2 (.inr (List.mem_append.2 (.inr hm)))) rfl) (.int .i64 d.from_)).put (b := w.heap.size + 1) (o := 2) (fun hm => HNR.out 2 _ (List.mem_append.2 (.inr (List.mem_append.2 (.inr hm)))) rfl) (.slice a2t d.text.length c2t)).put (b := w.heap.size + 1) (o := 3) (fun hm => HNR.out 3 _ (List.mem_append.2 (.inr (List.mem_append.2 (.inr hm)))) rfl) (.slice a2l d.list.length c2l)).put (b := w.heap.size + 1) (o := 4) (fun hm => HNR.out 4 _ (List.mem_append.2 (.inr (List.mem_append.2 (.inr hm)))) rfl) (.slice a2s d.seen.length c2s)), n_name, ((((((HFV.out.mono (by omega)).put ⟨w.heap.size + 1, 0, none⟩ (.string d.name)).put ⟨w.heap.size + 1, 1, none⟩ (.int .i64 d.from_)).put ⟨w.heap.size + 1, 2, none⟩ (.slice a2t d.text.length c2t)).put ⟨w.heap.size + 1, 3, none⟩ (.slice a2l d.list.length c2l)).put ⟨w.heap.size + 1, 4, none⟩ (.slice a2s d.seen.length c2s)), HB.out⟩
  have HV := Lib.hid (forget_some ⟨hd, hn⟩ h2)
  have h3 : decide ((d.list.length : Int) - n ≤ 0) = false := by rw [decide_eq_false_iff_not]; omega
  have h4 : decide (0 < (d.list.length : Int) - n) = true := by rw [decide_eq_true_eq]; omega
  obtain ⟨G, hG⟩ : ∃ G : Nat, ((d.list.length : Int) - n).toNat = G := ⟨_, rfl⟩
  have hGi : (G : Int) = (d.list.length : Int) - n := by omega
  have hGl : G ≤ d.list.length := by omega
  obtain ⟨LD, hLD⟩ : ∃ LD, d.list.drop G = LD := ⟨_, rfl⟩
  have hszd : szL LD ≤ 4000000 := by rw [← hLD]; exact Nat.le_trans (szL_drop _ _) bl
  replace HV := Lib.hid (HV.out.trans (by rw [hG, hLD]))
  have HG := Lib.hid hGi
  clear hG
  have HLD := Lib.hid hLD
  clear hGi hLD
  go_enter Try.func44, Try.ntmps44
  go_wp2_with fail
  rw [← hW]
  clear hW
  go_wp2_with fail
  refine (impl_DocOk_c d _ _ _ _ n_name (HXT.out.below (by repeat' (first | (with_reducible exact Below.refl _ _) | (with_reducible assumption) | (with_reducible refine Below.setCell ?_ ?_ _) | (with_reducible refine Below.alloc ?_ ?_ _) | (with_reducible refine Below.drew ?_) | (with_reducible refine belowN ?_ _) | (with_reducible refine below_after ?_ (by assumption) ?_) | omega | (simp; done) | (simp; omega)))) (HXL.out.below (by repeat' (first | (with_reducible exact Below.refl _ _) | (with_reducible assumption) | (with_reducible refine Below.setCell ?_ ?_ _) | (with_reducible refine Below.alloc ?_ ?_ _) | (with_reducible refine Below.drew ?_) | (with_reducible refine belowN ?_ _) | (with_reducible refine below_after ?_ (by assumption) ?_) | omega | (simp; done) | (simp; omega)))) (HXS.out.below (by repeat' (first | (with_reducible exact Below.refl _ _) | (with_reducible assumption) | (with_reducible refine Below.setCell ?_ ?_ _) | (with_reducible refine Below.alloc ?_ ?_ _) | (with_reducible refine Below.drew ?_) | (with_reducible refine belowN ?_ _) | (with_reducible refine below_after ?_ (by assumption) ?_) | omega | (simp; done) | (simp; omega))))).mono ?_
  rintro e' w1 ⟨rfl, hb1⟩
  rw [hd]
  have B1 : Below W.heap.size W w1 := (show Below W.heap.size W _ from (by repeat' (first | (with_reducible exact Below.refl _ _) | (with_reducible assumption) | (with_reducible refine Below.setCell ?_ ?_ _) | (with_reducible refine Below.alloc ?_ ?_ _) | (with_reducible refine Below.drew ?_) | (with_reducible refine belowN ?_ _) | (with_reducible refine below_after ?_ (by assumption) ?_) | omega | (simp; done) | (simp; omega)))).trans (hb1.mono (by first | omega | (simp; done) | (simp; omega)))
  have s1 := B1.size
  have z1d : w.heap.size < w1.heap.size := Nat.lt_of_lt_of_le zd s1
  have y1d0 := (B1.cell (p := ⟨w.heap.size, 0, none⟩) zd).trans kd0
  have y1d1 := (B1.cell (p := ⟨w.heap.size, 1, none⟩) zd).trans kd1
  have y1d2 := (B1.cell (p := ⟨w.heap.size, 2, none⟩) zd).trans kd2
  have y1d3 := (B1.cell (p := ⟨w.heap.size, 3, none⟩) zd).trans kd3
  have y1d4 := (B1.cell (p := ⟨w.heap.size, 4, none⟩) zd).trans kd4
  have z1r : w.heap.size + 1 < w1.heap.size := Nat.lt_of_lt_of_le zr s1
  have y1r0 := (B1.cell (p := ⟨w.heap.size + 1, 0, none⟩) zr).trans kr0
  have t1r0 := (B1.frozen (p := ⟨w.heap.size + 1, 0, none⟩) zr).trans fr0
  have y1r1 := (B1.cell (p := ⟨w.heap.size + 1, 1, none⟩) zr).trans kr1
  have t1r1 := (B1.frozen (p := ⟨w.heap.size + 1, 1, none⟩) zr).trans fr1
  have y1r2 := (B1.cell (p := ⟨w.heap.size + 1, 2, none⟩) zr).trans kr2
  have t1r2 := (B1.frozen (p := ⟨w.heap.size + 1, 2, none⟩) zr).trans fr2
  have y1r3 := (B1.cell (p := ⟨w.heap.size + 1, 3, none⟩) zr).trans kr3
  have t1r3 := (B1.frozen (p := ⟨w.heap.size + 1, 3, none⟩) zr).trans fr3
  have y1r4 := (B1.cell (p := ⟨w.heap.size + 1, 4, none⟩) zr).trans kr4
  have t1r4 := (B1.frozen (p := ⟨w.heap.size + 1, 4, none⟩) zr).trans fr4
  clear hb1
  go_wp2_with fail
  refine (impl_copyDoc_c d _ _ _ _ n_name (HXT.out.below (by repeat' (first | (with_reducible exact Below.refl _ _) | (with_reducible assumption) | (with_reducible refine Below.setCell ?_ ?_ _) | (with_reducible refine Below.alloc ?_ ?_ _) | (with_reducible refine Below.drew ?_) | (with_reducible refine belowN ?_ _) | (with_reducible refine below_after ?_ (by assumption) ?_) | omega | (simp; done) | (simp; omega)))) (HXL.out.below (by repeat' (first | (with_reducible exact Below.refl _ _) | (with_reducible assumption) | (with_reducible refine Below.setCell ?_ ?_ _) | (with_reducible refine Below.alloc ?_ ?_ _) | (with_reducible refine Below.drew ?_) | (with_reducible refine belowN ?_ _) | (with_reducible refine below_after ?_ (by assumption) ?_) | omega | (simp; done) | (simp; omega)))) (HXS.out.below (by repeat' (first | (with_reducible exact Below.refl _ _) | (with_reducible assumption) | (with_reducible refine Below.setCell ?_ ?_ _) | (with_reducible refine Below.alloc ?_ ?_ _) | (with_reducible refine Below.drew ?_) | (with_reducible refine belowN ?_ _) | (with_reducible refine below_after ?_ (by assumption) ?_) | omega | (simp; done) | (simp; omega)))) bt bl bs).mono ?_
  rintro e' w2 ⟨_, rfl, ⟨fp2, hrd2, hfr2⟩, hb2⟩
  obtain ⟨v2t, v2l, v2s, f2t, f2l, f2s, rfl, n2, S2t, S2l, S2s, rfl⟩ := hrd2
  obtain ⟨a2t, c2t, rfl⟩ := RdS.isSlice ⟨_, S2t⟩
  obtain ⟨a2l, c2l, rfl⟩ := RdS.isSlice ⟨_, S2l⟩
  obtain ⟨a2s, c2s, rfl⟩ := RdS.isSlice ⟨_, S2s⟩
  have HFR2 : Hid (Fresh W.heap.size w2 (f2t ++ (f2l ++ f2s))) := Lib.hid (hfr2.mono (by first | omega | (simp; omega)))
  have HS2t := Lib.hid S2t
  have HS2l := Lib.hid S2l
  have HS2s := Lib.hid S2s
  clear hfr2 S2t S2l S2s
  have B2 : Below W.heap.size W w2 := (show Below W.heap.size W _ from (by repeat' (first | (with_reducible exact Below.refl _ _) | (with_reducible assumption) | (with_reducible refine Below.setCell ?_ ?_ _) | (with_reducible refine Below.alloc ?_ ?_ _) | (with_reducible refine Below.drew ?_) | (with_reducible refine belowN ?_ _) | (with_reducible refine below_after ?_ (by assumption) ?_) | omega | (simp; done) | (simp; omega)))).trans (hb2.mono (by first | omega | (simp; done) | (simp; omega)))
  have s2 := B2.size
  have z2d : w.heap.size < w2.heap.size := Nat.lt_of_lt_of_le zd s2
  have y2d0 := (B2.cell (p := ⟨w.heap.size, 0, none⟩) zd).trans kd0
  have y2d1 := (B2.cell (p := ⟨w.heap.size, 1, none⟩) zd).trans kd1
  have y2d2 := (B2.cell (p := ⟨w.heap.size, 2, none⟩) zd).trans kd2
  have y2d3 := (B2.cell (p := ⟨w.heap.size, 3, none⟩) zd).trans kd3
  have y2d4 := (B2.cell (p := ⟨w.heap.size, 4, none⟩) zd).trans kd4
  have z2r : w.heap.size + 1 < w2.heap.size := Nat.lt_of_lt_of_le zr s2
  have y2r0 := (B2.cell (p := ⟨w.heap.size + 1, 0, none⟩) zr).trans kr0
  have t2r0 := (B2.frozen (p := ⟨w.heap.size + 1, 0, none⟩) zr).trans fr0
  have y2r1 := (B2.cell (p := ⟨w.heap.size + 1, 1, none⟩) zr).trans kr1
  have t2r1 := (B2.frozen (p := ⟨w.heap.size + 1, 1, none⟩) zr).trans fr1
  have y2r2 := (B2.cell (p := ⟨w.heap.size + 1, 2, none⟩) zr).trans kr2
  have t2r2 := (B2.frozen (p := ⟨w.heap.size + 1, 2, none⟩) zr).trans fr2
  have y2r3 := (B2.cell (p := ⟨w.heap.size + 1, 3, none⟩) zr).trans kr3
  have t2r3 := (B2.frozen (p := ⟨w.heap.size + 1, 3, none⟩) zr).trans fr3
  have y2r4 := (B2.cell (p := ⟨w.heap.size + 1, 4, none⟩) zr).trans kr4
  have t2r4 := (B2.frozen (p := ⟨w.heap.size + 1, 4, none⟩) zr).trans fr4
  clear hb2
  skip
  have hcut := HS2l.out.run_l Try.underlying29 szi_DEntry hGl
  rw [HG.out] at hcut
  obtain ⟨fq, Sq, hq1, hq2⟩ := HS2l.out.cut (hi := d.list.length) hGl (Nat.le_refl _) HS2l.out.cap (Nat.le_refl _)
  rw [List.take_length, HLD.out] at Sq
  have HSq := Lib.hid Sq
  have HQ1 := Lib.hid hq1
  have HQ2 := Lib.hid hq2
  clear Sq hq1 hq2
  obtain ⟨vq, hvq⟩ : ∃ vq, cutV (.slice a2l d.list.length c2l) (GoT.n DEntry) G d.list.length (capV (.slice a2l d.list.length c2l)) = vq := ⟨_, rfl⟩
  rw [hvq] at hcut
  rw [hvq] at HSq
  clear hvq
  obtain ⟨aq, cq, rfl⟩ := RdS.isSlice ⟨_, HSq.out⟩
  go_upto_region 4 with (fail)
  obtain ⟨V, hV⟩ : ∃ V : World, V = w2.alloc (.cells #[.string d.name, .int .i64 d.from_, .slice a2t d.text.length c2t, .slice a2l d.list.length c2l, .slice a2s d.seen.length c2s] 32) := ⟨_, rfl⟩
  have hVB : Below w2.heap.size w2 V := by rw [hV]; exact (Below.refl _ _).alloc (Nat.le_refl _) _
  have sV : w2.heap.size + 1 ≤ V.heap.size := by rw [hV]; simp
  have hWV : Below W.heap.size W V := B2.trans (hVB.mono (by omega))
  have zdd : w.heap.size < V.heap.size := by omega
  have zrr : w.heap.size + 1 < V.heap.size := by omega
  have zoo : w2.heap.size < V.heap.size := by omega
  have kdd0 : V.cell? ⟨w.heap.size, 0, none⟩ = some (.string d.name) := (hVB.cell (p := ⟨w.heap.size, 0, none⟩) z2d).trans y2d0
  have kdd1 : V.cell? ⟨w.heap.size, 1, none⟩ = some (.int .i64 d.from_) := (hVB.cell (p := ⟨w.heap.size, 1, none⟩) z2d).trans y2d1
  have kdd2 : V.cell? ⟨w.heap.size, 2, none⟩ = some (v_text) := (hVB.cell (p := ⟨w.heap.size, 2, none⟩) z2d).trans y2d2
  have kdd3 : V.cell? ⟨w.heap.size, 3, none⟩ = some (v_list) := (hVB.cell (p := ⟨w.heap.size, 3, none⟩) z2d).trans y2d3
  have kdd4 : V.cell? ⟨w.heap.size, 4, none⟩ = some (v_seen) := (hVB.cell (p := ⟨w.heap.size, 4, none⟩) z2d).trans y2d4
  have krr0 : V.cell? ⟨w.heap.size + 1, 0, none⟩ = some (.string ⟨#[]⟩) := (hVB.cell (p := ⟨w.heap.size + 1, 0, none⟩) z2r).trans y2r0
  have frr0 : V.frozen? ⟨w.heap.size + 1, 0, none⟩ = false := (hVB.frozen (p := ⟨w.heap.size + 1, 0, none⟩) z2r).trans t2r0
  have krr1 : V.cell? ⟨w.heap.size + 1, 1, none⟩ = some (.int .i64 0) := (hVB.cell (p := ⟨w.heap.size + 1, 1, none⟩) z2r).trans y2r1
  have frr1 : V.frozen? ⟨w.heap.size + 1, 1, none⟩ = false := (hVB.frozen (p := ⟨w.heap.size + 1, 1, none⟩) z2r).trans t2r1
  have krr2 : V.cell? ⟨w.heap.size + 1, 2, none⟩ = some (.slice none 0 0) := (hVB.cell (p := ⟨w.heap.size + 1, 2, none⟩) z2r).trans y2r2
  have frr2 : V.frozen? ⟨w.heap.size + 1, 2, none⟩ = false := (hVB.frozen (p := ⟨w.heap.size + 1, 2, none⟩) z2r).trans t2r2
  have krr3 : V.cell? ⟨w.heap.size + 1, 3, none⟩ = some (.slice none 0 0) := (hVB.cell (p := ⟨w.heap.size + 1, 3, none⟩) z2r).trans y2r3
  have frr3 : V.frozen? ⟨w.heap.size + 1, 3, none⟩ = false := (hVB.frozen (p := ⟨w.heap.size + 1, 3, none⟩) z2r).trans t2r3
  have krr4 : V.cell? ⟨w.heap.size + 1, 4, none⟩ = some (.slice none 0 0) := (hVB.cell (p := ⟨w.heap.size + 1, 4, none⟩) z2r).trans y2r4
  have frr4 : V.frozen? ⟨w.heap.size + 1, 4, none⟩ = false := (hVB.frozen (p := ⟨w.heap.size + 1, 4, none⟩) z2r).trans t2r4
  have koo0 : V.cell? ⟨w2.heap.size, 0, none⟩ = some (.string d.name) := by rw [hV]; simp [go_sem]
  have foo0 : V.frozen? ⟨w2.heap.size, 0, none⟩ = false := by rw [hV]; simp [go_sem]
  have koo1 : V.cell? ⟨w2.heap.size, 1, none⟩ = some (.int .i64 d.from_) := by rw [hV]; simp [go_sem]
  have foo1 : V.frozen? ⟨w2.heap.size, 1, none⟩ = false := by rw [hV]; simp [go_sem]
  have koo2 : V.cell? ⟨w2.heap.size, 2, none⟩ = some (.slice a2t d.text.length c2t) := by rw [hV]; simp [go_sem]
  have foo2 : V.frozen? ⟨w2.heap.size, 2, none⟩ = false := by rw [hV]; simp [go_sem]
  have koo3 : V.cell? ⟨w2.heap.size, 3, none⟩ = some (.slice a2l d.list.length c2l) := by rw [hV]; simp [go_sem]
  have foo3 : V.frozen? ⟨w2.heap.size, 3, none⟩ = false := by rw [hV]; simp [go_sem]
  have koo4 : V.cell? ⟨w2.heap.size, 4, none⟩ = some (.slice a2s d.seen.length c2s) := by rw [hV]; simp [go_sem]
  have foo4 : V.frozen? ⟨w2.heap.size, 4, none⟩ = false := by rw [hV]; simp [go_sem]
  rw [← hV]
  clear hV
  have HFV : Hid (Fresh W.heap.size V (f2t ++ (f2l ++ f2s))) := Lib.hid (HFR2.out.belowL hVB (Live.lt (Live.append.2 ⟨HS2t.out.live, Live.append.2 ⟨HS2l.out.live, HS2s.out.live⟩⟩)))
  have HVt := Lib.hid (HS2t.out.belowW hVB)
  have HVl := Lib.hid (HS2l.out.belowW hVB)
  have HVs := Lib.hid (HS2s.out.belowW hVB)
  have HLV : Hid (∀ p ∈ f2t ++ (f2l ++ f2s), p.1 < w2.heap.size) := Lib.hid (Live.lt (Live.append.2 ⟨HS2t.out.live, Live.append.2 ⟨HS2l.out.live, HS2s.out.live⟩⟩))
  have hne1 : ¬ (w.heap.size + 1 = w2.heap.size) := by omega
  have hne2 : ¬ (w2.heap.size = w.heap.size + 1) := by omega
  have hne3 : ¬ (w.heap.size = w2.heap.size) := by omega
  go_wp2_with fail
  refine (impl_TextAt_c d _ _ _ (d.from_ + ((d.list.length : Int) - n)) _ n_name (HXT.out.below hWV) (HXL.out.below hWV) (HXS.out.below hWV)).mono ?_
  rintro e' w3 ⟨v3, f3, rfl, S3, F3, hb3⟩
  obtain ⟨a3, c3, rfl⟩ := RdS.isSlice ⟨_, S3⟩
  have HS3 := Lib.hid S3
  have HF3 : Hid (Fresh V.heap.size w3 f3) := Lib.hid F3
  clear S3 F3
  have B3 : Below V.heap.size V w3 := (show Below V.heap.size V _ from (by repeat' (first | (with_reducible exact Below.refl _ _) | (with_reducible assumption) | (with_reducible refine Below.setCell ?_ ?_ _) | (with_reducible refine Below.alloc ?_ ?_ _) | (with_reducible refine Below.drew ?_) | (with_reducible refine belowN ?_ _) | (with_reducible refine below_after ?_ (by assumption) ?_) | omega | (simp; done) | (simp; omega)))).trans (hb3.mono (by first | omega | (simp; done) | (simp; omega)))
  have s3 := B3.size
  have z3dd : w.heap.size < w3.heap.size := Nat.lt_of_lt_of_le zdd s3
  have y3dd0 := (B3.cell (p := ⟨w.heap.size, 0, none⟩) zdd).trans kdd0
  have y3dd1 := (B3.cell (p := ⟨w.heap.size, 1, none⟩) zdd).trans kdd1
  have y3dd2 := (B3.cell (p := ⟨w.heap.size, 2, none⟩) zdd).trans kdd2
  have y3dd3 := (B3.cell (p := ⟨w.heap.size, 3, none⟩) zdd).trans kdd3
  have y3dd4 := (B3.cell (p := ⟨w.heap.size, 4, none⟩) zdd).trans kdd4
  have z3rr : w.heap.size + 1 < w3.heap.size := Nat.lt_of_lt_of_le zrr s3
  have y3rr0 := (B3.cell (p := ⟨w.heap.size + 1, 0, none⟩) zrr).trans krr0
  have t3rr0 := (B3.frozen (p := ⟨w.heap.size + 1, 0, none⟩) zrr).trans frr0
  have y3rr1 := (B3.cell (p := ⟨w.heap.size + 1, 1, none⟩) zrr).trans krr1
  have t3rr1 := (B3.frozen (p := ⟨w.heap.size + 1, 1, none⟩) zrr).trans frr1
  have y3rr2 := (B3.cell (p := ⟨w.heap.size + 1, 2, none⟩) zrr).trans krr2
  have t3rr2 := (B3.frozen (p := ⟨w.heap.size + 1, 2, none⟩) zrr).trans frr2
  have y3rr3 := (B3.cell (p := ⟨w.heap.size + 1, 3, none⟩) zrr).trans krr3
  have t3rr3 := (B3.frozen (p := ⟨w.heap.size + 1, 3, none⟩) zrr).trans frr3
  have y3rr4 := (B3.cell (p := ⟨w.heap.size + 1, 4, none⟩) zrr).trans krr4
  have t3rr4 := (B3.frozen (p := ⟨w.heap.size + 1, 4, none⟩) zrr).trans frr4
  have z3oo : w2.heap.size < w3.heap.size := Nat.lt_of_lt_of_le zoo s3
  have y3oo0 := (B3.cell (p := ⟨w2.heap.size, 0, none⟩) zoo).trans koo0
  have t3oo0 := (B3.frozen (p := ⟨w2.heap.size, 0, none⟩) zoo).trans foo0
  have y3oo1 := (B3.cell (p := ⟨w2.heap.size, 1, none⟩) zoo).trans koo1
  have t3oo1 := (B3.frozen (p := ⟨w2.heap.size, 1, none⟩) zoo).trans foo1
  have y3oo2 := (B3.cell (p := ⟨w2.heap.size, 2, none⟩) zoo).trans koo2
  have t3oo2 := (B3.frozen (p := ⟨w2.heap.size, 2, none⟩) zoo).trans foo2
  have y3oo3 := (B3.cell (p := ⟨w2.heap.size, 3, none⟩) zoo).trans koo3
  have t3oo3 := (B3.frozen (p := ⟨w2.heap.size, 3, none⟩) zoo).trans foo3
  have y3oo4 := (B3.cell (p := ⟨w2.heap.size, 4, none⟩) zoo).trans koo4
  have t3oo4 := (B3.frozen (p := ⟨w2.heap.size, 4, none⟩) zoo).trans foo4
  clear hb3
  obtain ⟨TX, hTX⟩ : ∃ TX, (textAt d (d.from_ + ((d.list.length : Int) - n))).1 = TX := ⟨_, rfl⟩
  rw [hTX] at HS3
  rw [hTX]
  replace HV := Lib.hid (HV.out.trans (by rw [hTX]))
  clear hTX
  have HFW : Hid (Fresh W.heap.size w3 (f2t ++ (f2l ++ f2s))) := Lib.hid (HFV.out.belowL B3 (fun p hp => Nat.lt_of_lt_of_le (HLV.out p hp) (by omega)))
  have HSl3 := Lib.hid ((HSq.out.belowW hVB).belowW B3)
  have HSs3 := Lib.hid (HVs.out.belowW B3)
  have HJ : Hid (Fresh W.heap.size w3 (f3 ++ (fq ++ f2s))) := Lib.hid (Fresh.three (HF3.out.mono (by omega)) (HFW.out.right.left.subset (HQ2.out HFW.out.right.left.nodup) HQ1.out) HFW.out.right.right (fun p hp hq => by have := HF3.out.ge p hp; have := HLV.out p (by simp [HQ1.out p hq]); omega) (fun p hp hq => by have := HF3.out.ge p hp; have := HLV.out p (by simp [hq]); omega) (fun p hp hq => HFW.out.right.dis p (HQ1.out p hp) hq))
  have HNOO : Hid (∀ j, ((w2.heap.size, j) : Pos) ∈ f3 ++ (fq ++ f2s) → False) := Lib.hid (fun j hm => by
    rcases List.mem_append.1 hm with hm | hm
    · have := HF3.out.ge _ hm; simp only at this; omega
    · rcases List.mem_append.1 hm with hm | hm
      · have := HLV.out (w2.heap.size, j) (by simp [HQ1.out _ hm]); simp only at this; omega
      · have := HLV.out (w2.heap.size, j) (by simp [hm]); simp only at this; omega)
  go_wp2
  have HB : Hid (Below w.heap.size w ((((((((w3.setCell ⟨w2.heap.size, 2, none⟩ (.slice a3 TX.length c3)).setCell ⟨w2.heap.size, 1, none⟩ (.int .i64 (d.from_ + ((d.list.length : Int) - n)))).setCell ⟨w2.heap.size, 3, none⟩ (.slice aq LD.length cq)).setCell ⟨w.heap.size + 1, 0, none⟩ (.string d.name)).setCell ⟨w.heap.size + 1, 1, none⟩ (.int .i64 (d.from_ + ((d.list.length : Int) - n)))).setCell ⟨w.heap.size + 1, 2, none⟩ (.slice a3 TX.length c3)).setCell ⟨w.heap.size + 1, 3, none⟩ (.slice aq LD.length cq)).setCell ⟨w.heap.size + 1, 4, none⟩ (.slice a2s d.seen.length c2s))) := Lib.hid (((((((((hWB.trans ((hWV.trans (B3.mono (by omega))).mono (by omega))).setCell (by first | (simp; done) | (simp; omega)) (.slice a3 TX.length c3)).setCell (by first | (simp; done) | (simp; omega)) (.int .i64 (d.from_ + ((d.list.length : Int) - n)))).setCell (by first | (simp; done) | (simp; omega)) (.slice aq LD.length cq)).setCell (by first | (simp; done) | (simp; omega)) (.string d.name)).setCell (by first | (simp; done) | (simp; omega)) (.int .i64 (d.from_ + ((d.list.length : Int) - n)))).setCell (by first | (simp; done) | (simp; omega)) (.slice a3 TX.length c3)).setCell (by first | (simp; done) | (simp; omega)) (.slice aq LD.length cq)).setCell (by first | (simp; done) | (simp; omega)) (.slice a2s d.seen.length c2s))
  have HNR : Hid (∀ j, ∀ f, ((w.heap.size + 1, j) : Pos) ∈ f → f = f3 ++ (fq ++ f2s) → False) := Lib.hid (by rintro j f hm rfl; have := HJ.out.ge _ hm; simp only at this; omega)
  have HNO : Hid (∀ j, ∀ f, ((w2.heap.size, j) : Pos) ∈ f → f = f3 ++ (fq ++ f2s) → False) := Lib.hid (by rintro j f hm rfl; exact HNOO.out j hm)
  rw [HV.out]
  exact bodyPost_ret (v := .tuple #[.agg #[.string d.name, .int .i64 (d.from_ + ((d.list.length : Int) - n)), .slice a3 TX.length c3, .slice aq LD.length cq, .slice a2s d.seen.length c2s], .bool true]) (by simp [results, Try.results44, go_sem, cell_setCell, *]) rfl ⟨_, _, _, f3, fq, f2s, rfl, ((((((((HS3.out.put (b := w2.heap.size) (o := 2) (fun hm => HNO.out 2 _ (List.mem_append.2 (.inl hm)) rfl) (.slice a3 TX.length c3)).put (b := w2.heap.size) (o := 1) (fun hm => HNO.out 1 _ (List.mem_append.2 (.inl hm)) rfl) (.int .i64 (d.from_ + ((d.list.length : Int) - n)))).put (b := w2.heap.size) (o := 3) (fun hm => HNO.out 3 _ (List.mem_append.2 (.inl hm)) rfl) (.slice aq LD.length cq)).put (b := w.heap.size + 1) (o := 0) (fun hm => HNR.out 0 _ (List.mem_append.2 (.inl hm)) rfl) (.string d.name)).put (b := w.heap.size + 1) (o := 1) (fun hm => HNR.out 1 _ (List.mem_append.2 (.inl hm)) rfl) (.int .i64 (d.from_ + ((d.list.length : Int) - n)))).put (b := w.heap.size + 1) (o := 2) (fun hm => HNR.out 2 _ (List.mem_append.2 (.inl hm)) rfl) (.slice a3 TX.length c3)).put (b := w.heap.size + 1) (o := 3) (fun hm => HNR.out 3 _ (List.mem_append.2 (.inl hm)) rfl) (.slice aq LD.length cq)).put (b := w.heap.size + 1) (o := 4) (fun hm => HNR.out 4 _ (List.mem_append.2 (.inl hm)) rfl) (.slice a2s d.seen.length c2s)), ((((((((HSl3.out.put (b := w2.heap.size) (o := 2) (fun hm => HNO.out 2 _ (List.mem_append.2 (.inr (List.mem_append.2 (.inl hm)))) rfl) (.slice a3 TX.length c3)).put (b := w2.heap.size) (o := 1) (fun hm => HNO.out 1 _ (List.mem_append.2 (.inr (List.mem_append.2 (.inl hm)))) rfl) (.int .i64 (d.from_ + ((d.list.length : Int) - n)))).put (b := w2.heap.size) (o := 3) (fun hm => HNO.out 3 _ (List.mem_append.2 (.inr (List.mem_append.2 (.inl hm)))) rfl) (.slice aq LD.length cq)).put (b := w.heap.size + 1) (o := 0) (fun hm => HNR.out 0 _ (List.mem_append.2 (.inr (List.mem_append.2 (.inl hm)))) rfl) (.string d.name)).put (b := w.heap.size + 1) (o := 1) (fun hm => HNR.out 1 _ (List.mem_append.2 (.inr (List.mem_append.2 (.inl hm)))) rfl) (.int .i64 (d.from_ + ((d.list.length : Int) - n)))).put (b := w.heap.size + 1) (o := 2) (fun hm => HNR.out 2 _ (List.mem_append.2 (.inr (List.mem_append.2 (.inl hm)))) rfl) (.slice a3 TX.length c3)).put (b := w.heap.size + 1) (o := 3) (fun hm => HNR.out 3 _ (List.mem_append.2 (.inr (List.mem_append.2 (.inl hm)))) rfl) (.slice aq LD.length cq)).put (b := w.heap.size + 1) (o := 4) (fun hm => HNR.out 4 _ (List.mem_append.2 (.inr (List.mem_append.2 (.inl hm)))) rfl) (.slice a2s d.seen.length c2s)), ((((((((HSs3.out.put (b := w2.heap.size) (o := 2) (fun hm => HNO.out 2 _ (List.mem_append.2 (.inr (List.mem_append.2 (.inr hm)))) rfl) (.slice a3 TX.length c3)).put (b := w2.heap.size) (o := 1) (fun hm => HNO.out 1 _ (List.mem_append.2 (.inr (List.mem_append.2 (.inr hm)))) rfl) (.int .i64 (d.from_ + ((d.list.length : Int) - n)))).put (b := w2.heap.size) (o := 3) (fun hm => HNO.out 3 _ (List.mem_append.2 (.inr (List.mem_append.2 (.inr hm)))) rfl) (.slice aq LD.length cq)).put (b := w.heap.size + 1) (o := 0) (fun hm => HNR.out 0 _ (List.mem_append.2 (.inr (List.mem_append.2 (.inr hm)))) rfl) (.string d.name)).put (b := w.heap.size + 1) (o := 1) (fun hm => HNR.out 1 _ (List.mem_append.2 (.inr (List.mem_append.2 (.inr hm)))) rfl) (.int .i64 (d.from_ + ((d.list.length : Int) - n)))).put (b := w.heap.size + 1) (o := 2) (fun hm => HNR.out 2 _ (List.mem_append.2 (.inr (List.mem_append.2 (.inr hm)))) rfl) (.slice a3 TX.length c3)).put (b := w.heap.size + 1) (o := 3) (fun hm => HNR.out 3 _ (List.mem_append.2 (.inr (List.mem_append.2 (.inr hm)))) rfl) (.slice aq LD.length cq)).put (b := w.heap.size + 1) (o := 4) (fun hm => HNR.out 4 _ (List.mem_append.2 (.inr (List.mem_append.2 (.inr hm)))) rfl) (.slice a2s d.seen.length c2s)), n_name, (((((((((HJ.out.mono (by omega)).put ⟨w2.heap.size, 2, none⟩ (.slice a3 TX.length c3)).put ⟨w2.heap.size, 1, none⟩ (.int .i64 (d.from_ + ((d.list.length : Int) - n)))).put ⟨w2.heap.size, 3, none⟩ (.slice aq LD.length cq)).put ⟨w.heap.size + 1, 0, none⟩ (.string d.name)).put ⟨w.heap.size + 1, 1, none⟩ (.int .i64 (d.from_ + ((d.list.length : Int) - n)))).put ⟨w.heap.size + 1, 2, none⟩ (.slice a3 TX.length c3)).put ⟨w.heap.size + 1, 3, none⟩ (.slice aq LD.length cq)).put ⟨w.heap.size + 1, 4, none⟩ (.slice a2s d.seen.length c2s)), HB.out⟩
end Go.Proofs.Ytkbhlgmgjpbloaa
