/- What is asked of a document. -/
import Derived.Test.YtiahgjnpinjblaaDpl
import Derived.Test.YtiahgjnpinjblaaRo
import Derived.IntWalk
namespace Go.Proofs.Ytiahgjnpinjblaa
open Go.RowKit
attribute [local go_sem ↓] Go.wp_at_zero Go.wp_at_succ
theorem yes_stepI {α : Type} {p : Nat → α → Bool} {l : List α} {k : Nat} {x : α} (hx : l[k]? = some x) (hp : p k x = true) (hj : ∀ j < k, ∀ y, l[j]? = some y → p j y = true) : ∀ j < k + 1, ∀ y, l[j]? = some y → p j y = true := by
  intro j hlt y hy
  by_cases e : j = k
  · subst e; rw [hx] at hy; cases hy; exact hp
  · exact hj j (by omega) y hy
theorem docOk_name {d : DDoc} (h : nameOk d.name = false) : docOk d = false := by simp [docOk, h]
theorem docOk_from {d : DDoc} (h : within d.from_ 0 999999000 = false) : docOk d = false := by simp [docOk, h]
theorem docOk_text {d : DDoc} (h : textOk d.text = false) : docOk d = false := by simp [docOk, h]
theorem docOk_len {d : DDoc} (h : ¬ d.list.length ≤ 8) : docOk d = false := by simp [docOk, h]
theorem docOk_ent {d : DDoc} {k : Nat} {e : DEntry} (hx : d.list[k]? = some e) (h : entryOk e = false) : docOk d = false := by simp only [docOk]; rw [all_no hx h]; simp
theorem docOk_app {d : DDoc} (h : appTo (opsL d.list) d.text = none) : docOk d = false := by simp [docOk, h]
theorem docOk_seen {d : DDoc} (h : seenOk (headRev d) d.seen = false) : docOk d = false := by simp [docOk, h]
theorem docOk_yes {d : DDoc} {t : List Int} (h1 : nameOk d.name = true) (h2 : within d.from_ 0 999999000 = true) (h3 : textOk d.text = true) (h4 : d.list.length ≤ 8) (h5 : ∀ j < d.list.length, ∀ y, d.list[j]? = some y → entryOk y = true) (h6 : appTo (opsL d.list) d.text = some t) (h7 : ∀ j < d.seen.length, ∀ y, d.seen[j]? = some y → seenI (headRev d) d.seen j y = true) : docOk d = true := by
  simp [docOk, h1, h2, h3, h4, h6, seenOk_yes h7, all_yes h5]
theorem spec_HeadRev_c (d : DDoc) (v_text v_list v_seen : Value) (w : World) (h_list : RdS w v_list d.list) (b1 : -9000000000000000000 ≤ d.from_) (b2 : d.from_ ≤ 9000000000000000000) :
    Calls Try.prog 31 #[.agg #[.string d.name, .int .i64 d.from_, v_text, v_list, v_seen]] w (Tells w (.int .i64 (headRev d))) := by
  have hl := fun w1 ty => h_list.len Try.underlying24 w1 ty
  have ba := h_list.le
  go_enter Try.func31, Try.ntmps31
  go_wp2
  go_ret
  exact ⟨rfl, blw⟩
theorem spec_HeadRev_any (d : DDoc) (v_text v_list v_seen : Value) (w : World) (h_list : RdS w v_list d.list) :
    Calls Try.prog 31 #[.agg #[.string d.name, .int .i64 d.from_, v_text, v_list, v_seen]] w (fun e w' => ∃ n : Int, Tells w (.int .i64 n) e w') := by
  have hl := fun w1 ty => h_list.len Try.underlying24 w1 ty
  have ba := h_list.le
  go_enter Try.func31, Try.ntmps31
  go_wp2
  go_ret
  exact ⟨_, rfl, blw⟩
theorem impl_HeadRev_c (d : DDoc) (v_text v_list v_seen : Value) (w : World) (h_list : RdS w v_list d.list) (b1 : -9000000000000000000 ≤ d.from_) (b2 : d.from_ ≤ 9000000000000000000) :
    Calls Try.prog 18 #[.agg #[.string d.name, .int .i64 d.from_, v_text, v_list, v_seen]] w (Tells w (.int .i64 (headRev d))) := by
  have hl := fun w1 ty => h_list.len Try.underlying24 w1 ty
  have ba := h_list.le
  go_enter Try.func18, Try.ntmps18
  go_wp2
  go_ret
  exact ⟨rfl, blw⟩
theorem impl_HeadRev_any (d : DDoc) (v_text v_list v_seen : Value) (w : World) (h_list : RdS w v_list d.list) :
    Calls Try.prog 18 #[.agg #[.string d.name, .int .i64 d.from_, v_text, v_list, v_seen]] w (fun e w' => ∃ n : Int, Tells w (.int .i64 n) e w') := by
  have hl := fun w1 ty => h_list.len Try.underlying24 w1 ty
  have ba := h_list.le
  go_enter Try.func18, Try.ntmps18
  go_wp2
  go_ret
  exact ⟨_, rfl, blw⟩
set_option maxHeartbeats 64000000 in
set_option maxRecDepth 100000 in
theorem spec_DocOk_c (d : DDoc) (v_text v_list v_seen : Value) (w : World) (n_name : d.name.size ≤ BIG) (h_text : RdS w v_text d.text) (h_list : RdS w v_list d.list) (h_seen : RdS w v_seen d.seen) : Calls Try.prog 48 #[.agg #[.string d.name, .int .i64 d.from_, v_text, v_list, v_seen]] w (Tells w (.bool (docOk d))) := by
  have hll := fun w1 ty => h_list.len Try.underlying24 w1 ty
  have hls := fun w1 ty => h_seen.len Try.underlying25 w1 ty
  have bl := h_list.le
  have bs := h_seen.le
  have n_name := BIG_le n_name
  have bt := h_text.le
  obtain ⟨W, hW⟩ : ∃ W : World, W = w.alloc (.cells #[.string d.name, .int .i64 d.from_, v_text, v_list, v_seen] 27) := ⟨_, rfl⟩
  have hWB : Below w.heap.size w W := by rw [hW]; exact blw
  have sW := hWB.size
  have zd : w.heap.size < W.heap.size := by rw [hW]; first | (simp; done) | (simp; omega)
  have kd0 : W.cell? ⟨w.heap.size, 0, none⟩ = some (.string d.name) := by rw [hW]; simp [go_sem]
  have kd1 : W.cell? ⟨w.heap.size, 1, none⟩ = some (.int .i64 d.from_) := by rw [hW]; simp [go_sem]
  have kd2 : W.cell? ⟨w.heap.size, 2, none⟩ = some (v_text) := by rw [hW]; simp [go_sem]
  have kd3 : W.cell? ⟨w.heap.size, 3, none⟩ = some (v_list) := by rw [hW]; simp [go_sem]
  have kd4 : W.cell? ⟨w.heap.size, 4, none⟩ = some (v_seen) := by rw [hW]; simp [go_sem]
  have HXT := Lib.hid (h_text.below hWB)
  have HXL := Lib.hid (h_list.below hWB)
  have HXS := Lib.hid (h_seen.below hWB)
  clear h_text h_list h_seen
  by_cases h1 : nameOk d.name = true
  rotate_left
  · have h1 : nameOk d.name = false := by simpa using h1
    have HV := Lib.hid (docOk_name h1)
    go_enter Try.func48, Try.ntmps48
    go_wp2_with fail
    rw [← hW]
    clear hW
    go_wp2_with fail
    refine (spec_NameOk_c d.name _ n_name).mono ?_
    rintro e' w1 ⟨rfl, hb1⟩
    rw [h1]
    have B1 : Below W.heap.size W w1 := (show Below W.heap.size W _ from blw).trans (hb1.mono om)
    have s1 := B1.size
    have z1d : w.heap.size < w1.heap.size := Nat.lt_of_lt_of_le zd s1
    obtain ⟨y1d0, y1d1, y1d2, y1d3, y1d4⟩ := mv5 B1 zd kd0 kd1 kd2 kd3 kd4
    clear hb1
    go_wp2
    go_ret
    exact ⟨ret_bool HV.out.symm, blw⟩
  by_cases h2 : within d.from_ 0 999999000 = true
  rotate_left
  · have h2 : within d.from_ 0 999999000 = false := by simpa using h2
    have HV := Lib.hid (docOk_from h2)
    go_enter Try.func48, Try.ntmps48
    go_wp2_with fail
    rw [← hW]
    clear hW
    go_wp2_with fail
    refine (spec_NameOk_c d.name _ n_name).mono ?_
    rintro e' w1 ⟨rfl, hb1⟩
    rw [h1]
    have B1 : Below W.heap.size W w1 := (show Below W.heap.size W _ from blw).trans (hb1.mono om)
    have s1 := B1.size
    have z1d : w.heap.size < w1.heap.size := Nat.lt_of_lt_of_le zd s1
    obtain ⟨y1d0, y1d1, y1d2, y1d3, y1d4⟩ := mv5 B1 zd kd0 kd1 kd2 kd3 kd4
    clear hb1
    go_wp2_with fail
    refine (spec_within_c _ _ _ _).mono ?_
    rintro e' w2 ⟨rfl, hb2⟩
    rw [h2]
    have B2 : Below W.heap.size W w2 := (show Below W.heap.size W _ from blw).trans (hb2.mono om)
    have s2 := B2.size
    have z2d : w.heap.size < w2.heap.size := Nat.lt_of_lt_of_le zd s2
    obtain ⟨y2d0, y2d1, y2d2, y2d3, y2d4⟩ := mv5 B2 zd kd0 kd1 kd2 kd3 kd4
    clear hb2
    go_wp2
    go_ret
    exact ⟨ret_bool HV.out.symm, blw⟩
  by_cases h3 : textOk d.text = true
  rotate_left
  · have h3 : textOk d.text = false := by simpa using h3
    have HV := Lib.hid (docOk_text h3)
    go_enter Try.func48, Try.ntmps48
    go_wp2_with fail
    rw [← hW]
    clear hW
    go_wp2_with fail
    refine (spec_NameOk_c d.name _ n_name).mono ?_
    rintro e' w1 ⟨rfl, hb1⟩
    rw [h1]
    have B1 : Below W.heap.size W w1 := (show Below W.heap.size W _ from blw).trans (hb1.mono om)
    have s1 := B1.size
    have z1d : w.heap.size < w1.heap.size := Nat.lt_of_lt_of_le zd s1
    obtain ⟨y1d0, y1d1, y1d2, y1d3, y1d4⟩ := mv5 B1 zd kd0 kd1 kd2 kd3 kd4
    clear hb1
    go_wp2_with fail
    refine (spec_within_c _ _ _ _).mono ?_
    rintro e' w2 ⟨rfl, hb2⟩
    rw [h2]
    have B2 : Below W.heap.size W w2 := (show Below W.heap.size W _ from blw).trans (hb2.mono om)
    have s2 := B2.size
    have z2d : w.heap.size < w2.heap.size := Nat.lt_of_lt_of_le zd s2
    obtain ⟨y2d0, y2d1, y2d2, y2d3, y2d4⟩ := mv5 B2 zd kd0 kd1 kd2 kd3 kd4
    clear hb2
    go_wp2_with fail
    refine (spec_TextOk_c _ d.text _ (HXT.out.below blw)).mono ?_
    rintro e' w3 ⟨rfl, hb3⟩
    rw [h3]
    have B3 : Below W.heap.size W w3 := (show Below W.heap.size W _ from blw).trans (hb3.mono om)
    have s3 := B3.size
    have z3d : w.heap.size < w3.heap.size := Nat.lt_of_lt_of_le zd s3
    obtain ⟨y3d0, y3d1, y3d2, y3d3, y3d4⟩ := mv5 B3 zd kd0 kd1 kd2 kd3 kd4
    clear hb3
    go_wp2
    go_ret
    exact ⟨ret_bool HV.out.symm, blw⟩
  by_cases h4 : d.list.length ≤ 8
  rotate_left
  · have HV := Lib.hid (docOk_len h4)
    go_enter Try.func48, Try.ntmps48
    go_wp2_with fail
    rw [← hW]
    clear hW
    go_wp2_with fail
    refine (spec_NameOk_c d.name _ n_name).mono ?_
    rintro e' w1 ⟨rfl, hb1⟩
    rw [h1]
    have B1 : Below W.heap.size W w1 := (show Below W.heap.size W _ from blw).trans (hb1.mono om)
    have s1 := B1.size
    have z1d : w.heap.size < w1.heap.size := Nat.lt_of_lt_of_le zd s1
    obtain ⟨y1d0, y1d1, y1d2, y1d3, y1d4⟩ := mv5 B1 zd kd0 kd1 kd2 kd3 kd4
    clear hb1
    go_wp2_with fail
    refine (spec_within_c _ _ _ _).mono ?_
    rintro e' w2 ⟨rfl, hb2⟩
    rw [h2]
    have B2 : Below W.heap.size W w2 := (show Below W.heap.size W _ from blw).trans (hb2.mono om)
    have s2 := B2.size
    have z2d : w.heap.size < w2.heap.size := Nat.lt_of_lt_of_le zd s2
    obtain ⟨y2d0, y2d1, y2d2, y2d3, y2d4⟩ := mv5 B2 zd kd0 kd1 kd2 kd3 kd4
    clear hb2
    go_wp2_with fail
    refine (spec_TextOk_c _ d.text _ (HXT.out.below blw)).mono ?_
    rintro e' w3 ⟨rfl, hb3⟩
    rw [h3]
    have B3 : Below W.heap.size W w3 := (show Below W.heap.size W _ from blw).trans (hb3.mono om)
    have s3 := B3.size
    have z3d : w.heap.size < w3.heap.size := Nat.lt_of_lt_of_le zd s3
    obtain ⟨y3d0, y3d1, y3d2, y3d3, y3d4⟩ := mv5 B3 zd kd0 kd1 kd2 kd3 kd4
    clear hb3
    go_wp2
    go_ret
    exact ⟨ret_bool HV.out.symm, blw⟩
  have H1 := Lib.hid h1
  have H2 := Lib.hid h2
  have H3 := Lib.hid h3
  have hfr := within_iff.1 h2
  go_enter Try.func48, Try.ntmps48
  go_wp2_with fail
  rw [← hW]
  clear hW
  go_wp2_with fail
  refine (spec_NameOk_c d.name _ n_name).mono ?_
  rintro e' w1 ⟨rfl, hb1⟩
  rw [h1]
  have B1 : Below W.heap.size W w1 := (show Below W.heap.size W _ from blw).trans (hb1.mono om)
  have s1 := B1.size
  have z1d : w.heap.size < w1.heap.size := Nat.lt_of_lt_of_le zd s1
  obtain ⟨y1d0, y1d1, y1d2, y1d3, y1d4⟩ := mv5 B1 zd kd0 kd1 kd2 kd3 kd4
  clear hb1
  go_wp2_with fail
  refine (spec_within_c _ _ _ _).mono ?_
  rintro e' w2 ⟨rfl, hb2⟩
  rw [h2]
  have B2 : Below W.heap.size W w2 := (show Below W.heap.size W _ from blw).trans (hb2.mono om)
  have s2 := B2.size
  have z2d : w.heap.size < w2.heap.size := Nat.lt_of_lt_of_le zd s2
  obtain ⟨y2d0, y2d1, y2d2, y2d3, y2d4⟩ := mv5 B2 zd kd0 kd1 kd2 kd3 kd4
  clear hb2
  go_wp2_with fail
  refine (spec_TextOk_c _ d.text _ (HXT.out.below blw)).mono ?_
  rintro e' w3 ⟨rfl, hb3⟩
  rw [h3]
  have B3 : Below W.heap.size W w3 := (show Below W.heap.size W _ from blw).trans (hb3.mono om)
  have s3 := B3.size
  have z3d : w.heap.size < w3.heap.size := Nat.lt_of_lt_of_le zd s3
  obtain ⟨y3d0, y3d1, y3d2, y3d3, y3d4⟩ := mv5 B3 zd kd0 kd1 kd2 kd3 kd4
  clear hb3
  clear h1 h2 h3
  go_wp2
  go_loopw [3, 37] (fun z i wr => ∃ (k : Nat) (u : Value) (x : List Int), u = z ∧ k ≤ d.list.length ∧ i = .int .i64 k ∧ appTo ((opsL d.list).take k) d.text = some x ∧ textOk x = true ∧ (∀ j < k, ∀ y, d.list[j]? = some y → entryOk y = true) ∧ RdS wr u x ∧ Below W.heap.size W wr) (fun _ i _ => d.list.length - (intOf i).toNat)
  case atStart => exact ⟨0, _, d.text, rfl, Nat.zero_le _, rfl, rfl, H3.out, fun _ h => absurd h (Nat.not_lt_zero _), HXT.out.below blw, blw⟩
  case round =>
    obtain ⟨k, u, x, rfl, hk, rfl, hap, htx, hj, hu, hbr⟩ := hrel
    have hsz := hbr.size
    have HJ := Lib.hid hj
    have HAP := Lib.hid hap
    have HTX := Lib.hid htx
    clear hj hap htx
    by_cases hlt : k < d.list.length
    · obtain ⟨x1, hx⟩ := get_some hlt
      obtain ⟨b1, o1, cs, g1, g2, g3⟩ := (HXL.out.below hbr).idx Try.underlying24 szi_DEntry k hx
      obtain ⟨v_o, rfl, r_o⟩ := inv_DEntry g3
      have q0 := g2.zero
      have q1 := g2 1 _ rfl
      have q2 := g2 2 _ rfl
      obtain ⟨aa, ca, rfl⟩ := r_o.isSlice
      have HST := Lib.hid (appTo_succ (opsL_get hx) HAP.out)
      have HX := Lib.hid hx
      have HRO := Lib.hid r_o
      have HU := Lib.hid hu
      clear hx g2 g3 r_o hu
      have su := hbr.size
      obtain ⟨ud0, ud1, ud2, ud3, ud4⟩ := mv5 hbr zd kd0 kd1 kd2 kd3 kd4
      by_cases hy : (applyP x1.o x).2 = true
      rotate_left
      · have hy : (applyP x1.o x).2 = false := by simpa using hy
        have HV := Lib.hid (docOk_app (appTo_take_none (k := k + 1) (by rw [HST.out, hy]; rfl)))
        go_wp2_with fail
        refine (spec_Apply_c x1.o x _ _ _ (HRO.out.below blw) (HU.out.below blw)).mono ?_
        rintro e' w4 ⟨v4, f4, rfl, S4, F4, hb4⟩
        rw [hy]
        have B4 : Below W.heap.size W w4 := (show Below W.heap.size W _ from blw).trans (hb4.mono om)
        have R4 : Below wr.heap.size wr w4 := (show Below wr.heap.size wr _ from blw).trans (hb4.mono om)
        have s4 := B4.size
        have r4 := R4.size
        have z4 : wr.heap.size < w4.heap.size := Nat.lt_of_lt_of_le (by simp) hb4.size
        have y40 : w4.cell? ⟨wr.heap.size, 0, none⟩ = some (.int .i64 x1.client) := (hb4.cell (p := ⟨wr.heap.size, 0, none⟩) (by simp)).trans (by simp)
        have y41 : w4.cell? ⟨wr.heap.size, 1, none⟩ = some (.int .i64 x1.seq) := (hb4.cell (p := ⟨wr.heap.size, 1, none⟩) (by simp)).trans (by simp)
        have y42 : w4.cell? ⟨wr.heap.size, 2, none⟩ = some (.slice aa x1.o.length ca) := (hb4.cell (p := ⟨wr.heap.size, 2, none⟩) (by simp)).trans (by simp)
        clear hb4 S4 F4
        go_wp2
        go_ret
        exact ⟨ret_bool HV.out.symm, blw⟩
      have HS2 : Hid (appTo ((opsL d.list).take (k + 1)) d.text = some (applyP x1.o x).1) := Lib.hid (by rw [HST.out, if_pos hy])
      have HTN := Lib.hid (applyP_text hy).1
      have hne := (applyP_text hy).1
      by_cases he : entryOk x1 = true
      rotate_left
      · have he : entryOk x1 = false := by simpa using he
        have HV := Lib.hid (docOk_ent HX.out he)
        go_wp2_with fail
        refine (spec_Apply_c x1.o x _ _ _ (HRO.out.below blw) (HU.out.below blw)).mono ?_
        rintro e' w4 ⟨v4, f4, rfl, S4, F4, hb4⟩
        rw [hy]
        have B4 : Below W.heap.size W w4 := (show Below W.heap.size W _ from blw).trans (hb4.mono om)
        have R4 : Below wr.heap.size wr w4 := (show Below wr.heap.size wr _ from blw).trans (hb4.mono om)
        have s4 := B4.size
        have r4 := R4.size
        have z4 : wr.heap.size < w4.heap.size := Nat.lt_of_lt_of_le (by simp) hb4.size
        have y40 : w4.cell? ⟨wr.heap.size, 0, none⟩ = some (.int .i64 x1.client) := (hb4.cell (p := ⟨wr.heap.size, 0, none⟩) (by simp)).trans (by simp)
        have y41 : w4.cell? ⟨wr.heap.size, 1, none⟩ = some (.int .i64 x1.seq) := (hb4.cell (p := ⟨wr.heap.size, 1, none⟩) (by simp)).trans (by simp)
        have y42 : w4.cell? ⟨wr.heap.size, 2, none⟩ = some (.slice aa x1.o.length ca) := (hb4.cell (p := ⟨wr.heap.size, 2, none⟩) (by simp)).trans (by simp)
        have HR4 : Hid (RdS w4 v4 (applyP x1.o x).1) := Lib.hid ⟨f4, S4⟩
        clear hb4 S4 F4
        go_wp2_with fail
        refine (spec_EntryOk_c x1 _ _ (HRO.out.below blw)).mono ?_
        rintro e' w5 ⟨rfl, hb5⟩
        rw [he]
        have B5 : Below W.heap.size W w5 := (show Below W.heap.size W _ from blw).trans (hb5.mono om)
        have s5 := B5.size
        have R5 : Below wr.heap.size wr w5 := (show Below wr.heap.size wr _ from blw).trans (hb5.mono om)
        have r5 := R5.size
        have C5 : Below w4.heap.size w4 w5 := (show Below w4.heap.size w4 _ from blw).trans (hb5.mono om)
        clear hb5
        go_wp2
        go_ret
        exact ⟨ret_bool HV.out.symm, blw⟩
      have HE := Lib.hid he
      go_wp2_with fail
      refine (spec_Apply_c x1.o x _ _ _ (HRO.out.below blw) (HU.out.below blw)).mono ?_
      rintro e' w4 ⟨v4, f4, rfl, S4, F4, hb4⟩
      rw [hy]
      have B4 : Below W.heap.size W w4 := (show Below W.heap.size W _ from blw).trans (hb4.mono om)
      have R4 : Below wr.heap.size wr w4 := (show Below wr.heap.size wr _ from blw).trans (hb4.mono om)
      have s4 := B4.size
      have r4 := R4.size
      have z4 : wr.heap.size < w4.heap.size := Nat.lt_of_lt_of_le (by simp) hb4.size
      have y40 : w4.cell? ⟨wr.heap.size, 0, none⟩ = some (.int .i64 x1.client) := (hb4.cell (p := ⟨wr.heap.size, 0, none⟩) (by simp)).trans (by simp)
      have y41 : w4.cell? ⟨wr.heap.size, 1, none⟩ = some (.int .i64 x1.seq) := (hb4.cell (p := ⟨wr.heap.size, 1, none⟩) (by simp)).trans (by simp)
      have y42 : w4.cell? ⟨wr.heap.size, 2, none⟩ = some (.slice aa x1.o.length ca) := (hb4.cell (p := ⟨wr.heap.size, 2, none⟩) (by simp)).trans (by simp)
      have HR4 : Hid (RdS w4 v4 (applyP x1.o x).1) := Lib.hid ⟨f4, S4⟩
      clear hb4 S4 F4
      go_wp2_with fail
      refine (spec_EntryOk_c x1 _ _ (HRO.out.below blw)).mono ?_
      rintro e' w5 ⟨rfl, hb5⟩
      rw [he]
      have B5 : Below W.heap.size W w5 := (show Below W.heap.size W _ from blw).trans (hb5.mono om)
      have s5 := B5.size
      have R5 : Below wr.heap.size wr w5 := (show Below wr.heap.size wr _ from blw).trans (hb5.mono om)
      have r5 := R5.size
      have C5 : Below w4.heap.size w4 w5 := (show Below w4.heap.size w4 _ from blw).trans (hb5.mono om)
      clear hb5
      go_wp2_with fail
      refine (spec_TextOk_c _ (applyP x1.o x).1 _ (HR4.out.below blw)).mono ?_
      rintro e' w6 ⟨rfl, hb6⟩
      rw [hne]
      have B6 : Below W.heap.size W w6 := (show Below W.heap.size W _ from blw).trans (hb6.mono om)
      have s6 := B6.size
      have C6 : Below w4.heap.size w4 w6 := C5.trans (hb6.mono C5.size)
      clear hb6
      go_wp2
      go_roundw
      case rel => exact ⟨k + 1, _, _, rfl, by omega, by go_num, HS2.out, HTN.out, yes_step HX.out HE.out HJ.out, HR4.out.below C6, blw⟩
      case measure => simp [intOf]; omega
    · obtain rfl : k = d.list.length := by omega
      have HAPP : Hid (appTo (opsL d.list) d.text = some x) := Lib.hid (by have := HAP.out; rwa [List.take_of_length_le (by simp [opsL])] at this)
      have HENTS : Hid (∀ j < d.list.length, ∀ y, d.list[j]? = some y → entryOk y = true) := HJ
      clear HJ HAP hu
      have su := hbr.size
      obtain ⟨ud0, ud1, ud2, ud3, ud4⟩ := mv5 hbr zd kd0 kd1 kd2 kd3 kd4
      go_wp2
      obtain ⟨wo, rfl⟩ : ∃ wo : World, wo = wr := ⟨_, rfl⟩
      go_loopw [65] (fun i wr => ∃ k : Nat, k ≤ d.seen.length ∧ i = .int .i64 k ∧ (∀ j < k, ∀ y, d.seen[j]? = some y → seenI (headRev d) d.seen j y = true) ∧ Below W.heap.size W wr) (fun i _ => d.seen.length - (intOf i).toNat)
      case atStart => exact ⟨0, Nat.zero_le _, rfl, fun _ h => absurd h (Nat.not_lt_zero _), hbr⟩
      case round =>
        obtain ⟨k, hk, rfl, hj, hbq⟩ := hrel
        have hsz := hbq.size
        have HJ := Lib.hid hj
        clear hj
        by_cases hlt : k < d.seen.length
        rotate_left
        · obtain rfl : k = d.seen.length := by omega
          have HV := Lib.hid (docOk_yes H1.out H2.out H3.out h4 HENTS.out HAPP.out HJ.out)
          go_wp2
          go_ret
          exact ⟨ret_bool HV.out.symm, blw⟩
        obtain ⟨s, hx⟩ := get_some hlt
        obtain ⟨b1, o1, cs, g1, g2, g3⟩ := (HXS.out.below hbq).idx Try.underlying25 szi_DSeen k hx
        obtain rfl := inv_DSeen g3
        have q0 := g2.zero
        have q1 := g2 1 _ rfl
        have q2 := g2 2 _ rfl
        have HX := Lib.hid hx
        clear hx g2 g3
        have su := hbq.size
        obtain ⟨ud0, ud1, ud2, ud3, ud4⟩ := mv5 hbq zd kd0 kd1 kd2 kd3 kd4
        obtain ⟨V, hV⟩ : ∃ V : World, V = wr.alloc (.cells #[.int .i64 s.client, .int .i64 s.seq, .int .i64 s.rev] 65) := ⟨_, rfl⟩
        have hVB : Below W.heap.size W V := by rw [hV]; exact blw
        have sV := hVB.size
        have ze : w.heap.size < V.heap.size := by omega
        have zs : wr.heap.size < V.heap.size := by rw [hV]; simp
        obtain ⟨ke0, ke1, ke2, ke3, ke4⟩ := mv5 hVB zd kd0 kd1 kd2 kd3 kd4
        have ks0 : V.cell? ⟨wr.heap.size, 0, none⟩ = some (.int .i64 s.client) := by rw [hV]; simp
        have ks1 : V.cell? ⟨wr.heap.size, 1, none⟩ = some (.int .i64 s.seq) := by rw [hV]; simp
        have ks2 : V.cell? ⟨wr.heap.size, 2, none⟩ = some (.int .i64 s.rev) := by rw [hV]; simp
        have hVq : Below wr.heap.size wr V := by rw [hV]; exact (Below.refl _ _).alloc (Nat.le_refl _) _
        by_cases e1 : within s.client 1 8 = true
        rotate_left
        · have e1 : within s.client 1 8 = false := by simpa using e1
          have HV := Lib.hid (docOk_seen (seenOk_no HX.out (seenI_no1 e1)))
          go_wp2
          rw [← hV]
          clear hV q0 q1 q2 ud0 ud1 ud2 ud3 ud4
          obtain ⟨X, hX, F, hF, hFs⟩ := fam_of V
          obtain ⟨ce0, ce1, ce2, ce3, ce4⟩ := mx5 hF ze ke0 ke1 ke2 ke3 ke4
          obtain ⟨cs0, cs1, cs2⟩ := mx3 hF zs ks0 ks1 ks2
          have HF := Lib.hid hF
          have HFs := Lib.hid hFs
          clear hF hFs
          refine wp_region_fam (F := F) (by kernel_rfl) (by kernel_rfl) (HFs.out _ (Below.refl _ _).drew) ?_
          have He1 := Lib.hid (fun W' : World => (by have := spec_within_c s.client 1 8 W'; rwa [e1] at this : Calls Try.prog 50 #[.int .i64 s.client, .int .i64 1, .int .i64 8] W' (Tells W' (.bool false))))
          repeat (go_big_quiet_step ((first | (go_at_call 50; (first | (with_reducible exact Calls.fam_tells HF.out HFs.out (He1.out _)))) | (go_at_call 31; exact Calls.fam_tells HF.out HFs.out (spec_HeadRev_c d _ _ _ _ (HXL.out.below (hVB.trans ((HF.out _).mono sV))) (by omega) (by omega))))))
          refine wpQuiet_nil ?_
          intro x
          obtain ⟨wx, hwx⟩ : ∃ wx : World, F x = wx := ⟨_, rfl⟩
          have B7 : Below W.heap.size W wx := by rw [← hwx]; exact hVB.trans ((HF.out _).mono sV)
          rw [hwx]
          clear hwx ce0 ce1 ce2 ce3 ce4 cs0 cs1 cs2 HF HFs
          go_wp2
          go_ret
          exact ⟨ret_bool HV.out.symm, blw⟩
        by_cases e3 : within s.seq 1 1000000000 = true
        rotate_left
        · have e3 : within s.seq 1 1000000000 = false := by simpa using e3
          have HV := Lib.hid (docOk_seen (seenOk_no HX.out (seenI_no2 e3)))
          go_wp2
          rw [← hV]
          clear hV q0 q1 q2 ud0 ud1 ud2 ud3 ud4
          obtain ⟨X, hX, F, hF, hFs⟩ := fam_of V
          obtain ⟨ce0, ce1, ce2, ce3, ce4⟩ := mx5 hF ze ke0 ke1 ke2 ke3 ke4
          obtain ⟨cs0, cs1, cs2⟩ := mx3 hF zs ks0 ks1 ks2
          have HF := Lib.hid hF
          have HFs := Lib.hid hFs
          clear hF hFs
          refine wp_region_fam (F := F) (by kernel_rfl) (by kernel_rfl) (HFs.out _ (Below.refl _ _).drew) ?_
          have He1 := Lib.hid (fun W' : World => (by have := spec_within_c s.client 1 8 W'; rwa [e1] at this : Calls Try.prog 50 #[.int .i64 s.client, .int .i64 1, .int .i64 8] W' (Tells W' (.bool true))))
          have He3 := Lib.hid (fun W' : World => (by have := spec_within_c s.seq 1 1000000000 W'; rwa [e3] at this : Calls Try.prog 50 #[.int .i64 s.seq, .int .i64 1, .int .i64 1000000000] W' (Tells W' (.bool false))))
          repeat (go_big_quiet_step ((first | (go_at_call 50; (first | (with_reducible exact Calls.fam_tells HF.out HFs.out (He1.out _)) | (with_reducible exact Calls.fam_tells HF.out HFs.out (He3.out _)))) | (go_at_call 31; exact Calls.fam_tells HF.out HFs.out (spec_HeadRev_c d _ _ _ _ (HXL.out.below (hVB.trans ((HF.out _).mono sV))) (by omega) (by omega))))))
          refine wpQuiet_nil ?_
          intro x
          obtain ⟨wx, hwx⟩ : ∃ wx : World, F x = wx := ⟨_, rfl⟩
          have B7 : Below W.heap.size W wx := by rw [← hwx]; exact hVB.trans ((HF.out _).mono sV)
          rw [hwx]
          clear hwx ce0 ce1 ce2 ce3 ce4 cs0 cs1 cs2 HF HFs
          go_wp2
          go_ret
          exact ⟨ret_bool HV.out.symm, blw⟩
        by_cases e4 : within s.rev 1 (headRev d) = true
        rotate_left
        · have e4 : within s.rev 1 (headRev d) = false := by simpa using e4
          have HV := Lib.hid (docOk_seen (seenOk_no HX.out (seenI_no3 e4)))
          go_wp2
          rw [← hV]
          clear hV q0 q1 q2 ud0 ud1 ud2 ud3 ud4
          obtain ⟨X, hX, F, hF, hFs⟩ := fam_of V
          obtain ⟨ce0, ce1, ce2, ce3, ce4⟩ := mx5 hF ze ke0 ke1 ke2 ke3 ke4
          obtain ⟨cs0, cs1, cs2⟩ := mx3 hF zs ks0 ks1 ks2
          have HF := Lib.hid hF
          have HFs := Lib.hid hFs
          clear hF hFs
          refine wp_region_fam (F := F) (by kernel_rfl) (by kernel_rfl) (HFs.out _ (Below.refl _ _).drew) ?_
          have He1 := Lib.hid (fun W' : World => (by have := spec_within_c s.client 1 8 W'; rwa [e1] at this : Calls Try.prog 50 #[.int .i64 s.client, .int .i64 1, .int .i64 8] W' (Tells W' (.bool true))))
          have He3 := Lib.hid (fun W' : World => (by have := spec_within_c s.seq 1 1000000000 W'; rwa [e3] at this : Calls Try.prog 50 #[.int .i64 s.seq, .int .i64 1, .int .i64 1000000000] W' (Tells W' (.bool true))))
          have He4 := Lib.hid (fun W' : World => (by have := spec_within_c s.rev 1 (headRev d) W'; rwa [e4] at this : Calls Try.prog 50 #[.int .i64 s.rev, .int .i64 1, .int .i64 (headRev d)] W' (Tells W' (.bool false))))
          repeat (go_big_quiet_step ((first | (go_at_call 50; (first | (with_reducible exact Calls.fam_tells HF.out HFs.out (He1.out _)) | (with_reducible exact Calls.fam_tells HF.out HFs.out (He3.out _)) | (with_reducible exact Calls.fam_tells HF.out HFs.out (He4.out _)))) | (go_at_call 31; exact Calls.fam_tells HF.out HFs.out (spec_HeadRev_c d _ _ _ _ (HXL.out.below (hVB.trans ((HF.out _).mono sV))) (by omega) (by omega))))))
          refine wpQuiet_nil ?_
          intro x
          obtain ⟨wx, hwx⟩ : ∃ wx : World, F x = wx := ⟨_, rfl⟩
          have B7 : Below W.heap.size W wx := by rw [← hwx]; exact hVB.trans ((HF.out _).mono sV)
          rw [hwx]
          clear hwx ce0 ce1 ce2 ce3 ce4 cs0 cs1 cs2 HF HFs
          go_wp2
          go_ret
          exact ⟨ret_bool HV.out.symm, blw⟩
        rcases k with _ | j
        · have HS := Lib.hid (seenI_zero (l := d.seen) e1 e3 e4)
          have g1 : ∀ w1, (Instr.indexAt 25 v_seen (.int .i64 0)).run Try.prog w1 = .ok (.pointer (some ⟨b1, o1, none⟩)) w1 := g1
          go_wp2
          rw [← hV]
          clear hV q0 q1 q2 ud0 ud1 ud2 ud3 ud4
          obtain ⟨X, hX, F, hF, hFs⟩ := fam_of V
          obtain ⟨ce0, ce1, ce2, ce3, ce4⟩ := mx5 hF ze ke0 ke1 ke2 ke3 ke4
          obtain ⟨cs0, cs1, cs2⟩ := mx3 hF zs ks0 ks1 ks2
          have HF := Lib.hid hF
          have HFs := Lib.hid hFs
          clear hF hFs
          refine wp_region_fam (F := F) (by kernel_rfl) (by kernel_rfl) (HFs.out _ (Below.refl _ _).drew) ?_
          have He1 := Lib.hid (fun W' : World => (by have := spec_within_c s.client 1 8 W'; rwa [e1] at this : Calls Try.prog 50 #[.int .i64 s.client, .int .i64 1, .int .i64 8] W' (Tells W' (.bool true))))
          have He3 := Lib.hid (fun W' : World => (by have := spec_within_c s.seq 1 1000000000 W'; rwa [e3] at this : Calls Try.prog 50 #[.int .i64 s.seq, .int .i64 1, .int .i64 1000000000] W' (Tells W' (.bool true))))
          have He4 := Lib.hid (fun W' : World => (by have := spec_within_c s.rev 1 (headRev d) W'; rwa [e4] at this : Calls Try.prog 50 #[.int .i64 s.rev, .int .i64 1, .int .i64 (headRev d)] W' (Tells W' (.bool true))))
          repeat (go_big_quiet_step ((first | (go_at_call 50; (first | (with_reducible exact Calls.fam_tells HF.out HFs.out (He1.out _)) | (with_reducible exact Calls.fam_tells HF.out HFs.out (He3.out _)) | (with_reducible exact Calls.fam_tells HF.out HFs.out (He4.out _)))) | (go_at_call 31; exact Calls.fam_tells HF.out HFs.out (spec_HeadRev_c d _ _ _ _ (HXL.out.below (hVB.trans ((HF.out _).mono sV))) (by omega) (by omega))))))
          refine wpQuiet_nil ?_
          intro x
          obtain ⟨wx, hwx⟩ : ∃ wx : World, F x = wx := ⟨_, rfl⟩
          have B7 : Below W.heap.size W wx := by rw [← hwx]; exact hVB.trans ((HF.out _).mono sV)
          rw [hwx]
          clear hwx ce0 ce1 ce2 ce3 ce4 cs0 cs1 cs2 HF HFs
          go_wp2
          go_roundw
          case rel => exact ⟨1, by omega, by go_num, yes_stepI (p := seenI (headRev d) d.seen) (k := 0) HX.out HS.out HJ.out, blw⟩
          case measure => simp [intOf]; omega
        ·
          obtain ⟨p, hp⟩ := get_some (l := d.seen) (k := j) (by omega)
          obtain ⟨b0, o0, cs0, j1, j2, j3⟩ := (HXS.out.below hbq).idx Try.underlying25 szi_DSeen j hp
          obtain rfl := inv_DSeen j3
          have c0 := j2.zero
          have HP := Lib.hid hp
          have zq := World.block_lt_of_cell? (w := wr) (a := ⟨b0, o0, none⟩) c0
          have zp : b0 < V.heap.size := Nat.lt_of_lt_of_le zq hVq.size
          have kp : V.cell? ⟨b0, o0, none⟩ = some (.int .i64 p.client) := (hVq.cell (p := ⟨b0, o0, none⟩) zq).trans c0
          have hi0 : decide ((0 : Int) < (j : Int) + 1) = true := by rw [decide_eq_true_eq]; omega
          have hj0 : IntKind.i64.wrap (j : Int) = (j : Int) := IntWalk.i64_in _ (by omega)
          have hj1 : IntKind.i64.wrap ((j : Int) + 1 - 1) = (j : Int) := by rw [show (j : Int) + 1 - 1 = j by omega]; exact hj0
          clear hp j2 j3
          simp only [Int.natCast_add, Int.cast_ofNat_Int] at g1
          by_cases elt : p.client < s.client
          · have HS := Lib.hid (seenI_succ HP.out e1 e3 e4 elt)
            have hpc : decide (s.client ≤ p.client) = false := by rw [decide_eq_false_iff_not]; omega
            have hpc2 : ¬ s.client ≤ p.client := by omega
            clear elt
            go_wp2
            rw [← hV]
            clear hV q0 q1 q2 ud0 ud1 ud2 ud3 ud4 c0
            obtain ⟨X, hX, F, hF, hFs⟩ := fam_of V
            obtain ⟨ce0, ce1, ce2, ce3, ce4⟩ := mx5 hF ze ke0 ke1 ke2 ke3 ke4
            obtain ⟨cs0, cs1, cs2⟩ := mx3 hF zs ks0 ks1 ks2
            have cp0 : ∀ x, (F x).cell? ⟨b0, o0, none⟩ = some (.int .i64 p.client) := fun x => ((hF x).cell (p := ⟨b0, o0, none⟩) zp).trans kp
            have HF := Lib.hid hF
            have HFs := Lib.hid hFs
            clear hF hFs
            refine wp_region_fam (F := F) (by kernel_rfl) (by kernel_rfl) (HFs.out _ (Below.refl _ _).drew) ?_
            have He1 := Lib.hid (fun W' : World => (by have := spec_within_c s.client 1 8 W'; rwa [e1] at this : Calls Try.prog 50 #[.int .i64 s.client, .int .i64 1, .int .i64 8] W' (Tells W' (.bool true))))
            have He3 := Lib.hid (fun W' : World => (by have := spec_within_c s.seq 1 1000000000 W'; rwa [e3] at this : Calls Try.prog 50 #[.int .i64 s.seq, .int .i64 1, .int .i64 1000000000] W' (Tells W' (.bool true))))
            have He4 := Lib.hid (fun W' : World => (by have := spec_within_c s.rev 1 (headRev d) W'; rwa [e4] at this : Calls Try.prog 50 #[.int .i64 s.rev, .int .i64 1, .int .i64 (headRev d)] W' (Tells W' (.bool true))))
            repeat (go_big_quiet_step ((first | (go_at_call 50; (first | (with_reducible exact Calls.fam_tells HF.out HFs.out (He1.out _)) | (with_reducible exact Calls.fam_tells HF.out HFs.out (He3.out _)) | (with_reducible exact Calls.fam_tells HF.out HFs.out (He4.out _)))) | (go_at_call 31; exact Calls.fam_tells HF.out HFs.out (spec_HeadRev_c d _ _ _ _ (HXL.out.below (hVB.trans ((HF.out _).mono sV))) (by omega) (by omega))))))
            refine wpQuiet_nil ?_
            intro x
            obtain ⟨wx, hwx⟩ : ∃ wx : World, F x = wx := ⟨_, rfl⟩
            have B7 : Below W.heap.size W wx := by rw [← hwx]; exact hVB.trans ((HF.out _).mono sV)
            rw [hwx]
            clear hwx ce0 ce1 ce2 ce3 ce4 cs0 cs1 cs2 cp0 HF HFs
            go_wp2
            go_roundw
            case rel => exact ⟨j + 1 + 1, by omega, by go_num, yes_stepI (p := seenI (headRev d) d.seen) (k := j + 1) HX.out HS.out HJ.out, blw⟩
            case measure => simp [intOf]; omega
          ·
            have HV := Lib.hid (docOk_seen (seenOk_no HX.out (seenI_no4 HP.out elt)))
            have hpc : decide (s.client ≤ p.client) = true := by rw [decide_eq_true_eq]; omega
            clear elt
            go_wp2
            rw [← hV]
            clear hV q0 q1 q2 ud0 ud1 ud2 ud3 ud4 c0
            obtain ⟨X, hX, F, hF, hFs⟩ := fam_of V
            obtain ⟨ce0, ce1, ce2, ce3, ce4⟩ := mx5 hF ze ke0 ke1 ke2 ke3 ke4
            obtain ⟨cs0, cs1, cs2⟩ := mx3 hF zs ks0 ks1 ks2
            have cp0 : ∀ x, (F x).cell? ⟨b0, o0, none⟩ = some (.int .i64 p.client) := fun x => ((hF x).cell (p := ⟨b0, o0, none⟩) zp).trans kp
            have HF := Lib.hid hF
            have HFs := Lib.hid hFs
            clear hF hFs
            refine wp_region_fam (F := F) (by kernel_rfl) (by kernel_rfl) (HFs.out _ (Below.refl _ _).drew) ?_
            have He1 := Lib.hid (fun W' : World => (by have := spec_within_c s.client 1 8 W'; rwa [e1] at this : Calls Try.prog 50 #[.int .i64 s.client, .int .i64 1, .int .i64 8] W' (Tells W' (.bool true))))
            have He3 := Lib.hid (fun W' : World => (by have := spec_within_c s.seq 1 1000000000 W'; rwa [e3] at this : Calls Try.prog 50 #[.int .i64 s.seq, .int .i64 1, .int .i64 1000000000] W' (Tells W' (.bool true))))
            have He4 := Lib.hid (fun W' : World => (by have := spec_within_c s.rev 1 (headRev d) W'; rwa [e4] at this : Calls Try.prog 50 #[.int .i64 s.rev, .int .i64 1, .int .i64 (headRev d)] W' (Tells W' (.bool true))))
            repeat (go_big_quiet_step ((first | (go_at_call 50; (first | (with_reducible exact Calls.fam_tells HF.out HFs.out (He1.out _)) | (with_reducible exact Calls.fam_tells HF.out HFs.out (He3.out _)) | (with_reducible exact Calls.fam_tells HF.out HFs.out (He4.out _)))) | (go_at_call 31; exact Calls.fam_tells HF.out HFs.out (spec_HeadRev_c d _ _ _ _ (HXL.out.below (hVB.trans ((HF.out _).mono sV))) (by omega) (by omega))))))
            refine wpQuiet_nil ?_
            intro x
            obtain ⟨wx, hwx⟩ : ∃ wx : World, F x = wx := ⟨_, rfl⟩
            have B7 : Below W.heap.size W wx := by rw [← hwx]; exact hVB.trans ((HF.out _).mono sV)
            rw [hwx]
            clear hwx ce0 ce1 ce2 ce3 ce4 cs0 cs1 cs2 cp0 HF HFs
            go_wp2
            go_ret
            exact ⟨ret_bool HV.out.symm, blw⟩
set_option maxHeartbeats 64000000 in
set_option maxRecDepth 100000 in
theorem impl_DocOk_c (d : DDoc) (v_text v_list v_seen : Value) (w : World) (n_name : d.name.size ≤ BIG) (h_text : RdS w v_text d.text) (h_list : RdS w v_list d.list) (h_seen : RdS w v_seen d.seen) : Calls Try.prog 16 #[.agg #[.string d.name, .int .i64 d.from_, v_text, v_list, v_seen]] w (Tells w (.bool (docOk d))) := by
  have hll := fun w1 ty => h_list.len Try.underlying24 w1 ty
  have hls := fun w1 ty => h_seen.len Try.underlying25 w1 ty
  have bl := h_list.le
  have bs := h_seen.le
  have n_name := BIG_le n_name
  have bt := h_text.le
  obtain ⟨W, hW⟩ : ∃ W : World, W = w.alloc (.cells #[.string d.name, .int .i64 d.from_, v_text, v_list, v_seen] 27) := ⟨_, rfl⟩
  have hWB : Below w.heap.size w W := by rw [hW]; exact blw
  have sW := hWB.size
  have zd : w.heap.size < W.heap.size := by rw [hW]; first | (simp; done) | (simp; omega)
  have kd0 : W.cell? ⟨w.heap.size, 0, none⟩ = some (.string d.name) := by rw [hW]; simp [go_sem]
  have kd1 : W.cell? ⟨w.heap.size, 1, none⟩ = some (.int .i64 d.from_) := by rw [hW]; simp [go_sem]
  have kd2 : W.cell? ⟨w.heap.size, 2, none⟩ = some (v_text) := by rw [hW]; simp [go_sem]
  have kd3 : W.cell? ⟨w.heap.size, 3, none⟩ = some (v_list) := by rw [hW]; simp [go_sem]
  have kd4 : W.cell? ⟨w.heap.size, 4, none⟩ = some (v_seen) := by rw [hW]; simp [go_sem]
  have HXT := Lib.hid (h_text.below hWB)
  have HXL := Lib.hid (h_list.below hWB)
  have HXS := Lib.hid (h_seen.below hWB)
  clear h_text h_list h_seen
  by_cases h1 : nameOk d.name = true
  rotate_left
  · have h1 : nameOk d.name = false := by simpa using h1
    have HV := Lib.hid (docOk_name h1)
    go_enter Try.func16, Try.ntmps16
    go_wp2_with fail
    rw [← hW]
    clear hW
    go_wp2_with fail
    refine (impl_NameOk_c d.name _ n_name).mono ?_
    rintro e' w1 ⟨rfl, hb1⟩
    rw [h1]
    have B1 : Below W.heap.size W w1 := (show Below W.heap.size W _ from blw).trans (hb1.mono om)
    have s1 := B1.size
    have z1d : w.heap.size < w1.heap.size := Nat.lt_of_lt_of_le zd s1
    obtain ⟨y1d0, y1d1, y1d2, y1d3, y1d4⟩ := mv5 B1 zd kd0 kd1 kd2 kd3 kd4
    clear hb1
    go_wp2
    go_ret
    exact ⟨ret_bool HV.out.symm, blw⟩
  by_cases h2 : within d.from_ 0 999999000 = true
  rotate_left
  · have h2 : within d.from_ 0 999999000 = false := by simpa using h2
    have HV := Lib.hid (docOk_from h2)
    go_enter Try.func16, Try.ntmps16
    go_wp2_with fail
    rw [← hW]
    clear hW
    go_wp2_with fail
    refine (impl_NameOk_c d.name _ n_name).mono ?_
    rintro e' w1 ⟨rfl, hb1⟩
    rw [h1]
    have B1 : Below W.heap.size W w1 := (show Below W.heap.size W _ from blw).trans (hb1.mono om)
    have s1 := B1.size
    have z1d : w.heap.size < w1.heap.size := Nat.lt_of_lt_of_le zd s1
    obtain ⟨y1d0, y1d1, y1d2, y1d3, y1d4⟩ := mv5 B1 zd kd0 kd1 kd2 kd3 kd4
    clear hb1
    go_wp2_with fail
    refine (impl_within_c _ _ _ _).mono ?_
    rintro e' w2 ⟨rfl, hb2⟩
    rw [h2]
    have B2 : Below W.heap.size W w2 := (show Below W.heap.size W _ from blw).trans (hb2.mono om)
    have s2 := B2.size
    have z2d : w.heap.size < w2.heap.size := Nat.lt_of_lt_of_le zd s2
    obtain ⟨y2d0, y2d1, y2d2, y2d3, y2d4⟩ := mv5 B2 zd kd0 kd1 kd2 kd3 kd4
    clear hb2
    go_wp2
    go_ret
    exact ⟨ret_bool HV.out.symm, blw⟩
  by_cases h3 : textOk d.text = true
  rotate_left
  · have h3 : textOk d.text = false := by simpa using h3
    have HV := Lib.hid (docOk_text h3)
    go_enter Try.func16, Try.ntmps16
    go_wp2_with fail
    rw [← hW]
    clear hW
    go_wp2_with fail
    refine (impl_NameOk_c d.name _ n_name).mono ?_
    rintro e' w1 ⟨rfl, hb1⟩
    rw [h1]
    have B1 : Below W.heap.size W w1 := (show Below W.heap.size W _ from blw).trans (hb1.mono om)
    have s1 := B1.size
    have z1d : w.heap.size < w1.heap.size := Nat.lt_of_lt_of_le zd s1
    obtain ⟨y1d0, y1d1, y1d2, y1d3, y1d4⟩ := mv5 B1 zd kd0 kd1 kd2 kd3 kd4
    clear hb1
    go_wp2_with fail
    refine (impl_within_c _ _ _ _).mono ?_
    rintro e' w2 ⟨rfl, hb2⟩
    rw [h2]
    have B2 : Below W.heap.size W w2 := (show Below W.heap.size W _ from blw).trans (hb2.mono om)
    have s2 := B2.size
    have z2d : w.heap.size < w2.heap.size := Nat.lt_of_lt_of_le zd s2
    obtain ⟨y2d0, y2d1, y2d2, y2d3, y2d4⟩ := mv5 B2 zd kd0 kd1 kd2 kd3 kd4
    clear hb2
    go_wp2_with fail
    refine (impl_TextOk_c _ d.text _ (HXT.out.below blw)).mono ?_
    rintro e' w3 ⟨rfl, hb3⟩
    rw [h3]
    have B3 : Below W.heap.size W w3 := (show Below W.heap.size W _ from blw).trans (hb3.mono om)
    have s3 := B3.size
    have z3d : w.heap.size < w3.heap.size := Nat.lt_of_lt_of_le zd s3
    obtain ⟨y3d0, y3d1, y3d2, y3d3, y3d4⟩ := mv5 B3 zd kd0 kd1 kd2 kd3 kd4
    clear hb3
    go_wp2
    go_ret
    exact ⟨ret_bool HV.out.symm, blw⟩
  by_cases h4 : d.list.length ≤ 8
  rotate_left
  · have HV := Lib.hid (docOk_len h4)
    go_enter Try.func16, Try.ntmps16
    go_wp2_with fail
    rw [← hW]
    clear hW
    go_wp2_with fail
    refine (impl_NameOk_c d.name _ n_name).mono ?_
    rintro e' w1 ⟨rfl, hb1⟩
    rw [h1]
    have B1 : Below W.heap.size W w1 := (show Below W.heap.size W _ from blw).trans (hb1.mono om)
    have s1 := B1.size
    have z1d : w.heap.size < w1.heap.size := Nat.lt_of_lt_of_le zd s1
    obtain ⟨y1d0, y1d1, y1d2, y1d3, y1d4⟩ := mv5 B1 zd kd0 kd1 kd2 kd3 kd4
    clear hb1
    go_wp2_with fail
    refine (impl_within_c _ _ _ _).mono ?_
    rintro e' w2 ⟨rfl, hb2⟩
    rw [h2]
    have B2 : Below W.heap.size W w2 := (show Below W.heap.size W _ from blw).trans (hb2.mono om)
    have s2 := B2.size
    have z2d : w.heap.size < w2.heap.size := Nat.lt_of_lt_of_le zd s2
    obtain ⟨y2d0, y2d1, y2d2, y2d3, y2d4⟩ := mv5 B2 zd kd0 kd1 kd2 kd3 kd4
    clear hb2
    go_wp2_with fail
    refine (impl_TextOk_c _ d.text _ (HXT.out.below blw)).mono ?_
    rintro e' w3 ⟨rfl, hb3⟩
    rw [h3]
    have B3 : Below W.heap.size W w3 := (show Below W.heap.size W _ from blw).trans (hb3.mono om)
    have s3 := B3.size
    have z3d : w.heap.size < w3.heap.size := Nat.lt_of_lt_of_le zd s3
    obtain ⟨y3d0, y3d1, y3d2, y3d3, y3d4⟩ := mv5 B3 zd kd0 kd1 kd2 kd3 kd4
    clear hb3
    go_wp2
    go_ret
    exact ⟨ret_bool HV.out.symm, blw⟩
  have H1 := Lib.hid h1
  have H2 := Lib.hid h2
  have H3 := Lib.hid h3
  have hfr := within_iff.1 h2
  go_enter Try.func16, Try.ntmps16
  go_wp2_with fail
  rw [← hW]
  clear hW
  go_wp2_with fail
  refine (impl_NameOk_c d.name _ n_name).mono ?_
  rintro e' w1 ⟨rfl, hb1⟩
  rw [h1]
  have B1 : Below W.heap.size W w1 := (show Below W.heap.size W _ from blw).trans (hb1.mono om)
  have s1 := B1.size
  have z1d : w.heap.size < w1.heap.size := Nat.lt_of_lt_of_le zd s1
  obtain ⟨y1d0, y1d1, y1d2, y1d3, y1d4⟩ := mv5 B1 zd kd0 kd1 kd2 kd3 kd4
  clear hb1
  go_wp2_with fail
  refine (impl_within_c _ _ _ _).mono ?_
  rintro e' w2 ⟨rfl, hb2⟩
  rw [h2]
  have B2 : Below W.heap.size W w2 := (show Below W.heap.size W _ from blw).trans (hb2.mono om)
  have s2 := B2.size
  have z2d : w.heap.size < w2.heap.size := Nat.lt_of_lt_of_le zd s2
  obtain ⟨y2d0, y2d1, y2d2, y2d3, y2d4⟩ := mv5 B2 zd kd0 kd1 kd2 kd3 kd4
  clear hb2
  go_wp2_with fail
  refine (impl_TextOk_c _ d.text _ (HXT.out.below blw)).mono ?_
  rintro e' w3 ⟨rfl, hb3⟩
  rw [h3]
  have B3 : Below W.heap.size W w3 := (show Below W.heap.size W _ from blw).trans (hb3.mono om)
  have s3 := B3.size
  have z3d : w.heap.size < w3.heap.size := Nat.lt_of_lt_of_le zd s3
  obtain ⟨y3d0, y3d1, y3d2, y3d3, y3d4⟩ := mv5 B3 zd kd0 kd1 kd2 kd3 kd4
  clear hb3
  clear h1 h2 h3
  go_wp2
  go_loopw [34] (fun i wr => ∃ (k : Nat), k ≤ d.list.length ∧ i = .int .i64 k ∧ (∀ j < k, ∀ y, d.list[j]? = some y → entryOk y = true) ∧ Below W.heap.size W wr) (fun i _ => d.list.length - (intOf i).toNat)
  case atStart => exact ⟨0, Nat.zero_le _, rfl, fun _ h => absurd h (Nat.not_lt_zero _), blw⟩
  case round =>
    obtain ⟨k, hk, rfl, hj, hbr⟩ := hrel
    have hsz := hbr.size
    have HJ := Lib.hid hj
    clear hj
    by_cases hlt : k < d.list.length
    · obtain ⟨x1, hx⟩ := get_some hlt
      obtain ⟨b1, o1, cs, g1, g2, g3⟩ := (HXL.out.below hbr).idx Try.underlying24 szi_DEntry k hx
      obtain ⟨v_o, rfl, r_o⟩ := inv_DEntry g3
      have q0 := g2.zero
      have q1 := g2 1 _ rfl
      have q2 := g2 2 _ rfl
      obtain ⟨aa, ca, rfl⟩ := r_o.isSlice
      have HX := Lib.hid hx
      have HRO := Lib.hid r_o
      clear hx g2 g3 r_o
      by_cases he : entryOk x1 = true
      rotate_left
      · have he : entryOk x1 = false := by simpa using he
        have HV := Lib.hid (docOk_ent HX.out he)
        go_wp2_with fail
        refine (impl_EntryOk_c x1 _ _ (HRO.out.below blw)).mono ?_
        rintro e' w5 ⟨rfl, hb5⟩
        rw [he]
        have B5 : Below W.heap.size W w5 := (show Below W.heap.size W _ from blw).trans (hb5.mono om)
        clear hb5
        go_wp2
        go_ret
        exact ⟨ret_bool HV.out.symm, blw⟩
      have HE := Lib.hid he
      go_wp2_with fail
      refine (impl_EntryOk_c x1 _ _ (HRO.out.below blw)).mono ?_
      rintro e' w5 ⟨rfl, hb5⟩
      rw [he]
      have B5 : Below W.heap.size W w5 := (show Below W.heap.size W _ from blw).trans (hb5.mono om)
      clear hb5
      go_wp2
      go_roundw
      case rel => exact ⟨k + 1, by omega, by go_num, yes_step HX.out HE.out HJ.out, blw⟩
      case measure => simp [intOf]; omega
    · obtain rfl : k = d.list.length := by omega
      have HENTS : Hid (∀ j < d.list.length, ∀ y, d.list[j]? = some y → entryOk y = true) := HJ
      have hszl : szL d.list ≤ 4000000 := by have := ents_sz (l := d.list) (all_yes HENTS.out); omega
      clear HJ
      have su := hbr.size
      obtain ⟨ud0, ud1, ud2, ud3, ud4⟩ := mv5 hbr zd kd0 kd1 kd2 kd3 kd4
      go_wp2
      have HTL : d.text.length ≤ 200 := (textOk_iff.1 H3.out).1
      cases hap : appTo (opsL d.list) d.text with
      | none =>
        have HV := Lib.hid (docOk_app hap)
        have HALL : applyAllP (opsL d.list) d.text = ([], false) := by rw [applyAllP_yes H3.out, hap]; rfl
        clear hap
        go_region_held3 (fun w' => w'.cell? ⟨w.heap.size, 0, none⟩ = some (.string d.name) ∧ w'.cell? ⟨w.heap.size, 1, none⟩ = some (.int .i64 d.from_) ∧ w'.cell? ⟨w.heap.size, 2, none⟩ = some (v_text) ∧ w'.cell? ⟨w.heap.size, 3, none⟩ = some (v_list) ∧ w'.cell? ⟨w.heap.size, 4, none⟩ = some (v_seen)) (go_keep)
          (first | (go_at_call 20; refine (impl_opsOf_c _ d.list _ (HXL.out.below blw) hszl).mono ?_; rintro e' w6 ⟨v6, rfl, ho6, hb6⟩; have HO6 : Hid (RdS w6 v6 (opsL d.list)) := Lib.hid ho6.rd; have B6 : Below W.heap.size W w6 := (show Below W.heap.size W _ from blw).trans (hb6.mono om); have s6 := B6.size; have z6d : w.heap.size < w6.heap.size := Nat.lt_of_lt_of_le zd s6; have y6d0 := (B6.cell (p := ⟨w.heap.size, 0, none⟩) zd).trans kd0; have y6d1 := (B6.cell (p := ⟨w.heap.size, 1, none⟩) zd).trans kd1; have y6d2 := (B6.cell (p := ⟨w.heap.size, 2, none⟩) zd).trans kd2; have y6d3 := (B6.cell (p := ⟨w.heap.size, 3, none⟩) zd).trans kd3; have y6d4 := (B6.cell (p := ⟨w.heap.size, 4, none⟩) zd).trans kd4; clear hb6 ho6) | (go_at_call 19; refine (impl_ApplyAll_c (opsL d.list) d.text _ _ _ (HO6.out.below blw) (HXT.out.below blw) (by omega)).mono ?_; rintro e' w7 ⟨v7, f7, rfl, S7, F7, hb7⟩; rw [HALL]; have B7 : Below W.heap.size W w7 := (show Below W.heap.size W _ from blw).trans (hb7.mono om); have s7 := B7.size; have z7d : w.heap.size < w7.heap.size := Nat.lt_of_lt_of_le zd s7; have y7d0 := (B7.cell (p := ⟨w.heap.size, 0, none⟩) zd).trans kd0; have y7d1 := (B7.cell (p := ⟨w.heap.size, 1, none⟩) zd).trans kd1; have y7d2 := (B7.cell (p := ⟨w.heap.size, 2, none⟩) zd).trans kd2; have y7d3 := (B7.cell (p := ⟨w.heap.size, 3, none⟩) zd).trans kd3; have y7d4 := (B7.cell (p := ⟨w.heap.size, 4, none⟩) zd).trans kd4; clear hb7 S7 F7))
        all_goals
          go_wp2
          go_ret
          exact ⟨ret_bool HV.out.symm, blw⟩
      | some tx =>
        have HAPP := Lib.hid hap
        have HALL : applyAllP (opsL d.list) d.text = (tx, true) := by rw [applyAllP_yes H3.out, hap]; rfl
        clear hap
        go_region_held3 (fun w' => w'.cell? ⟨w.heap.size, 0, none⟩ = some (.string d.name) ∧ w'.cell? ⟨w.heap.size, 1, none⟩ = some (.int .i64 d.from_) ∧ w'.cell? ⟨w.heap.size, 2, none⟩ = some (v_text) ∧ w'.cell? ⟨w.heap.size, 3, none⟩ = some (v_list) ∧ w'.cell? ⟨w.heap.size, 4, none⟩ = some (v_seen)) (go_keep)
          (first | (go_at_call 20; refine (impl_opsOf_c _ d.list _ (HXL.out.below blw) hszl).mono ?_; rintro e' w6 ⟨v6, rfl, ho6, hb6⟩; have HO6 : Hid (RdS w6 v6 (opsL d.list)) := Lib.hid ho6.rd; have B6 : Below W.heap.size W w6 := (show Below W.heap.size W _ from blw).trans (hb6.mono om); have s6 := B6.size; have z6d : w.heap.size < w6.heap.size := Nat.lt_of_lt_of_le zd s6; have y6d0 := (B6.cell (p := ⟨w.heap.size, 0, none⟩) zd).trans kd0; have y6d1 := (B6.cell (p := ⟨w.heap.size, 1, none⟩) zd).trans kd1; have y6d2 := (B6.cell (p := ⟨w.heap.size, 2, none⟩) zd).trans kd2; have y6d3 := (B6.cell (p := ⟨w.heap.size, 3, none⟩) zd).trans kd3; have y6d4 := (B6.cell (p := ⟨w.heap.size, 4, none⟩) zd).trans kd4; clear hb6 ho6) | (go_at_call 19; refine (impl_ApplyAll_c (opsL d.list) d.text _ _ _ (HO6.out.below blw) (HXT.out.below blw) (by omega)).mono ?_; rintro e' w7 ⟨v7, f7, rfl, S7, F7, hb7⟩; rw [HALL]; have B7 : Below W.heap.size W w7 := (show Below W.heap.size W _ from blw).trans (hb7.mono om); have s7 := B7.size; have z7d : w.heap.size < w7.heap.size := Nat.lt_of_lt_of_le zd s7; have y7d0 := (B7.cell (p := ⟨w.heap.size, 0, none⟩) zd).trans kd0; have y7d1 := (B7.cell (p := ⟨w.heap.size, 1, none⟩) zd).trans kd1; have y7d2 := (B7.cell (p := ⟨w.heap.size, 2, none⟩) zd).trans kd2; have y7d3 := (B7.cell (p := ⟨w.heap.size, 3, none⟩) zd).trans kd3; have y7d4 := (B7.cell (p := ⟨w.heap.size, 4, none⟩) zd).trans kd4; clear hb7 S7 F7))
        all_goals
          go_wp2
          skip
          go_loopw [56] (fun i wr => ∃ k : Nat, k ≤ d.seen.length ∧ i = .int .i64 k ∧ (∀ j < k, ∀ y, d.seen[j]? = some y → seenI (headRev d) d.seen j y = true) ∧ Below W.heap.size W wr) (fun i _ => d.seen.length - (intOf i).toNat)
          case atStart => exact ⟨0, Nat.zero_le _, rfl, fun _ h => absurd h (Nat.not_lt_zero _), blw⟩
          case round =>
            obtain ⟨k, hk, rfl, hj, hbq⟩ := hrel
            have hsz := hbq.size
            have HJ := Lib.hid hj
            clear hj
            by_cases hlt : k < d.seen.length
            rotate_left
            · obtain rfl : k = d.seen.length := by omega
              have HV := Lib.hid (docOk_yes H1.out H2.out H3.out h4 HENTS.out HAPP.out HJ.out)
              go_wp2
              go_ret
              exact ⟨ret_bool HV.out.symm, blw⟩
            obtain ⟨s, hx⟩ := get_some hlt
            obtain ⟨b1, o1, cs, g1, g2, g3⟩ := (HXS.out.below hbq).idx Try.underlying25 szi_DSeen k hx
            obtain rfl := inv_DSeen g3
            have q0 := g2.zero
            have q1 := g2 1 _ rfl
            have q2 := g2 2 _ rfl
            have HX := Lib.hid hx
            clear hx g2 g3
            have su := hbq.size
            obtain ⟨ud0, ud1, ud2, ud3, ud4⟩ := mv5 hbq zd kd0 kd1 kd2 kd3 kd4
            obtain ⟨V, hV⟩ : ∃ V : World, V = wr.alloc (.cells #[.int .i64 s.client, .int .i64 s.seq, .int .i64 s.rev] 65) := ⟨_, rfl⟩
            have hVB : Below W.heap.size W V := by rw [hV]; exact blw
            have sV := hVB.size
            have ze : w.heap.size < V.heap.size := by omega
            have zs : wr.heap.size < V.heap.size := by rw [hV]; simp
            obtain ⟨ke0, ke1, ke2, ke3, ke4⟩ := mv5 hVB zd kd0 kd1 kd2 kd3 kd4
            have ks0 : V.cell? ⟨wr.heap.size, 0, none⟩ = some (.int .i64 s.client) := by rw [hV]; simp
            have ks1 : V.cell? ⟨wr.heap.size, 1, none⟩ = some (.int .i64 s.seq) := by rw [hV]; simp
            have ks2 : V.cell? ⟨wr.heap.size, 2, none⟩ = some (.int .i64 s.rev) := by rw [hV]; simp
            have hVq : Below wr.heap.size wr V := by rw [hV]; exact (Below.refl _ _).alloc (Nat.le_refl _) _
            by_cases e1 : within s.client 1 8 = true
            rotate_left
            · have e1 : within s.client 1 8 = false := by simpa using e1
              have HV := Lib.hid (docOk_seen (seenOk_no HX.out (seenI_no1 e1)))
              go_wp2
              rw [← hV]
              clear hV q0 q1 q2 ud0 ud1 ud2 ud3 ud4
              obtain ⟨X, hX, F, hF, hFs⟩ := fam_of V
              obtain ⟨ce0, ce1, ce2, ce3, ce4⟩ := mx5 hF ze ke0 ke1 ke2 ke3 ke4
              obtain ⟨cs0, cs1, cs2⟩ := mx3 hF zs ks0 ks1 ks2
              have HF := Lib.hid hF
              have HFs := Lib.hid hFs
              clear hF hFs
              refine wp_region_fam (F := F) (by kernel_rfl) (by kernel_rfl) (HFs.out _ (Below.refl _ _).drew) ?_
              have He1 := Lib.hid (fun W' : World => (by have := impl_within_c s.client 1 8 W'; rwa [e1] at this : Calls Try.prog 17 #[.int .i64 s.client, .int .i64 1, .int .i64 8] W' (Tells W' (.bool false))))
              repeat (go_big_quiet_step ((first | (go_at_call 17; (first | (with_reducible exact Calls.fam_tells HF.out HFs.out (He1.out _)))) | (go_at_call 18; exact Calls.fam_tells HF.out HFs.out (impl_HeadRev_c d _ _ _ _ (HXL.out.below (hVB.trans ((HF.out _).mono sV))) (by omega) (by omega))))))
              refine wpQuiet_nil ?_
              intro x
              obtain ⟨wx, hwx⟩ : ∃ wx : World, F x = wx := ⟨_, rfl⟩
              have B7 : Below W.heap.size W wx := by rw [← hwx]; exact hVB.trans ((HF.out _).mono sV)
              rw [hwx]
              clear hwx ce0 ce1 ce2 ce3 ce4 cs0 cs1 cs2 HF HFs
              go_wp2
              go_ret
              exact ⟨ret_bool HV.out.symm, blw⟩
            rcases k with _ | j
            ·
              have g1 : ∀ w1, (Instr.indexAt 25 v_seen (.int .i64 0)).run Try.prog w1 = .ok (.pointer (some ⟨b1, o1, none⟩)) w1 := g1
              by_cases e3 : within s.seq 1 1000000000 = true
              rotate_left
              · have e3 : within s.seq 1 1000000000 = false := by simpa using e3
                have HV := Lib.hid (docOk_seen (seenOk_no HX.out (seenI_no2 e3)))
                go_wp2
                rw [← hV]
                clear hV q0 q1 q2 ud0 ud1 ud2 ud3 ud4
                obtain ⟨X, hX, F, hF, hFs⟩ := fam_of V
                obtain ⟨ce0, ce1, ce2, ce3, ce4⟩ := mx5 hF ze ke0 ke1 ke2 ke3 ke4
                obtain ⟨cs0, cs1, cs2⟩ := mx3 hF zs ks0 ks1 ks2
                have HF := Lib.hid hF
                have HFs := Lib.hid hFs
                clear hF hFs
                refine wp_region_fam (F := F) (by kernel_rfl) (by kernel_rfl) (HFs.out _ (Below.refl _ _).drew) ?_
                have He1 := Lib.hid (fun W' : World => (by have := impl_within_c s.client 1 8 W'; rwa [e1] at this : Calls Try.prog 17 #[.int .i64 s.client, .int .i64 1, .int .i64 8] W' (Tells W' (.bool true))))
                have He3 := Lib.hid (fun W' : World => (by have := impl_within_c s.seq 1 1000000000 W'; rwa [e3] at this : Calls Try.prog 17 #[.int .i64 s.seq, .int .i64 1, .int .i64 1000000000] W' (Tells W' (.bool false))))
                repeat (go_big_quiet_step ((first | (go_at_call 17; (first | (with_reducible exact Calls.fam_tells HF.out HFs.out (He1.out _)) | (with_reducible exact Calls.fam_tells HF.out HFs.out (He3.out _)))) | (go_at_call 18; exact Calls.fam_tells HF.out HFs.out (impl_HeadRev_c d _ _ _ _ (HXL.out.below (hVB.trans ((HF.out _).mono sV))) (by omega) (by omega))))))
                refine wpQuiet_nil ?_
                intro x
                obtain ⟨wx, hwx⟩ : ∃ wx : World, F x = wx := ⟨_, rfl⟩
                have B7 : Below W.heap.size W wx := by rw [← hwx]; exact hVB.trans ((HF.out _).mono sV)
                rw [hwx]
                clear hwx ce0 ce1 ce2 ce3 ce4 cs0 cs1 cs2 HF HFs
                go_wp2
                go_ret
                exact ⟨ret_bool HV.out.symm, blw⟩
              by_cases e4 : within s.rev 1 (headRev d) = true
              rotate_left
              · have e4 : within s.rev 1 (headRev d) = false := by simpa using e4
                have HV := Lib.hid (docOk_seen (seenOk_no HX.out (seenI_no3 e4)))
                go_wp2
                rw [← hV]
                clear hV q0 q1 q2 ud0 ud1 ud2 ud3 ud4
                obtain ⟨X, hX, F, hF, hFs⟩ := fam_of V
                obtain ⟨ce0, ce1, ce2, ce3, ce4⟩ := mx5 hF ze ke0 ke1 ke2 ke3 ke4
                obtain ⟨cs0, cs1, cs2⟩ := mx3 hF zs ks0 ks1 ks2
                have HF := Lib.hid hF
                have HFs := Lib.hid hFs
                clear hF hFs
                refine wp_region_fam (F := F) (by kernel_rfl) (by kernel_rfl) (HFs.out _ (Below.refl _ _).drew) ?_
                have He1 := Lib.hid (fun W' : World => (by have := impl_within_c s.client 1 8 W'; rwa [e1] at this : Calls Try.prog 17 #[.int .i64 s.client, .int .i64 1, .int .i64 8] W' (Tells W' (.bool true))))
                have He3 := Lib.hid (fun W' : World => (by have := impl_within_c s.seq 1 1000000000 W'; rwa [e3] at this : Calls Try.prog 17 #[.int .i64 s.seq, .int .i64 1, .int .i64 1000000000] W' (Tells W' (.bool true))))
                have He4 := Lib.hid (fun W' : World => (by have := impl_within_c s.rev 1 (headRev d) W'; rwa [e4] at this : Calls Try.prog 17 #[.int .i64 s.rev, .int .i64 1, .int .i64 (headRev d)] W' (Tells W' (.bool false))))
                repeat (go_big_quiet_step ((first | (go_at_call 17; (first | (with_reducible exact Calls.fam_tells HF.out HFs.out (He1.out _)) | (with_reducible exact Calls.fam_tells HF.out HFs.out (He3.out _)) | (with_reducible exact Calls.fam_tells HF.out HFs.out (He4.out _)))) | (go_at_call 18; exact Calls.fam_tells HF.out HFs.out (impl_HeadRev_c d _ _ _ _ (HXL.out.below (hVB.trans ((HF.out _).mono sV))) (by omega) (by omega))))))
                refine wpQuiet_nil ?_
                intro x
                obtain ⟨wx, hwx⟩ : ∃ wx : World, F x = wx := ⟨_, rfl⟩
                have B7 : Below W.heap.size W wx := by rw [← hwx]; exact hVB.trans ((HF.out _).mono sV)
                rw [hwx]
                clear hwx ce0 ce1 ce2 ce3 ce4 cs0 cs1 cs2 HF HFs
                go_wp2
                go_ret
                exact ⟨ret_bool HV.out.symm, blw⟩
              have HS := Lib.hid (seenI_zero (l := d.seen) e1 e3 e4)
              go_wp2
              rw [← hV]
              clear hV q0 q1 q2 ud0 ud1 ud2 ud3 ud4
              obtain ⟨X, hX, F, hF, hFs⟩ := fam_of V
              obtain ⟨ce0, ce1, ce2, ce3, ce4⟩ := mx5 hF ze ke0 ke1 ke2 ke3 ke4
              obtain ⟨cs0, cs1, cs2⟩ := mx3 hF zs ks0 ks1 ks2
              have HF := Lib.hid hF
              have HFs := Lib.hid hFs
              clear hF hFs
              refine wp_region_fam (F := F) (by kernel_rfl) (by kernel_rfl) (HFs.out _ (Below.refl _ _).drew) ?_
              have He1 := Lib.hid (fun W' : World => (by have := impl_within_c s.client 1 8 W'; rwa [e1] at this : Calls Try.prog 17 #[.int .i64 s.client, .int .i64 1, .int .i64 8] W' (Tells W' (.bool true))))
              have He3 := Lib.hid (fun W' : World => (by have := impl_within_c s.seq 1 1000000000 W'; rwa [e3] at this : Calls Try.prog 17 #[.int .i64 s.seq, .int .i64 1, .int .i64 1000000000] W' (Tells W' (.bool true))))
              have He4 := Lib.hid (fun W' : World => (by have := impl_within_c s.rev 1 (headRev d) W'; rwa [e4] at this : Calls Try.prog 17 #[.int .i64 s.rev, .int .i64 1, .int .i64 (headRev d)] W' (Tells W' (.bool true))))
              repeat (go_big_quiet_step ((first | (go_at_call 17; (first | (with_reducible exact Calls.fam_tells HF.out HFs.out (He1.out _)) | (with_reducible exact Calls.fam_tells HF.out HFs.out (He3.out _)) | (with_reducible exact Calls.fam_tells HF.out HFs.out (He4.out _)))) | (go_at_call 18; exact Calls.fam_tells HF.out HFs.out (impl_HeadRev_c d _ _ _ _ (HXL.out.below (hVB.trans ((HF.out _).mono sV))) (by omega) (by omega))))))
              refine wpQuiet_nil ?_
              intro x
              obtain ⟨wx, hwx⟩ : ∃ wx : World, F x = wx := ⟨_, rfl⟩
              have B7 : Below W.heap.size W wx := by rw [← hwx]; exact hVB.trans ((HF.out _).mono sV)
              rw [hwx]
              clear hwx ce0 ce1 ce2 ce3 ce4 cs0 cs1 cs2 HF HFs
              go_wp2
              go_roundw
              case rel => exact ⟨1, by omega, by go_num, yes_stepI (p := seenI (headRev d) d.seen) (k := 0) HX.out HS.out HJ.out, blw⟩
              case measure => simp [intOf]; omega
            ·
              obtain ⟨p, hp⟩ := get_some (l := d.seen) (k := j) (by omega)
              obtain ⟨b0, o0, cs0, j1, j2, j3⟩ := (HXS.out.below hbq).idx Try.underlying25 szi_DSeen j hp
              obtain rfl := inv_DSeen j3
              have c0 := j2.zero
              have HP := Lib.hid hp
              have zq := World.block_lt_of_cell? (w := wr) (a := ⟨b0, o0, none⟩) c0
              have zp : b0 < V.heap.size := Nat.lt_of_lt_of_le zq hVq.size
              have kp : V.cell? ⟨b0, o0, none⟩ = some (.int .i64 p.client) := (hVq.cell (p := ⟨b0, o0, none⟩) zq).trans c0
              have hi0 : decide ((0 : Int) < (j : Int) + 1) = true := by rw [decide_eq_true_eq]; omega
              have hj0 : IntKind.i64.wrap (j : Int) = (j : Int) := IntWalk.i64_in _ (by omega)
              have hj1 : IntKind.i64.wrap ((j : Int) + 1 - 1) = (j : Int) := by rw [show (j : Int) + 1 - 1 = j by omega]; exact hj0
              clear hp j2 j3
              simp only [Int.natCast_add, Int.cast_ofNat_Int] at g1
              by_cases elt : p.client < s.client
              rotate_left
              ·
                have HV := Lib.hid (docOk_seen (seenOk_no HX.out (seenI_no4 HP.out elt)))
                have hpc : decide (s.client ≤ p.client) = true := by rw [decide_eq_true_eq]; omega
                clear elt
                go_wp2
                rw [← hV]
                clear hV q0 q1 q2 ud0 ud1 ud2 ud3 ud4 c0
                obtain ⟨X, hX, F, hF, hFs⟩ := fam_of V
                obtain ⟨ce0, ce1, ce2, ce3, ce4⟩ := mx5 hF ze ke0 ke1 ke2 ke3 ke4
                obtain ⟨cs0, cs1, cs2⟩ := mx3 hF zs ks0 ks1 ks2
                have cp0 : ∀ x, (F x).cell? ⟨b0, o0, none⟩ = some (.int .i64 p.client) := fun x => ((hF x).cell (p := ⟨b0, o0, none⟩) zp).trans kp
                have HF := Lib.hid hF
                have HFs := Lib.hid hFs
                clear hF hFs
                refine wp_region_fam (F := F) (by kernel_rfl) (by kernel_rfl) (HFs.out _ (Below.refl _ _).drew) ?_
                have He1 := Lib.hid (fun W' : World => (by have := impl_within_c s.client 1 8 W'; rwa [e1] at this : Calls Try.prog 17 #[.int .i64 s.client, .int .i64 1, .int .i64 8] W' (Tells W' (.bool true))))
                repeat (go_big_quiet_step ((first | (go_at_call 17; (first | (with_reducible exact Calls.fam_tells HF.out HFs.out (He1.out _)))) | (go_at_call 18; exact Calls.fam_tells HF.out HFs.out (impl_HeadRev_c d _ _ _ _ (HXL.out.below (hVB.trans ((HF.out _).mono sV))) (by omega) (by omega))))))
                refine wpQuiet_nil ?_
                intro x
                obtain ⟨wx, hwx⟩ : ∃ wx : World, F x = wx := ⟨_, rfl⟩
                have B7 : Below W.heap.size W wx := by rw [← hwx]; exact hVB.trans ((HF.out _).mono sV)
                rw [hwx]
                clear hwx ce0 ce1 ce2 ce3 ce4 cs0 cs1 cs2 cp0 HF HFs
                go_wp2
                go_ret
                exact ⟨ret_bool HV.out.symm, blw⟩
              have hpc : decide (s.client ≤ p.client) = false := by rw [decide_eq_false_iff_not]; omega
              have hpc2 : ¬ s.client ≤ p.client := by omega
              by_cases e3 : within s.seq 1 1000000000 = true
              rotate_left
              · have e3 : within s.seq 1 1000000000 = false := by simpa using e3
                have HV := Lib.hid (docOk_seen (seenOk_no HX.out (seenI_no2 e3)))
                go_wp2
                rw [← hV]
                clear hV q0 q1 q2 ud0 ud1 ud2 ud3 ud4 c0
                obtain ⟨X, hX, F, hF, hFs⟩ := fam_of V
                obtain ⟨ce0, ce1, ce2, ce3, ce4⟩ := mx5 hF ze ke0 ke1 ke2 ke3 ke4
                obtain ⟨cs0, cs1, cs2⟩ := mx3 hF zs ks0 ks1 ks2
                have cp0 : ∀ x, (F x).cell? ⟨b0, o0, none⟩ = some (.int .i64 p.client) := fun x => ((hF x).cell (p := ⟨b0, o0, none⟩) zp).trans kp
                have HF := Lib.hid hF
                have HFs := Lib.hid hFs
                clear hF hFs
                refine wp_region_fam (F := F) (by kernel_rfl) (by kernel_rfl) (HFs.out _ (Below.refl _ _).drew) ?_
                have He1 := Lib.hid (fun W' : World => (by have := impl_within_c s.client 1 8 W'; rwa [e1] at this : Calls Try.prog 17 #[.int .i64 s.client, .int .i64 1, .int .i64 8] W' (Tells W' (.bool true))))
                have He3 := Lib.hid (fun W' : World => (by have := impl_within_c s.seq 1 1000000000 W'; rwa [e3] at this : Calls Try.prog 17 #[.int .i64 s.seq, .int .i64 1, .int .i64 1000000000] W' (Tells W' (.bool false))))
                repeat (go_big_quiet_step ((first | (go_at_call 17; (first | (with_reducible exact Calls.fam_tells HF.out HFs.out (He1.out _)) | (with_reducible exact Calls.fam_tells HF.out HFs.out (He3.out _)))) | (go_at_call 18; exact Calls.fam_tells HF.out HFs.out (impl_HeadRev_c d _ _ _ _ (HXL.out.below (hVB.trans ((HF.out _).mono sV))) (by omega) (by omega))))))
                refine wpQuiet_nil ?_
                intro x
                obtain ⟨wx, hwx⟩ : ∃ wx : World, F x = wx := ⟨_, rfl⟩
                have B7 : Below W.heap.size W wx := by rw [← hwx]; exact hVB.trans ((HF.out _).mono sV)
                rw [hwx]
                clear hwx ce0 ce1 ce2 ce3 ce4 cs0 cs1 cs2 cp0 HF HFs
                go_wp2
                go_ret
                exact ⟨ret_bool HV.out.symm, blw⟩
              by_cases e4 : within s.rev 1 (headRev d) = true
              rotate_left
              · have e4 : within s.rev 1 (headRev d) = false := by simpa using e4
                have HV := Lib.hid (docOk_seen (seenOk_no HX.out (seenI_no3 e4)))
                go_wp2
                rw [← hV]
                clear hV q0 q1 q2 ud0 ud1 ud2 ud3 ud4 c0
                obtain ⟨X, hX, F, hF, hFs⟩ := fam_of V
                obtain ⟨ce0, ce1, ce2, ce3, ce4⟩ := mx5 hF ze ke0 ke1 ke2 ke3 ke4
                obtain ⟨cs0, cs1, cs2⟩ := mx3 hF zs ks0 ks1 ks2
                have cp0 : ∀ x, (F x).cell? ⟨b0, o0, none⟩ = some (.int .i64 p.client) := fun x => ((hF x).cell (p := ⟨b0, o0, none⟩) zp).trans kp
                have HF := Lib.hid hF
                have HFs := Lib.hid hFs
                clear hF hFs
                refine wp_region_fam (F := F) (by kernel_rfl) (by kernel_rfl) (HFs.out _ (Below.refl _ _).drew) ?_
                have He1 := Lib.hid (fun W' : World => (by have := impl_within_c s.client 1 8 W'; rwa [e1] at this : Calls Try.prog 17 #[.int .i64 s.client, .int .i64 1, .int .i64 8] W' (Tells W' (.bool true))))
                have He3 := Lib.hid (fun W' : World => (by have := impl_within_c s.seq 1 1000000000 W'; rwa [e3] at this : Calls Try.prog 17 #[.int .i64 s.seq, .int .i64 1, .int .i64 1000000000] W' (Tells W' (.bool true))))
                have He4 := Lib.hid (fun W' : World => (by have := impl_within_c s.rev 1 (headRev d) W'; rwa [e4] at this : Calls Try.prog 17 #[.int .i64 s.rev, .int .i64 1, .int .i64 (headRev d)] W' (Tells W' (.bool false))))
                repeat (go_big_quiet_step ((first | (go_at_call 17; (first | (with_reducible exact Calls.fam_tells HF.out HFs.out (He1.out _)) | (with_reducible exact Calls.fam_tells HF.out HFs.out (He3.out _)) | (with_reducible exact Calls.fam_tells HF.out HFs.out (He4.out _)))) | (go_at_call 18; exact Calls.fam_tells HF.out HFs.out (impl_HeadRev_c d _ _ _ _ (HXL.out.below (hVB.trans ((HF.out _).mono sV))) (by omega) (by omega))))))
                refine wpQuiet_nil ?_
                intro x
                obtain ⟨wx, hwx⟩ : ∃ wx : World, F x = wx := ⟨_, rfl⟩
                have B7 : Below W.heap.size W wx := by rw [← hwx]; exact hVB.trans ((HF.out _).mono sV)
                rw [hwx]
                clear hwx ce0 ce1 ce2 ce3 ce4 cs0 cs1 cs2 cp0 HF HFs
                go_wp2
                go_ret
                exact ⟨ret_bool HV.out.symm, blw⟩
              have HS := Lib.hid (seenI_succ HP.out e1 e3 e4 elt)
              go_wp2
              rw [← hV]
              clear hV q0 q1 q2 ud0 ud1 ud2 ud3 ud4 c0
              obtain ⟨X, hX, F, hF, hFs⟩ := fam_of V
              obtain ⟨ce0, ce1, ce2, ce3, ce4⟩ := mx5 hF ze ke0 ke1 ke2 ke3 ke4
              obtain ⟨cs0, cs1, cs2⟩ := mx3 hF zs ks0 ks1 ks2
              have cp0 : ∀ x, (F x).cell? ⟨b0, o0, none⟩ = some (.int .i64 p.client) := fun x => ((hF x).cell (p := ⟨b0, o0, none⟩) zp).trans kp
              have HF := Lib.hid hF
              have HFs := Lib.hid hFs
              clear hF hFs
              refine wp_region_fam (F := F) (by kernel_rfl) (by kernel_rfl) (HFs.out _ (Below.refl _ _).drew) ?_
              have He1 := Lib.hid (fun W' : World => (by have := impl_within_c s.client 1 8 W'; rwa [e1] at this : Calls Try.prog 17 #[.int .i64 s.client, .int .i64 1, .int .i64 8] W' (Tells W' (.bool true))))
              have He3 := Lib.hid (fun W' : World => (by have := impl_within_c s.seq 1 1000000000 W'; rwa [e3] at this : Calls Try.prog 17 #[.int .i64 s.seq, .int .i64 1, .int .i64 1000000000] W' (Tells W' (.bool true))))
              have He4 := Lib.hid (fun W' : World => (by have := impl_within_c s.rev 1 (headRev d) W'; rwa [e4] at this : Calls Try.prog 17 #[.int .i64 s.rev, .int .i64 1, .int .i64 (headRev d)] W' (Tells W' (.bool true))))
              repeat (go_big_quiet_step ((first | (go_at_call 17; (first | (with_reducible exact Calls.fam_tells HF.out HFs.out (He1.out _)) | (with_reducible exact Calls.fam_tells HF.out HFs.out (He3.out _)) | (with_reducible exact Calls.fam_tells HF.out HFs.out (He4.out _)))) | (go_at_call 18; exact Calls.fam_tells HF.out HFs.out (impl_HeadRev_c d _ _ _ _ (HXL.out.below (hVB.trans ((HF.out _).mono sV))) (by omega) (by omega))))))
              refine wpQuiet_nil ?_
              intro x
              obtain ⟨wx, hwx⟩ : ∃ wx : World, F x = wx := ⟨_, rfl⟩
              have B7 : Below W.heap.size W wx := by rw [← hwx]; exact hVB.trans ((HF.out _).mono sV)
              rw [hwx]
              clear hwx ce0 ce1 ce2 ce3 ce4 cs0 cs1 cs2 cp0 HF HFs
              go_wp2
              go_roundw
              case rel => exact ⟨j + 1 + 1, by omega, by go_num, yes_stepI (p := seenI (headRev d) d.seen) (k := j + 1) HX.out HS.out HJ.out, blw⟩
              case measure => simp [intOf]; omega
end Go.Proofs.Ytiahgjnpinjblaa
