/- Documents: their texts, their operations, their entries. -/
import Derived.Test.YtiahgjnpinjblaaDok
import Derived.Test.YtiahgjnpinjblaaRo
namespace Go.Proofs.Ytiahgjnpinjblaa
open Go.RowKit
attribute [local go_sem ↓] Go.wp_at_zero Go.wp_at_succ
theorem atRev_split {d : DDoc} {rev : Int} (h : atRev d rev) : ∃ K : Nat, K ≤ d.list.length ∧ rev = d.from_ + K ∧ revK d rev = K := ⟨revK d rev, (atRev_k h).1, (atRev_k h).2, rfl⟩
theorem within_rev {d : DDoc} {rev : Int} (h : docOk d = true) : within rev d.from_ (headRev d) = decide (atRev d rev) := by
  simp [within, atRev, h]
theorem fetch_no {d : DDoc} {rev : Int} (h : docOk d = false) : fetch d rev = ([], 1) := if_neg (by simp [h])
theorem fetch_fut {d : DDoc} {rev : Int} (h : docOk d = true) (h2 : headRev d < rev) : fetch d rev = ([], 2) := by unfold fetch; rw [if_pos h, if_pos h2]
theorem fetch_old {d : DDoc} {rev : Int} (h : docOk d = true) (h2 : ¬ headRev d < rev) (h3 : rev < d.from_) : fetch d rev = ([], 3) := by unfold fetch; rw [if_pos h, if_neg h2, if_pos h3]
theorem fetch_yes {d : DDoc} {rev : Int} (h : docOk d = true) (h2 : ¬ headRev d < rev) (h3 : ¬ rev < d.from_) : fetch d rev = (d.list.drop (revK d rev), 0) := by unfold fetch; rw [if_pos h, if_neg h2, if_neg h3]
theorem fetch_at {d : DDoc} {rev : Int} (h : docOk d = true) (h2 : ¬ headRev d < rev) (h3 : ¬ rev < d.from_) : atRev d rev := ⟨h, by omega, by omega⟩
theorem fetch_cnt (d : DDoc) (rev : Int) : cntL (fetch d rev).1 ≤ 5 * szL d.list := by
  have h1 := cntL_le (fetch d rev).1
  have h2 : szL (fetch d rev).1 ≤ szL d.list := by
    unfold fetch
    split
    · split
      · simp [szL, szs]
      · split
        · simp [szL, szs]
        · exact (szL_sub d.list _).2
    · simp [szL, szs]
  omega
theorem szL_drop {α : Type} [GoT α] [GoS α] (l : List α) (k : Nat) : szL (l.drop k) ≤ szL l := (szL_sub l k).2
theorem szL_take {α : Type} [GoT α] [GoS α] (l : List α) (k : Nat) : szL (l.take k) ≤ szL l := (szL_sub l k).1

set_option maxHeartbeats 16000000 in
set_option maxRecDepth 100000 in
theorem spec_TextAt_c (d : DDoc) (v_text v_list v_seen : Value) (rev : Int) (w : World) (n_name : d.name.size ≤ BIG) (h_text : RdS w v_text d.text) (h_list : RdS w v_list d.list) (h_seen : RdS w v_seen d.seen) : Calls Try.prog 32 #[.agg #[.string d.name, .int .i64 d.from_, v_text, v_list, v_seen], .int .i64 rev] w (Out_IntS_b w (textAt d rev).1 (textAt d rev).2) := by
  obtain ⟨W, hW⟩ : ∃ W : World, W = w.alloc (.cells #[.string d.name, .int .i64 d.from_, v_text, v_list, v_seen] 27) := ⟨_, rfl⟩
  have hWB : Below w.heap.size w W := by rw [hW]; exact blw
  have sW := hWB.size
  have zd : w.heap.size < W.heap.size := by rw [hW]; first | (simp; done) | (simp; omega)
  have kd0 : W.cell? ⟨w.heap.size, 0, none⟩ = some (.string d.name) := by rw [hW]; simp [go_sem]
  have kd1 : W.cell? ⟨w.heap.size, 1, none⟩ = some (.int .i64 d.from_) := by rw [hW]; simp [go_sem]
  have kd2 : W.cell? ⟨w.heap.size, 2, none⟩ = some (v_text) := by rw [hW]; simp [go_sem]
  have kd3 : W.cell? ⟨w.heap.size, 3, none⟩ = some (v_list) := by rw [hW]; simp [go_sem]
  have kd4 : W.cell? ⟨w.heap.size, 4, none⟩ = some (v_seen) := by rw [hW]; simp [go_sem]
  have HXT := Lib.hid (h_text.below hWB)
  have HXL := Lib.hid (h_list.below hWB)
  have HXS := Lib.hid (h_seen.below hWB)
  have hll := fun w1 ty => h_list.len Try.underlying24 w1 ty
  clear h_text h_list h_seen
  by_cases hd : docOk d = true
  rotate_left
  · have hd : docOk d = false := by simpa using hd
    have HV := Lib.hid (textAt_no (rev := rev) (d := d) (fun h => by have h1 := h.1; rw [hd] at h1; cases h1))
    go_enter Try.func32, Try.ntmps32
    go_wp2
    rw [← hW]
    clear hW
    obtain ⟨X, hX, F, hF, hFs⟩ := fam_of W
    obtain ⟨cd0, cd1, cd2, cd3, cd4⟩ := mx5 hF zd kd0 kd1 kd2 kd3 kd4
    have HF := Lib.hid hF
    have HFs := Lib.hid hFs
    clear hF hFs
    have HD := Lib.hid (fun (W' : World) (hb : Below W.heap.size W W') => (by have := spec_DocOk_c d _ _ _ W' n_name (HXT.out.below hb) (HXL.out.below hb) (HXS.out.below hb); rw [hd] at this; exact this : Calls Try.prog 48 #[.agg #[.string d.name, .int .i64 d.from_, v_text, v_list, v_seen]] W' (Tells W' (.bool false))))
    refine wp_region_fam (F := F) (by kernel_rfl) (by kernel_rfl) (HFs.out _ blw) ?_
    repeat (go_big_quiet_step ((go_at_call 48; (with_reducible exact Calls.fam_tells HF.out HFs.out (HD.out _ (HF.out _))))))
    refine wpQuiet_nil ?_
    intro x
    obtain ⟨w1, hwx⟩ : ∃ wx : World, F x = wx := ⟨_, rfl⟩
    have B1 : Below W.heap.size W w1 := by rw [← hwx]; exact HF.out x
    rw [hwx]
    clear hwx cd0 cd1 cd2 cd3 cd4 HF HFs HD
    have s1 := B1.size
    have z1d : w.heap.size < w1.heap.size := Nat.lt_of_lt_of_le zd s1
    obtain ⟨y1d0, y1d1, y1d2, y1d3, y1d4⟩ := mv5 B1 zd kd0 kd1 kd2 kd3 kd4
    go_wp2
    go_ret2
    rw [HV.out]
    exact ⟨_, _, rfl, Sl.nil, Fresh.nil _ _, blw⟩
  have hbd := headRev_bd hd
  by_cases hr : atRev d rev
  rotate_left
  ·
    have HV := Lib.hid (textAt_no hr)
    have hw0 : within rev d.from_ (headRev d) = false := by rw [within_rev hd]; simpa using hr
    go_enter Try.func32, Try.ntmps32
    go_wp2
    rw [← hW]
    clear hW
    obtain ⟨X, hX, F, hF, hFs⟩ := fam_of W
    obtain ⟨cd0, cd1, cd2, cd3, cd4⟩ := mx5 hF zd kd0 kd1 kd2 kd3 kd4
    have HF := Lib.hid hF
    have HFs := Lib.hid hFs
    clear hF hFs
    have HD := Lib.hid (fun (W' : World) (hb : Below W.heap.size W W') => (by have := spec_DocOk_c d _ _ _ W' n_name (HXT.out.below hb) (HXL.out.below hb) (HXS.out.below hb); rw [hd] at this; exact this : Calls Try.prog 48 #[.agg #[.string d.name, .int .i64 d.from_, v_text, v_list, v_seen]] W' (Tells W' (.bool true))))
    have HH := Lib.hid (fun (W' : World) (hb : Below W.heap.size W W') => (by have := spec_HeadRev_c d v_text _ v_seen W' (HXL.out.below hb) (by omega) (by omega); exact this : Calls Try.prog 31 #[.agg #[.string d.name, .int .i64 d.from_, v_text, v_list, v_seen]] W' (Tells W' (.int .i64 (headRev d)))))
    have HI := Lib.hid (fun (W' : World) (hb : Below W.heap.size W W') => (by have := spec_within_c rev d.from_ (headRev d) W'; rw [hw0] at this; exact this : Calls Try.prog 50 #[.int .i64 rev, .int .i64 d.from_, .int .i64 (headRev d)] W' (Tells W' (.bool false))))
    refine wp_region_fam (F := F) (by kernel_rfl) (by kernel_rfl) (HFs.out _ blw) ?_
    repeat (go_big_quiet_step ((first | (go_at_call 48; (with_reducible exact Calls.fam_tells HF.out HFs.out (HD.out _ (HF.out _)))) | (go_at_call 31; (with_reducible exact Calls.fam_tells HF.out HFs.out (HH.out _ (HF.out _)))) | (go_at_call 50; (with_reducible exact Calls.fam_tells HF.out HFs.out (HI.out _ (HF.out _)))))))
    refine wpQuiet_nil ?_
    intro x
    obtain ⟨w1, hwx⟩ : ∃ wx : World, F x = wx := ⟨_, rfl⟩
    have B1 : Below W.heap.size W w1 := by rw [← hwx]; exact HF.out x
    rw [hwx]
    clear hwx cd0 cd1 cd2 cd3 cd4 HF HFs HD HH HI
    have s1 := B1.size
    have z1d : w.heap.size < w1.heap.size := Nat.lt_of_lt_of_le zd s1
    obtain ⟨y1d0, y1d1, y1d2, y1d3, y1d4⟩ := mv5 B1 zd kd0 kd1 kd2 kd3 kd4
    go_wp2
    go_ret2
    rw [HV.out]
    exact ⟨_, _, rfl, Sl.nil, Fresh.nil _ _, blw⟩
  have hw0 : within rev d.from_ (headRev d) = true := by rw [within_rev hd]; simpa using hr
  have hp := docOk_iff.1 hd
  have hl8 := hp.len
  have ht2 := hp.tlen
  have hsz := hp.sz
  have HP := Lib.hid hp
  clear hp
  obtain ⟨K, hK, hrev, hkk⟩ := atRev_split hr
  obtain ⟨tx, htx, hte, htt⟩ := textAt_yes hr
  rw [hkk] at htx
  have HV := Lib.hid hte
  have HTX := Lib.hid htx
  obtain ⟨vc, hcut, hcr⟩ := HXL.out.cuth Try.underlying24 szi_DEntry hK
  have HCR := Lib.hid hcr
  have hlc := fun w1 ty => hcr.len Try.underlying24 w1 ty
  have hmin : (d.list.take K).length = K := by simp; omega
  rw [hmin] at hlc
  clear hkk htx hte hcr htt hmin
  obtain ⟨i0, hi, hz0, hz1, hz2⟩ := info_parts info_int1
  subst hrev
  go_enter Try.func32, Try.ntmps32
  go_wp2
  rw [← hW]
  clear hW
  obtain ⟨X, hX, F, hF, hFs⟩ := fam_of W
  obtain ⟨cd0, cd1, cd2, cd3, cd4⟩ := mx5 hF zd kd0 kd1 kd2 kd3 kd4
  have HF := Lib.hid hF
  have HFs := Lib.hid hFs
  clear hF hFs
  have HD := Lib.hid (fun (W' : World) (hb : Below W.heap.size W W') => (by have := spec_DocOk_c d _ _ _ W' n_name (HXT.out.below hb) (HXL.out.below hb) (HXS.out.below hb); rw [hd] at this; exact this : Calls Try.prog 48 #[.agg #[.string d.name, .int .i64 d.from_, v_text, v_list, v_seen]] W' (Tells W' (.bool true))))
  have HH := Lib.hid (fun (W' : World) (hb : Below W.heap.size W W') => (by have := spec_HeadRev_c d v_text _ v_seen W' (HXL.out.below hb) (by omega) (by omega); exact this : Calls Try.prog 31 #[.agg #[.string d.name, .int .i64 d.from_, v_text, v_list, v_seen]] W' (Tells W' (.int .i64 (headRev d)))))
  have HI := Lib.hid (fun (W' : World) (hb : Below W.heap.size W W') => (by have := spec_within_c (d.from_ + (K : Int)) d.from_ (headRev d) W'; rw [hw0] at this; exact this : Calls Try.prog 50 #[.int .i64 (d.from_ + (K : Int)), .int .i64 d.from_, .int .i64 (headRev d)] W' (Tells W' (.bool true))))
  refine wp_region_fam (F := F) (by kernel_rfl) (by kernel_rfl) (HFs.out _ blw) ?_
  repeat (go_big_quiet_step ((first | (go_at_call 48; (with_reducible exact Calls.fam_tells HF.out HFs.out (HD.out _ (HF.out _)))) | (go_at_call 31; (with_reducible exact Calls.fam_tells HF.out HFs.out (HH.out _ (HF.out _)))) | (go_at_call 50; (with_reducible exact Calls.fam_tells HF.out HFs.out (HI.out _ (HF.out _)))))))
  refine wpQuiet_nil ?_
  intro x
  obtain ⟨w1, hwx⟩ : ∃ wx : World, F x = wx := ⟨_, rfl⟩
  have B1 : Below W.heap.size W w1 := by rw [← hwx]; exact HF.out x
  rw [hwx]
  clear hwx cd0 cd1 cd2 cd3 cd4 HF HFs HD HH HI
  have s1 := B1.size
  have z1d : w.heap.size < w1.heap.size := Nat.lt_of_lt_of_le zd s1
  obtain ⟨y1d0, y1d1, y1d2, y1d3, y1d4⟩ := mv5 B1 zd kd0 kd1 kd2 kd3 kd4
  have hs0 : d.from_ + (K : Int) - d.from_ = (K : Int) := by omega
  have hs1 : IntKind.i64.wrap (d.from_ + (K : Int) - d.from_) = (K : Int) := by rw [hs0]; exact IntWalk.i64_in _ (by omega)
  have hs2 : IntKind.i64.wrap (K : Int) = (K : Int) := IntWalk.i64_in _ (by omega)
  go_wp2_with (at_builtin; refine wpList_append_row rfl _ _ 23 rfl Try.underlying23 hi hz0 hz1 hz2 rfl rfl rfl (Row.empty w1.heap.size _ _) (Src.ints2 (HXT.out.below blw)) (fun _ h => by cases h) ?c1 ?c2 ?c3 ?_)
  case c1 => simp; exact le_BIG (by omega)
  case c2 => simp; omega
  case c3 => simp
  intro v2 w2 hr2 hw2 hn2
  have hb2 : Below w1.heap.size w1 w2 := (show Below w1.heap.size w1 _ from blw).trans (hw2.nilBelow.mono om)
  replace hr2 : Row w1.heap.size w2 v2 d.text [] := hr2
  have HO2 : Hid (OwnS w.heap.size w2 v2 d.text) := Lib.hid ((hr2.owns (Fresh.nil _ _)).mono (by omega))
  have B2 : Below W.heap.size W w2 := B1.trans (hb2.mono s1)
  clear hr2 hw2 hn2
  have s2 := B2.size
  have z2d : w.heap.size < w2.heap.size := Nat.lt_of_lt_of_le zd s2
  obtain ⟨y2d0, y2d1, y2d2, y2d3, y2d4⟩ := mv5 B2 zd kd0 kd1 kd2 kd3 kd4
  go_wp2
  clear hs0 hs1 hs2
  go_loopw [6, 33] (fun z i wr => ∃ (k : Nat) (u : Value) (x : List Int), u = z ∧ k ≤ K ∧ i = .int .i64 k ∧ appTo ((opsL d.list).take k) d.text = some x ∧ OwnS w.heap.size wr u x ∧ Below W.heap.size W wr) (fun _ i _ => K - (intOf i).toNat)
  case atStart => exact ⟨0, _, d.text, rfl, Nat.zero_le _, rfl, rfl, HO2.out, blw⟩
  case round =>
    obtain ⟨k, u, x, rfl, hk, rfl, hap, hu, hbr⟩ := hrel
    have hsr := hbr.size
    have HAP := Lib.hid hap
    have HU := Lib.hid hu
    clear hap hu
    by_cases hlt : k < K
    · obtain ⟨x1, hx⟩ := get_some (l := d.list) (k := k) (by omega)
      obtain ⟨b1, o1, cs, g1, g2, g3⟩ := (HCR.out.below hbr).idx Try.underlying24 szi_DEntry k (by rw [List.getElem?_take, if_pos hlt]; exact hx)
      obtain ⟨v_o, rfl, r_o⟩ := inv_DEntry g3
      have q0 := g2.zero
      have q1 := g2 1 _ rfl
      have q2 := g2 2 _ rfl
      obtain ⟨aa, ca, rfl⟩ := r_o.isSlice
      have HST := Lib.hid (appTo_succ (opsL_get hx) HAP.out)
      have hy : (applyP x1.o x).2 = true := by
        obtain ⟨v, hv, _⟩ := appTo_take (l := (opsL d.list).take K) HTX.out (k + 1)
        rw [List.take_take, Nat.min_eq_left (by omega), HST.out] at hv
        by_cases hy : (applyP x1.o x).2 = true
        · exact hy
        · rw [if_neg hy] at hv; cases hv
      have HS2 : Hid (appTo ((opsL d.list).take (k + 1)) d.text = some (applyP x1.o x).1) := Lib.hid (by rw [HST.out, if_pos hy])
      have HRO := Lib.hid r_o
      clear hx g2 g3 r_o hy
      go_wp2_with fail
      refine (spec_Apply_c x1.o x _ _ _ (HRO.out.below blw) (HU.out.rd.below blw)).mono ?_
      rintro e' w4 ⟨v4, f4, rfl, S4, F4, hb4⟩
      have R4 : Below wr.heap.size wr w4 := (show Below wr.heap.size wr _ from blw).trans (hb4.mono om)
      have r4 := R4.size
      have HO4 : Hid (OwnS w.heap.size w4 v4 (applyP x1.o x).1) := Lib.hid ⟨f4, S4, F4.mono (by simp; omega)⟩
      have HB4 : Hid (Below W.heap.size W w4) := Lib.hid (hbr.trans (R4.mono hsr))
      clear hb4 S4 F4
      go_wp2
      go_roundw
      case rel => exact ⟨k + 1, _, _, rfl, by omega, by go_num, HS2.out, HO4.out, HB4.out⟩
      case measure => simp [intOf]; omega
    · obtain rfl : k = K := by omega
      have HX : Hid (x = tx) := Lib.hid (Option.some.inj (HAP.out.symm.trans HTX.out))
      obtain ⟨fp, hs, hf⟩ := HU.out
      go_wp2
      go_ret2
      rw [HV.out]
      exact ⟨_, _, rfl, by rw [← HX.out]; exact hs, hf, blw⟩
set_option maxHeartbeats 16000000 in
set_option maxRecDepth 100000 in
theorem impl_TextAt_c (d : DDoc) (v_text v_list v_seen : Value) (rev : Int) (w : World) (n_name : d.name.size ≤ BIG) (h_text : RdS w v_text d.text) (h_list : RdS w v_list d.list) (h_seen : RdS w v_seen d.seen) : Calls Try.prog 6 #[.agg #[.string d.name, .int .i64 d.from_, v_text, v_list, v_seen], .int .i64 rev] w (Out_IntS_b w (textAt d rev).1 (textAt d rev).2) := by
  obtain ⟨W, hW⟩ : ∃ W : World, W = w.alloc (.cells #[.string d.name, .int .i64 d.from_, v_text, v_list, v_seen] 27) := ⟨_, rfl⟩
  have hWB : Below w.heap.size w W := by rw [hW]; exact blw
  have sW := hWB.size
  have zd : w.heap.size < W.heap.size := by rw [hW]; first | (simp; done) | (simp; omega)
  have kd0 : W.cell? ⟨w.heap.size, 0, none⟩ = some (.string d.name) := by rw [hW]; simp [go_sem]
  have kd1 : W.cell? ⟨w.heap.size, 1, none⟩ = some (.int .i64 d.from_) := by rw [hW]; simp [go_sem]
  have kd2 : W.cell? ⟨w.heap.size, 2, none⟩ = some (v_text) := by rw [hW]; simp [go_sem]
  have kd3 : W.cell? ⟨w.heap.size, 3, none⟩ = some (v_list) := by rw [hW]; simp [go_sem]
  have kd4 : W.cell? ⟨w.heap.size, 4, none⟩ = some (v_seen) := by rw [hW]; simp [go_sem]
  have HXT := Lib.hid (h_text.below hWB)
  have HXL := Lib.hid (h_list.below hWB)
  have HXS := Lib.hid (h_seen.below hWB)
  have hll := fun w1 ty => h_list.len Try.underlying24 w1 ty
  clear h_text h_list h_seen
  by_cases hd : docOk d = true
  rotate_left
  · have hd : docOk d = false := by simpa using hd
    have HV := Lib.hid (textAt_no (rev := rev) (d := d) (fun h => by have h1 := h.1; rw [hd] at h1; cases h1))
    go_enter Try.func6, Try.ntmps6
    go_wp2
    rw [← hW]
    clear hW
    obtain ⟨X, hX, F, hF, hFs⟩ := fam_of W
    obtain ⟨cd0, cd1, cd2, cd3, cd4⟩ := mx5 hF zd kd0 kd1 kd2 kd3 kd4
    have HF := Lib.hid hF
    have HFs := Lib.hid hFs
    clear hF hFs
    have HD := Lib.hid (fun (W' : World) (hb : Below W.heap.size W W') => (by have := impl_DocOk_c d _ _ _ W' n_name (HXT.out.below hb) (HXL.out.below hb) (HXS.out.below hb); rw [hd] at this; exact this : Calls Try.prog 16 #[.agg #[.string d.name, .int .i64 d.from_, v_text, v_list, v_seen]] W' (Tells W' (.bool false))))
    refine wp_region_fam (F := F) (by kernel_rfl) (by kernel_rfl) (HFs.out _ blw) ?_
    repeat (go_big_quiet_step ((go_at_call 16; (with_reducible exact Calls.fam_tells HF.out HFs.out (HD.out _ (HF.out _))))))
    refine wpQuiet_nil ?_
    intro x
    obtain ⟨w1, hwx⟩ : ∃ wx : World, F x = wx := ⟨_, rfl⟩
    have B1 : Below W.heap.size W w1 := by rw [← hwx]; exact HF.out x
    rw [hwx]
    clear hwx cd0 cd1 cd2 cd3 cd4 HF HFs HD
    have s1 := B1.size
    have z1d : w.heap.size < w1.heap.size := Nat.lt_of_lt_of_le zd s1
    obtain ⟨y1d0, y1d1, y1d2, y1d3, y1d4⟩ := mv5 B1 zd kd0 kd1 kd2 kd3 kd4
    go_wp2
    go_ret2
    rw [HV.out]
    exact ⟨_, _, rfl, Sl.nil, Fresh.nil _ _, blw⟩
  have hbd := headRev_bd hd
  by_cases hr : atRev d rev
  rotate_left
  ·
    have HV := Lib.hid (textAt_no hr)
    have hw0 : within rev d.from_ (headRev d) = false := by rw [within_rev hd]; simpa using hr
    go_enter Try.func6, Try.ntmps6
    go_wp2
    rw [← hW]
    clear hW
    obtain ⟨X, hX, F, hF, hFs⟩ := fam_of W
    obtain ⟨cd0, cd1, cd2, cd3, cd4⟩ := mx5 hF zd kd0 kd1 kd2 kd3 kd4
    have HF := Lib.hid hF
    have HFs := Lib.hid hFs
    clear hF hFs
    have HD := Lib.hid (fun (W' : World) (hb : Below W.heap.size W W') => (by have := impl_DocOk_c d _ _ _ W' n_name (HXT.out.below hb) (HXL.out.below hb) (HXS.out.below hb); rw [hd] at this; exact this : Calls Try.prog 16 #[.agg #[.string d.name, .int .i64 d.from_, v_text, v_list, v_seen]] W' (Tells W' (.bool true))))
    have HH := Lib.hid (fun (W' : World) (hb : Below W.heap.size W W') => (by have := impl_HeadRev_c d v_text _ v_seen W' (HXL.out.below hb) (by omega) (by omega); exact this : Calls Try.prog 18 #[.agg #[.string d.name, .int .i64 d.from_, v_text, v_list, v_seen]] W' (Tells W' (.int .i64 (headRev d)))))
    have HI := Lib.hid (fun (W' : World) (hb : Below W.heap.size W W') => (by have := impl_within_c rev d.from_ (headRev d) W'; rw [hw0] at this; exact this : Calls Try.prog 17 #[.int .i64 rev, .int .i64 d.from_, .int .i64 (headRev d)] W' (Tells W' (.bool false))))
    refine wp_region_fam (F := F) (by kernel_rfl) (by kernel_rfl) (HFs.out _ blw) ?_
    repeat (go_big_quiet_step ((first | (go_at_call 16; (with_reducible exact Calls.fam_tells HF.out HFs.out (HD.out _ (HF.out _)))) | (go_at_call 18; (with_reducible exact Calls.fam_tells HF.out HFs.out (HH.out _ (HF.out _)))) | (go_at_call 17; (with_reducible exact Calls.fam_tells HF.out HFs.out (HI.out _ (HF.out _)))))))
    refine wpQuiet_nil ?_
    intro x
    obtain ⟨w1, hwx⟩ : ∃ wx : World, F x = wx := ⟨_, rfl⟩
    have B1 : Below W.heap.size W w1 := by rw [← hwx]; exact HF.out x
    rw [hwx]
    clear hwx cd0 cd1 cd2 cd3 cd4 HF HFs HD HH HI
    have s1 := B1.size
    have z1d : w.heap.size < w1.heap.size := Nat.lt_of_lt_of_le zd s1
    obtain ⟨y1d0, y1d1, y1d2, y1d3, y1d4⟩ := mv5 B1 zd kd0 kd1 kd2 kd3 kd4
    go_wp2
    go_ret2
    rw [HV.out]
    exact ⟨_, _, rfl, Sl.nil, Fresh.nil _ _, blw⟩
  have hw0 : within rev d.from_ (headRev d) = true := by rw [within_rev hd]; simpa using hr
  have hp := docOk_iff.1 hd
  have hl8 := hp.len
  have ht2 := hp.tlen
  have hsz := hp.sz
  have HP := Lib.hid hp
  clear hp
  obtain ⟨K, hK, hrev, hkk⟩ := atRev_split hr
  obtain ⟨tx, htx, hte, htt⟩ := textAt_yes hr
  rw [hkk] at htx
  have HV := Lib.hid hte
  have HTX := Lib.hid htx
  obtain ⟨vc, hcut, hcr⟩ := HXL.out.cuth Try.underlying24 szi_DEntry hK
  have HCR := Lib.hid hcr
  have hlc := fun w1 ty => hcr.len Try.underlying24 w1 ty
  have hmin : (d.list.take K).length = K := by simp; omega
  rw [hmin] at hlc
  clear hkk htx hte hcr htt hmin
  subst hrev
  go_enter Try.func6, Try.ntmps6
  go_wp2
  rw [← hW]
  clear hW
  obtain ⟨X, hX, F, hF, hFs⟩ := fam_of W
  obtain ⟨cd0, cd1, cd2, cd3, cd4⟩ := mx5 hF zd kd0 kd1 kd2 kd3 kd4
  have HF := Lib.hid hF
  have HFs := Lib.hid hFs
  clear hF hFs
  have HD := Lib.hid (fun (W' : World) (hb : Below W.heap.size W W') => (by have := impl_DocOk_c d _ _ _ W' n_name (HXT.out.below hb) (HXL.out.below hb) (HXS.out.below hb); rw [hd] at this; exact this : Calls Try.prog 16 #[.agg #[.string d.name, .int .i64 d.from_, v_text, v_list, v_seen]] W' (Tells W' (.bool true))))
  have HH := Lib.hid (fun (W' : World) (hb : Below W.heap.size W W') => (by have := impl_HeadRev_c d v_text _ v_seen W' (HXL.out.below hb) (by omega) (by omega); exact this : Calls Try.prog 18 #[.agg #[.string d.name, .int .i64 d.from_, v_text, v_list, v_seen]] W' (Tells W' (.int .i64 (headRev d)))))
  have HI := Lib.hid (fun (W' : World) (hb : Below W.heap.size W W') => (by have := impl_within_c (d.from_ + (K : Int)) d.from_ (headRev d) W'; rw [hw0] at this; exact this : Calls Try.prog 17 #[.int .i64 (d.from_ + (K : Int)), .int .i64 d.from_, .int .i64 (headRev d)] W' (Tells W' (.bool true))))
  refine wp_region_fam (F := F) (by kernel_rfl) (by kernel_rfl) (HFs.out _ blw) ?_
  repeat (go_big_quiet_step ((first | (go_at_call 16; (with_reducible exact Calls.fam_tells HF.out HFs.out (HD.out _ (HF.out _)))) | (go_at_call 18; (with_reducible exact Calls.fam_tells HF.out HFs.out (HH.out _ (HF.out _)))) | (go_at_call 17; (with_reducible exact Calls.fam_tells HF.out HFs.out (HI.out _ (HF.out _)))))))
  refine wpQuiet_nil ?_
  intro x
  obtain ⟨w1, hwx⟩ : ∃ wx : World, F x = wx := ⟨_, rfl⟩
  have B1 : Below W.heap.size W w1 := by rw [← hwx]; exact HF.out x
  rw [hwx]
  clear hwx cd0 cd1 cd2 cd3 cd4 HF HFs HD HH HI
  have s1 := B1.size
  have z1d : w.heap.size < w1.heap.size := Nat.lt_of_lt_of_le zd s1
  obtain ⟨y1d0, y1d1, y1d2, y1d3, y1d4⟩ := mv5 B1 zd kd0 kd1 kd2 kd3 kd4
  have hs0 : d.from_ + (K : Int) - d.from_ = (K : Int) := by omega
  have hs1 : IntKind.i64.wrap (d.from_ + (K : Int) - d.from_) = (K : Int) := by rw [hs0]; exact IntWalk.i64_in _ (by omega)
  have hs2 : IntKind.i64.wrap (K : Int) = (K : Int) := IntWalk.i64_in _ (by omega)
  have HALL : applyAllP ((opsL d.list).take K) d.text = (tx, true) := by rw [applyAllP_yes HP.out.text, HTX.out]; rfl
  go_wp2
  go_region_held3 (fun w' => w'.cell? ⟨w.heap.size, 0, none⟩ = some (.string d.name) ∧ w'.cell? ⟨w.heap.size, 1, none⟩ = some (.int .i64 d.from_) ∧ w'.cell? ⟨w.heap.size, 2, none⟩ = some (v_text) ∧ w'.cell? ⟨w.heap.size, 3, none⟩ = some (v_list) ∧ w'.cell? ⟨w.heap.size, 4, none⟩ = some (v_seen)) (go_keep)
    (first | (go_at_call 20; refine (impl_opsOf_c _ (d.list.take K) _ (HCR.out.below blw) (Nat.le_trans (szL_take _ _) (by omega))).mono ?_; rintro e' w6 ⟨v6, rfl, ho6, hb6⟩; have HO6 : Hid (RdS w6 v6 ((opsL d.list).take K)) := Lib.hid (by rw [← opsL_take]; exact ho6.rd); have B6 : Below W.heap.size W w6 := (show Below W.heap.size W _ from blw).trans (hb6.mono om); have s6 := B6.size; have z6d : w.heap.size < w6.heap.size := Nat.lt_of_lt_of_le zd s6; have y6d0 := (B6.cell (p := ⟨w.heap.size, 0, none⟩) zd).trans kd0; have y6d1 := (B6.cell (p := ⟨w.heap.size, 1, none⟩) zd).trans kd1; have y6d2 := (B6.cell (p := ⟨w.heap.size, 2, none⟩) zd).trans kd2; have y6d3 := (B6.cell (p := ⟨w.heap.size, 3, none⟩) zd).trans kd3; have y6d4 := (B6.cell (p := ⟨w.heap.size, 4, none⟩) zd).trans kd4; clear hb6 ho6) | (go_at_call 19; refine (impl_ApplyAll_c ((opsL d.list).take K) d.text _ _ _ (HO6.out.below blw) (HXT.out.below blw) (by omega)).mono ?_; rintro e' w7 ⟨v7, f7, rfl, S7, F7, hb7⟩; rw [HALL] at S7; rw [HALL]; have HS7 := Lib.hid S7; have HF7 : Hid (Fresh w.heap.size w7 f7) := Lib.hid (F7.mono (by first | omega | (simp; omega))); have B7 : Below W.heap.size W w7 := (show Below W.heap.size W _ from blw).trans (hb7.mono om); have s7 := B7.size; have z7d : w.heap.size < w7.heap.size := Nat.lt_of_lt_of_le zd s7; have y7d0 := (B7.cell (p := ⟨w.heap.size, 0, none⟩) zd).trans kd0; have y7d1 := (B7.cell (p := ⟨w.heap.size, 1, none⟩) zd).trans kd1; have y7d2 := (B7.cell (p := ⟨w.heap.size, 2, none⟩) zd).trans kd2; have y7d3 := (B7.cell (p := ⟨w.heap.size, 3, none⟩) zd).trans kd3; have y7d4 := (B7.cell (p := ⟨w.heap.size, 4, none⟩) zd).trans kd4; clear hb7 S7 F7))
  all_goals
    go_wp2
    go_ret2
    rw [HV.out]
    exact ⟨_, _, rfl, HS7.out, HF7.out, blw⟩
set_option maxHeartbeats 4000000 in
set_option maxRecDepth 100000 in
theorem spec_HeadText_c (d : DDoc) (v_text v_list v_seen : Value) (w : World) (n_name : d.name.size ≤ BIG) (h_text : RdS w v_text d.text) (h_list : RdS w v_list d.list) (h_seen : RdS w v_seen d.seen) : Calls Try.prog 75 #[.agg #[.string d.name, .int .i64 d.from_, v_text, v_list, v_seen]] w (Out_IntS w (headText d)) := by
  obtain ⟨W, hW⟩ : ∃ W : World, W = w.alloc (.cells #[.string d.name, .int .i64 d.from_, v_text, v_list, v_seen] 27) := ⟨_, rfl⟩
  have hWB : Below w.heap.size w W := by rw [hW]; exact blw
  have sW := hWB.size
  have zd : w.heap.size < W.heap.size := by rw [hW]; first | (simp; done) | (simp; omega)
  have kd0 : W.cell? ⟨w.heap.size, 0, none⟩ = some (.string d.name) := by rw [hW]; simp [go_sem]
  have kd1 : W.cell? ⟨w.heap.size, 1, none⟩ = some (.int .i64 d.from_) := by rw [hW]; simp [go_sem]
  have kd2 : W.cell? ⟨w.heap.size, 2, none⟩ = some (v_text) := by rw [hW]; simp [go_sem]
  have kd3 : W.cell? ⟨w.heap.size, 3, none⟩ = some (v_list) := by rw [hW]; simp [go_sem]
  have kd4 : W.cell? ⟨w.heap.size, 4, none⟩ = some (v_seen) := by rw [hW]; simp [go_sem]
  have HXT := Lib.hid (h_text.below hWB)
  have HXL := Lib.hid (h_list.below hWB)
  have HXS := Lib.hid (h_seen.below hWB)
  have hll := fun w1 ty => h_list.len Try.underlying24 w1 ty
  clear h_text h_list h_seen
  by_cases hd : docOk d = true
  ·
    have hbd := headRev_bd hd
    have HV : Hid (headText d = (textAt d (headRev d)).1) := Lib.hid rfl
    go_enter Try.func75, Try.ntmps75
    go_wp2
    rw [← hW]
    clear hW
    go_region_held3 (fun w' => w'.cell? ⟨w.heap.size, 0, none⟩ = some (.string d.name) ∧ w'.cell? ⟨w.heap.size, 1, none⟩ = some (.int .i64 d.from_) ∧ w'.cell? ⟨w.heap.size, 2, none⟩ = some (v_text) ∧ w'.cell? ⟨w.heap.size, 3, none⟩ = some (v_list) ∧ w'.cell? ⟨w.heap.size, 4, none⟩ = some (v_seen)) (go_keep)
      (first | (go_at_call 31; refine (spec_HeadRev_c d v_text _ v_seen _ (HXL.out.below blw) (by omega) (by omega)).mono ?_; rintro e' w6 ⟨rfl, hb6⟩; have B6 : Below W.heap.size W w6 := (show Below W.heap.size W _ from blw).trans (hb6.mono om); have s6 := B6.size; have z6d : w.heap.size < w6.heap.size := Nat.lt_of_lt_of_le zd s6; have y6d0 := (B6.cell (p := ⟨w.heap.size, 0, none⟩) zd).trans kd0; have y6d1 := (B6.cell (p := ⟨w.heap.size, 1, none⟩) zd).trans kd1; have y6d2 := (B6.cell (p := ⟨w.heap.size, 2, none⟩) zd).trans kd2; have y6d3 := (B6.cell (p := ⟨w.heap.size, 3, none⟩) zd).trans kd3; have y6d4 := (B6.cell (p := ⟨w.heap.size, 4, none⟩) zd).trans kd4; clear hb6) | (go_at_call 32; refine (spec_TextAt_c d _ _ _ (headRev d) _ n_name (HXT.out.below blw) (HXL.out.below blw) (HXS.out.below blw)).mono ?_; rintro e' w7 ⟨v7, f7, rfl, S7, F7, hb7⟩; skip; have HS7 := Lib.hid S7; have HF7 : Hid (Fresh w.heap.size w7 f7) := Lib.hid (F7.mono (by first | omega | (simp; omega))); have B7 : Below W.heap.size W w7 := (show Below W.heap.size W _ from blw).trans (hb7.mono om); have s7 := B7.size; have z7d : w.heap.size < w7.heap.size := Nat.lt_of_lt_of_le zd s7; have y7d0 := (B7.cell (p := ⟨w.heap.size, 0, none⟩) zd).trans kd0; have y7d1 := (B7.cell (p := ⟨w.heap.size, 1, none⟩) zd).trans kd1; have y7d2 := (B7.cell (p := ⟨w.heap.size, 2, none⟩) zd).trans kd2; have y7d3 := (B7.cell (p := ⟨w.heap.size, 3, none⟩) zd).trans kd3; have y7d4 := (B7.cell (p := ⟨w.heap.size, 4, none⟩) zd).trans kd4; clear hb7 S7 F7))
    all_goals
      go_wp2
      go_ret
      rw [HV.out]
      exact ⟨_, _, rfl, HS7.out, HF7.out, blw⟩
  ·
    have hno := fun n => textAt_no (d := d) (rev := n) (fun h => hd h.1)
    have HNO := Lib.hid hno
    have HV : Hid (headText d = []) := Lib.hid (by unfold headText; rw [hno])
    clear hno
    go_enter Try.func75, Try.ntmps75
    go_wp2
    rw [← hW]
    clear hW
    go_region_held3 (fun w' => w'.cell? ⟨w.heap.size, 0, none⟩ = some (.string d.name) ∧ w'.cell? ⟨w.heap.size, 1, none⟩ = some (.int .i64 d.from_) ∧ w'.cell? ⟨w.heap.size, 2, none⟩ = some (v_text) ∧ w'.cell? ⟨w.heap.size, 3, none⟩ = some (v_list) ∧ w'.cell? ⟨w.heap.size, 4, none⟩ = some (v_seen)) (go_keep)
      (first | (go_at_call 31; refine (spec_HeadRev_any d v_text _ v_seen _ (HXL.out.below blw)).mono ?_; rintro e' w6 ⟨n, rfl, hb6⟩; have B6 : Below W.heap.size W w6 := (show Below W.heap.size W _ from blw).trans (hb6.mono om); have s6 := B6.size; have z6d : w.heap.size < w6.heap.size := Nat.lt_of_lt_of_le zd s6; have y6d0 := (B6.cell (p := ⟨w.heap.size, 0, none⟩) zd).trans kd0; have y6d1 := (B6.cell (p := ⟨w.heap.size, 1, none⟩) zd).trans kd1; have y6d2 := (B6.cell (p := ⟨w.heap.size, 2, none⟩) zd).trans kd2; have y6d3 := (B6.cell (p := ⟨w.heap.size, 3, none⟩) zd).trans kd3; have y6d4 := (B6.cell (p := ⟨w.heap.size, 4, none⟩) zd).trans kd4; clear hb6) | (go_at_call 32; refine (spec_TextAt_c d _ _ _ n _ n_name (HXT.out.below blw) (HXL.out.below blw) (HXS.out.below blw)).mono ?_; rintro e' w7 ⟨v7, f7, rfl, S7, F7, hb7⟩; rw [HNO.out] at S7; rw [HNO.out]; have HS7 := Lib.hid S7; have HF7 : Hid (Fresh w.heap.size w7 f7) := Lib.hid (F7.mono (by first | omega | (simp; omega))); have B7 : Below W.heap.size W w7 := (show Below W.heap.size W _ from blw).trans (hb7.mono om); have s7 := B7.size; have z7d : w.heap.size < w7.heap.size := Nat.lt_of_lt_of_le zd s7; have y7d0 := (B7.cell (p := ⟨w.heap.size, 0, none⟩) zd).trans kd0; have y7d1 := (B7.cell (p := ⟨w.heap.size, 1, none⟩) zd).trans kd1; have y7d2 := (B7.cell (p := ⟨w.heap.size, 2, none⟩) zd).trans kd2; have y7d3 := (B7.cell (p := ⟨w.heap.size, 3, none⟩) zd).trans kd3; have y7d4 := (B7.cell (p := ⟨w.heap.size, 4, none⟩) zd).trans kd4; clear hb7 S7 F7))
    all_goals
      go_wp2
      go_ret
      rw [HV.out]
      exact ⟨_, _, rfl, HS7.out, HF7.out, blw⟩
set_option maxHeartbeats 4000000 in
set_option maxRecDepth 100000 in
theorem impl_HeadText_c (d : DDoc) (v_text v_list v_seen : Value) (w : World) (n_name : d.name.size ≤ BIG) (h_text : RdS w v_text d.text) (h_list : RdS w v_list d.list) (h_seen : RdS w v_seen d.seen) : Calls Try.prog 10 #[.agg #[.string d.name, .int .i64 d.from_, v_text, v_list, v_seen]] w (Out_IntS w (headText d)) := by
  obtain ⟨W, hW⟩ : ∃ W : World, W = w.alloc (.cells #[.string d.name, .int .i64 d.from_, v_text, v_list, v_seen] 27) := ⟨_, rfl⟩
  have hWB : Below w.heap.size w W := by rw [hW]; exact blw
  have sW := hWB.size
  have zd : w.heap.size < W.heap.size := by rw [hW]; first | (simp; done) | (simp; omega)
  have kd0 : W.cell? ⟨w.heap.size, 0, none⟩ = some (.string d.name) := by rw [hW]; simp [go_sem]
  have kd1 : W.cell? ⟨w.heap.size, 1, none⟩ = some (.int .i64 d.from_) := by rw [hW]; simp [go_sem]
  have kd2 : W.cell? ⟨w.heap.size, 2, none⟩ = some (v_text) := by rw [hW]; simp [go_sem]
  have kd3 : W.cell? ⟨w.heap.size, 3, none⟩ = some (v_list) := by rw [hW]; simp [go_sem]
  have kd4 : W.cell? ⟨w.heap.size, 4, none⟩ = some (v_seen) := by rw [hW]; simp [go_sem]
  have HXT := Lib.hid (h_text.below hWB)
  have HXL := Lib.hid (h_list.below hWB)
  have HXS := Lib.hid (h_seen.below hWB)
  have hll := fun w1 ty => h_list.len Try.underlying24 w1 ty
  clear h_text h_list h_seen
  by_cases hd : docOk d = true
  ·
    have hbd := headRev_bd hd
    have HV : Hid (headText d = (textAt d (headRev d)).1) := Lib.hid rfl
    go_enter Try.func10, Try.ntmps10
    go_wp2
    rw [← hW]
    clear hW
    go_region_held3 (fun w' => w'.cell? ⟨w.heap.size, 0, none⟩ = some (.string d.name) ∧ w'.cell? ⟨w.heap.size, 1, none⟩ = some (.int .i64 d.from_) ∧ w'.cell? ⟨w.heap.size, 2, none⟩ = some (v_text) ∧ w'.cell? ⟨w.heap.size, 3, none⟩ = some (v_list) ∧ w'.cell? ⟨w.heap.size, 4, none⟩ = some (v_seen)) (go_keep)
      (first | (go_at_call 18; refine (impl_HeadRev_c d v_text _ v_seen _ (HXL.out.below blw) (by omega) (by omega)).mono ?_; rintro e' w6 ⟨rfl, hb6⟩; have B6 : Below W.heap.size W w6 := (show Below W.heap.size W _ from blw).trans (hb6.mono om); have s6 := B6.size; have z6d : w.heap.size < w6.heap.size := Nat.lt_of_lt_of_le zd s6; have y6d0 := (B6.cell (p := ⟨w.heap.size, 0, none⟩) zd).trans kd0; have y6d1 := (B6.cell (p := ⟨w.heap.size, 1, none⟩) zd).trans kd1; have y6d2 := (B6.cell (p := ⟨w.heap.size, 2, none⟩) zd).trans kd2; have y6d3 := (B6.cell (p := ⟨w.heap.size, 3, none⟩) zd).trans kd3; have y6d4 := (B6.cell (p := ⟨w.heap.size, 4, none⟩) zd).trans kd4; clear hb6) | (go_at_call 6; refine (impl_TextAt_c d _ _ _ (headRev d) _ n_name (HXT.out.below blw) (HXL.out.below blw) (HXS.out.below blw)).mono ?_; rintro e' w7 ⟨v7, f7, rfl, S7, F7, hb7⟩; skip; have HS7 := Lib.hid S7; have HF7 : Hid (Fresh w.heap.size w7 f7) := Lib.hid (F7.mono (by first | omega | (simp; omega))); have B7 : Below W.heap.size W w7 := (show Below W.heap.size W _ from blw).trans (hb7.mono om); have s7 := B7.size; have z7d : w.heap.size < w7.heap.size := Nat.lt_of_lt_of_le zd s7; have y7d0 := (B7.cell (p := ⟨w.heap.size, 0, none⟩) zd).trans kd0; have y7d1 := (B7.cell (p := ⟨w.heap.size, 1, none⟩) zd).trans kd1; have y7d2 := (B7.cell (p := ⟨w.heap.size, 2, none⟩) zd).trans kd2; have y7d3 := (B7.cell (p := ⟨w.heap.size, 3, none⟩) zd).trans kd3; have y7d4 := (B7.cell (p := ⟨w.heap.size, 4, none⟩) zd).trans kd4; clear hb7 S7 F7))
    all_goals
      go_wp2
      go_ret
      rw [HV.out]
      exact ⟨_, _, rfl, HS7.out, HF7.out, blw⟩
  ·
    have hno := fun n => textAt_no (d := d) (rev := n) (fun h => hd h.1)
    have HNO := Lib.hid hno
    have HV : Hid (headText d = []) := Lib.hid (by unfold headText; rw [hno])
    clear hno
    go_enter Try.func10, Try.ntmps10
    go_wp2
    rw [← hW]
    clear hW
    go_region_held3 (fun w' => w'.cell? ⟨w.heap.size, 0, none⟩ = some (.string d.name) ∧ w'.cell? ⟨w.heap.size, 1, none⟩ = some (.int .i64 d.from_) ∧ w'.cell? ⟨w.heap.size, 2, none⟩ = some (v_text) ∧ w'.cell? ⟨w.heap.size, 3, none⟩ = some (v_list) ∧ w'.cell? ⟨w.heap.size, 4, none⟩ = some (v_seen)) (go_keep)
      (first | (go_at_call 18; refine (impl_HeadRev_any d v_text _ v_seen _ (HXL.out.below blw)).mono ?_; rintro e' w6 ⟨n, rfl, hb6⟩; have B6 : Below W.heap.size W w6 := (show Below W.heap.size W _ from blw).trans (hb6.mono om); have s6 := B6.size; have z6d : w.heap.size < w6.heap.size := Nat.lt_of_lt_of_le zd s6; have y6d0 := (B6.cell (p := ⟨w.heap.size, 0, none⟩) zd).trans kd0; have y6d1 := (B6.cell (p := ⟨w.heap.size, 1, none⟩) zd).trans kd1; have y6d2 := (B6.cell (p := ⟨w.heap.size, 2, none⟩) zd).trans kd2; have y6d3 := (B6.cell (p := ⟨w.heap.size, 3, none⟩) zd).trans kd3; have y6d4 := (B6.cell (p := ⟨w.heap.size, 4, none⟩) zd).trans kd4; clear hb6) | (go_at_call 6; refine (impl_TextAt_c d _ _ _ n _ n_name (HXT.out.below blw) (HXL.out.below blw) (HXS.out.below blw)).mono ?_; rintro e' w7 ⟨v7, f7, rfl, S7, F7, hb7⟩; rw [HNO.out] at S7; rw [HNO.out]; have HS7 := Lib.hid S7; have HF7 : Hid (Fresh w.heap.size w7 f7) := Lib.hid (F7.mono (by first | omega | (simp; omega))); have B7 : Below W.heap.size W w7 := (show Below W.heap.size W _ from blw).trans (hb7.mono om); have s7 := B7.size; have z7d : w.heap.size < w7.heap.size := Nat.lt_of_lt_of_le zd s7; have y7d0 := (B7.cell (p := ⟨w.heap.size, 0, none⟩) zd).trans kd0; have y7d1 := (B7.cell (p := ⟨w.heap.size, 1, none⟩) zd).trans kd1; have y7d2 := (B7.cell (p := ⟨w.heap.size, 2, none⟩) zd).trans kd2; have y7d3 := (B7.cell (p := ⟨w.heap.size, 3, none⟩) zd).trans kd3; have y7d4 := (B7.cell (p := ⟨w.heap.size, 4, none⟩) zd).trans kd4; clear hb7 S7 F7))
    all_goals
      go_wp2
      go_ret
      rw [HV.out]
      exact ⟨_, _, rfl, HS7.out, HF7.out, blw⟩
end Go.Proofs.Ytiahgjnpinjblaa
