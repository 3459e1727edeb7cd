/- Rebase: both walks. -/
import Derived.Test.YtiahgjnpinjblaaPst
import Derived.Test.YtiahgjnpinjblaaDfn
import Derived.Test.YtiahgjnpinjblaaDfo
namespace Go.Proofs.Ytiahgjnpinjblaa
open Go.RowKit
theorem rebase_no {d : DDoc} {base : Int} {o : List DPart} (h : ¬ (docOk d = true ∧ opOk o = true)) : rebase d base o = ([], 1) := if_neg h
theorem rebase_future {d : DDoc} {base : Int} {o : List DPart} (h : docOk d = true ∧ opOk o = true) (h2 : headRev d < base) : rebase d base o = ([], 2) := by unfold rebase; rw [if_pos h, if_pos h2]
theorem rebase_old {d : DDoc} {base : Int} {o : List DPart} (h : docOk d = true ∧ opOk o = true) (h2 : ¬ headRev d < base) (h3 : base < d.from_) : rebase d base o = ([], 3) := by unfold rebase; rw [if_pos h, if_neg h2, if_pos h3]
theorem rebase_from {d : DDoc} {base : Int} {o : List DPart} (h : docOk d = true ∧ opOk o = true) (h2 : ¬ headRev d < base) (h3 : ¬ base < d.from_) (h4 : ¬ opFrom o = (textAt d base).1.length) : rebase d base o = ([], 1) := by unfold rebase; rw [if_pos h, if_neg h2, if_neg h3, if_neg h4]
theorem rebase_large {d : DDoc} {base : Int} {o : List DPart} (h : docOk d = true ∧ opOk o = true) (h2 : ¬ headRev d < base) (h3 : ¬ base < d.from_) (h4 : opFrom o = (textAt d base).1.length) (h5 : past (opsSince d base).1 o = none) : rebase d base o = ([], 5) := by unfold rebase; rw [if_pos h, if_neg h2, if_neg h3, if_pos h4, h5]
theorem rebase_yes {d : DDoc} {base : Int} {o : List DPart} {z : List (List DPart) × List DPart} (h : docOk d = true ∧ opOk o = true) (h2 : ¬ headRev d < base) (h3 : ¬ base < d.from_) (h4 : opFrom o = (textAt d base).1.length) (h5 : past (opsSince d base).1 o = some z) : rebase d base o = (z.2, 0) := by unfold rebase; rw [if_pos h, if_neg h2, if_neg h3, if_pos h4, h5]
theorem atRev_mk {d : DDoc} {base : Int} (h : docOk d = true) (h2 : ¬ headRev d < base) (h3 : ¬ base < d.from_) : atRev d base := ⟨h, by omega, by omega⟩

set_option maxHeartbeats 4000000 in
set_option maxRecDepth 100000 in
theorem spec_Rebase_c (d : DDoc) (v_text v_list v_seen : Value) (base : Int) (vo : Value) (o : List DPart) (w : World) (n_name : d.name.size ≤ BIG) (h_text : RdS w v_text d.text) (h_list : RdS w v_list d.list) (h_seen : RdS w v_seen d.seen) (ho : RdS w vo o) :
    Calls Try.prog 54 #[.agg #[.string d.name, .int .i64 d.from_, v_text, v_list, v_seen], .int .i64 base, vo] w (Out_PartS_i w (rebase d base o).1 (rebase d base o).2) := by
  go_enter Try.func54, Try.ntmps54
  go_wp2_with fail
  refine (spec_DocOk_c d _ _ _ _ n_name (h_text.below ((Below.refl w.heap.size w).alloc om _)) (h_list.below ((Below.refl w.heap.size w).alloc om _)) (h_seen.below ((Below.refl w.heap.size w).alloc om _))).mono ?_
  rintro e' w1 ⟨rfl, hb1⟩
  have s1 : w.heap.size + 1 ≤ w1.heap.size := by have := hb1.size; (try simp at this); omega
  have HBN : Hid (Below w.heap.size w w1) := Lib.hid (((Below.refl w.heap.size w).alloc om _).trans (hb1.mono om))
  have HBW := HBN
  clear HBN
  have HXd : Hid (Bx w1 (w.heap.size) [.string d.name, .int .i64 d.from_, v_text, v_list, v_seen]) := Lib.hid ((Bx.new (by first | rfl | simp | omega)).at hb1)
  obtain ⟨Zd, Kd0, Kd1, Kd2, Kd3, Kd4⟩ := HXd.out.o5
  clear hb1
  by_cases h1 : docOk d = true
  rotate_left
  · have h1 : docOk d = false := by simpa using h1
    rw [h1]
    have HV := Lib.hid (rebase_no (base := base) (o := o) (d := d) fun h => by rw [h1] at h; cases h.1)
    go_wp2
    have HB : Hid (Below w.heap.size w w1) := Lib.hid HBW.out
    rw [HV.out]
    exact bodyPost_ret (v := .tuple #[.slice none 0 0, .int .i64 1]) (by simp [results, Try.results54, go_sem, *]) rfl ⟨_, _, rfl, Sl.nil, Fresh.nil _ _, HB.out⟩
  rw [h1]
  go_wp2_with fail
  refine (spec_OpOk_c _ o _ (ho.below HBW.out)).mono ?_
  rintro e' w2 ⟨rfl, hb2⟩
  have s2 : w1.heap.size ≤ w2.heap.size := by have := hb2.size; (try simp at this); omega
  have HBN : Hid (Below w.heap.size w w2) := Lib.hid (HBW.out.trans (hb2.mono om))
  clear HBW
  have HBW := HBN
  clear HBN
  replace HXd : Hid (Bx w2 (w.heap.size) [.string d.name, .int .i64 d.from_, v_text, v_list, v_seen]) := Lib.hid (HXd.out.at hb2)
  clear Zd Kd0 Kd1 Kd2 Kd3 Kd4
  obtain ⟨Zd, Kd0, Kd1, Kd2, Kd3, Kd4⟩ := HXd.out.o5
  clear hb2
  by_cases h2 : opOk o = true
  rotate_left
  · have h2 : opOk o = false := by simpa using h2
    rw [h2]
    have HV := Lib.hid (rebase_no (base := base) (o := o) (d := d) fun h => by rw [h2] at h; cases h.2)
    go_wp2
    have HB : Hid (Below w.heap.size w w2) := Lib.hid HBW.out
    rw [HV.out]
    exact bodyPost_ret (v := .tuple #[.slice none 0 0, .int .i64 1]) (by simp [results, Try.results54, go_sem, *]) rfl ⟨_, _, rfl, Sl.nil, Fresh.nil _ _, HB.out⟩
  rw [h2]
  obtain ⟨bh0, bh1, bf0, bf1⟩ := headRev_bd h1
  have H12 := Lib.hid (And.intro h1 h2)
  go_wp2_with fail
  refine (spec_HeadRev_c d _ _ _ _ (h_list.below HBW.out) (by omega) (by omega)).mono ?_
  rintro e' w3 ⟨rfl, hb3⟩
  have s3 : w2.heap.size ≤ w3.heap.size := by have := hb3.size; (try simp at this); omega
  have HBN : Hid (Below w.heap.size w w3) := Lib.hid (HBW.out.trans (hb3.mono om))
  clear HBW
  have HBW := HBN
  clear HBN
  replace HXd : Hid (Bx w3 (w.heap.size) [.string d.name, .int .i64 d.from_, v_text, v_list, v_seen]) := Lib.hid (HXd.out.at hb3)
  clear Zd Kd0 Kd1 Kd2 Kd3 Kd4
  obtain ⟨Zd, Kd0, Kd1, Kd2, Kd3, Kd4⟩ := HXd.out.o5
  clear hb3
  by_cases h3 : headRev d < base
  · have HV := Lib.hid (rebase_future H12.out h3)
    go_wp2
    have HB : Hid (Below w.heap.size w w3) := Lib.hid HBW.out
    rw [HV.out]
    exact bodyPost_ret (v := .tuple #[.slice none 0 0, .int .i64 2]) (by simp [results, Try.results54, go_sem, *]) rfl ⟨_, _, rfl, Sl.nil, Fresh.nil _ _, HB.out⟩
  by_cases h4 : base < d.from_
  · have HV := Lib.hid (rebase_old H12.out h3 h4)
    go_wp2
    have HB : Hid (Below w.heap.size w w3) := Lib.hid HBW.out
    rw [HV.out]
    exact bodyPost_ret (v := .tuple #[.slice none 0 0, .int .i64 3]) (by simp [results, Try.results54, go_sem, *]) rfl ⟨_, _, rfl, Sl.nil, Fresh.nil _ _, HB.out⟩
  have HAR := Lib.hid (atRev_mk h1 h3 h4)
  have H3 : Hid (base ≤ headRev d) := Lib.hid (by omega)
  have H4 : Hid (d.from_ ≤ base) := Lib.hid (by omega)
  go_wp2_with fail
  refine (spec_TextAt_c d _ _ _ base _ n_name (h_text.below HBW.out) (h_list.below HBW.out) (h_seen.below HBW.out)).mono ?_
  rintro e' w4 ⟨vt, ft, rfl, st, kt, hb4⟩
  have HST := Lib.hid st
  obtain ⟨at_, ct, rfl⟩ := RdS.isSlice ⟨_, st⟩
  clear st kt
  have s4 : w3.heap.size ≤ w4.heap.size := by have := hb4.size; (try simp at this); omega
  have HBN : Hid (Below w.heap.size w w4) := Lib.hid (HBW.out.trans (hb4.mono om))
  clear HBW
  have HBW := HBN
  clear HBN
  replace HXd : Hid (Bx w4 (w.heap.size) [.string d.name, .int .i64 d.from_, v_text, v_list, v_seen]) := Lib.hid (HXd.out.at hb4)
  clear Zd Kd0 Kd1 Kd2 Kd3 Kd4
  obtain ⟨Zd, Kd0, Kd1, Kd2, Kd3, Kd4⟩ := HXd.out.o5
  clear hb4
  go_wp2_with fail
  refine (spec_OpFrom_c _ o _ (ho.below HBW.out)).mono ?_
  rintro e' w5 ⟨rfl, hb5⟩
  have s5 : w4.heap.size ≤ w5.heap.size := by have := hb5.size; (try simp at this); omega
  have HBN : Hid (Below w.heap.size w w5) := Lib.hid (HBW.out.trans (hb5.mono om))
  clear HBW
  have HBW := HBN
  clear HBN
  replace HXd : Hid (Bx w5 (w.heap.size) [.string d.name, .int .i64 d.from_, v_text, v_list, v_seen]) := Lib.hid (HXd.out.at hb5)
  clear Zd Kd0 Kd1 Kd2 Kd3 Kd4
  obtain ⟨Zd, Kd0, Kd1, Kd2, Kd3, Kd4⟩ := HXd.out.o5
  clear hb5
  by_cases h5 : opFrom o = ((textAt d base).1.length : Int)
  rotate_left
  · have HV := Lib.hid (rebase_from H12.out (Int.not_lt.2 H3.out) (Int.not_lt.2 H4.out) h5)
    have h5b : (opFrom o == ((textAt d base).1.length : Int)) = false := by simpa using h5
    clear h5
    go_wp2
    have HB : Hid (Below w.heap.size w w5) := Lib.hid HBW.out
    rw [HV.out]
    exact bodyPost_ret (v := .tuple #[.slice none 0 0, .int .i64 1]) (by simp [results, Try.results54, go_sem, *]) rfl ⟨_, _, rfl, Sl.nil, Fresh.nil _ _, HB.out⟩
  have H5 := Lib.hid h5
  have h5b : (opFrom o == ((textAt d base).1.length : Int)) = true := by simpa using h5
  have HLN : Hid ((opsSince d base).1.length ≤ 1000) := Lib.hid (by rw [opsSince_yes HAR.out]; have := (docOk_iff.1 h1).len; simp [opsL]; omega)
  clear h5
  go_wp2_with fail
  refine (spec_OpsSince_c d _ _ _ base _ n_name (h_text.below HBW.out) (h_list.below HBW.out) (h_seen.below HBW.out)).mono ?_
  rintro e' w6 ⟨vl, fl, rfl, sl, kl, hb6⟩
  have HSL : Hid (RdS w6 vl (opsSince d base).1) := Lib.hid ⟨_, sl⟩
  clear sl kl
  have s6 : w5.heap.size ≤ w6.heap.size := by have := hb6.size; (try simp at this); omega
  have HBN : Hid (Below w.heap.size w w6) := Lib.hid (HBW.out.trans (hb6.mono om))
  clear HBW
  have HBW := HBN
  clear HBN
  replace HXd : Hid (Bx w6 (w.heap.size) [.string d.name, .int .i64 d.from_, v_text, v_list, v_seen]) := Lib.hid (HXd.out.at hb6)
  clear Zd Kd0 Kd1 Kd2 Kd3 Kd4
  obtain ⟨Zd, Kd0, Kd1, Kd2, Kd3, Kd4⟩ := HXd.out.o5
  clear hb6
  go_wp2_with fail
  refine (spec_Past_c _ _ _ o _ HSL.out (ho.below HBW.out) HLN.out).mono ?_
  rintro e' w7 ⟨vp, rfl, hop, hb7⟩
  have HOP : Hid (OwnS w.heap.size w7 vp (pastY (opsSince d base).1 o)) := Lib.hid (hop.mono om)
  clear hop HSL
  have s7 : w6.heap.size ≤ w7.heap.size := by have := hb7.size; (try simp at this); omega
  have HBN : Hid (Below w.heap.size w w7) := Lib.hid (HBW.out.trans (hb7.mono om))
  clear HBW
  have HBW := HBN
  clear HBN
  replace HXd : Hid (Bx w7 (w.heap.size) [.string d.name, .int .i64 d.from_, v_text, v_list, v_seen]) := Lib.hid (HXd.out.at hb7)
  clear Zd Kd0 Kd1 Kd2 Kd3 Kd4
  obtain ⟨Zd, Kd0, Kd1, Kd2, Kd3, Kd4⟩ := HXd.out.o5
  clear hb7
  rcases hp : past (opsSince d base).1 o with _ | z
  · have HV := Lib.hid (rebase_large H12.out (Int.not_lt.2 H3.out) (Int.not_lt.2 H4.out) H5.out hp)
    clear hp
    try dsimp only [Option.isSome]
    go_wp2
    have HB : Hid (Below w.heap.size w w7) := Lib.hid HBW.out
    rw [HV.out]
    exact bodyPost_ret (v := .tuple #[.slice none 0 0, .int .i64 5]) (by simp [results, Try.results54, go_sem, *]) rfl ⟨_, _, rfl, Sl.nil, Fresh.nil _ _, HB.out⟩
  have HV := Lib.hid (rebase_yes H12.out (Int.not_lt.2 H3.out) (Int.not_lt.2 H4.out) H5.out hp)
  have HPY : Hid (pastY (opsSince d base).1 o = z.2) := Lib.hid (by unfold pastY; rw [hp])
  have HAP : Hid ((applyP z.2 (headText d)).2 = true) := Lib.hid (past_apply HAR.out h2 H5.out hp)
  clear hp
  try dsimp only [Option.isSome]
  obtain ⟨fp, sp, kp⟩ := HOP.out
  have HSP : Hid (Sl BIG w7 vp z.2 fp) := Lib.hid (by rw [← HPY.out]; exact sp)
  have HKP := Lib.hid kp
  clear sp kp
  go_wp2_with fail
  refine (spec_HeadText_c d _ _ _ _ n_name (h_text.below HBW.out) (h_list.below HBW.out) (h_seen.below HBW.out)).mono ?_
  rintro e' w8 ⟨vh, fh, rfl, sh, kh, hb8⟩
  have HSH : Hid (RdS w8 vh (headText d)) := Lib.hid ⟨_, sh⟩
  replace HKP := Lib.hid (HKP.out.belowL hb8 (Live.lt HSP.out.live))
  replace HSP := Lib.hid (HSP.out.belowW hb8)
  clear sh kh
  have s8 : w7.heap.size ≤ w8.heap.size := by have := hb8.size; (try simp at this); omega
  have HBN : Hid (Below w.heap.size w w8) := Lib.hid (HBW.out.trans (hb8.mono om))
  clear HBW
  have HBW := HBN
  clear HBN
  replace HXd : Hid (Bx w8 (w.heap.size) [.string d.name, .int .i64 d.from_, v_text, v_list, v_seen]) := Lib.hid (HXd.out.at hb8)
  clear Zd Kd0 Kd1 Kd2 Kd3 Kd4
  obtain ⟨Zd, Kd0, Kd1, Kd2, Kd3, Kd4⟩ := HXd.out.o5
  clear hb8
  go_wp2_with fail
  refine (spec_Apply_c z.2 (headText d) _ _ _ ⟨_, HSP.out⟩ HSH.out).mono ?_
  rintro e' w9 ⟨va, fa, rfl, sa, ka, hb9⟩
  rw [HAP.out]
  replace HKP := Lib.hid (HKP.out.belowL hb9 (Live.lt HSP.out.live))
  replace HSP := Lib.hid (HSP.out.belowW hb9)
  clear sa ka
  have s9 : w8.heap.size ≤ w9.heap.size := by have := hb9.size; (try simp at this); omega
  have HBN : Hid (Below w.heap.size w w9) := Lib.hid (HBW.out.trans (hb9.mono om))
  clear HBW
  have HBW := HBN
  clear HBN
  replace HXd : Hid (Bx w9 (w.heap.size) [.string d.name, .int .i64 d.from_, v_text, v_list, v_seen]) := Lib.hid (HXd.out.at hb9)
  clear Zd Kd0 Kd1 Kd2 Kd3 Kd4
  obtain ⟨Zd, Kd0, Kd1, Kd2, Kd3, Kd4⟩ := HXd.out.o5
  clear hb9
  go_wp2
  have HB : Hid (Below w.heap.size w w9) := Lib.hid HBW.out
  rw [HV.out]
  exact bodyPost_ret (v := .tuple #[vp, .int .i64 0]) (by simp [results, Try.results54, go_sem, *]) rfl ⟨_, fp, rfl, HSP.out, HKP.out, HB.out⟩
theorem parts_szL : ∀ {o : List DPart}, o.all partOk = true → szL o ≤ 201 * o.length
  | [], _ => by simp [szL, szs]
  | p :: l, h => by
    simp only [List.all_cons, Bool.and_eq_true] at h
    have ih := parts_szL h.2
    have hs : p.signs.length ≤ 200 := by
      rcases partOk_cases h.1 with ⟨_, _, _, h3⟩ | ⟨_, _, h3, _⟩ | ⟨_, _, _, h3⟩
      · rw [h3]; simp
      · exact h3
      · rw [h3]; simp
    have e : GoS.sz p = p.signs.length := szL_int p.signs
    simp only [szL, szs, List.length_cons] at ih ⊢
    omega
theorem opOk_cnt {o : List DPart} (h : opOk o = true) : cntL o ≤ 603000 := by
  obtain ⟨h1, h2, _⟩ := opOk_iff'.1 h
  have := parts_szL h1
  have := cntL_le o
  omega
theorem rebase_ok {d : DDoc} {base : Int} {o : List DPart} (h : (rebase d base o).2 = 0) : opOk (rebase d base o).1 = true ∧ isNorm (rebase d base o).1 = true ∧ (applyP (rebase d base o).1 (headText d)).2 = true := by
  unfold rebase at h ⊢
  split at h
  · rename_i h0
    rw [if_pos h0]
    split at h
    · simp at h
    · rename_i h1
      rw [if_neg h1]
      split at h
      · simp at h
      · rename_i h2
        rw [if_neg h2]
        split at h
        · rename_i h3
          rw [if_pos h3]
          rcases hp : past (opsSince d base).1 o with _ | z
          · rw [hp] at h; simp at h
          · simp only
            have hr := atRev_mk h0.1 h1 h2
            obtain ⟨a1, a2, _⟩ := past_head hr h0.2 h3 hp
            exact ⟨a1, a2, past_apply hr h0.2 h3 hp⟩
        · simp at h
  · simp at h
theorem rebase_bad {d : DDoc} {base : Int} {o : List DPart} (h : (rebase d base o).2 ≠ 0) : (rebase d base o).1 = [] := by
  unfold rebase at h ⊢
  split at h
  · rename_i h0
    rw [if_pos h0]
    split at h
    · rename_i h1; rw [if_pos h1]
    · rename_i h1
      rw [if_neg h1]
      split at h
      · rename_i h2; rw [if_pos h2]
      · rename_i h2
        rw [if_neg h2]
        split at h
        · rename_i h3
          rw [if_pos h3]
          rcases hp : past (opsSince d base).1 o with _ | z
          · rfl
          · rw [hp] at h; simp at h
        · rename_i h3; rw [if_neg h3]
  · rename_i h0; rw [if_neg h0]
theorem rebase_cnt (d : DDoc) (base : Int) (o : List DPart) : cntL (rebase d base o).1 ≤ 603000 := by
  by_cases h : (rebase d base o).2 = 0
  · exact opOk_cnt (rebase_ok h).1
  · rw [rebase_bad h]; simp [cntL]
end Go.Proofs.Ytiahgjnpinjblaa
