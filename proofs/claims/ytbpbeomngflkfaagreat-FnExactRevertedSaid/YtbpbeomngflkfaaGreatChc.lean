/- Reverted: both walks. -/
import Derived.Test.YtbpbeomngflkfaaGreatChb
import Derived.Test.YtbpbeomngflkfaaGreatInv
namespace Go.Proofs.YtbpbeomngflkfaaGreat
open Go.RowKit
def reverted (d : DDoc) (rev : Int) : Option (List DPart) := (changed d rev).bind fun o => invert o (textAt d rev).1
theorem reverted_no {d : DDoc} {rev : Int} (h : changed d rev = none) : reverted d rev = none := by unfold reverted; rw [h]; rfl
theorem reverted_yes {d : DDoc} {rev : Int} {o : List DPart} (h : changed d rev = some o) : reverted d rev = invert o (textAt d rev).1 := by unfold reverted; rw [h]; rfl
theorem changed_at {d : DDoc} {rev : Int} {o : List DPart} (h : changed d rev = some o) : atRev d rev := by
  by_cases k : atRev d rev
  · exact k
  · rw [changed_no k] at h; cases h
theorem invert_cnt {o : List DPart} {t : List Int} {x : List DPart} (h : invert o t = some x) : cntL x ≤ 603000 := by
  unfold invert at h
  split at h
  · rename_i hf
    simp only [fits, Bool.and_eq_true, decide_eq_true_eq] at hf
    obtain ⟨⟨h1, ht0⟩, h2⟩ := hf
    obtain ⟨n1, n2, _, _⟩ := opNorm_ok h1
    have hfr : sumBut 2 (opNorm o) = t.length := by rw [n2, ← opFrom_of h1]; exact h2
    have hk := invF_all n1 (textOk_iff.1 ht0).2 hfr
    have hx := (opNorm_ok hk).1
    have e : opNorm (invF t (opNorm o)).1 = normal (invF t (opNorm o)).1 := if_pos hk
    rw [e] at hx
    cases h
    exact opOk_cnt2 hx
  · cases h
theorem reverted_cnt (d : DDoc) (rev : Int) : cntL ((reverted d rev).getD []) ≤ 603000 := by
  rcases h : reverted d rev with _ | x
  · simp [cntL]
  · rcases hc : changed d rev with _ | o
    · rw [reverted_no hc] at h; cases h
    · rw [reverted_yes hc] at h; exact invert_cnt h

set_option maxHeartbeats 4000000 in
set_option maxRecDepth 100000 in
theorem spec_Reverted_c (d : DDoc) (v_text v_list v_seen : Value) (rev : Int) (w : World) (n_name : d.name.size ≤ BIG) (h_text : RdS w v_text d.text) (h_list : RdS w v_list d.list) (h_seen : RdS w v_seen d.seen) :
    Calls Tryz.prog 28 #[.agg #[.string d.name, .int .i64 d.from_, v_text, v_list, v_seen], .int .i64 rev] w (OutCo w (reverted d rev)) := by
  go_enter Tryz.func28, Tryz.ntmps28
  go_wp2_with fail
  refine (spec_Changed_c d _ _ _ rev _ n_name (h_text.below ((Below.refl w.heap.size w).alloc om _)) (h_list.below ((Below.refl w.heap.size w).alloc om _)) (h_seen.below ((Below.refl w.heap.size w).alloc om _))).mono ?_
  rintro e' w1 ⟨vc, rfl, hv, hb1⟩
  obtain ⟨fc, sc, kc⟩ := hv
  obtain ⟨ac, cc, rfl⟩ := sc.isS
  have HSC : Hid (RdS w1 (.slice ac ((changed d rev).getD []).length cc) ((changed d rev).getD [])) := Lib.hid ⟨_, sc⟩
  clear sc kc
  have s1 : w.heap.size + 1 ≤ w1.heap.size := by have := hb1.size; (try simp at this); omega
  have HBN : Hid (Below w.heap.size w w1) := Lib.hid (((Below.refl w.heap.size w).alloc om _).trans (hb1.mono om))
  have HBW := HBN
  clear HBN
  have HXd : Hid (Bx w1 (w.heap.size) [.string d.name, .int .i64 d.from_, v_text, v_list, v_seen]) := Lib.hid ((Bx.new (by first | rfl | simp | omega)).at hb1)
  obtain ⟨Zd, Kd0, Kd1, Kd2, Kd3, Kd4⟩ := HXd.out.o5
  clear hb1
  rcases hc : changed d rev with _ | o
  · have HV := Lib.hid (reverted_no hc)
    clear hc HSC
    try dsimp only [Option.isSome, Option.getD]
    go_wp2_with fail
    refine (spec_TextAt_c d _ _ _ rev _ n_name (h_text.below HBW.out) (h_list.below HBW.out) (h_seen.below HBW.out)).mono ?_
    rintro e' w2 ⟨vt, ft, rfl, st, kt, hb2⟩
    have HST : Hid (RdS w2 vt (textAt d rev).1) := Lib.hid ⟨_, st⟩
    clear st kt
    have s2 : w1.heap.size ≤ w2.heap.size := by have := hb2.size; (try simp at this); omega
    have HBN : Hid (Below w.heap.size w w2) := Lib.hid (HBW.out.trans (hb2.mono om))
    clear HBW
    have HBW := HBN
    clear HBN
    replace HXd : Hid (Bx w2 (w.heap.size) [.string d.name, .int .i64 d.from_, v_text, v_list, v_seen]) := Lib.hid (HXd.out.at hb2)
    clear Zd Kd0 Kd1 Kd2 Kd3 Kd4
    obtain ⟨Zd, Kd0, Kd1, Kd2, Kd3, Kd4⟩ := HXd.out.o5
    clear hb2
    go_wp2
    have HB : Hid (Below w.heap.size w w2) := Lib.hid HBW.out
    exact bodyPost_ret (v := .tuple #[.slice none 0 0, .bool false]) (by simp [results, Tryz.results28, go_sem, *]) rfl (OutCo.no HV.out HB.out)
  have HV := Lib.hid (reverted_yes hc)
  have HT2 : Hid ((textAt d rev).2 = true) := Lib.hid (by obtain ⟨_, _, h2, _⟩ := textAt_yes (changed_at hc); rw [h2])
  replace HSC : Hid (RdS w1 (.slice ac o.length cc) o) := Lib.hid (by have h := HSC.out; rw [hc] at h; exact h)
  clear hc
  try dsimp only [Option.isSome, Option.getD]
  go_wp2_with fail
  refine (spec_TextAt_c d _ _ _ rev _ n_name (h_text.below HBW.out) (h_list.below HBW.out) (h_seen.below HBW.out)).mono ?_
  rintro e' w2 ⟨vt, ft, rfl, st, kt, hb2⟩
  rw [HT2.out]
  have HST : Hid (RdS w2 vt (textAt d rev).1) := Lib.hid ⟨_, st⟩
  clear st kt
  have s2 : w1.heap.size ≤ w2.heap.size := by have := hb2.size; (try simp at this); omega
  have HBN : Hid (Below w.heap.size w w2) := Lib.hid (HBW.out.trans (hb2.mono om))
  clear HBW
  have HBW := HBN
  clear HBN
  replace HSC : Hid (RdS w2 (.slice ac o.length cc) o) := Lib.hid ((HSC.out.below hb2))
  replace HXd : Hid (Bx w2 (w.heap.size) [.string d.name, .int .i64 d.from_, v_text, v_list, v_seen]) := Lib.hid (HXd.out.at hb2)
  clear Zd Kd0 Kd1 Kd2 Kd3 Kd4
  obtain ⟨Zd, Kd0, Kd1, Kd2, Kd3, Kd4⟩ := HXd.out.o5
  clear hb2
  go_wp2_with fail
  refine (spec_Invert_c _ _ o (textAt d rev).1 _ HSC.out HST.out).mono ?_
  rintro e' w3 ⟨v, rfl, hv, hb3⟩
  have HB : Hid (Below w.heap.size w w3) := Lib.hid (HBW.out.trans (hb3.mono om))
  have HVV := Lib.hid hv
  have si := HBW.out.size
  clear hv hb3
  go_wp2
  rw [HV.out]
  exact bodyPost_ret (v := .tuple #[v, .bool (invert o (textAt d rev).1).isSome]) (by simp [results, Tryz.results28, go_sem, *]) rfl ⟨v, rfl, HVV.out.mono om, HB.out⟩
set_option maxHeartbeats 4000000 in
set_option maxRecDepth 100000 in
theorem impl_Reverted_c (d : DDoc) (v_text v_list v_seen : Value) (rev : Int) (w : World) (n_name : d.name.size ≤ BIG) (h_text : RdS w v_text d.text) (h_list : RdS w v_list d.list) (h_seen : RdS w v_seen d.seen) :
    Calls Tryz.prog 29 #[.agg #[.string d.name, .int .i64 d.from_, v_text, v_list, v_seen], .int .i64 rev] w (OutCo w (reverted d rev)) := by
  go_enter Tryz.func29, Tryz.ntmps29
  go_wp2_with fail
  refine (impl_Changed_c d _ _ _ rev _ n_name (h_text.below ((Below.refl w.heap.size w).alloc om _)) (h_list.below ((Below.refl w.heap.size w).alloc om _)) (h_seen.below ((Below.refl w.heap.size w).alloc om _))).mono ?_
  rintro e' w1 ⟨vc, rfl, hv, hb1⟩
  obtain ⟨fc, sc, kc⟩ := hv
  obtain ⟨ac, cc, rfl⟩ := sc.isS
  have HSC : Hid (RdS w1 (.slice ac ((changed d rev).getD []).length cc) ((changed d rev).getD [])) := Lib.hid ⟨_, sc⟩
  clear sc kc
  have s1 : w.heap.size + 1 ≤ w1.heap.size := by have := hb1.size; (try simp at this); omega
  have HBN : Hid (Below w.heap.size w w1) := Lib.hid (((Below.refl w.heap.size w).alloc om _).trans (hb1.mono om))
  have HBW := HBN
  clear HBN
  have HXd : Hid (Bx w1 (w.heap.size) [.string d.name, .int .i64 d.from_, v_text, v_list, v_seen]) := Lib.hid ((Bx.new (by first | rfl | simp | omega)).at hb1)
  obtain ⟨Zd, Kd0, Kd1, Kd2, Kd3, Kd4⟩ := HXd.out.o5
  clear hb1
  rcases hc : changed d rev with _ | o
  · have HV := Lib.hid (reverted_no hc)
    clear hc HSC
    try dsimp only [Option.isSome, Option.getD]
    go_wp2
    have HB : Hid (Below w.heap.size w w1) := Lib.hid HBW.out
    exact bodyPost_ret (v := .tuple #[.slice none 0 0, .bool false]) (by simp [results, Tryz.results29, go_sem, *]) rfl (OutCo.no HV.out HB.out)
  have HV := Lib.hid (reverted_yes hc)
  have HT2 : Hid ((textAt d rev).2 = true) := Lib.hid (by obtain ⟨_, _, h2, _⟩ := textAt_yes (changed_at hc); rw [h2])
  replace HSC : Hid (RdS w1 (.slice ac o.length cc) o) := Lib.hid (by have h := HSC.out; rw [hc] at h; exact h)
  clear hc
  try dsimp only [Option.isSome, Option.getD]
  go_wp2_with fail
  refine (impl_TextAt_c d _ _ _ rev _ n_name (h_text.below HBW.out) (h_list.below HBW.out) (h_seen.below HBW.out)).mono ?_
  rintro e' w2 ⟨vt, ft, rfl, st, kt, hb2⟩
  rw [HT2.out]
  have HST : Hid (RdS w2 vt (textAt d rev).1) := Lib.hid ⟨_, st⟩
  clear st kt
  have s2 : w1.heap.size ≤ w2.heap.size := by have := hb2.size; (try simp at this); omega
  have HBN : Hid (Below w.heap.size w w2) := Lib.hid (HBW.out.trans (hb2.mono om))
  clear HBW
  have HBW := HBN
  clear HBN
  replace HSC : Hid (RdS w2 (.slice ac o.length cc) o) := Lib.hid ((HSC.out.below hb2))
  replace HXd : Hid (Bx w2 (w.heap.size) [.string d.name, .int .i64 d.from_, v_text, v_list, v_seen]) := Lib.hid (HXd.out.at hb2)
  clear Zd Kd0 Kd1 Kd2 Kd3 Kd4
  obtain ⟨Zd, Kd0, Kd1, Kd2, Kd3, Kd4⟩ := HXd.out.o5
  clear hb2
  go_wp2_with fail
  refine (impl_Invert_c _ _ o (textAt d rev).1 _ HSC.out HST.out).mono ?_
  rintro e' w3 ⟨v, rfl, hv, hb3⟩
  have HB : Hid (Below w.heap.size w w3) := Lib.hid (HBW.out.trans (hb3.mono om))
  have HVV := Lib.hid hv
  have si := HBW.out.size
  clear hv hb3
  go_wp2
  rw [HV.out]
  exact bodyPost_ret (v := .tuple #[v, .bool (invert o (textAt d rev).1).isSome]) (by simp [results, Tryz.results29, go_sem, *]) rfl ⟨v, rfl, HVV.out.mono om, HB.out⟩
end Go.Proofs.YtbpbeomngflkfaaGreat
