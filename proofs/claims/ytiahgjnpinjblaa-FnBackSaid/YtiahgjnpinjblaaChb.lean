/- Changed: both walks. -/
import Derived.Test.YtiahgjnpinjblaaCha
import Derived.Test.YtiahgjnpinjblaaDcp
namespace Go.Proofs.Ytiahgjnpinjblaa
open Go.RowKit
theorem opsSince_2 (d : DDoc) (rev : Int) : (opsSince d rev).2 = (textAt d rev).2 := by
  by_cases h : atRev d rev
  · obtain ⟨u, _, h2, _⟩ := textAt_yes h
    rw [opsSince_yes h, h2]
  · rw [opsSince_no h, textAt_no h]
theorem opsSince_len {d : DDoc} {rev : Int} (h : atRev d rev) : (opsSince d rev).1.length ≤ 1000 := by
  rw [opsSince_yes h]; have := (docOk_iff.1 h.1).len; simp [opsL]; omega
theorem OutCo.part {w : World} {z : Option (List DPart)} {e : Ending} {w' : World} (h : OutCo w z e w') : Out_PartS_b w (z.getD []) z.isSome e w' :=
  let ⟨v, h1, ⟨f, h2, h3⟩, h4⟩ := h
  ⟨v, f, h1, h2, h3, h4⟩

set_option maxHeartbeats 4000000 in
set_option maxRecDepth 100000 in
theorem impl_Changed_c (d : DDoc) (v_text v_list v_seen : Value) (rev : Int) (w : World) (n_name : d.name.size ≤ BIG) (h_text : RdS w v_text d.text) (h_list : RdS w v_list d.list) (h_seen : RdS w v_seen d.seen) :
    Calls Try.prog 7 #[.agg #[.string d.name, .int .i64 d.from_, v_text, v_list, v_seen], .int .i64 rev] w (OutCo w (changed d rev)) := by
  by_cases har : atRev d rev
  rotate_left
  · have HV := Lib.hid (changed_no har)
    have HT2 : Hid ((textAt d rev).2 = false) := Lib.hid (by rw [textAt_no har])
    have HO2 : Hid ((opsSince d rev).2 = false) := Lib.hid (by rw [opsSince_2, HT2.out])
    clear har
    go_enter Try.func7, Try.ntmps7
    go_wp2_with fail
    refine (impl_OpsSince_c d _ _ _ rev _ n_name (h_text.below ((Below.refl w.heap.size w).alloc om _)) (h_list.below ((Below.refl w.heap.size w).alloc om _)) (h_seen.below ((Below.refl w.heap.size w).alloc om _))).mono ?_
    rintro e' w1 ⟨vl, fl, rfl, sl, kl, hb1⟩
    rw [HO2.out]
    have HSL : Hid (RdS w1 vl (opsSince d rev).1) := Lib.hid ⟨_, sl⟩
    obtain ⟨aol, col, rfl⟩ := HSL.out.isSlice
    clear sl kl
    have s1 : w.heap.size + 1 ≤ w1.heap.size := by have := hb1.size; (try simp at this); omega
    have HBN : Hid (Below w.heap.size w w1) := Lib.hid (((Below.refl w.heap.size w).alloc om _).trans (hb1.mono om))
    have HBW := HBN
    clear HBN
    have HXd : Hid (Bx w1 (w.heap.size) [.string d.name, .int .i64 d.from_, v_text, v_list, v_seen]) := Lib.hid ((Bx.new (by first | rfl | simp | omega)).at hb1)
    obtain ⟨Zd, Kd0, Kd1, Kd2, Kd3, Kd4⟩ := HXd.out.o5
    clear hb1
    go_wp2
    have HB : Hid (Below w.heap.size w w1) := Lib.hid HBW.out
    exact bodyPost_ret (v := .tuple #[.slice none 0 0, .bool false]) (by simp [results, Try.results7, go_sem, *]) rfl (OutCo.no HV.out HB.out)
  have HV := Lib.hid (changed_yes har)
  have HT2 : Hid ((textAt d rev).2 = true) := Lib.hid (by obtain ⟨_, _, h2, _⟩ := textAt_yes har; rw [h2])
  have HO2 : Hid ((opsSince d rev).2 = true) := Lib.hid (by rw [opsSince_2, HT2.out])
  have HLN := Lib.hid (opsSince_len har)
  have htl := textAt_len d rev
  clear har
  go_enter Try.func7, Try.ntmps7
  go_wp2_with fail
  refine (impl_OpsSince_c d _ _ _ rev _ n_name (h_text.below ((Below.refl w.heap.size w).alloc om _)) (h_list.below ((Below.refl w.heap.size w).alloc om _)) (h_seen.below ((Below.refl w.heap.size w).alloc om _))).mono ?_
  rintro e' w1 ⟨vl, fl, rfl, sl, kl, hb1⟩
  rw [HO2.out]
  have HSL : Hid (RdS w1 vl (opsSince d rev).1) := Lib.hid ⟨_, sl⟩
  obtain ⟨aol, col, rfl⟩ := HSL.out.isSlice
  clear sl kl
  have s1 : w.heap.size + 1 ≤ w1.heap.size := by have := hb1.size; (try simp at this); omega
  have HBN : Hid (Below w.heap.size w w1) := Lib.hid (((Below.refl w.heap.size w).alloc om _).trans (hb1.mono om))
  have HBW := HBN
  clear HBN
  have HXd : Hid (Bx w1 (w.heap.size) [.string d.name, .int .i64 d.from_, v_text, v_list, v_seen]) := Lib.hid ((Bx.new (by first | rfl | simp | omega)).at hb1)
  obtain ⟨Zd, Kd0, Kd1, Kd2, Kd3, Kd4⟩ := HXd.out.o5
  clear hb1
  go_wp2_with fail
  refine (impl_TextAt_c d _ _ _ rev _ n_name (h_text.below HBW.out) (h_list.below HBW.out) (h_seen.below HBW.out)).mono ?_
  rintro e' w2 ⟨vt, ft, rfl, st, kt, hb2⟩
  rw [HT2.out]
  obtain ⟨at_, ct, rfl⟩ := RdS.isSlice ⟨_, st⟩
  have hlt := fun w1 ty => (show RdS w2 (.slice at_ (textAt d rev).1.length ct) (textAt d rev).1 from ⟨_, st⟩).len Try.underlying23 w1 ty
  clear st kt
  have s2 : w1.heap.size ≤ w2.heap.size := by have := hb2.size; (try simp at this); omega
  have HBN : Hid (Below w.heap.size w w2) := Lib.hid (HBW.out.trans (hb2.mono om))
  clear HBW
  have HBW := HBN
  clear HBN
  replace HSL : Hid (RdS w2 (.slice aol (opsSince d rev).1.length col) (opsSince d rev).1) := Lib.hid ((HSL.out.below hb2))
  replace HXd : Hid (Bx w2 (w.heap.size) [.string d.name, .int .i64 d.from_, v_text, v_list, v_seen]) := Lib.hid (HXd.out.at hb2)
  clear Zd Kd0 Kd1 Kd2 Kd3 Kd4
  obtain ⟨Zd, Kd0, Kd1, Kd2, Kd3, Kd4⟩ := HXd.out.o5
  clear hb2
  go_wp2_with fail
  refine (impl_ComposeAll_c _ (opsSince d rev).1 ((textAt d rev).1.length : Int) _ HSL.out HLN.out).mono ?_
  rintro e' w3 ⟨v, rfl, hv, hb3⟩
  have HB : Hid (Below w.heap.size w w3) := Lib.hid (HBW.out.trans (hb3.mono om))
  have HVV := Lib.hid hv
  have si := HBW.out.size
  clear hv hb3
  go_wp2
  rw [HV.out]
  exact bodyPost_ret (v := .tuple #[v, .bool (composeAll (opsSince d rev).1 ((textAt d rev).1.length : Int)).isSome]) (by simp [results, Try.results7, go_sem, *]) rfl ⟨v, rfl, HVV.out.mono om, HB.out⟩
theorem parts_szL2 : ∀ {o : List DPart}, o.all partOk = true → szL o ≤ 201 * o.length
  | [], _ => by simp [szL, szs]
  | p :: l, h => by
    simp only [List.all_cons, Bool.and_eq_true] at h
    have ih := parts_szL2 h.2
    have hs : p.signs.length ≤ 200 := by
      rcases partOk_cases h.1 with ⟨_, _, _, h3⟩ | ⟨_, _, h3, _⟩ | ⟨_, _, _, h3⟩
      · rw [h3]; simp
      · exact h3
      · rw [h3]; simp
    have e : GoS.sz p = p.signs.length := szL_int p.signs
    simp only [szL, szs, List.length_cons] at ih ⊢
    omega
theorem opOk_cnt2 {o : List DPart} (h : opOk o = true) : cntL o ≤ 603000 := by
  obtain ⟨h1, h2, _⟩ := opOk_iff'.1 h
  have := parts_szL2 h1
  have := cntL_le o
  omega
theorem compose_ok {a b x : List DPart} (h : compose a b = some x) : opOk x = true := by
  unfold compose at h
  split at h
  · split at h
    · rename_i h2; cases h; exact h2
    · cases h
  · cases h
theorem keeping_ok (n : Int) : opOk (keeping n) = true := by
  unfold keeping
  split
  · rename_i h
    have := within_iff.1 h
    rw [opOk_iff']
    simp [partOk, within, sumBut, psize]
    omega
  · rfl
theorem co_ok : ∀ (l : List (List DPart)) (y : List DPart), opOk y = true → ∀ x, l.foldl coStep (some y) = some x → opOk x = true
  | [], y, h, x, e => by cases e; exact h
  | o :: l, y, h, x, e => by
    have e : l.foldl coStep (compose y o) = some x := e
    rcases hc : compose y o with _ | z
    · rw [hc, coStep_none] at e; cases e
    · rw [hc] at e; exact co_ok l z (compose_ok hc) x e
theorem changed_ok {d : DDoc} {rev : Int} {x : List DPart} (h : changed d rev = some x) : opOk x = true := by
  unfold changed composeAll at h
  split at h
  · split at h
    · exact co_ok _ _ (keeping_ok _) x h
    · cases h
  · cases h
theorem changed_cnt (d : DDoc) (rev : Int) : cntL ((changed d rev).getD []) ≤ 603000 := by
  rcases h : changed d rev with _ | x
  · simp [cntL]
  · exact opOk_cnt2 (changed_ok h)
end Go.Proofs.Ytiahgjnpinjblaa
