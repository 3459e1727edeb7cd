/- Leading an operation past others: both walks. -/
import Derived.Test.YtiahgjnpinjblaaItf
import Derived.Test.YtiahgjnpinjblaaDcp
namespace Go.Proofs.Ytiahgjnpinjblaa
open Go.RowKit
def pastY (l : List (List DPart)) (b : List DPart) : List DPart := match past l b with
  | some z => z.2
  | none => []
/-- what the calls give back of which the last result and the answer are read -/
def OutPast (w : World) (l : List (List DPart)) (b : List DPart) (e : Ending) (w' : World) : Prop :=
  ∃ v0 v1, e = .returned (.tuple #[v0, v1, .bool (past l b).isSome]) ∧ OwnS w.heap.size w' v1 (pastY l b) ∧ Below w.heap.size w w'
theorem OutPast.no {w w' : World} {l : List (List DPart)} {b : List DPart} (h : past l b = none) (hb : Below w.heap.size w w') : OutPast w l b (.returned (.tuple #[.slice none 0 0, .slice none 0 0, .bool false])) w' := by
  refine ⟨_, _, by rw [h]; rfl, ?_, hb⟩
  unfold pastY; rw [h]; exact OwnS.empty _ _ _
theorem past_bad {l : List (List DPart)} {b : List DPart} (h : opOk b = false) : past l b = none := by unfold past; rw [if_neg (by simp [h])]
theorem past_ok {l : List (List DPart)} {b : List DPart} (h : opOk b = true) : past l b = pastTo l b := if_pos h
theorem pastStep_some {z : List (List DPart) × List DPart} {o x y : List DPart} (h : transform o z.2 = some (x, y)) : pastStep (some z) o = some (z.1 ++ [x], y) := by simp [pastStep, h]
theorem pastStep_none {z : List (List DPart) × List DPart} {o : List DPart} (h : transform o z.2 = none) : pastStep (some z) o = none := by simp [pastStep, h]
set_option maxHeartbeats 4000000 in
set_option maxRecDepth 100000 in
theorem spec_past_c (vl vb : Value) (l : List (List DPart)) (b : List DPart) (w : World) (hl : RdS w vl l) (hb : RdS w vb b) (hlen : l.length ≤ 1000) : Calls Try.prog 84 #[vl, vb] w (OutPast w l b) := by
  have hll := fun w1 ty => hl.len Try.underlying50 w1 ty
  obtain ⟨i0, hi, hz0, hz1, hz2⟩ := info_parts info_ops
  by_cases h1 : opOk b = true
  rotate_left
  · have h1 : opOk b = false := by simpa using h1
    have HV := Lib.hid (past_bad (l := l) h1)
    go_enter Try.func84, Try.ntmps84
    go_wp2_with fail
    refine (spec_OpOk_c vb b _ hb).mono ?_
    rintro e' w1 ⟨rfl, hb1⟩
    rw [h1]
    go_wp2
    exact bodyPost_ret (v := .tuple #[.slice none 0 0, .slice none 0 0, .bool false]) (by simp [results, Try.results84, go_sem, *]) rfl (OutPast.no HV.out hb1)
  have HV := Lib.hid (past_ok (l := l) h1)
  go_enter Try.func84, Try.ntmps84
  go_wp2_with fail
  refine (spec_OpOk_c vb b _ hb).mono ?_
  rintro e' w1 ⟨rfl, hb1⟩
  rw [h1]
  have s1 := hb1.size
  go_wp2_with fail
  refine (spec_OpNorm_c vb b _ (hb.below ((hb1.alloc s1 _)))).mono ?_
  rintro e' w2 ⟨v2, rfl, ho2, hb2⟩
  have HB2 := Lib.hid (((hb1.alloc s1 _)).trans (hb2.mono ((by simp; omega))))
  have HO2 : Hid (OwnS w.heap.size w2 v2 (opNorm b)) := Lib.hid (ho2.mono ((by simp; omega)))
  clear ho2 hb1 hb2 s1
  go_wp2_with fail
  go_loopw [7, 8, 22] (fun u y i wr => ∃ (k : Nat) (u' y' : Value) (z : List (List DPart) × List DPart), u' = u ∧ y' = y ∧ k ≤ l.length ∧ i = .int .i64 k ∧ pastTo (l.take k) b = some z ∧ z.1.length = k ∧ OwnS w.heap.size wr u' z.1 ∧ OwnS w.heap.size wr y' z.2 ∧ Below w.heap.size w wr) (fun _ _ i _ => l.length - (intOf i).toNat)
  case atStart => exact ⟨0, _, _, ([], opNorm b), rfl, rfl, Nat.zero_le _, rfl, rfl, rfl, OwnS.empty _ _ _, HO2.out, HB2.out⟩
  case round =>
    obtain ⟨k, u', y', z, rfl, rfl, hk, rfl, hx, hzl, hu, hy, hbw⟩ := hrel
    have hsz := hbw.size
    by_cases hlt : k < l.length
    · obtain ⟨o, ho⟩ := get_some hlt
      obtain ⟨b1, o1, cs, g1, g2, g3⟩ := (hl.below hbw).idx Try.underlying50 szPS k ho
      obtain ⟨fp, v_o, rfl, r_o⟩ := g3
      have q0 := g2.one
      obtain ⟨ao, co, rfl⟩ := RdS.isSlice ⟨_, r_o⟩
      have hst := pastTo_snoc (b := b) ho
      rw [hx] at hst
      have HST := Lib.hid hst
      have HU := Lib.hid hu
      have HY := Lib.hid hy
      have HZL := Lib.hid hzl
      have HBW := Lib.hid hbw
      have HRO : Hid (RdS wr (.slice ao o.length co) o) := Lib.hid ⟨_, r_o⟩
      clear hx ho hu hy hzl r_o hst hbw
      rcases ht : transform o z.2 with _ | ⟨x, y⟩
      · have HN : Hid (past l b = none) := Lib.hid (by rw [HV.out]; exact pastTo_none (k := k + 1) (by rw [HST.out, pastStep_none ht]))
        have HI : Hid ((transform o z.2).isSome = false) := Lib.hid (by rw [ht]; rfl)
        clear ht
        go_wp2_with fail
        refine (spec_Transform_c _ _ o z.2 _ HRO.out (let ⟨_, h, _⟩ := HY.out; ⟨_, h⟩)).mono ?_
        rintro e' w3 ⟨v0, v1, rfl, hx0, hy0, hb3⟩
        rw [HI.out]
        have HB3 := Lib.hid (HBW.out.trans (hb3.mono hsz))
        clear hx0 hy0 hb3
        go_wp2
        exact bodyPost_ret (v := .tuple #[.slice none 0 0, .slice none 0 0, .bool false]) (by simp [results, Try.results84, go_sem, *]) rfl (OutPast.no HN.out HB3.out)
      · have HS2 : Hid (pastTo (l.take (k + 1)) b = some (z.1 ++ [x], y)) := Lib.hid (by rw [HST.out, pastStep_some ht])
        have HI : Hid ((transform o z.2).isSome = true ∧ tfX o z.2 = x ∧ tfY o z.2 = y) := Lib.hid ⟨by rw [ht]; rfl, by unfold tfX; rw [ht], by unfold tfY; rw [ht]⟩
        clear ht
        obtain ⟨fs, hrow, hfs⟩ := HU.out.row
        have HROW := Lib.hid hrow
        have HFS := Lib.hid hfs
        clear hrow hfs
        go_wp2_with fail
        refine (spec_Transform_c _ _ o z.2 _ HRO.out (let ⟨_, h, _⟩ := HY.out; ⟨_, h⟩)).mono ?_
        rintro e' w3 ⟨v0, v1, rfl, hx0, hy0, hb3⟩
        rw [HI.out.1]
        rw [HI.out.2.1] at hx0
        rw [HI.out.2.2] at hy0
        obtain ⟨fx, hrd, hfr⟩ := hx0
        obtain ⟨a1, c1, rfl⟩ := RdS.isSlice ⟨_, hrd⟩
        obtain ⟨fy, hyd, hyf⟩ := hy0
        have HB1 := Lib.hid hb3
        have s3 := hb3.size
        have HFR := Lib.hid hfr
        have HSV := Lib.hid hrd
        have HYD := Lib.hid hyd
        have HYF := Lib.hid hyf
        have hkl : z.1.length ≤ 1000 := by have := HZL.out; omega
        clear hb3 hfr hrd hyd hyf
        go_wp2_with (at_builtin; go_must (refine wpList_append_row rfl _ _ 50 rfl Try.underlying50 hi hz0 hz1 hz2 rfl rfl rfl ((HROW.out.below HB1.out).below ((Below.refl _ _).alloc (Nat.le_refl _) _)) (src_built (x := x) 32 ⟨_, rfl, HSV.out⟩) (fun q hq hm => by have e1 := HFR.out.ge q hq; have e2 := Live.lt (Live.append.1 HROW.out.1.live).1 q hm; omega) ?c1 ?c2 ?c3 ?_))
        case c1 => simp at hkl ⊢; exact le_BIG (by omega)
        case c2 => simp at hkl ⊢; omega
        case c3 => simp; omega
        intro v' w4 hr hw _
        have HO : Hid (OwnS w.heap.size w4 v' (z.1 ++ [x])) := Lib.hid (Row.grown HROW.out HFS.out (HB1.out.alloc s3 _) (HFR.out.belowL ((Below.refl _ _).alloc (Nat.le_refl _) _) (Live.lt HSV.out.live)) (HSV.out.belowW ((Below.refl _ _).alloc (Nat.le_refl _) _)).live hsz hr hw)
        have hyo : ∀ q ∈ fy, q ∉ rowP (GoT.n (List DPart)) u' := fun q hq hm => by have e1 := HYF.out.ge q hq; have e2 := Live.lt (Live.append.1 HROW.out.1.live).1 q hm; omega
        have HY4 : Hid (OwnS w.heap.size w4 v1 y) := Lib.hid ⟨fy, (HYD.out.belowW ((Below.refl _ _).alloc (Nat.le_refl _) _)).wr hw hyo, (hw.fresh (HYD.out.belowW ((Below.refl _ _).alloc (Nat.le_refl _) _)).live (HYF.out.belowL ((Below.refl _ _).alloc (Nat.le_refl _) _) (Live.lt HYD.out.live))).mono hsz⟩
        have HB4 : Hid (Below w.heap.size w w4) := Lib.hid (below_after2 HBW.out (wrb (C := w.heap.size) hw (HB1.out.alloc s3 _) hsz (fun q hq => HROW.out.2.1.ge q hq)) (Nat.le_refl _))
        clear hr hw hyo
        go_wp2
        go_roundw
        case rel => exact ⟨k + 1, _, _, (z.1 ++ [x], y), rfl, rfl, by omega, by go_num, HS2.out, by simp [HZL.out], HO.out, HY4.out, HB4.out⟩
        case measure => simp [intOf]; omega
    · obtain rfl : k = l.length := by omega
      rw [List.take_length] at hx
      have HX : Hid (past l b = some z) := Lib.hid (by rw [HV.out]; exact hx)
      have HE : Hid (pastY l b = z.2) := Lib.hid (by unfold pastY; rw [HX.out])
      have HY := Lib.hid hy
      have HBW := Lib.hid hbw
      clear hx hu hy hzl hbw
      go_wp2
      refine bodyPost_ret (v := .tuple #[u', y', .bool true]) (by simp [results, Try.results84, go_sem, *]) rfl ⟨_, _, by rw [HX.out]; rfl, ?_, HBW.out⟩
      rw [HE.out]; exact HY.out
set_option maxHeartbeats 1000000 in
theorem spec_Past_c (vl vb : Value) (l : List (List DPart)) (b : List DPart) (w : World) (hl : RdS w vl l) (hb : RdS w vb b) (hlen : l.length ≤ 1000) : Calls Try.prog 74 #[vl, vb] w (fun e w' => ∃ v1, e = .returned (.tuple #[v1, .bool (past l b).isSome]) ∧ OwnS w.heap.size w' v1 (pastY l b) ∧ Below w.heap.size w w') := by
  have HC := Lib.hid (spec_past_c vl vb l b w hl hb hlen)
  go_enter Try.func74, Try.ntmps74
  go_wp2_with fail
  refine HC.out.mono ?_
  rintro e' w1 ⟨v0, v1, rfl, ho, hb1⟩
  have HO := Lib.hid ho
  have HB := Lib.hid hb1
  clear ho hb1
  go_wp2
  exact bodyPost_ret (v := .tuple #[v1, .bool (past l b).isSome]) (by simp [results, Try.results74, go_sem, *]) rfl ⟨_, rfl, HO.out, HB.out⟩
end Go.Proofs.Ytiahgjnpinjblaa
