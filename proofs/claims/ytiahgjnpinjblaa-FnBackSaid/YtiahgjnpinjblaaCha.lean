/- What a document has become since a revision, as one operation: both walks. -/
import Derived.Test.YtiahgjnpinjblaaCos
import Derived.Test.YtiahgjnpinjblaaCoi
import Derived.Test.YtiahgjnpinjblaaDfn
import Derived.Test.YtiahgjnpinjblaaDfo
namespace Go.Proofs.Ytiahgjnpinjblaa
open Go.RowKit
def keeping (n : Int) : List DPart := if within n 1 200 = true then [⟨1, n, []⟩] else []
def coStep (z : Option (List DPart)) (o : List DPart) : Option (List DPart) := z.bind fun x => compose x o
def composeAll (l : List (List DPart)) (n : Int) : Option (List DPart) := if within n 0 200 = true then l.foldl coStep (some (keeping n)) else none
def coK (l : List (List DPart)) (n : Int) (k : Nat) : Option (List DPart) := (l.take k).foldl coStep (some (keeping n))
theorem coK_succ {l : List (List DPart)} {n : Int} {k : Nat} {o : List DPart} (h : l[k]? = some o) : coK l n (k + 1) = coStep (coK l n k) o := by
  unfold coK; rw [take_snoc h, List.foldl_append]; rfl
theorem coStep_none : ∀ l : List (List DPart), l.foldl coStep none = none
  | [] => rfl
  | _ :: l => coStep_none l
theorem coK_none {l : List (List DPart)} {n : Int} {k : Nat} (h : coK l n k = none) : l.foldl coStep (some (keeping n)) = none := by
  rw [← List.take_append_drop k l, List.foldl_append]
  unfold coK at h
  rw [h, coStep_none]
theorem coK_all {l : List (List DPart)} {n : Int} {k : Nat} (h : k = l.length) : coK l n k = l.foldl coStep (some (keeping n)) := by subst h; unfold coK; rw [List.take_length]
theorem composeAll_no {l : List (List DPart)} {n : Int} (h : within n 0 200 = false) : composeAll l n = none := by unfold composeAll; rw [if_neg (by simp [h])]
theorem composeAll_yes {l : List (List DPart)} {n : Int} (h : within n 0 200 = true) : composeAll l n = l.foldl coStep (some (keeping n)) := by unfold composeAll; rw [if_pos h]
def changed (d : DDoc) (rev : Int) : Option (List DPart) := if atRev d rev then composeAll (opsSince d rev).1 (textAt d rev).1.length else none
theorem changed_no {d : DDoc} {rev : Int} (h : ¬ atRev d rev) : changed d rev = none := if_neg h
theorem changed_yes {d : DDoc} {rev : Int} (h : atRev d rev) : changed d rev = composeAll (opsSince d rev).1 (textAt d rev).1.length := if_pos h
theorem keep_own (w : World) (n : Int) (E : TypeId) : OwnS w.heap.size (w.alloc (.cells #[.int .i64 1, .int .i64 n, .slice none 0 0] E)) (.slice (some ⟨w.heap.size, 0, none⟩) 1 1) [(⟨1, n, []⟩ : DPart)] := by
  have hx : Bx (w.alloc (.cells #[.int .i64 1, .int .i64 n, .slice none 0 0] E)) w.heap.size [.int .i64 1, .int .i64 n, .slice none 0 0] := Bx.new rfl
  obtain ⟨z, c0, c1, c2, f0, f1, f2⟩ := hx.q3
  have ho : own w.heap.size 0 (1 * GoT.n DPart) = [(w.heap.size, 0), (w.heap.size, 1), (w.heap.size, 2)] := rfl
  have hat : At (w.alloc (.cells #[.int .i64 1, .int .i64 n, .slice none 0 0] E)) w.heap.size 0 [.int .i64 1, .int .i64 n, .slice none 0 0] := by
    intro j u hj
    match j, hj with
    | 0, hj => simp at hj; subst hj; exact c0
    | 1, hj => simp at hj; subst hj; exact c1
    | 2, hj => simp at hj; subst hj; exact c2
  refine ⟨own w.heap.size 0 (1 * GoT.n DPart) ++ [], .inr ⟨w.heap.size, 0, 1, _, [], rfl, Nat.le_refl _, by decide, le_BIG (by simp), hat, ⟨_, [], [], [], by simp, ⟨_, [], rfl, Sl.nil, rfl⟩, ⟨rfl, rfl⟩, rfl⟩, ?_, rfl⟩, ?_, ?_, ?_⟩
  · intro p hp
    rw [ho] at hp
    simp only [List.mem_cons, List.not_mem_nil, or_false] at hp
    rcases hp with rfl | rfl | rfl
    · rw [c0]; rfl
    · rw [c1]; rfl
    · rw [c2]; rfl
  · rw [List.append_nil, ho]; simp
  · intro p hp
    rw [List.append_nil, ho] at hp
    simp only [List.mem_cons, List.not_mem_nil, or_false] at hp
    rcases hp with rfl | rfl | rfl <;> exact Nat.le_refl _
  · intro p hp
    rw [List.append_nil, ho] at hp
    simp only [List.mem_cons, List.not_mem_nil, or_false] at hp
    rcases hp with rfl | rfl | rfl
    · exact f0
    · exact f1
    · exact f2
theorem impl_Keeping_c (n : Int) (w : World) : Calls Try.prog 41 #[.int .i64 n] w (Out_PartS w (keeping n)) := by
  go_enter Try.func41, Try.ntmps41
  go_wp2_with fail
  refine (impl_within_c n 1 200 _).mono ?_
  rintro e' w1 ⟨rfl, hb1⟩
  have s1 := hb1.size
  by_cases h1 : within n 1 200 = true
  · have e : keeping n = [⟨1, n, []⟩] := if_pos h1
    rw [h1]
    obtain ⟨f, hs, hf⟩ := keep_own w1 n 60
    have HS := Lib.hid hs
    have HF := Lib.hid hf
    have HB := Lib.hid (hb1.alloc s1 (.cells #[.int .i64 1, .int .i64 n, .slice none 0 0] 60))
    clear hs hf hb1
    go_wp2
    go_ret
    rw [e]
    exact ⟨_, f, rfl, HS.out, HF.out.mono s1, HB.out⟩
  · have h1 : within n 1 200 = false := by simpa using h1
    have e : keeping n = [] := if_neg (by simp [h1])
    rw [h1]
    go_wp2
    go_ret
    rw [e]
    exact ⟨_, _, rfl, Sl.nil, Fresh.nil _ _, hb1⟩
set_option maxHeartbeats 4000000 in
set_option maxRecDepth 100000 in
theorem impl_ComposeAll_c (vl : Value) (l : List (List DPart)) (n : Int) (w : World) (hl : RdS w vl l) (hlen : l.length ≤ 1000) : Calls Try.prog 22 #[vl, .int .i64 n] w (OutCo w (composeAll l n)) := by
  have hll := fun w1 ty => hl.len Try.underlying50 w1 ty
  go_enter Try.func22, Try.ntmps22
  go_wp2_with fail
  refine (impl_within_c n 0 200 _).mono ?_
  rintro e' w1 ⟨rfl, hb1⟩
  have s1 := hb1.size
  by_cases h1 : within n 0 200 = true
  rotate_left
  · have h1 : within n 0 200 = false := by simpa using h1
    have HV := Lib.hid (composeAll_no (l := l) h1)
    rw [h1]
    go_wp2
    exact bodyPost_ret (v := .tuple #[.slice none 0 0, .bool false]) (by simp [results, Try.results22, go_sem, *]) rfl (OutCo.no HV.out hb1)
  have HV := Lib.hid (composeAll_yes (l := l) h1)
  rw [h1]
  go_wp2_with fail
  refine (impl_Keeping_c n _).mono ?_
  rintro e' w2 ⟨v2, f2, rfl, hs2, hf2, hb2⟩
  have HB2 := Lib.hid (hb1.trans (hb2.mono s1))
  have HO2 : Hid (OwnS w.heap.size w2 v2 (keeping n)) := Lib.hid ⟨f2, hs2, hf2.mono s1⟩
  clear hs2 hf2 hb1 hb2 s1 h1
  go_wp2_with fail
  go_loopw [6, 18] (fun u i wr => ∃ (k : Nat) (u' : Value) (x : List DPart), u' = u ∧ k ≤ l.length ∧ i = .int .i64 k ∧ coK l n k = some x ∧ OwnS w.heap.size wr u' x ∧ Below w.heap.size w wr) (fun _ i _ => l.length - (intOf i).toNat)
  case atStart => exact ⟨0, _, keeping n, rfl, Nat.zero_le _, rfl, rfl, HO2.out, HB2.out⟩
  case round =>
    obtain ⟨k, u', x, rfl, hk, rfl, hx, hu, hbw⟩ := hrel
    have hsz := hbw.size
    by_cases hlt : k < l.length
    · obtain ⟨o, ho⟩ := get_some hlt
      obtain ⟨b1, o1, cs, g1, g2, g3⟩ := (hl.below hbw).idx Try.underlying50 szPS k ho
      obtain ⟨fp, v_o, rfl, r_o⟩ := g3
      have q0 := g2.one
      obtain ⟨ao, co, rfl⟩ := RdS.isSlice ⟨_, r_o⟩
      have hst := coK_succ (n := n) ho
      rw [hx] at hst
      have HST : Hid (coK l n (k + 1) = compose x o) := Lib.hid hst
      have HU := Lib.hid hu
      have HBW := Lib.hid hbw
      have HRO : Hid (RdS wr (.slice ao o.length co) o) := Lib.hid ⟨_, r_o⟩
      clear hx ho hu r_o hst hbw
      go_wp2_with fail
      refine (impl_Compose_c _ _ x o _ HU.out.rd HRO.out).mono ?_
      rintro e' w3 ⟨v3, rfl, hx3, hb3⟩
      have HB3 := Lib.hid (HBW.out.trans (hb3.mono hsz))
      have HX3 := Lib.hid hx3
      clear hx3 hb3
      rcases ht : compose x o with _ | y
      · have HN : Hid (composeAll l n = none) := Lib.hid (by rw [HV.out]; exact coK_none (k := k + 1) (by rw [HST.out, ht]))
        clear ht
        go_wp2
        exact bodyPost_ret (v := .tuple #[.slice none 0 0, .bool false]) (by simp [results, Try.results22, go_sem, *]) rfl (OutCo.no HN.out HB3.out)
      · have HS2 : Hid (coK l n (k + 1) = some y) := Lib.hid (by rw [HST.out, ht])
        have HX4 : Hid (OwnS w.heap.size w3 v3 y) := Lib.hid (by have h := HX3.out; rw [ht] at h; exact h.mono hsz)
        clear ht
        go_wp2
        go_roundw
        case rel => exact ⟨k + 1, _, y, rfl, by omega, by go_num, HS2.out, HX4.out, HB3.out⟩
        case measure => simp [intOf]; omega
    · have hkl : k = l.length := by omega
      have HN : Hid (composeAll l n = some x) := Lib.hid (by rw [HV.out, ← coK_all hkl]; exact hx)
      have HU := Lib.hid hu
      clear hx hu hkl
      go_wp2
      exact bodyPost_ret (v := .tuple #[u', .bool true]) (by simp [results, Try.results22, go_sem, *]) rfl (OutCo.yes HN.out HU.out hbw)
end Go.Proofs.Ytiahgjnpinjblaa
