/- Hubs: poll. -/
import Derived.Test.YtddohcdkmhaheaaGreatHow
import Derived.Test.YtddohcdkmhaheaaGreatTwo
import Derived.Test.YtddohcdkmhaheaaGreatRpl
import Derived.Deep.Cut
namespace Go.Proofs.YtddohcdkmhaheaaGreat
open Go.RowKit
attribute [local go_sem ↓] Go.wp_at_zero Go.wp_at_succ
def subRing (s : DSub) (r : DRing) : DSub := ⟨s.id, s.doc, r⟩
def hubPoll (z : DHub) (id n : Int) : DHub × List DEntry × Int :=
  if hubOk z = true ∧ 1 ≤ n then
    (if hubSub z id < 0 then (hub0, [], 8) else match z.subs[(hubSub z id).toNat]? with
      | some s => if (ringPoll s.r n).2.2 = 0 then (⟨z.shut, z.docs, z.subs.set (hubSub z id).toNat (subRing s (ringPoll s.r n).1), z.last⟩, (ringPoll s.r n).2.1, 0) else (hub0, [], (ringPoll s.r n).2.2)
      | none => (hub0, [], 8))
  else (hub0, [], 1)
theorem hubPoll_no {z : DHub} {id n : Int} (h : ¬ (hubOk z = true ∧ 1 ≤ n)) : hubPoll z id n = (hub0, [], 1) := if_neg h
theorem hubPoll_sub {z : DHub} {id n : Int} (h : hubOk z = true ∧ 1 ≤ n) (h2 : hubSub z id < 0) : hubPoll z id n = (hub0, [], 8) := by unfold hubPoll; rw [if_pos h, if_pos h2]
theorem hubPoll_code {z : DHub} {id n c : Int} {k : Nat} {s : DSub} {r : DRing} {l : List DEntry} (h : hubOk z = true ∧ 1 ≤ n) (hk : hubSub z id = k) (hs : z.subs[k]? = some s) (hp : ringPoll s.r n = (r, l, c)) (hc : c ≠ 0) : hubPoll z id n = (hub0, [], c) := by
  unfold hubPoll
  rw [if_pos h, if_neg (by omega), hk, Int.toNat_natCast, hs]
  simp only [hp]
  rw [if_neg hc]
theorem hubPoll_yes {z : DHub} {id n : Int} {k : Nat} {s : DSub} {r : DRing} {l : List DEntry} (h : hubOk z = true ∧ 1 ≤ n) (hk : hubSub z id = k) (hs : z.subs[k]? = some s) (hp : ringPoll s.r n = (r, l, 0)) :
    hubPoll z id n = (⟨z.shut, z.docs, z.subs.set k (subRing s r), z.last⟩, l, 0) := by
  unfold hubPoll
  rw [if_pos h, if_neg (by omega), hk, Int.toNat_natCast, hs]
  simp [hp]
theorem cntL_set {α : Type} [GoM α] : ∀ {l : List α} {k : Nat} {x y : α}, l[k]? = some x → cntL (l.set k y) + GoM.cnt x = cntL l + GoM.cnt y
  | [], k, x, y, h => by simp at h
  | z :: l, 0, x, y, h => by simp at h; subst h; simp [cntL]; omega
  | z :: l, k + 1, x, y, h => by simp at h; have := cntL_set (y := y) h; simp only [List.set_cons_succ, cntL]; omega
theorem cntL_get {α : Type} [GoM α] : ∀ {l : List α} {k : Nat} {x : α}, l[k]? = some x → GoM.cnt x ≤ cntL l
  | [], k, x, h => by simp at h
  | z :: l, 0, x, h => by simp at h; subst h; simp [cntL]
  | z :: l, k + 1, x, h => by simp at h; have := cntL_get h; simp only [cntL]; omega
theorem ringPoll_cnts (r : DRing) (n : Int) : cntL (ringPoll r n).1.list + cntL (ringPoll r n).2.1 ≤ cntL r.list := by
  unfold ringPoll
  split
  · split
    · simp [cntL]
    · have := cntL_append (r.list.take (pollK r n)) (r.list.drop (pollK r n)); rw [List.take_append_drop] at this; simp only; omega
  · simp [cntL]
theorem hubPoll_cnt (z : DHub) (id n : Int) : cntL (hubPoll z id n).1.docs + cntL (hubPoll z id n).1.subs + cntL (hubPoll z id n).2.1 ≤ 5 * (szL z.docs + szL z.subs) := by
  have := hub_cnt z
  by_cases h : hubOk z = true ∧ 1 ≤ n
  rotate_left
  · rw [hubPoll_no h]; simp [hub0, cntL]
  by_cases h2 : hubSub z id < 0
  · rw [hubPoll_sub h h2]; simp [hub0, cntL]
  obtain ⟨k, s, hk, hs⟩ := hubSub_get h2
  by_cases hc : (ringPoll s.r n).2.2 = 0
  · rw [hubPoll_yes (r := (ringPoll s.r n).1) (l := (ringPoll s.r n).2.1) h hk hs (by rw [← hc])]
    have e1 := cntL_set (y := subRing s (ringPoll s.r n).1) hs
    have e2 := ringPoll_cnts s.r n
    have e3 : GoM.cnt s = 5 + cntL s.r.list := rfl
    have e4 : GoM.cnt (subRing s (ringPoll s.r n).1) = 5 + cntL (ringPoll s.r n).1.list := rfl
    simp only
    omega
  · rw [hubPoll_code (r := (ringPoll s.r n).1) (l := (ringPoll s.r n).2.1) h hk hs rfl hc]; simp [hub0, cntL]

set_option maxHeartbeats 4000000 in
set_option maxRecDepth 100000 in
theorem spec_HubPoll_c (z : DHub) (v_docs v_subs : Value) (id n : Int) (w : World) (h_docs : RdS w v_docs z.docs) (h_subs : RdS w v_subs z.subs)  : Calls Tryz.prog 21 #[.agg #[.bool z.shut, v_docs, v_subs, .int .i64 z.last], .int .i64 id, .int .i64 n] w (Out_Hub_EntryS_i w (hubPoll z id n).1 (hubPoll z id n).2.1 (hubPoll z id n).2.2) := by
  have hOK := fun (W' : World) (a : RdS W' v_docs z.docs) (b : RdS W' v_subs z.subs) => spec_HubOk_c z v_docs v_subs W' a b
  have hCP := fun (W' : World) (a : RdS W' v_docs z.docs) (b : RdS W' v_subs z.subs) (c : HubSz z) => spec_l11Copy_c z v_docs v_subs W' a b c
  have hF0 := fun (W' : World) (b : RdS W' v_subs z.subs) => spec_HubSub_c z v_docs v_subs id W' b
  obtain ⟨sh, hsh⟩ : ∃ sh : Bool, z.shut = sh := ⟨_, rfl⟩
  simp only [hsh] at hOK hCP hF0
  rw [hsh]
  have HOK := Lib.hid hOK
  have HCP := Lib.hid hCP
  have HF0 := Lib.hid hF0
  clear hOK hCP hF0
  by_cases h1 : hubOk z = true
  rotate_left
  · have h1 : hubOk z = false := by simpa using h1
    have HV := Lib.hid (hubPoll_no (z := z) (id := id) (n := n) fun h => by rw [h1] at h; cases h.1)
    go_enter Tryz.func21, Tryz.ntmps21
    go_wp2_with fail
    refine (HF0.out _ (h_subs.below (((Below.refl w.heap.size w).alloc om _).alloc om _))).mono ?_
    rintro e' w1 ⟨rfl, hb1⟩
    have s1 : w.heap.size + 2 ≤ w1.heap.size := by have := hb1.size; (try simp at this); omega
    have HBN : Hid (Below w.heap.size w w1) := Lib.hid ((((Below.refl w.heap.size w).alloc om _).alloc om _).trans (hb1.mono om))
    have HBW := HBN
    clear HBN
    have HXz : Hid (Bx w1 (w.heap.size) [.bool sh, v_docs, v_subs, .int .i64 z.last]) := Lib.hid (((Bx.new (by first | rfl | simp | omega)).alloc _).at hb1)
    obtain ⟨Zz, Kz0, Kz1, Kz2, Kz3⟩ := HXz.out.o4
    have HXr : Hid (Bx w1 (w.heap.size + 1) [.bool false, .slice none 0 0, .slice none 0 0, .int .i64 0]) := Lib.hid ((Bx.new (by first | rfl | simp | omega)).at hb1)
    obtain ⟨Zr, Kr0, Kr1, Kr2, Kr3, Gr0, Gr1, Gr2, Gr3⟩ := HXr.out.q4
    clear hb1
    go_wp2_with fail
    refine (HOK.out _ (h_docs.below HBW.out) (h_subs.below HBW.out)).mono ?_
    rintro e' w2 ⟨rfl, hb2⟩
    rw [h1]
    have s2 : w1.heap.size ≤ w2.heap.size := by have := hb2.size; (try simp at this); omega
    have HBN : Hid (Below w.heap.size w w2) := Lib.hid (HBW.out.trans (hb2.mono om))
    clear HBW
    have HBW := HBN
    clear HBN
    replace HXz : Hid (Bx w2 (w.heap.size) [.bool sh, v_docs, v_subs, .int .i64 z.last]) := Lib.hid (HXz.out.at hb2)
    clear Zz Kz0 Kz1 Kz2 Kz3
    obtain ⟨Zz, Kz0, Kz1, Kz2, Kz3⟩ := HXz.out.o4
    replace HXr : Hid (Bx w2 (w.heap.size + 1) [.bool false, .slice none 0 0, .slice none 0 0, .int .i64 0]) := Lib.hid (HXr.out.at hb2)
    clear Zr Kr0 Kr1 Kr2 Kr3 Gr0 Gr1 Gr2 Gr3
    obtain ⟨Zr, Kr0, Kr1, Kr2, Kr3, Gr0, Gr1, Gr2, Gr3⟩ := HXr.out.q4
    clear hb2
    go_wp2
    have HB : Hid (Below w.heap.size w ((((w2.setCell ⟨w.heap.size + 1, 0, none⟩ (.bool false)).setCell ⟨w.heap.size + 1, 1, none⟩ (.slice none 0 0)).setCell ⟨w.heap.size + 1, 2, none⟩ (.slice none 0 0)).setCell ⟨w.heap.size + 1, 3, none⟩ (.int .i64 0))) := Lib.hid ((((HBW.out.setCell (p := ⟨w.heap.size + 1, 0, none⟩) om _).setCell (p := ⟨w.heap.size + 1, 1, none⟩) om _).setCell (p := ⟨w.heap.size + 1, 2, none⟩) om _).setCell (p := ⟨w.heap.size + 1, 3, none⟩) om _)
    rw [HV.out]
    exact bodyPost_ret (v := .tuple #[.agg #[.bool false, .slice none 0 0, .slice none 0 0, .int .i64 0], .slice none 0 0, .int .i64 1]) (by simp [results, Tryz.results21, go_sem, cell_setCell, *]) rfl (out_hub0_es_i HB.out)
  have HZ := Lib.hid (hubSz h1)
  by_cases h2 : 1 ≤ n
  rotate_left
  · have HV := Lib.hid (hubPoll_no (z := z) (id := id) (n := n) fun h => h2 h.2)
    have h2 : n < 1 := by omega
    go_enter Tryz.func21, Tryz.ntmps21
    go_wp2_with fail
    refine (HF0.out _ (h_subs.below (((Below.refl w.heap.size w).alloc om _).alloc om _))).mono ?_
    rintro e' w1 ⟨rfl, hb1⟩
    have s1 : w.heap.size + 2 ≤ w1.heap.size := by have := hb1.size; (try simp at this); omega
    have HBN : Hid (Below w.heap.size w w1) := Lib.hid ((((Below.refl w.heap.size w).alloc om _).alloc om _).trans (hb1.mono om))
    have HBW := HBN
    clear HBN
    have HXz : Hid (Bx w1 (w.heap.size) [.bool sh, v_docs, v_subs, .int .i64 z.last]) := Lib.hid (((Bx.new (by first | rfl | simp | omega)).alloc _).at hb1)
    obtain ⟨Zz, Kz0, Kz1, Kz2, Kz3⟩ := HXz.out.o4
    have HXr : Hid (Bx w1 (w.heap.size + 1) [.bool false, .slice none 0 0, .slice none 0 0, .int .i64 0]) := Lib.hid ((Bx.new (by first | rfl | simp | omega)).at hb1)
    obtain ⟨Zr, Kr0, Kr1, Kr2, Kr3, Gr0, Gr1, Gr2, Gr3⟩ := HXr.out.q4
    clear hb1
    go_wp2_with fail
    refine (HOK.out _ (h_docs.below HBW.out) (h_subs.below HBW.out)).mono ?_
    rintro e' w2 ⟨rfl, hb2⟩
    rw [h1]
    have s2 : w1.heap.size ≤ w2.heap.size := by have := hb2.size; (try simp at this); omega
    have HBN : Hid (Below w.heap.size w w2) := Lib.hid (HBW.out.trans (hb2.mono om))
    clear HBW
    have HBW := HBN
    clear HBN
    replace HXz : Hid (Bx w2 (w.heap.size) [.bool sh, v_docs, v_subs, .int .i64 z.last]) := Lib.hid (HXz.out.at hb2)
    clear Zz Kz0 Kz1 Kz2 Kz3
    obtain ⟨Zz, Kz0, Kz1, Kz2, Kz3⟩ := HXz.out.o4
    replace HXr : Hid (Bx w2 (w.heap.size + 1) [.bool false, .slice none 0 0, .slice none 0 0, .int .i64 0]) := Lib.hid (HXr.out.at hb2)
    clear Zr Kr0 Kr1 Kr2 Kr3 Gr0 Gr1 Gr2 Gr3
    obtain ⟨Zr, Kr0, Kr1, Kr2, Kr3, Gr0, Gr1, Gr2, Gr3⟩ := HXr.out.q4
    clear hb2
    go_wp2
    have HB : Hid (Below w.heap.size w ((((w2.setCell ⟨w.heap.size + 1, 0, none⟩ (.bool false)).setCell ⟨w.heap.size + 1, 1, none⟩ (.slice none 0 0)).setCell ⟨w.heap.size + 1, 2, none⟩ (.slice none 0 0)).setCell ⟨w.heap.size + 1, 3, none⟩ (.int .i64 0))) := Lib.hid ((((HBW.out.setCell (p := ⟨w.heap.size + 1, 0, none⟩) om _).setCell (p := ⟨w.heap.size + 1, 1, none⟩) om _).setCell (p := ⟨w.heap.size + 1, 2, none⟩) om _).setCell (p := ⟨w.heap.size + 1, 3, none⟩) om _)
    rw [HV.out]
    exact bodyPost_ret (v := .tuple #[.agg #[.bool false, .slice none 0 0, .slice none 0 0, .int .i64 0], .slice none 0 0, .int .i64 1]) (by simp [results, Tryz.results21, go_sem, cell_setCell, *]) rfl (out_hub0_es_i HB.out)
  have h2a : ¬ n < 1 := by omega
  by_cases h3 : hubSub z id < 0
  · have HV := Lib.hid (hubPoll_sub (n := n) ⟨h1, h2⟩ h3)
    go_enter Tryz.func21, Tryz.ntmps21
    go_wp2_with fail
    refine (HF0.out _ (h_subs.below (((Below.refl w.heap.size w).alloc om _).alloc om _))).mono ?_
    rintro e' w1 ⟨rfl, hb1⟩
    have s1 : w.heap.size + 2 ≤ w1.heap.size := by have := hb1.size; (try simp at this); omega
    have HBN : Hid (Below w.heap.size w w1) := Lib.hid ((((Below.refl w.heap.size w).alloc om _).alloc om _).trans (hb1.mono om))
    have HBW := HBN
    clear HBN
    have HXz : Hid (Bx w1 (w.heap.size) [.bool sh, v_docs, v_subs, .int .i64 z.last]) := Lib.hid (((Bx.new (by first | rfl | simp | omega)).alloc _).at hb1)
    obtain ⟨Zz, Kz0, Kz1, Kz2, Kz3⟩ := HXz.out.o4
    have HXr : Hid (Bx w1 (w.heap.size + 1) [.bool false, .slice none 0 0, .slice none 0 0, .int .i64 0]) := Lib.hid ((Bx.new (by first | rfl | simp | omega)).at hb1)
    obtain ⟨Zr, Kr0, Kr1, Kr2, Kr3, Gr0, Gr1, Gr2, Gr3⟩ := HXr.out.q4
    clear hb1
    go_wp2_with fail
    refine (HOK.out _ (h_docs.below HBW.out) (h_subs.below HBW.out)).mono ?_
    rintro e' w2 ⟨rfl, hb2⟩
    rw [h1]
    have s2 : w1.heap.size ≤ w2.heap.size := by have := hb2.size; (try simp at this); omega
    have HBN : Hid (Below w.heap.size w w2) := Lib.hid (HBW.out.trans (hb2.mono om))
    clear HBW
    have HBW := HBN
    clear HBN
    replace HXz : Hid (Bx w2 (w.heap.size) [.bool sh, v_docs, v_subs, .int .i64 z.last]) := Lib.hid (HXz.out.at hb2)
    clear Zz Kz0 Kz1 Kz2 Kz3
    obtain ⟨Zz, Kz0, Kz1, Kz2, Kz3⟩ := HXz.out.o4
    replace HXr : Hid (Bx w2 (w.heap.size + 1) [.bool false, .slice none 0 0, .slice none 0 0, .int .i64 0]) := Lib.hid (HXr.out.at hb2)
    clear Zr Kr0 Kr1 Kr2 Kr3 Gr0 Gr1 Gr2 Gr3
    obtain ⟨Zr, Kr0, Kr1, Kr2, Kr3, Gr0, Gr1, Gr2, Gr3⟩ := HXr.out.q4
    clear hb2
    go_wp2
    have HB : Hid (Below w.heap.size w ((((w2.setCell ⟨w.heap.size + 1, 0, none⟩ (.bool false)).setCell ⟨w.heap.size + 1, 1, none⟩ (.slice none 0 0)).setCell ⟨w.heap.size + 1, 2, none⟩ (.slice none 0 0)).setCell ⟨w.heap.size + 1, 3, none⟩ (.int .i64 0))) := Lib.hid ((((HBW.out.setCell (p := ⟨w.heap.size + 1, 0, none⟩) om _).setCell (p := ⟨w.heap.size + 1, 1, none⟩) om _).setCell (p := ⟨w.heap.size + 1, 2, none⟩) om _).setCell (p := ⟨w.heap.size + 1, 3, none⟩) om _)
    rw [HV.out]
    exact bodyPost_ret (v := .tuple #[.agg #[.bool false, .slice none 0 0, .slice none 0 0, .int .i64 0], .slice none 0 0, .int .i64 8]) (by simp [results, Tryz.results21, go_sem, cell_setCell, *]) rfl (out_hub0_es_i HB.out)
  obtain ⟨k, s, hk, hs⟩ := hubSub_get h3
  have HK := Lib.hid hk
  have HD := Lib.hid hs
  have bs := (hubOk_iff.1 h1).ns
  have kl := (List.getElem?_eq_some_iff.1 hs).1
  have hrs := (ringOk_sz ((hubOk_iff.1 h1).ring (List.mem_of_getElem? hs))).1
  obtain ⟨⟨rr, ll, cc⟩, hp⟩ : ∃ p, ringPoll s.r n = p := ⟨_, rfl⟩
  have hRP := fun (W' : World) (v : Value) (a : RdS W' v s.r.list) => (by have := spec_RingPoll_c s.r n v W' a hrs; rw [hp] at this; exact this : Calls Tryz.prog 88 #[.agg #[.int .i64 s.r.cap, .int .i64 s.r.next, .bool s.r.out, v], .int .i64 n] W' (Out_Ring_EntryS_i W' rr ll cc))
  have HRP := Lib.hid hRP
  clear hRP
  by_cases hc : cc = 0
  rotate_left
  · have HV := Lib.hid (hubPoll_code ⟨h1, h2⟩ hk hs hp hc)
    have c1 : (cc == 0) = false := by simp; omega
    have c2 : (cc != 0) = true := by simp; omega
    clear hk hs hp hc h3
    go_enter Tryz.func21, Tryz.ntmps21
    go_wp2_with fail
    refine (HF0.out _ (h_subs.below (((Below.refl w.heap.size w).alloc om _).alloc om _))).mono ?_
    rintro e' w1 ⟨rfl, hb1⟩
    rw [HK.out]
    have s1 : w.heap.size + 2 ≤ w1.heap.size := by have := hb1.size; (try simp at this); omega
    have HBN : Hid (Below w.heap.size w w1) := Lib.hid ((((Below.refl w.heap.size w).alloc om _).alloc om _).trans (hb1.mono om))
    have HBW := HBN
    clear HBN
    have HXz : Hid (Bx w1 (w.heap.size) [.bool sh, v_docs, v_subs, .int .i64 z.last]) := Lib.hid (((Bx.new (by first | rfl | simp | omega)).alloc _).at hb1)
    obtain ⟨Zz, Kz0, Kz1, Kz2, Kz3⟩ := HXz.out.o4
    have HXr : Hid (Bx w1 (w.heap.size + 1) [.bool false, .slice none 0 0, .slice none 0 0, .int .i64 0]) := Lib.hid ((Bx.new (by first | rfl | simp | omega)).at hb1)
    obtain ⟨Zr, Kr0, Kr1, Kr2, Kr3, Gr0, Gr1, Gr2, Gr3⟩ := HXr.out.q4
    clear hb1
    go_wp2_with fail
    refine (HOK.out _ (h_docs.below HBW.out) (h_subs.below HBW.out)).mono ?_
    rintro e' w2 ⟨rfl, hb2⟩
    rw [h1]
    have s2 : w1.heap.size ≤ w2.heap.size := by have := hb2.size; (try simp at this); omega
    have HBN : Hid (Below w.heap.size w w2) := Lib.hid (HBW.out.trans (hb2.mono om))
    clear HBW
    have HBW := HBN
    clear HBN
    replace HXz : Hid (Bx w2 (w.heap.size) [.bool sh, v_docs, v_subs, .int .i64 z.last]) := Lib.hid (HXz.out.at hb2)
    clear Zz Kz0 Kz1 Kz2 Kz3
    obtain ⟨Zz, Kz0, Kz1, Kz2, Kz3⟩ := HXz.out.o4
    replace HXr : Hid (Bx w2 (w.heap.size + 1) [.bool false, .slice none 0 0, .slice none 0 0, .int .i64 0]) := Lib.hid (HXr.out.at hb2)
    clear Zr Kr0 Kr1 Kr2 Kr3 Gr0 Gr1 Gr2 Gr3
    obtain ⟨Zr, Kr0, Kr1, Kr2, Kr3, Gr0, Gr1, Gr2, Gr3⟩ := HXr.out.q4
    clear hb2
    obtain ⟨b1, o1, cs, g1, g2, g3⟩ := (h_subs.below HBW.out).idx Tryz.underlying28 szi_DSub k HD.out
    obtain ⟨v_rl, rfl, nd, r_rl⟩ := inv_DSub g3
    have q0 := g2.zero
    have q1 := g2 1 _ rfl
    have q2 := g2 2 _ rfl
    have q3 := g2 3 _ rfl
    have q4 := g2 4 _ rfl
    have q5 := g2 5 _ rfl
    have l1 : b1 < w2.heap.size := World.block_lt_of_cell? (w := w2) (a := ⟨b1, o1, none⟩) q0
    obtain ⟨arl, crl, rfl⟩ := r_rl.isSlice
    clear g2 g3
    go_wp2_with fail
    refine (HRP.out _ _ r_rl).mono ?_
    rintro e' w3 ⟨vr, vl, fr, fl, rfl, sr, sl, kr, hb3⟩
    obtain ⟨ar, cr, rfl⟩ := sr.isS
    obtain ⟨al, cl, rfl⟩ := sl.isS
    have HTW : Hid (Two (w2.heap.size) w3.heap.size w3 (.slice ar rr.list.length cr) (.slice al ll.length cl) rr.list ll fr fl) := Lib.hid ⟨sr, sl, kr, Live.lt (Live.append.2 ⟨sr.live, sl.live⟩)⟩
    clear sr sl kr
    have s3 : w2.heap.size ≤ w3.heap.size := by have := hb3.size; (try simp at this); omega
    have HBN : Hid (Below w.heap.size w w3) := Lib.hid (HBW.out.trans (hb3.mono om))
    clear HBW
    have HBW := HBN
    clear HBN
    replace HXz : Hid (Bx w3 (w.heap.size) [.bool sh, v_docs, v_subs, .int .i64 z.last]) := Lib.hid (HXz.out.at hb3)
    clear Zz Kz0 Kz1 Kz2 Kz3
    obtain ⟨Zz, Kz0, Kz1, Kz2, Kz3⟩ := HXz.out.o4
    replace HXr : Hid (Bx w3 (w.heap.size + 1) [.bool false, .slice none 0 0, .slice none 0 0, .int .i64 0]) := Lib.hid (HXr.out.at hb3)
    clear Zr Kr0 Kr1 Kr2 Kr3 Gr0 Gr1 Gr2 Gr3
    obtain ⟨Zr, Kr0, Kr1, Kr2, Kr3, Gr0, Gr1, Gr2, Gr3⟩ := HXr.out.q4
    clear hb3
    clear g1 q0 q1 q2 q3 q4 q5 l1 r_rl
    go_wp2
    have HB : Hid (Below w.heap.size w (((((w3.setCell ⟨w.heap.size + 1, 0, none⟩ (.bool false)).setCell ⟨w.heap.size + 1, 1, none⟩ (.slice none 0 0)).setCell ⟨w.heap.size + 1, 2, none⟩ (.slice none 0 0)).setCell ⟨w.heap.size + 1, 3, none⟩ (.int .i64 0)).alloc (.cells #[.int .i64 rr.cap, .int .i64 rr.next, .bool rr.out, .slice ar rr.list.length cr] 117))) := Lib.hid (((((HBW.out.setCell (p := ⟨w.heap.size + 1, 0, none⟩) om _).setCell (p := ⟨w.heap.size + 1, 1, none⟩) om _).setCell (p := ⟨w.heap.size + 1, 2, none⟩) om _).setCell (p := ⟨w.heap.size + 1, 3, none⟩) om _).alloc om _)
    rw [HV.out]
    exact bodyPost_ret (v := .tuple #[.agg #[.bool false, .slice none 0 0, .slice none 0 0, .int .i64 0], .slice none 0 0, .int .i64 cc]) (by simp [results, Tryz.results21, go_sem, cell_setCell, *]) rfl (out_hub0_es_i HB.out)
  subst hc
  have HV := Lib.hid (hubPoll_yes ⟨h1, h2⟩ hk hs hp)
  clear hk hs hp h3
  go_enter Tryz.func21, Tryz.ntmps21
  go_wp2_with fail
  refine (HF0.out _ (h_subs.below (((Below.refl w.heap.size w).alloc om _).alloc om _))).mono ?_
  rintro e' w1 ⟨rfl, hb1⟩
  rw [HK.out]
  have s1 : w.heap.size + 2 ≤ w1.heap.size := by have := hb1.size; (try simp at this); omega
  have HBN : Hid (Below w.heap.size w w1) := Lib.hid ((((Below.refl w.heap.size w).alloc om _).alloc om _).trans (hb1.mono om))
  have HBW := HBN
  clear HBN
  have HXz : Hid (Bx w1 (w.heap.size) [.bool sh, v_docs, v_subs, .int .i64 z.last]) := Lib.hid (((Bx.new (by first | rfl | simp | omega)).alloc _).at hb1)
  obtain ⟨Zz, Kz0, Kz1, Kz2, Kz3⟩ := HXz.out.o4
  have HXr : Hid (Bx w1 (w.heap.size + 1) [.bool false, .slice none 0 0, .slice none 0 0, .int .i64 0]) := Lib.hid ((Bx.new (by first | rfl | simp | omega)).at hb1)
  obtain ⟨Zr, Kr0, Kr1, Kr2, Kr3, Gr0, Gr1, Gr2, Gr3⟩ := HXr.out.q4
  clear hb1
  go_wp2_with fail
  refine (HOK.out _ (h_docs.below HBW.out) (h_subs.below HBW.out)).mono ?_
  rintro e' w2 ⟨rfl, hb2⟩
  rw [h1]
  have s2 : w1.heap.size ≤ w2.heap.size := by have := hb2.size; (try simp at this); omega
  have HBN : Hid (Below w.heap.size w w2) := Lib.hid (HBW.out.trans (hb2.mono om))
  clear HBW
  have HBW := HBN
  clear HBN
  replace HXz : Hid (Bx w2 (w.heap.size) [.bool sh, v_docs, v_subs, .int .i64 z.last]) := Lib.hid (HXz.out.at hb2)
  clear Zz Kz0 Kz1 Kz2 Kz3
  obtain ⟨Zz, Kz0, Kz1, Kz2, Kz3⟩ := HXz.out.o4
  replace HXr : Hid (Bx w2 (w.heap.size + 1) [.bool false, .slice none 0 0, .slice none 0 0, .int .i64 0]) := Lib.hid (HXr.out.at hb2)
  clear Zr Kr0 Kr1 Kr2 Kr3 Gr0 Gr1 Gr2 Gr3
  obtain ⟨Zr, Kr0, Kr1, Kr2, Kr3, Gr0, Gr1, Gr2, Gr3⟩ := HXr.out.q4
  clear hb2
  obtain ⟨b1, o1, cs, g1, g2, g3⟩ := (h_subs.below HBW.out).idx Tryz.underlying28 szi_DSub k HD.out
  obtain ⟨v_rl, rfl, nd, r_rl⟩ := inv_DSub g3
  have q0 := g2.zero
  have q1 := g2 1 _ rfl
  have q2 := g2 2 _ rfl
  have q3 := g2 3 _ rfl
  have q4 := g2 4 _ rfl
  have q5 := g2 5 _ rfl
  have l1 : b1 < w2.heap.size := World.block_lt_of_cell? (w := w2) (a := ⟨b1, o1, none⟩) q0
  obtain ⟨arl, crl, rfl⟩ := r_rl.isSlice
  clear g2 g3
  go_wp2_with fail
  refine (HRP.out _ _ r_rl).mono ?_
  rintro e' w3 ⟨vr, vl, fr, fl, rfl, sr, sl, kr, hb3⟩
  obtain ⟨ar, cr, rfl⟩ := sr.isS
  obtain ⟨al, cl, rfl⟩ := sl.isS
  have HTW : Hid (Two (w2.heap.size) w3.heap.size w3 (.slice ar rr.list.length cr) (.slice al ll.length cl) rr.list ll fr fl) := Lib.hid ⟨sr, sl, kr, Live.lt (Live.append.2 ⟨sr.live, sl.live⟩)⟩
  clear sr sl kr
  have s3 : w2.heap.size ≤ w3.heap.size := by have := hb3.size; (try simp at this); omega
  have HBN : Hid (Below w.heap.size w w3) := Lib.hid (HBW.out.trans (hb3.mono om))
  clear HBW
  have HBW := HBN
  clear HBN
  replace HXz : Hid (Bx w3 (w.heap.size) [.bool sh, v_docs, v_subs, .int .i64 z.last]) := Lib.hid (HXz.out.at hb3)
  clear Zz Kz0 Kz1 Kz2 Kz3
  obtain ⟨Zz, Kz0, Kz1, Kz2, Kz3⟩ := HXz.out.o4
  replace HXr : Hid (Bx w3 (w.heap.size + 1) [.bool false, .slice none 0 0, .slice none 0 0, .int .i64 0]) := Lib.hid (HXr.out.at hb3)
  clear Zr Kr0 Kr1 Kr2 Kr3 Gr0 Gr1 Gr2 Gr3
  obtain ⟨Zr, Kr0, Kr1, Kr2, Kr3, Gr0, Gr1, Gr2, Gr3⟩ := HXr.out.q4
  clear hb3
  clear g1 q0 q1 q2 q3 q4 q5 l1 r_rl
  go_wp2_with fail
  refine (HCP.out _ (h_docs.below (HBW.out.alloc om _)) (h_subs.below (HBW.out.alloc om _)) HZ.out).mono ?_
  rintro e' w4 ⟨_, rfl, ho4, hb4⟩
  obtain ⟨vd, vs, rfl, hown⟩ := HubOwn.of_own ho4
  rw [hsh]
  obtain ⟨ad, cd, rfl⟩ := hown.rd1.isSlice
  obtain ⟨as_, cs_, rfl⟩ := hown.rd2.isSlice
  have HOWN := Lib.hid (hown.mono (C' := w3.heap.size + 1) om)
  clear ho4 hown
  have s4 : w3.heap.size + 1 ≤ w4.heap.size := by have := hb4.size; (try simp at this); omega
  have HBN : Hid (Below w.heap.size w w4) := Lib.hid ((HBW.out.alloc om _).trans (hb4.mono om))
  clear HBW
  have HBW := HBN
  clear HBN
  replace HTW : Hid (Two (w2.heap.size) w3.heap.size w4 (.slice ar rr.list.length cr) (.slice al ll.length cl) rr.list ll fr fl) := Lib.hid (((HTW.out.alloc om _).below (hb4.mono om)))
  replace HXz : Hid (Bx w4 (w.heap.size) [.bool sh, v_docs, v_subs, .int .i64 z.last]) := Lib.hid ((HXz.out.alloc _).at hb4)
  clear Zz Kz0 Kz1 Kz2 Kz3
  obtain ⟨Zz, Kz0, Kz1, Kz2, Kz3⟩ := HXz.out.o4
  replace HXr : Hid (Bx w4 (w.heap.size + 1) [.bool false, .slice none 0 0, .slice none 0 0, .int .i64 0]) := Lib.hid ((HXr.out.alloc _).at hb4)
  clear Zr Kr0 Kr1 Kr2 Kr3 Gr0 Gr1 Gr2 Gr3
  obtain ⟨Zr, Kr0, Kr1, Kr2, Kr3, Gr0, Gr1, Gr2, Gr3⟩ := HXr.out.q4
  have HXg : Hid (Bx w4 (w3.heap.size) [.int .i64 rr.cap, .int .i64 rr.next, .bool rr.out, .slice ar rr.list.length cr]) := Lib.hid ((Bx.new (by first | rfl | simp | omega)).at hb4)
  obtain ⟨Zg, Kg0, Kg1, Kg2, Kg3, Gg0, Gg1, Gg2, Gg3⟩ := HXg.out.q4
  clear hb4
  go_upto_region 10 with (fail)
  obtain ⟨V, hV⟩ : ∃ V : World, V = (w4.alloc (.cells #[.bool sh, .slice ad z.docs.length cd, .slice as_ z.subs.length cs_, .int .i64 z.last] 30)) := ⟨_, rfl⟩
  have sV : w4.heap.size + 1 ≤ V.heap.size := by rw [hV]; first | (simp; done) | (simp; omega)
  have HBN : Hid (Below w.heap.size w V) := Lib.hid (by rw [hV]; exact (HBW.out.alloc om _))
  clear HBW
  have HBW := HBN
  clear HBN
  replace HTW : Hid (Two (w2.heap.size) w3.heap.size V (.slice ar rr.list.length cr) (.slice al ll.length cl) rr.list ll fr fl) := Lib.hid (by rw [hV]; exact (HTW.out.alloc om _))
  replace HOWN : Hid (HubOwn (w3.heap.size + 1) (w4.heap.size) V (.slice ad z.docs.length cd) (.slice as_ z.subs.length cs_) (z.docs) (z.subs)) := Lib.hid (by rw [hV]; exact (HOWN.out.alloc om _))
  replace HXz : Hid (Bx V (w.heap.size) [.bool sh, v_docs, v_subs, .int .i64 z.last]) := Lib.hid (by rw [hV]; exact (HXz.out.alloc _))
  clear Zz Kz0 Kz1 Kz2 Kz3
  obtain ⟨Zz, Kz0, Kz1, Kz2, Kz3⟩ := HXz.out.o4
  replace HXr : Hid (Bx V (w.heap.size + 1) [.bool false, .slice none 0 0, .slice none 0 0, .int .i64 0]) := Lib.hid (by rw [hV]; exact (HXr.out.alloc _))
  clear Zr Kr0 Kr1 Kr2 Kr3 Gr0 Gr1 Gr2 Gr3
  obtain ⟨Zr, Kr0, Kr1, Kr2, Kr3, Gr0, Gr1, Gr2, Gr3⟩ := HXr.out.q4
  replace HXg : Hid (Bx V (w3.heap.size) [.int .i64 rr.cap, .int .i64 rr.next, .bool rr.out, .slice ar rr.list.length cr]) := Lib.hid (by rw [hV]; exact (HXg.out.alloc _))
  clear Zg Kg0 Kg1 Kg2 Kg3 Gg0 Gg1 Gg2 Gg3
  obtain ⟨Zg, Kg0, Kg1, Kg2, Kg3, Gg0, Gg1, Gg2, Gg3⟩ := HXg.out.q4
  have HXo : Hid (Bx V (w4.heap.size) [.bool sh, .slice ad z.docs.length cd, .slice as_ z.subs.length cs_, .int .i64 z.last]) := Lib.hid (by rw [hV]; exact (Bx.new (by first | rfl | simp | omega)))
  obtain ⟨Zo, Ko0, Ko1, Ko2, Ko3, Go0, Go1, Go2, Go3⟩ := HXo.out.q4
  rw [← hV]
  clear hV
  obtain ⟨b2, o2, vq, i1, i2, i3, i4, i5, i6, i7, i8⟩ := HOWN.out.el (B := w2.heap.size) (by omega) Tryz.underlying28 szi_DSub HD.out
  have HI8 := Lib.hid i8
  have HI5 := Lib.hid i5
  have y2 : V.cell? ⟨b2, o2 + 2, none⟩ = some _ := i5 2 _ rfl
  have x2 : V.frozen? ⟨b2, o2 + 2, none⟩ = false := i7 2 (by omega)
  have y3 : V.cell? ⟨b2, o2 + 2 + 1, none⟩ = some _ := i5 3 _ rfl
  have x3 : V.frozen? ⟨b2, o2 + 2 + 1, none⟩ = false := i7 3 (by omega)
  have y4 : V.cell? ⟨b2, o2 + 2 + 2, none⟩ = some _ := i5 4 _ rfl
  have x4 : V.frozen? ⟨b2, o2 + 2 + 2, none⟩ = false := i7 4 (by omega)
  have y5 : V.cell? ⟨b2, o2 + 2 + 3, none⟩ = some _ := i5 5 _ rfl
  have x5 : V.frozen? ⟨b2, o2 + 2 + 3, none⟩ = false := i7 5 (by omega)
  clear i5 i6 i7 i8
  have HTE : Hid (Two (w2.heap.size) w3.heap.size (((((V.setCell ⟨b2, o2 + 2, none⟩ (.int .i64 rr.cap)).setCell ⟨b2, o2 + 2 + 1, none⟩ (.int .i64 rr.next)).setCell ⟨b2, o2 + 2 + 2, none⟩ (.bool rr.out)).setCell ⟨b2, o2 + 2 + 3, none⟩ (.slice ar rr.list.length cr))) (.slice ar rr.list.length cr) (.slice al ll.length cl) rr.list ll fr fl) := Lib.hid ((((HTW.out.setCell (by omega) _).setCell (by omega) _).setCell (by omega) _).setCell (by omega) _)
  have HWE : Hid (Wr (own b2 o2 6) V (((((V.setCell ⟨b2, o2 + 2, none⟩ (.int .i64 rr.cap)).setCell ⟨b2, o2 + 2 + 1, none⟩ (.int .i64 rr.next)).setCell ⟨b2, o2 + 2 + 2, none⟩ (.bool rr.out)).setCell ⟨b2, o2 + 2 + 3, none⟩ (.slice ar rr.list.length cr)))) := Lib.hid (((((Wr.refl _ _).put (b := b2) (o := o2 + 2) (mem_own.2 ⟨rfl, by simp only; omega, by simp only; omega⟩) (.int .i64 rr.cap)).put (b := b2) (o := o2 + 2 + 1) (mem_own.2 ⟨rfl, by simp only; omega, by simp only; omega⟩) (.int .i64 rr.next)).put (b := b2) (o := o2 + 2 + 2) (mem_own.2 ⟨rfl, by simp only; omega, by simp only; omega⟩) (.bool rr.out)).put (b := b2) (o := o2 + 2 + 3) (mem_own.2 ⟨rfl, by simp only; omega, by simp only; omega⟩) (.slice ar rr.list.length cr))
  have HAE : Hid (At (((((V.setCell ⟨b2, o2 + 2, none⟩ (.int .i64 rr.cap)).setCell ⟨b2, o2 + 2 + 1, none⟩ (.int .i64 rr.next)).setCell ⟨b2, o2 + 2 + 2, none⟩ (.bool rr.out)).setCell ⟨b2, o2 + 2 + 3, none⟩ (.slice ar rr.list.length cr))) b2 o2 [.int .i64 s.id, .string s.doc, .int .i64 rr.cap, .int .i64 rr.next, .bool rr.out, .slice ar rr.list.length cr]) := Lib.hid ((((HI5.out.put 2 (by simp) (.int .i64 rr.cap)).put 3 (by simp) (.int .i64 rr.next)).put 4 (by simp) (.bool rr.out)).put 5 (by simp) (.slice ar rr.list.length cr))
  obtain ⟨fd, fs, sd, ss, hf, hm⟩ := HI8.out (((((V.setCell ⟨b2, o2 + 2, none⟩ (.int .i64 rr.cap)).setCell ⟨b2, o2 + 2 + 1, none⟩ (.int .i64 rr.next)).setCell ⟨b2, o2 + 2 + 2, none⟩ (.bool rr.out)).setCell ⟨b2, o2 + 2 + 3, none⟩ (.slice ar rr.list.length cr))) rr (.slice ar rr.list.length cr) fr HWE.out HAE.out HTE.out.1 HTE.out.2.2.1.left (fun p hp => by have := HTE.out.2.2.2 p (List.mem_append_left _ hp); omega)
  have HH : Hid (Two (w2.heap.size) w4.heap.size (((((V.setCell ⟨b2, o2 + 2, none⟩ (.int .i64 rr.cap)).setCell ⟨b2, o2 + 2 + 1, none⟩ (.int .i64 rr.next)).setCell ⟨b2, o2 + 2 + 2, none⟩ (.bool rr.out)).setCell ⟨b2, o2 + 2 + 3, none⟩ (.slice ar rr.list.length cr))) (.slice ad z.docs.length cd) (.slice as_ z.subs.length cs_) z.docs (z.subs.set k ⟨s.id, s.doc, rr⟩) fd fs) := Lib.hid ⟨sd, ss, hf, fun p hp => by rcases hm p hp with h | h; omega; have := HTE.out.2.2.2 p (List.mem_append_left _ h); omega⟩
  have HM := Lib.hid hm
  clear sd ss hf hm HI8 HI5
  have HB : Hid (Below w.heap.size w ((((((((V.setCell ⟨b2, o2 + 2, none⟩ (.int .i64 rr.cap)).setCell ⟨b2, o2 + 2 + 1, none⟩ (.int .i64 rr.next)).setCell ⟨b2, o2 + 2 + 2, none⟩ (.bool rr.out)).setCell ⟨b2, o2 + 2 + 3, none⟩ (.slice ar rr.list.length cr)).setCell ⟨w.heap.size + 1, 0, none⟩ (.bool sh)).setCell ⟨w.heap.size + 1, 1, none⟩ (.slice ad z.docs.length cd)).setCell ⟨w.heap.size + 1, 2, none⟩ (.slice as_ z.subs.length cs_)).setCell ⟨w.heap.size + 1, 3, none⟩ (.int .i64 z.last))) := Lib.hid ((((((((HBW.out.setCell (p := ⟨b2, o2 + 2, none⟩) om _).setCell (p := ⟨b2, o2 + 2 + 1, none⟩) om _).setCell (p := ⟨b2, o2 + 2 + 2, none⟩) om _).setCell (p := ⟨b2, o2 + 2 + 3, none⟩) om _).setCell (p := ⟨w.heap.size + 1, 0, none⟩) om _).setCell (p := ⟨w.heap.size + 1, 1, none⟩) om _).setCell (p := ⟨w.heap.size + 1, 2, none⟩) om _).setCell (p := ⟨w.heap.size + 1, 3, none⟩) om _)
  have HA := Lib.hid ((((HTE.out.setCell (b := w.heap.size + 1) (o := 0) (.inl (by omega)) (.bool sh)).setCell (b := w.heap.size + 1) (o := 1) (.inl (by omega)) (.slice ad z.docs.length cd)).setCell (b := w.heap.size + 1) (o := 2) (.inl (by omega)) (.slice as_ z.subs.length cs_)).setCell (b := w.heap.size + 1) (o := 3) (.inl (by omega)) (.int .i64 z.last))
  have HC := Lib.hid ((((HH.out.setCell (b := w.heap.size + 1) (o := 0) (.inl (by omega)) (.bool sh)).setCell (b := w.heap.size + 1) (o := 1) (.inl (by omega)) (.slice ad z.docs.length cd)).setCell (b := w.heap.size + 1) (o := 2) (.inl (by omega)) (.slice as_ z.subs.length cs_)).setCell (b := w.heap.size + 1) (o := 3) (.inl (by omega)) (.int .i64 z.last))
  go_wp2
  rw [HV.out]
  subst hsh
  have hne : ¬ (w.heap.size + 1 = b2) := by omega
  have hne2 : ¬ (b2 = w.heap.size + 1) := by omega
  exact bodyPost_ret (v := .tuple #[.agg #[.bool z.shut, .slice ad z.docs.length cd, .slice as_ z.subs.length cs_, .int .i64 z.last], .slice al ll.length cl, .int .i64 0]) (by simp [results, Tryz.results21, go_sem, cell_setCell, *]) rfl (out_es (y := ⟨z.shut, z.docs, z.subs.set k (subRing s rr), z.last⟩) HC.out.1 HC.out.2.1 HA.out.2.1 (HC.out.2.2.1.mono (by omega)) (HA.out.2.2.1.right.mono (by omega)) (fun p hp hq => by
      have a1 := HA.out.2.2.2 p (List.mem_append_right _ hp)
      rcases HM.out p hq with h | h
      · omega
      · exact (List.nodup_append.1 HA.out.2.2.1.nodup).2.2 p h p hp rfl) HB.out)
set_option maxHeartbeats 4000000 in
set_option maxRecDepth 100000 in
theorem impl_HubPoll_c (z : DHub) (v_docs v_subs : Value) (id n : Int) (w : World) (h_docs : RdS w v_docs z.docs) (h_subs : RdS w v_subs z.subs)  : Calls Tryz.prog 22 #[.agg #[.bool z.shut, v_docs, v_subs, .int .i64 z.last], .int .i64 id, .int .i64 n] w (Out_Hub_EntryS_i w (hubPoll z id n).1 (hubPoll z id n).2.1 (hubPoll z id n).2.2) := by
  have hOK := fun (W' : World) (a : RdS W' v_docs z.docs) (b : RdS W' v_subs z.subs) => impl_HubOk_c z v_docs v_subs W' a b
  have hCP := fun (W' : World) (a : RdS W' v_docs z.docs) (b : RdS W' v_subs z.subs) (c : HubSz z) => impl_copyHub_c z v_docs v_subs W' a b c
  have hF0 := fun (W' : World) (b : RdS W' v_subs z.subs) => impl_HubSub_c z v_docs v_subs id W' b
  obtain ⟨sh, hsh⟩ : ∃ sh : Bool, z.shut = sh := ⟨_, rfl⟩
  simp only [hsh] at hOK hCP hF0
  rw [hsh]
  have HOK := Lib.hid hOK
  have HCP := Lib.hid hCP
  have HF0 := Lib.hid hF0
  clear hOK hCP hF0
  by_cases h1 : hubOk z = true
  rotate_left
  · have h1 : hubOk z = false := by simpa using h1
    have HV := Lib.hid (hubPoll_no (z := z) (id := id) (n := n) fun h => by rw [h1] at h; cases h.1)
    go_enter Tryz.func22, Tryz.ntmps22
    go_wp2_with fail
    refine (HF0.out _ (h_subs.below (((Below.refl w.heap.size w).alloc om _).alloc om _))).mono ?_
    rintro e' w1 ⟨rfl, hb1⟩
    have s1 : w.heap.size + 2 ≤ w1.heap.size := by have := hb1.size; (try simp at this); omega
    have HBN : Hid (Below w.heap.size w w1) := Lib.hid ((((Below.refl w.heap.size w).alloc om _).alloc om _).trans (hb1.mono om))
    have HBW := HBN
    clear HBN
    have HXz : Hid (Bx w1 (w.heap.size) [.bool sh, v_docs, v_subs, .int .i64 z.last]) := Lib.hid (((Bx.new (by first | rfl | simp | omega)).alloc _).at hb1)
    obtain ⟨Zz, Kz0, Kz1, Kz2, Kz3⟩ := HXz.out.o4
    have HXr : Hid (Bx w1 (w.heap.size + 1) [.bool false, .slice none 0 0, .slice none 0 0, .int .i64 0]) := Lib.hid ((Bx.new (by first | rfl | simp | omega)).at hb1)
    obtain ⟨Zr, Kr0, Kr1, Kr2, Kr3, Gr0, Gr1, Gr2, Gr3⟩ := HXr.out.q4
    clear hb1
    go_wp2_with fail
    refine (HOK.out _ (h_docs.below HBW.out) (h_subs.below HBW.out)).mono ?_
    rintro e' w2 ⟨rfl, hb2⟩
    rw [h1]
    have s2 : w1.heap.size ≤ w2.heap.size := by have := hb2.size; (try simp at this); omega
    have HBN : Hid (Below w.heap.size w w2) := Lib.hid (HBW.out.trans (hb2.mono om))
    clear HBW
    have HBW := HBN
    clear HBN
    replace HXz : Hid (Bx w2 (w.heap.size) [.bool sh, v_docs, v_subs, .int .i64 z.last]) := Lib.hid (HXz.out.at hb2)
    clear Zz Kz0 Kz1 Kz2 Kz3
    obtain ⟨Zz, Kz0, Kz1, Kz2, Kz3⟩ := HXz.out.o4
    replace HXr : Hid (Bx w2 (w.heap.size + 1) [.bool false, .slice none 0 0, .slice none 0 0, .int .i64 0]) := Lib.hid (HXr.out.at hb2)
    clear Zr Kr0 Kr1 Kr2 Kr3 Gr0 Gr1 Gr2 Gr3
    obtain ⟨Zr, Kr0, Kr1, Kr2, Kr3, Gr0, Gr1, Gr2, Gr3⟩ := HXr.out.q4
    clear hb2
    go_wp2
    have HB : Hid (Below w.heap.size w ((((w2.setCell ⟨w.heap.size + 1, 0, none⟩ (.bool false)).setCell ⟨w.heap.size + 1, 1, none⟩ (.slice none 0 0)).setCell ⟨w.heap.size + 1, 2, none⟩ (.slice none 0 0)).setCell ⟨w.heap.size + 1, 3, none⟩ (.int .i64 0))) := Lib.hid ((((HBW.out.setCell (p := ⟨w.heap.size + 1, 0, none⟩) om _).setCell (p := ⟨w.heap.size + 1, 1, none⟩) om _).setCell (p := ⟨w.heap.size + 1, 2, none⟩) om _).setCell (p := ⟨w.heap.size + 1, 3, none⟩) om _)
    rw [HV.out]
    exact bodyPost_ret (v := .tuple #[.agg #[.bool false, .slice none 0 0, .slice none 0 0, .int .i64 0], .slice none 0 0, .int .i64 1]) (by simp [results, Tryz.results22, go_sem, cell_setCell, *]) rfl (out_hub0_es_i HB.out)
  have HZ := Lib.hid (hubSz h1)
  by_cases h2 : 1 ≤ n
  rotate_left
  · have HV := Lib.hid (hubPoll_no (z := z) (id := id) (n := n) fun h => h2 h.2)
    have h2 : n < 1 := by omega
    go_enter Tryz.func22, Tryz.ntmps22
    go_wp2_with fail
    refine (HF0.out _ (h_subs.below (((Below.refl w.heap.size w).alloc om _).alloc om _))).mono ?_
    rintro e' w1 ⟨rfl, hb1⟩
    have s1 : w.heap.size + 2 ≤ w1.heap.size := by have := hb1.size; (try simp at this); omega
    have HBN : Hid (Below w.heap.size w w1) := Lib.hid ((((Below.refl w.heap.size w).alloc om _).alloc om _).trans (hb1.mono om))
    have HBW := HBN
    clear HBN
    have HXz : Hid (Bx w1 (w.heap.size) [.bool sh, v_docs, v_subs, .int .i64 z.last]) := Lib.hid (((Bx.new (by first | rfl | simp | omega)).alloc _).at hb1)
    obtain ⟨Zz, Kz0, Kz1, Kz2, Kz3⟩ := HXz.out.o4
    have HXr : Hid (Bx w1 (w.heap.size + 1) [.bool false, .slice none 0 0, .slice none 0 0, .int .i64 0]) := Lib.hid ((Bx.new (by first | rfl | simp | omega)).at hb1)
    obtain ⟨Zr, Kr0, Kr1, Kr2, Kr3, Gr0, Gr1, Gr2, Gr3⟩ := HXr.out.q4
    clear hb1
    go_wp2_with fail
    refine (HOK.out _ (h_docs.below HBW.out) (h_subs.below HBW.out)).mono ?_
    rintro e' w2 ⟨rfl, hb2⟩
    rw [h1]
    have s2 : w1.heap.size ≤ w2.heap.size := by have := hb2.size; (try simp at this); omega
    have HBN : Hid (Below w.heap.size w w2) := Lib.hid (HBW.out.trans (hb2.mono om))
    clear HBW
    have HBW := HBN
    clear HBN
    replace HXz : Hid (Bx w2 (w.heap.size) [.bool sh, v_docs, v_subs, .int .i64 z.last]) := Lib.hid (HXz.out.at hb2)
    clear Zz Kz0 Kz1 Kz2 Kz3
    obtain ⟨Zz, Kz0, Kz1, Kz2, Kz3⟩ := HXz.out.o4
    replace HXr : Hid (Bx w2 (w.heap.size + 1) [.bool false, .slice none 0 0, .slice none 0 0, .int .i64 0]) := Lib.hid (HXr.out.at hb2)
    clear Zr Kr0 Kr1 Kr2 Kr3 Gr0 Gr1 Gr2 Gr3
    obtain ⟨Zr, Kr0, Kr1, Kr2, Kr3, Gr0, Gr1, Gr2, Gr3⟩ := HXr.out.q4
    clear hb2
    go_wp2
    have HB : Hid (Below w.heap.size w ((((w2.setCell ⟨w.heap.size + 1, 0, none⟩ (.bool false)).setCell ⟨w.heap.size + 1, 1, none⟩ (.slice none 0 0)).setCell ⟨w.heap.size + 1, 2, none⟩ (.slice none 0 0)).setCell ⟨w.heap.size + 1, 3, none⟩ (.int .i64 0))) := Lib.hid ((((HBW.out.setCell (p := ⟨w.heap.size + 1, 0, none⟩) om _).setCell (p := ⟨w.heap.size + 1, 1, none⟩) om _).setCell (p := ⟨w.heap.size + 1, 2, none⟩) om _).setCell (p := ⟨w.heap.size + 1, 3, none⟩) om _)
    rw [HV.out]
    exact bodyPost_ret (v := .tuple #[.agg #[.bool false, .slice none 0 0, .slice none 0 0, .int .i64 0], .slice none 0 0, .int .i64 1]) (by simp [results, Tryz.results22, go_sem, cell_setCell, *]) rfl (out_hub0_es_i HB.out)
  have h2a : ¬ n < 1 := by omega
  by_cases h3 : hubSub z id < 0
  · have HV := Lib.hid (hubPoll_sub (n := n) ⟨h1, h2⟩ h3)
    go_enter Tryz.func22, Tryz.ntmps22
    go_wp2_with fail
    refine (HF0.out _ (h_subs.below (((Below.refl w.heap.size w).alloc om _).alloc om _))).mono ?_
    rintro e' w1 ⟨rfl, hb1⟩
    have s1 : w.heap.size + 2 ≤ w1.heap.size := by have := hb1.size; (try simp at this); omega
    have HBN : Hid (Below w.heap.size w w1) := Lib.hid ((((Below.refl w.heap.size w).alloc om _).alloc om _).trans (hb1.mono om))
    have HBW := HBN
    clear HBN
    have HXz : Hid (Bx w1 (w.heap.size) [.bool sh, v_docs, v_subs, .int .i64 z.last]) := Lib.hid (((Bx.new (by first | rfl | simp | omega)).alloc _).at hb1)
    obtain ⟨Zz, Kz0, Kz1, Kz2, Kz3⟩ := HXz.out.o4
    have HXr : Hid (Bx w1 (w.heap.size + 1) [.bool false, .slice none 0 0, .slice none 0 0, .int .i64 0]) := Lib.hid ((Bx.new (by first | rfl | simp | omega)).at hb1)
    obtain ⟨Zr, Kr0, Kr1, Kr2, Kr3, Gr0, Gr1, Gr2, Gr3⟩ := HXr.out.q4
    clear hb1
    go_wp2_with fail
    refine (HOK.out _ (h_docs.below HBW.out) (h_subs.below HBW.out)).mono ?_
    rintro e' w2 ⟨rfl, hb2⟩
    rw [h1]
    have s2 : w1.heap.size ≤ w2.heap.size := by have := hb2.size; (try simp at this); omega
    have HBN : Hid (Below w.heap.size w w2) := Lib.hid (HBW.out.trans (hb2.mono om))
    clear HBW
    have HBW := HBN
    clear HBN
    replace HXz : Hid (Bx w2 (w.heap.size) [.bool sh, v_docs, v_subs, .int .i64 z.last]) := Lib.hid (HXz.out.at hb2)
    clear Zz Kz0 Kz1 Kz2 Kz3
    obtain ⟨Zz, Kz0, Kz1, Kz2, Kz3⟩ := HXz.out.o4
    replace HXr : Hid (Bx w2 (w.heap.size + 1) [.bool false, .slice none 0 0, .slice none 0 0, .int .i64 0]) := Lib.hid (HXr.out.at hb2)
    clear Zr Kr0 Kr1 Kr2 Kr3 Gr0 Gr1 Gr2 Gr3
    obtain ⟨Zr, Kr0, Kr1, Kr2, Kr3, Gr0, Gr1, Gr2, Gr3⟩ := HXr.out.q4
    clear hb2
    go_wp2
    have HB : Hid (Below w.heap.size w ((((w2.setCell ⟨w.heap.size + 1, 0, none⟩ (.bool false)).setCell ⟨w.heap.size + 1, 1, none⟩ (.slice none 0 0)).setCell ⟨w.heap.size + 1, 2, none⟩ (.slice none 0 0)).setCell ⟨w.heap.size + 1, 3, none⟩ (.int .i64 0))) := Lib.hid ((((HBW.out.setCell (p := ⟨w.heap.size + 1, 0, none⟩) om _).setCell (p := ⟨w.heap.size + 1, 1, none⟩) om _).setCell (p := ⟨w.heap.size + 1, 2, none⟩) om _).setCell (p := ⟨w.heap.size + 1, 3, none⟩) om _)
    rw [HV.out]
    exact bodyPost_ret (v := .tuple #[.agg #[.bool false, .slice none 0 0, .slice none 0 0, .int .i64 0], .slice none 0 0, .int .i64 8]) (by simp [results, Tryz.results22, go_sem, cell_setCell, *]) rfl (out_hub0_es_i HB.out)
  obtain ⟨k, s, hk, hs⟩ := hubSub_get h3
  have HK := Lib.hid hk
  have HD := Lib.hid hs
  have bs := (hubOk_iff.1 h1).ns
  have kl := (List.getElem?_eq_some_iff.1 hs).1
  have hrs := (ringOk_sz ((hubOk_iff.1 h1).ring (List.mem_of_getElem? hs))).1
  obtain ⟨⟨rr, ll, cc⟩, hp⟩ : ∃ p, ringPoll s.r n = p := ⟨_, rfl⟩
  have hRP := fun (W' : World) (v : Value) (a : RdS W' v s.r.list) => (by have := impl_RingPoll_c s.r n v W' a hrs; rw [hp] at this; exact this : Calls Tryz.prog 90 #[.agg #[.int .i64 s.r.cap, .int .i64 s.r.next, .bool s.r.out, v], .int .i64 n] W' (Out_Ring_EntryS_i W' rr ll cc))
  have HRP := Lib.hid hRP
  clear hRP
  by_cases hc : cc = 0
  rotate_left
  · have HV := Lib.hid (hubPoll_code ⟨h1, h2⟩ hk hs hp hc)
    have c1 : (cc == 0) = false := by simp; omega
    have c2 : (cc != 0) = true := by simp; omega
    clear hk hs hp hc h3
    go_enter Tryz.func22, Tryz.ntmps22
    go_wp2_with fail
    refine (HF0.out _ (h_subs.below (((Below.refl w.heap.size w).alloc om _).alloc om _))).mono ?_
    rintro e' w1 ⟨rfl, hb1⟩
    rw [HK.out]
    have s1 : w.heap.size + 2 ≤ w1.heap.size := by have := hb1.size; (try simp at this); omega
    have HBN : Hid (Below w.heap.size w w1) := Lib.hid ((((Below.refl w.heap.size w).alloc om _).alloc om _).trans (hb1.mono om))
    have HBW := HBN
    clear HBN
    have HXz : Hid (Bx w1 (w.heap.size) [.bool sh, v_docs, v_subs, .int .i64 z.last]) := Lib.hid (((Bx.new (by first | rfl | simp | omega)).alloc _).at hb1)
    obtain ⟨Zz, Kz0, Kz1, Kz2, Kz3⟩ := HXz.out.o4
    have HXr : Hid (Bx w1 (w.heap.size + 1) [.bool false, .slice none 0 0, .slice none 0 0, .int .i64 0]) := Lib.hid ((Bx.new (by first | rfl | simp | omega)).at hb1)
    obtain ⟨Zr, Kr0, Kr1, Kr2, Kr3, Gr0, Gr1, Gr2, Gr3⟩ := HXr.out.q4
    clear hb1
    go_wp2_with fail
    refine (HOK.out _ (h_docs.below HBW.out) (h_subs.below HBW.out)).mono ?_
    rintro e' w2 ⟨rfl, hb2⟩
    rw [h1]
    have s2 : w1.heap.size ≤ w2.heap.size := by have := hb2.size; (try simp at this); omega
    have HBN : Hid (Below w.heap.size w w2) := Lib.hid (HBW.out.trans (hb2.mono om))
    clear HBW
    have HBW := HBN
    clear HBN
    replace HXz : Hid (Bx w2 (w.heap.size) [.bool sh, v_docs, v_subs, .int .i64 z.last]) := Lib.hid (HXz.out.at hb2)
    clear Zz Kz0 Kz1 Kz2 Kz3
    obtain ⟨Zz, Kz0, Kz1, Kz2, Kz3⟩ := HXz.out.o4
    replace HXr : Hid (Bx w2 (w.heap.size + 1) [.bool false, .slice none 0 0, .slice none 0 0, .int .i64 0]) := Lib.hid (HXr.out.at hb2)
    clear Zr Kr0 Kr1 Kr2 Kr3 Gr0 Gr1 Gr2 Gr3
    obtain ⟨Zr, Kr0, Kr1, Kr2, Kr3, Gr0, Gr1, Gr2, Gr3⟩ := HXr.out.q4
    clear hb2
    obtain ⟨b1, o1, cs, g1, g2, g3⟩ := (h_subs.below HBW.out).idx Tryz.underlying28 szi_DSub k HD.out
    obtain ⟨v_rl, rfl, nd, r_rl⟩ := inv_DSub g3
    have q0 := g2.zero
    have q1 := g2 1 _ rfl
    have q2 := g2 2 _ rfl
    have q3 := g2 3 _ rfl
    have q4 := g2 4 _ rfl
    have q5 := g2 5 _ rfl
    have l1 : b1 < w2.heap.size := World.block_lt_of_cell? (w := w2) (a := ⟨b1, o1, none⟩) q0
    obtain ⟨arl, crl, rfl⟩ := r_rl.isSlice
    clear g2 g3
    go_wp2_with fail
    refine (HRP.out _ _ r_rl).mono ?_
    rintro e' w3 ⟨vr, vl, fr, fl, rfl, sr, sl, kr, hb3⟩
    obtain ⟨ar, cr, rfl⟩ := sr.isS
    obtain ⟨al, cl, rfl⟩ := sl.isS
    have HTW : Hid (Two (w2.heap.size) w3.heap.size w3 (.slice ar rr.list.length cr) (.slice al ll.length cl) rr.list ll fr fl) := Lib.hid ⟨sr, sl, kr, Live.lt (Live.append.2 ⟨sr.live, sl.live⟩)⟩
    clear sr sl kr
    have s3 : w2.heap.size ≤ w3.heap.size := by have := hb3.size; (try simp at this); omega
    have HBN : Hid (Below w.heap.size w w3) := Lib.hid (HBW.out.trans (hb3.mono om))
    clear HBW
    have HBW := HBN
    clear HBN
    replace HXz : Hid (Bx w3 (w.heap.size) [.bool sh, v_docs, v_subs, .int .i64 z.last]) := Lib.hid (HXz.out.at hb3)
    clear Zz Kz0 Kz1 Kz2 Kz3
    obtain ⟨Zz, Kz0, Kz1, Kz2, Kz3⟩ := HXz.out.o4
    replace HXr : Hid (Bx w3 (w.heap.size + 1) [.bool false, .slice none 0 0, .slice none 0 0, .int .i64 0]) := Lib.hid (HXr.out.at hb3)
    clear Zr Kr0 Kr1 Kr2 Kr3 Gr0 Gr1 Gr2 Gr3
    obtain ⟨Zr, Kr0, Kr1, Kr2, Kr3, Gr0, Gr1, Gr2, Gr3⟩ := HXr.out.q4
    clear hb3
    clear g1 q0 q1 q2 q3 q4 q5 l1 r_rl
    go_wp2
    have HB : Hid (Below w.heap.size w (((((w3.setCell ⟨w.heap.size + 1, 0, none⟩ (.bool false)).setCell ⟨w.heap.size + 1, 1, none⟩ (.slice none 0 0)).setCell ⟨w.heap.size + 1, 2, none⟩ (.slice none 0 0)).setCell ⟨w.heap.size + 1, 3, none⟩ (.int .i64 0)).alloc (.cells #[.int .i64 rr.cap, .int .i64 rr.next, .bool rr.out, .slice ar rr.list.length cr] 117))) := Lib.hid (((((HBW.out.setCell (p := ⟨w.heap.size + 1, 0, none⟩) om _).setCell (p := ⟨w.heap.size + 1, 1, none⟩) om _).setCell (p := ⟨w.heap.size + 1, 2, none⟩) om _).setCell (p := ⟨w.heap.size + 1, 3, none⟩) om _).alloc om _)
    rw [HV.out]
    exact bodyPost_ret (v := .tuple #[.agg #[.bool false, .slice none 0 0, .slice none 0 0, .int .i64 0], .slice none 0 0, .int .i64 cc]) (by simp [results, Tryz.results22, go_sem, cell_setCell, *]) rfl (out_hub0_es_i HB.out)
  subst hc
  have HV := Lib.hid (hubPoll_yes ⟨h1, h2⟩ hk hs hp)
  clear hk hs hp h3
  go_enter Tryz.func22, Tryz.ntmps22
  go_wp2_with fail
  refine (HF0.out _ (h_subs.below (((Below.refl w.heap.size w).alloc om _).alloc om _))).mono ?_
  rintro e' w1 ⟨rfl, hb1⟩
  rw [HK.out]
  have s1 : w.heap.size + 2 ≤ w1.heap.size := by have := hb1.size; (try simp at this); omega
  have HBN : Hid (Below w.heap.size w w1) := Lib.hid ((((Below.refl w.heap.size w).alloc om _).alloc om _).trans (hb1.mono om))
  have HBW := HBN
  clear HBN
  have HXz : Hid (Bx w1 (w.heap.size) [.bool sh, v_docs, v_subs, .int .i64 z.last]) := Lib.hid (((Bx.new (by first | rfl | simp | omega)).alloc _).at hb1)
  obtain ⟨Zz, Kz0, Kz1, Kz2, Kz3⟩ := HXz.out.o4
  have HXr : Hid (Bx w1 (w.heap.size + 1) [.bool false, .slice none 0 0, .slice none 0 0, .int .i64 0]) := Lib.hid ((Bx.new (by first | rfl | simp | omega)).at hb1)
  obtain ⟨Zr, Kr0, Kr1, Kr2, Kr3, Gr0, Gr1, Gr2, Gr3⟩ := HXr.out.q4
  clear hb1
  go_wp2_with fail
  refine (HOK.out _ (h_docs.below HBW.out) (h_subs.below HBW.out)).mono ?_
  rintro e' w2 ⟨rfl, hb2⟩
  rw [h1]
  have s2 : w1.heap.size ≤ w2.heap.size := by have := hb2.size; (try simp at this); omega
  have HBN : Hid (Below w.heap.size w w2) := Lib.hid (HBW.out.trans (hb2.mono om))
  clear HBW
  have HBW := HBN
  clear HBN
  replace HXz : Hid (Bx w2 (w.heap.size) [.bool sh, v_docs, v_subs, .int .i64 z.last]) := Lib.hid (HXz.out.at hb2)
  clear Zz Kz0 Kz1 Kz2 Kz3
  obtain ⟨Zz, Kz0, Kz1, Kz2, Kz3⟩ := HXz.out.o4
  replace HXr : Hid (Bx w2 (w.heap.size + 1) [.bool false, .slice none 0 0, .slice none 0 0, .int .i64 0]) := Lib.hid (HXr.out.at hb2)
  clear Zr Kr0 Kr1 Kr2 Kr3 Gr0 Gr1 Gr2 Gr3
  obtain ⟨Zr, Kr0, Kr1, Kr2, Kr3, Gr0, Gr1, Gr2, Gr3⟩ := HXr.out.q4
  clear hb2
  obtain ⟨b1, o1, cs, g1, g2, g3⟩ := (h_subs.below HBW.out).idx Tryz.underlying28 szi_DSub k HD.out
  obtain ⟨v_rl, rfl, nd, r_rl⟩ := inv_DSub g3
  have q0 := g2.zero
  have q1 := g2 1 _ rfl
  have q2 := g2 2 _ rfl
  have q3 := g2 3 _ rfl
  have q4 := g2 4 _ rfl
  have q5 := g2 5 _ rfl
  have l1 : b1 < w2.heap.size := World.block_lt_of_cell? (w := w2) (a := ⟨b1, o1, none⟩) q0
  obtain ⟨arl, crl, rfl⟩ := r_rl.isSlice
  clear g2 g3
  go_wp2_with fail
  refine (HRP.out _ _ r_rl).mono ?_
  rintro e' w3 ⟨vr, vl, fr, fl, rfl, sr, sl, kr, hb3⟩
  obtain ⟨ar, cr, rfl⟩ := sr.isS
  obtain ⟨al, cl, rfl⟩ := sl.isS
  have HTW : Hid (Two (w2.heap.size) w3.heap.size w3 (.slice ar rr.list.length cr) (.slice al ll.length cl) rr.list ll fr fl) := Lib.hid ⟨sr, sl, kr, Live.lt (Live.append.2 ⟨sr.live, sl.live⟩)⟩
  clear sr sl kr
  have s3 : w2.heap.size ≤ w3.heap.size := by have := hb3.size; (try simp at this); omega
  have HBN : Hid (Below w.heap.size w w3) := Lib.hid (HBW.out.trans (hb3.mono om))
  clear HBW
  have HBW := HBN
  clear HBN
  replace HXz : Hid (Bx w3 (w.heap.size) [.bool sh, v_docs, v_subs, .int .i64 z.last]) := Lib.hid (HXz.out.at hb3)
  clear Zz Kz0 Kz1 Kz2 Kz3
  obtain ⟨Zz, Kz0, Kz1, Kz2, Kz3⟩ := HXz.out.o4
  replace HXr : Hid (Bx w3 (w.heap.size + 1) [.bool false, .slice none 0 0, .slice none 0 0, .int .i64 0]) := Lib.hid (HXr.out.at hb3)
  clear Zr Kr0 Kr1 Kr2 Kr3 Gr0 Gr1 Gr2 Gr3
  obtain ⟨Zr, Kr0, Kr1, Kr2, Kr3, Gr0, Gr1, Gr2, Gr3⟩ := HXr.out.q4
  clear hb3
  clear g1 q0 q1 q2 q3 q4 q5 l1 r_rl
  go_wp2_with fail
  refine (HCP.out _ (h_docs.below (HBW.out.alloc om _)) (h_subs.below (HBW.out.alloc om _)) HZ.out).mono ?_
  rintro e' w4 ⟨_, rfl, ho4, hb4⟩
  obtain ⟨vd, vs, rfl, hown⟩ := HubOwn.of_own ho4
  rw [hsh]
  obtain ⟨ad, cd, rfl⟩ := hown.rd1.isSlice
  obtain ⟨as_, cs_, rfl⟩ := hown.rd2.isSlice
  have HOWN := Lib.hid (hown.mono (C' := w3.heap.size + 1) om)
  clear ho4 hown
  have s4 : w3.heap.size + 1 ≤ w4.heap.size := by have := hb4.size; (try simp at this); omega
  have HBN : Hid (Below w.heap.size w w4) := Lib.hid ((HBW.out.alloc om _).trans (hb4.mono om))
  clear HBW
  have HBW := HBN
  clear HBN
  replace HTW : Hid (Two (w2.heap.size) w3.heap.size w4 (.slice ar rr.list.length cr) (.slice al ll.length cl) rr.list ll fr fl) := Lib.hid (((HTW.out.alloc om _).below (hb4.mono om)))
  replace HXz : Hid (Bx w4 (w.heap.size) [.bool sh, v_docs, v_subs, .int .i64 z.last]) := Lib.hid ((HXz.out.alloc _).at hb4)
  clear Zz Kz0 Kz1 Kz2 Kz3
  obtain ⟨Zz, Kz0, Kz1, Kz2, Kz3⟩ := HXz.out.o4
  replace HXr : Hid (Bx w4 (w.heap.size + 1) [.bool false, .slice none 0 0, .slice none 0 0, .int .i64 0]) := Lib.hid ((HXr.out.alloc _).at hb4)
  clear Zr Kr0 Kr1 Kr2 Kr3 Gr0 Gr1 Gr2 Gr3
  obtain ⟨Zr, Kr0, Kr1, Kr2, Kr3, Gr0, Gr1, Gr2, Gr3⟩ := HXr.out.q4
  have HXg : Hid (Bx w4 (w3.heap.size) [.int .i64 rr.cap, .int .i64 rr.next, .bool rr.out, .slice ar rr.list.length cr]) := Lib.hid ((Bx.new (by first | rfl | simp | omega)).at hb4)
  obtain ⟨Zg, Kg0, Kg1, Kg2, Kg3, Gg0, Gg1, Gg2, Gg3⟩ := HXg.out.q4
  clear hb4
  go_upto_region 10 with (fail)
  obtain ⟨V, hV⟩ : ∃ V : World, V = (w4.alloc (.cells #[.bool sh, .slice ad z.docs.length cd, .slice as_ z.subs.length cs_, .int .i64 z.last] 30)) := ⟨_, rfl⟩
  have sV : w4.heap.size + 1 ≤ V.heap.size := by rw [hV]; first | (simp; done) | (simp; omega)
  have HBN : Hid (Below w.heap.size w V) := Lib.hid (by rw [hV]; exact (HBW.out.alloc om _))
  clear HBW
  have HBW := HBN
  clear HBN
  replace HTW : Hid (Two (w2.heap.size) w3.heap.size V (.slice ar rr.list.length cr) (.slice al ll.length cl) rr.list ll fr fl) := Lib.hid (by rw [hV]; exact (HTW.out.alloc om _))
  replace HOWN : Hid (HubOwn (w3.heap.size + 1) (w4.heap.size) V (.slice ad z.docs.length cd) (.slice as_ z.subs.length cs_) (z.docs) (z.subs)) := Lib.hid (by rw [hV]; exact (HOWN.out.alloc om _))
  replace HXz : Hid (Bx V (w.heap.size) [.bool sh, v_docs, v_subs, .int .i64 z.last]) := Lib.hid (by rw [hV]; exact (HXz.out.alloc _))
  clear Zz Kz0 Kz1 Kz2 Kz3
  obtain ⟨Zz, Kz0, Kz1, Kz2, Kz3⟩ := HXz.out.o4
  replace HXr : Hid (Bx V (w.heap.size + 1) [.bool false, .slice none 0 0, .slice none 0 0, .int .i64 0]) := Lib.hid (by rw [hV]; exact (HXr.out.alloc _))
  clear Zr Kr0 Kr1 Kr2 Kr3 Gr0 Gr1 Gr2 Gr3
  obtain ⟨Zr, Kr0, Kr1, Kr2, Kr3, Gr0, Gr1, Gr2, Gr3⟩ := HXr.out.q4
  replace HXg : Hid (Bx V (w3.heap.size) [.int .i64 rr.cap, .int .i64 rr.next, .bool rr.out, .slice ar rr.list.length cr]) := Lib.hid (by rw [hV]; exact (HXg.out.alloc _))
  clear Zg Kg0 Kg1 Kg2 Kg3 Gg0 Gg1 Gg2 Gg3
  obtain ⟨Zg, Kg0, Kg1, Kg2, Kg3, Gg0, Gg1, Gg2, Gg3⟩ := HXg.out.q4
  have HXo : Hid (Bx V (w4.heap.size) [.bool sh, .slice ad z.docs.length cd, .slice as_ z.subs.length cs_, .int .i64 z.last]) := Lib.hid (by rw [hV]; exact (Bx.new (by first | rfl | simp | omega)))
  obtain ⟨Zo, Ko0, Ko1, Ko2, Ko3, Go0, Go1, Go2, Go3⟩ := HXo.out.q4
  rw [← hV]
  clear hV
  obtain ⟨b2, o2, vq, i1, i2, i3, i4, i5, i6, i7, i8⟩ := HOWN.out.el (B := w2.heap.size) (by omega) Tryz.underlying28 szi_DSub HD.out
  have HI8 := Lib.hid i8
  have HI5 := Lib.hid i5
  have y2 : V.cell? ⟨b2, o2 + 2, none⟩ = some _ := i5 2 _ rfl
  have x2 : V.frozen? ⟨b2, o2 + 2, none⟩ = false := i7 2 (by omega)
  have y3 : V.cell? ⟨b2, o2 + 2 + 1, none⟩ = some _ := i5 3 _ rfl
  have x3 : V.frozen? ⟨b2, o2 + 2 + 1, none⟩ = false := i7 3 (by omega)
  have y4 : V.cell? ⟨b2, o2 + 2 + 2, none⟩ = some _ := i5 4 _ rfl
  have x4 : V.frozen? ⟨b2, o2 + 2 + 2, none⟩ = false := i7 4 (by omega)
  have y5 : V.cell? ⟨b2, o2 + 2 + 3, none⟩ = some _ := i5 5 _ rfl
  have x5 : V.frozen? ⟨b2, o2 + 2 + 3, none⟩ = false := i7 5 (by omega)
  clear i5 i6 i7 i8
  have HTE : Hid (Two (w2.heap.size) w3.heap.size (((((V.setCell ⟨b2, o2 + 2, none⟩ (.int .i64 rr.cap)).setCell ⟨b2, o2 + 2 + 1, none⟩ (.int .i64 rr.next)).setCell ⟨b2, o2 + 2 + 2, none⟩ (.bool rr.out)).setCell ⟨b2, o2 + 2 + 3, none⟩ (.slice ar rr.list.length cr))) (.slice ar rr.list.length cr) (.slice al ll.length cl) rr.list ll fr fl) := Lib.hid ((((HTW.out.setCell (by omega) _).setCell (by omega) _).setCell (by omega) _).setCell (by omega) _)
  have HWE : Hid (Wr (own b2 o2 6) V (((((V.setCell ⟨b2, o2 + 2, none⟩ (.int .i64 rr.cap)).setCell ⟨b2, o2 + 2 + 1, none⟩ (.int .i64 rr.next)).setCell ⟨b2, o2 + 2 + 2, none⟩ (.bool rr.out)).setCell ⟨b2, o2 + 2 + 3, none⟩ (.slice ar rr.list.length cr)))) := Lib.hid (((((Wr.refl _ _).put (b := b2) (o := o2 + 2) (mem_own.2 ⟨rfl, by simp only; omega, by simp only; omega⟩) (.int .i64 rr.cap)).put (b := b2) (o := o2 + 2 + 1) (mem_own.2 ⟨rfl, by simp only; omega, by simp only; omega⟩) (.int .i64 rr.next)).put (b := b2) (o := o2 + 2 + 2) (mem_own.2 ⟨rfl, by simp only; omega, by simp only; omega⟩) (.bool rr.out)).put (b := b2) (o := o2 + 2 + 3) (mem_own.2 ⟨rfl, by simp only; omega, by simp only; omega⟩) (.slice ar rr.list.length cr))
  have HAE : Hid (At (((((V.setCell ⟨b2, o2 + 2, none⟩ (.int .i64 rr.cap)).setCell ⟨b2, o2 + 2 + 1, none⟩ (.int .i64 rr.next)).setCell ⟨b2, o2 + 2 + 2, none⟩ (.bool rr.out)).setCell ⟨b2, o2 + 2 + 3, none⟩ (.slice ar rr.list.length cr))) b2 o2 [.int .i64 s.id, .string s.doc, .int .i64 rr.cap, .int .i64 rr.next, .bool rr.out, .slice ar rr.list.length cr]) := Lib.hid ((((HI5.out.put 2 (by simp) (.int .i64 rr.cap)).put 3 (by simp) (.int .i64 rr.next)).put 4 (by simp) (.bool rr.out)).put 5 (by simp) (.slice ar rr.list.length cr))
  obtain ⟨fd, fs, sd, ss, hf, hm⟩ := HI8.out (((((V.setCell ⟨b2, o2 + 2, none⟩ (.int .i64 rr.cap)).setCell ⟨b2, o2 + 2 + 1, none⟩ (.int .i64 rr.next)).setCell ⟨b2, o2 + 2 + 2, none⟩ (.bool rr.out)).setCell ⟨b2, o2 + 2 + 3, none⟩ (.slice ar rr.list.length cr))) rr (.slice ar rr.list.length cr) fr HWE.out HAE.out HTE.out.1 HTE.out.2.2.1.left (fun p hp => by have := HTE.out.2.2.2 p (List.mem_append_left _ hp); omega)
  have HH : Hid (Two (w2.heap.size) w4.heap.size (((((V.setCell ⟨b2, o2 + 2, none⟩ (.int .i64 rr.cap)).setCell ⟨b2, o2 + 2 + 1, none⟩ (.int .i64 rr.next)).setCell ⟨b2, o2 + 2 + 2, none⟩ (.bool rr.out)).setCell ⟨b2, o2 + 2 + 3, none⟩ (.slice ar rr.list.length cr))) (.slice ad z.docs.length cd) (.slice as_ z.subs.length cs_) z.docs (z.subs.set k ⟨s.id, s.doc, rr⟩) fd fs) := Lib.hid ⟨sd, ss, hf, fun p hp => by rcases hm p hp with h | h; omega; have := HTE.out.2.2.2 p (List.mem_append_left _ h); omega⟩
  have HM := Lib.hid hm
  clear sd ss hf hm HI8 HI5
  have HB : Hid (Below w.heap.size w ((((((((V.setCell ⟨b2, o2 + 2, none⟩ (.int .i64 rr.cap)).setCell ⟨b2, o2 + 2 + 1, none⟩ (.int .i64 rr.next)).setCell ⟨b2, o2 + 2 + 2, none⟩ (.bool rr.out)).setCell ⟨b2, o2 + 2 + 3, none⟩ (.slice ar rr.list.length cr)).setCell ⟨w.heap.size + 1, 0, none⟩ (.bool sh)).setCell ⟨w.heap.size + 1, 1, none⟩ (.slice ad z.docs.length cd)).setCell ⟨w.heap.size + 1, 2, none⟩ (.slice as_ z.subs.length cs_)).setCell ⟨w.heap.size + 1, 3, none⟩ (.int .i64 z.last))) := Lib.hid ((((((((HBW.out.setCell (p := ⟨b2, o2 + 2, none⟩) om _).setCell (p := ⟨b2, o2 + 2 + 1, none⟩) om _).setCell (p := ⟨b2, o2 + 2 + 2, none⟩) om _).setCell (p := ⟨b2, o2 + 2 + 3, none⟩) om _).setCell (p := ⟨w.heap.size + 1, 0, none⟩) om _).setCell (p := ⟨w.heap.size + 1, 1, none⟩) om _).setCell (p := ⟨w.heap.size + 1, 2, none⟩) om _).setCell (p := ⟨w.heap.size + 1, 3, none⟩) om _)
  have HA := Lib.hid ((((HTE.out.setCell (b := w.heap.size + 1) (o := 0) (.inl (by omega)) (.bool sh)).setCell (b := w.heap.size + 1) (o := 1) (.inl (by omega)) (.slice ad z.docs.length cd)).setCell (b := w.heap.size + 1) (o := 2) (.inl (by omega)) (.slice as_ z.subs.length cs_)).setCell (b := w.heap.size + 1) (o := 3) (.inl (by omega)) (.int .i64 z.last))
  have HC := Lib.hid ((((HH.out.setCell (b := w.heap.size + 1) (o := 0) (.inl (by omega)) (.bool sh)).setCell (b := w.heap.size + 1) (o := 1) (.inl (by omega)) (.slice ad z.docs.length cd)).setCell (b := w.heap.size + 1) (o := 2) (.inl (by omega)) (.slice as_ z.subs.length cs_)).setCell (b := w.heap.size + 1) (o := 3) (.inl (by omega)) (.int .i64 z.last))
  go_wp2
  rw [HV.out]
  subst hsh
  have hne : ¬ (w.heap.size + 1 = b2) := by omega
  have hne2 : ¬ (b2 = w.heap.size + 1) := by omega
  exact bodyPost_ret (v := .tuple #[.agg #[.bool z.shut, .slice ad z.docs.length cd, .slice as_ z.subs.length cs_, .int .i64 z.last], .slice al ll.length cl, .int .i64 0]) (by simp [results, Tryz.results22, go_sem, cell_setCell, *]) rfl (out_es (y := ⟨z.shut, z.docs, z.subs.set k (subRing s rr), z.last⟩) HC.out.1 HC.out.2.1 HA.out.2.1 (HC.out.2.2.1.mono (by omega)) (HA.out.2.2.1.right.mono (by omega)) (fun p hp hq => by
      have a1 := HA.out.2.2.2 p (List.mem_append_right _ hp)
      rcases HM.out p hq with h | h
      · omega
      · exact (List.nodup_append.1 HA.out.2.2.1.nodup).2.2 p h p hp rfl) HB.out)
end Go.Proofs.YtddohcdkmhaheaaGreat
