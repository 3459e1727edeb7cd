/- Hubs: subscribe. -/
import Derived.Test.YtddohcdkmhaheaaGreatHow
import Derived.Deep.Cut
import Derived.BigRegion
namespace Go.Proofs.YtddohcdkmhaheaaGreat
open Go.RowKit
attribute [local go_sem ↓] Go.wp_at_zero Go.wp_at_succ
theorem Sl.nilS {α : Type} [GoT α] {M : Nat} {w : World} {v : Value} {f : List Pos} (h : Sl M w v ([] : List α) f) : ∃ a c, v = .slice a 0 c := h.isS
def subNew (z : DHub) (name : ByteArray) (room n : Int) : DSub := ⟨z.last + 1, name, ⟨room, n + 1, false, []⟩⟩
theorem hubSubscribe_no {z : DHub} {name : ByteArray} {room : Int} (h : ¬ (hubOk z = true ∧ within room 1 6 = true)) : hubSubscribe z name room = (hub0, 0, 1) := if_neg h
theorem hubSubscribe_shut {z : DHub} {name : ByteArray} {room : Int} (h : hubOk z = true ∧ within room 1 6 = true) (h2 : z.shut = true) : hubSubscribe z name room = (hub0, 0, 12) := by unfold hubSubscribe; rw [if_pos h, if_pos h2]
theorem hubSubscribe_doc {z : DHub} {name : ByteArray} {room : Int} (h : hubOk z = true ∧ within room 1 6 = true) (h2 : z.shut = false) (h3 : hubDoc z name < 0) : hubSubscribe z name room = (hub0, 0, 6) := by unfold hubSubscribe; rw [if_pos h, if_neg (by simp [h2]), if_pos h3]
theorem hubSubscribe_full {z : DHub} {name : ByteArray} {room : Int} (h : hubOk z = true ∧ within room 1 6 = true) (h2 : z.shut = false) (h3 : ¬ hubDoc z name < 0) (h4 : z.subs.length = 6 ∨ z.last = 1000000000) : hubSubscribe z name room = (hub0, 0, 10) := by unfold hubSubscribe; rw [if_pos h, if_neg (by simp [h2]), if_neg h3, if_pos h4]
theorem ringNew_at {room n : Int} (h : within room 1 6 = true) (h0 : 0 ≤ n) (h1 : n ≤ 999999008) : ringNew room n = (⟨room, n + 1, false, []⟩, true) := by
  have := within_iff.1 h
  refine ringNew_yes (by omega) ?_
  simp [ringOk, ringHead, within]
  omega
theorem hubSubscribe_yes {z : DHub} {name : ByteArray} {room : Int} {k : Nat} {d : DDoc} (h : hubOk z = true ∧ within room 1 6 = true) (h2 : z.shut = false) (hk : hubDoc z name = k) (hd : z.docs[k]? = some d) (h4 : ¬ (z.subs.length = 6 ∨ z.last = 1000000000)) :
    hubSubscribe z name room = (⟨false, z.docs, z.subs ++ [subNew z name room (headRev d)], z.last + 1⟩, z.last + 1, 0) := by
  unfold hubSubscribe
  have hh : headOf z name = headRev d := by simp [headOf, hk, hd]
  have hb := headRev_bd ((hubOk_iff.1 h.1).doc (List.mem_of_getElem? hd))
  rw [if_pos h, if_neg (by simp [h2]), if_neg (by omega), if_neg h4, hh, ringNew_at h.2 hb.1 hb.2.1, h2]
  rfl
theorem hubSubscribe_cnt (z : DHub) (name : ByteArray) (room : Int) : cntL (hubSubscribe z name room).1.docs + cntL (hubSubscribe z name room).1.subs ≤ 5 * (szL z.docs + szL z.subs) + 5 := by
  have := hub_cnt z
  by_cases h : hubOk z = true ∧ within room 1 6 = true
  rotate_left
  · rw [hubSubscribe_no h]; simp [hub0, cntL]
  cases h2 : z.shut
  rotate_left
  · rw [hubSubscribe_shut h h2]; simp [hub0, cntL]
  by_cases h3 : hubDoc z name < 0
  · rw [hubSubscribe_doc h h2 h3]; simp [hub0, cntL]
  by_cases h4 : z.subs.length = 6 ∨ z.last = 1000000000
  · rw [hubSubscribe_full h h2 h3 h4]; simp [hub0, cntL]
  obtain ⟨k, d, hk, hd⟩ := hubDoc_get h3
  rw [hubSubscribe_yes h h2 hk hd h4]
  have e : GoM.cnt (subNew z name room (headRev d)) = 5 := rfl
  simp only [cntL_append, cntL, e]
  omega

set_option maxHeartbeats 8000000 in
set_option maxRecDepth 100000 in
theorem spec_HubSubscribe_c (z : DHub) (v_docs v_subs : Value) (name : ByteArray) (room : Int) (w : World) (h_docs : RdS w v_docs z.docs) (h_subs : RdS w v_subs z.subs) (nn : name.size ≤ BIG) : Calls Tryz.prog 19 #[.agg #[.bool z.shut, v_docs, v_subs, .int .i64 z.last], .string name, .int .i64 room] w (Out_Hub_i_i w (hubSubscribe z name room).1 (hubSubscribe z name room).2.1 (hubSubscribe z name room).2.2) := by
  have hOK := fun (W' : World) (a : RdS W' v_docs z.docs) (b : RdS W' v_subs z.subs) => spec_HubOk_c z v_docs v_subs W' a b
  have hCP := fun (W' : World) (a : RdS W' v_docs z.docs) (b : RdS W' v_subs z.subs) (c : HubSz z) => spec_l11Copy_c z v_docs v_subs W' a b c
  have hF0 := fun (W' : World) (a : RdS W' v_docs z.docs) => spec_HubDoc_c z v_docs v_subs name W' a
  obtain ⟨sh, hsh⟩ : ∃ sh : Bool, z.shut = sh := ⟨_, rfl⟩
  simp only [hsh] at hOK hCP hF0
  rw [hsh]
  have HOK := Lib.hid hOK
  have HCP := Lib.hid hCP
  have HF0 := Lib.hid hF0
  clear hOK hCP hF0
  by_cases h1 : hubOk z = true
  rotate_left
  · have h1 : hubOk z = false := by simpa using h1
    have HV := Lib.hid (hubSubscribe_no (z := z) (name := name) (room := room) fun h => by rw [h1] at h; cases h.1)
    go_enter Tryz.func19, Tryz.ntmps19
    go_wp2_with fail
    refine (HF0.out _ (h_docs.below (((Below.refl w.heap.size w).alloc om _).alloc om _))).mono ?_
    rintro e' w1 ⟨rfl, hb1⟩
    have s1 : w.heap.size + 2 ≤ w1.heap.size := by have := hb1.size; (try simp at this); omega
    have HBN : Hid (Below w.heap.size w w1) := Lib.hid ((((Below.refl w.heap.size w).alloc om _).alloc om _).trans (hb1.mono om))
    have HBW := HBN
    clear HBN
    have HXz : Hid (Bx w1 (w.heap.size) [.bool sh, v_docs, v_subs, .int .i64 z.last]) := Lib.hid (((Bx.new (by first | rfl | simp | omega)).alloc _).at hb1)
    obtain ⟨Zz, Kz0, Kz1, Kz2, Kz3⟩ := HXz.out.o4
    have HXr : Hid (Bx w1 (w.heap.size + 1) [.bool false, .slice none 0 0, .slice none 0 0, .int .i64 0]) := Lib.hid ((Bx.new (by first | rfl | simp | omega)).at hb1)
    obtain ⟨Zr, Kr0, Kr1, Kr2, Kr3, Gr0, Gr1, Gr2, Gr3⟩ := HXr.out.q4
    clear hb1
    go_wp2_with fail
    refine (HOK.out _ (h_docs.below HBW.out) (h_subs.below HBW.out)).mono ?_
    rintro e' w2 ⟨rfl, hb2⟩
    rw [h1]
    have s2 : w1.heap.size ≤ w2.heap.size := by have := hb2.size; (try simp at this); omega
    have HBN : Hid (Below w.heap.size w w2) := Lib.hid (HBW.out.trans (hb2.mono om))
    clear HBW
    have HBW := HBN
    clear HBN
    replace HXz : Hid (Bx w2 (w.heap.size) [.bool sh, v_docs, v_subs, .int .i64 z.last]) := Lib.hid (HXz.out.at hb2)
    clear Zz Kz0 Kz1 Kz2 Kz3
    obtain ⟨Zz, Kz0, Kz1, Kz2, Kz3⟩ := HXz.out.o4
    replace HXr : Hid (Bx w2 (w.heap.size + 1) [.bool false, .slice none 0 0, .slice none 0 0, .int .i64 0]) := Lib.hid (HXr.out.at hb2)
    clear Zr Kr0 Kr1 Kr2 Kr3 Gr0 Gr1 Gr2 Gr3
    obtain ⟨Zr, Kr0, Kr1, Kr2, Kr3, Gr0, Gr1, Gr2, Gr3⟩ := HXr.out.q4
    clear hb2
    go_wp2
    have HB : Hid (Below w.heap.size w ((((w2.setCell ⟨w.heap.size + 1, 0, none⟩ (.bool false)).setCell ⟨w.heap.size + 1, 1, none⟩ (.slice none 0 0)).setCell ⟨w.heap.size + 1, 2, none⟩ (.slice none 0 0)).setCell ⟨w.heap.size + 1, 3, none⟩ (.int .i64 0))) := Lib.hid ((((HBW.out.setCell (p := ⟨w.heap.size + 1, 0, none⟩) om _).setCell (p := ⟨w.heap.size + 1, 1, none⟩) om _).setCell (p := ⟨w.heap.size + 1, 2, none⟩) om _).setCell (p := ⟨w.heap.size + 1, 3, none⟩) om _)
    rw [HV.out]
    exact bodyPost_ret (v := .tuple #[.agg #[.bool false, .slice none 0 0, .slice none 0 0, .int .i64 0], .int .i64 0, .int .i64 1]) (by simp [results, Tryz.results19, go_sem, cell_setCell, *]) rfl (out_hub0_i_i HB.out)
  have HZ := Lib.hid (hubSz h1)
  by_cases h2 : within room 1 6 = true
  rotate_left
  · have h2 : within room 1 6 = false := by simpa using h2
    have HV := Lib.hid (hubSubscribe_no (z := z) (name := name) (room := room) fun h => by rw [h2] at h; cases h.2)
    go_enter Tryz.func19, Tryz.ntmps19
    go_wp2_with fail
    refine (HF0.out _ (h_docs.below (((Below.refl w.heap.size w).alloc om _).alloc om _))).mono ?_
    rintro e' w1 ⟨rfl, hb1⟩
    have s1 : w.heap.size + 2 ≤ w1.heap.size := by have := hb1.size; (try simp at this); omega
    have HBN : Hid (Below w.heap.size w w1) := Lib.hid ((((Below.refl w.heap.size w).alloc om _).alloc om _).trans (hb1.mono om))
    have HBW := HBN
    clear HBN
    have HXz : Hid (Bx w1 (w.heap.size) [.bool sh, v_docs, v_subs, .int .i64 z.last]) := Lib.hid (((Bx.new (by first | rfl | simp | omega)).alloc _).at hb1)
    obtain ⟨Zz, Kz0, Kz1, Kz2, Kz3⟩ := HXz.out.o4
    have HXr : Hid (Bx w1 (w.heap.size + 1) [.bool false, .slice none 0 0, .slice none 0 0, .int .i64 0]) := Lib.hid ((Bx.new (by first | rfl | simp | omega)).at hb1)
    obtain ⟨Zr, Kr0, Kr1, Kr2, Kr3, Gr0, Gr1, Gr2, Gr3⟩ := HXr.out.q4
    clear hb1
    go_wp2_with fail
    refine (HOK.out _ (h_docs.below HBW.out) (h_subs.below HBW.out)).mono ?_
    rintro e' w2 ⟨rfl, hb2⟩
    rw [h1]
    have s2 : w1.heap.size ≤ w2.heap.size := by have := hb2.size; (try simp at this); omega
    have HBN : Hid (Below w.heap.size w w2) := Lib.hid (HBW.out.trans (hb2.mono om))
    clear HBW
    have HBW := HBN
    clear HBN
    replace HXz : Hid (Bx w2 (w.heap.size) [.bool sh, v_docs, v_subs, .int .i64 z.last]) := Lib.hid (HXz.out.at hb2)
    clear Zz Kz0 Kz1 Kz2 Kz3
    obtain ⟨Zz, Kz0, Kz1, Kz2, Kz3⟩ := HXz.out.o4
    replace HXr : Hid (Bx w2 (w.heap.size + 1) [.bool false, .slice none 0 0, .slice none 0 0, .int .i64 0]) := Lib.hid (HXr.out.at hb2)
    clear Zr Kr0 Kr1 Kr2 Kr3 Gr0 Gr1 Gr2 Gr3
    obtain ⟨Zr, Kr0, Kr1, Kr2, Kr3, Gr0, Gr1, Gr2, Gr3⟩ := HXr.out.q4
    clear hb2
    go_wp2_with fail
    refine (spec_within_c room 1 6 _).mono ?_
    rintro e' w3 ⟨rfl, hb3⟩
    rw [h2]
    have s3 : w2.heap.size ≤ w3.heap.size := by have := hb3.size; (try simp at this); omega
    have HBN : Hid (Below w.heap.size w w3) := Lib.hid (HBW.out.trans (hb3.mono om))
    clear HBW
    have HBW := HBN
    clear HBN
    replace HXz : Hid (Bx w3 (w.heap.size) [.bool sh, v_docs, v_subs, .int .i64 z.last]) := Lib.hid (HXz.out.at hb3)
    clear Zz Kz0 Kz1 Kz2 Kz3
    obtain ⟨Zz, Kz0, Kz1, Kz2, Kz3⟩ := HXz.out.o4
    replace HXr : Hid (Bx w3 (w.heap.size + 1) [.bool false, .slice none 0 0, .slice none 0 0, .int .i64 0]) := Lib.hid (HXr.out.at hb3)
    clear Zr Kr0 Kr1 Kr2 Kr3 Gr0 Gr1 Gr2 Gr3
    obtain ⟨Zr, Kr0, Kr1, Kr2, Kr3, Gr0, Gr1, Gr2, Gr3⟩ := HXr.out.q4
    clear hb3
    go_wp2
    have HB : Hid (Below w.heap.size w ((((w3.setCell ⟨w.heap.size + 1, 0, none⟩ (.bool false)).setCell ⟨w.heap.size + 1, 1, none⟩ (.slice none 0 0)).setCell ⟨w.heap.size + 1, 2, none⟩ (.slice none 0 0)).setCell ⟨w.heap.size + 1, 3, none⟩ (.int .i64 0))) := Lib.hid ((((HBW.out.setCell (p := ⟨w.heap.size + 1, 0, none⟩) om _).setCell (p := ⟨w.heap.size + 1, 1, none⟩) om _).setCell (p := ⟨w.heap.size + 1, 2, none⟩) om _).setCell (p := ⟨w.heap.size + 1, 3, none⟩) om _)
    rw [HV.out]
    exact bodyPost_ret (v := .tuple #[.agg #[.bool false, .slice none 0 0, .slice none 0 0, .int .i64 0], .int .i64 0, .int .i64 1]) (by simp [results, Tryz.results19, go_sem, cell_setCell, *]) rfl (out_hub0_i_i HB.out)
  cases sh
  rotate_left
  · have HV := Lib.hid (hubSubscribe_shut (name := name) (room := room) ⟨h1, h2⟩ hsh)
    go_enter Tryz.func19, Tryz.ntmps19
    go_wp2_with fail
    refine (HF0.out _ (h_docs.below (((Below.refl w.heap.size w).alloc om _).alloc om _))).mono ?_
    rintro e' w1 ⟨rfl, hb1⟩
    have s1 : w.heap.size + 2 ≤ w1.heap.size := by have := hb1.size; (try simp at this); omega
    have HBN : Hid (Below w.heap.size w w1) := Lib.hid ((((Below.refl w.heap.size w).alloc om _).alloc om _).trans (hb1.mono om))
    have HBW := HBN
    clear HBN
    have HXz : Hid (Bx w1 (w.heap.size) [.bool true, v_docs, v_subs, .int .i64 z.last]) := Lib.hid (((Bx.new (by first | rfl | simp | omega)).alloc _).at hb1)
    obtain ⟨Zz, Kz0, Kz1, Kz2, Kz3⟩ := HXz.out.o4
    have HXr : Hid (Bx w1 (w.heap.size + 1) [.bool false, .slice none 0 0, .slice none 0 0, .int .i64 0]) := Lib.hid ((Bx.new (by first | rfl | simp | omega)).at hb1)
    obtain ⟨Zr, Kr0, Kr1, Kr2, Kr3, Gr0, Gr1, Gr2, Gr3⟩ := HXr.out.q4
    clear hb1
    go_wp2_with fail
    refine (HOK.out _ (h_docs.below HBW.out) (h_subs.below HBW.out)).mono ?_
    rintro e' w2 ⟨rfl, hb2⟩
    rw [h1]
    have s2 : w1.heap.size ≤ w2.heap.size := by have := hb2.size; (try simp at this); omega
    have HBN : Hid (Below w.heap.size w w2) := Lib.hid (HBW.out.trans (hb2.mono om))
    clear HBW
    have HBW := HBN
    clear HBN
    replace HXz : Hid (Bx w2 (w.heap.size) [.bool true, v_docs, v_subs, .int .i64 z.last]) := Lib.hid (HXz.out.at hb2)
    clear Zz Kz0 Kz1 Kz2 Kz3
    obtain ⟨Zz, Kz0, Kz1, Kz2, Kz3⟩ := HXz.out.o4
    replace HXr : Hid (Bx w2 (w.heap.size + 1) [.bool false, .slice none 0 0, .slice none 0 0, .int .i64 0]) := Lib.hid (HXr.out.at hb2)
    clear Zr Kr0 Kr1 Kr2 Kr3 Gr0 Gr1 Gr2 Gr3
    obtain ⟨Zr, Kr0, Kr1, Kr2, Kr3, Gr0, Gr1, Gr2, Gr3⟩ := HXr.out.q4
    clear hb2
    go_wp2_with fail
    refine (spec_within_c room 1 6 _).mono ?_
    rintro e' w3 ⟨rfl, hb3⟩
    rw [h2]
    have s3 : w2.heap.size ≤ w3.heap.size := by have := hb3.size; (try simp at this); omega
    have HBN : Hid (Below w.heap.size w w3) := Lib.hid (HBW.out.trans (hb3.mono om))
    clear HBW
    have HBW := HBN
    clear HBN
    replace HXz : Hid (Bx w3 (w.heap.size) [.bool true, v_docs, v_subs, .int .i64 z.last]) := Lib.hid (HXz.out.at hb3)
    clear Zz Kz0 Kz1 Kz2 Kz3
    obtain ⟨Zz, Kz0, Kz1, Kz2, Kz3⟩ := HXz.out.o4
    replace HXr : Hid (Bx w3 (w.heap.size + 1) [.bool false, .slice none 0 0, .slice none 0 0, .int .i64 0]) := Lib.hid (HXr.out.at hb3)
    clear Zr Kr0 Kr1 Kr2 Kr3 Gr0 Gr1 Gr2 Gr3
    obtain ⟨Zr, Kr0, Kr1, Kr2, Kr3, Gr0, Gr1, Gr2, Gr3⟩ := HXr.out.q4
    clear hb3
    go_wp2
    have HB : Hid (Below w.heap.size w ((((w3.setCell ⟨w.heap.size + 1, 0, none⟩ (.bool false)).setCell ⟨w.heap.size + 1, 1, none⟩ (.slice none 0 0)).setCell ⟨w.heap.size + 1, 2, none⟩ (.slice none 0 0)).setCell ⟨w.heap.size + 1, 3, none⟩ (.int .i64 0))) := Lib.hid ((((HBW.out.setCell (p := ⟨w.heap.size + 1, 0, none⟩) om _).setCell (p := ⟨w.heap.size + 1, 1, none⟩) om _).setCell (p := ⟨w.heap.size + 1, 2, none⟩) om _).setCell (p := ⟨w.heap.size + 1, 3, none⟩) om _)
    rw [HV.out]
    exact bodyPost_ret (v := .tuple #[.agg #[.bool false, .slice none 0 0, .slice none 0 0, .int .i64 0], .int .i64 0, .int .i64 12]) (by simp [results, Tryz.results19, go_sem, cell_setCell, *]) rfl (out_hub0_i_i HB.out)
  by_cases h3 : hubDoc z name < 0
  · have HV := Lib.hid (hubSubscribe_doc (name := name) (room := room) ⟨h1, h2⟩ hsh h3)
    go_enter Tryz.func19, Tryz.ntmps19
    go_wp2_with fail
    refine (HF0.out _ (h_docs.below (((Below.refl w.heap.size w).alloc om _).alloc om _))).mono ?_
    rintro e' w1 ⟨rfl, hb1⟩
    have s1 : w.heap.size + 2 ≤ w1.heap.size := by have := hb1.size; (try simp at this); omega
    have HBN : Hid (Below w.heap.size w w1) := Lib.hid ((((Below.refl w.heap.size w).alloc om _).alloc om _).trans (hb1.mono om))
    have HBW := HBN
    clear HBN
    have HXz : Hid (Bx w1 (w.heap.size) [.bool false, v_docs, v_subs, .int .i64 z.last]) := Lib.hid (((Bx.new (by first | rfl | simp | omega)).alloc _).at hb1)
    obtain ⟨Zz, Kz0, Kz1, Kz2, Kz3⟩ := HXz.out.o4
    have HXr : Hid (Bx w1 (w.heap.size + 1) [.bool false, .slice none 0 0, .slice none 0 0, .int .i64 0]) := Lib.hid ((Bx.new (by first | rfl | simp | omega)).at hb1)
    obtain ⟨Zr, Kr0, Kr1, Kr2, Kr3, Gr0, Gr1, Gr2, Gr3⟩ := HXr.out.q4
    clear hb1
    go_wp2_with fail
    refine (HOK.out _ (h_docs.below HBW.out) (h_subs.below HBW.out)).mono ?_
    rintro e' w2 ⟨rfl, hb2⟩
    rw [h1]
    have s2 : w1.heap.size ≤ w2.heap.size := by have := hb2.size; (try simp at this); omega
    have HBN : Hid (Below w.heap.size w w2) := Lib.hid (HBW.out.trans (hb2.mono om))
    clear HBW
    have HBW := HBN
    clear HBN
    replace HXz : Hid (Bx w2 (w.heap.size) [.bool false, v_docs, v_subs, .int .i64 z.last]) := Lib.hid (HXz.out.at hb2)
    clear Zz Kz0 Kz1 Kz2 Kz3
    obtain ⟨Zz, Kz0, Kz1, Kz2, Kz3⟩ := HXz.out.o4
    replace HXr : Hid (Bx w2 (w.heap.size + 1) [.bool false, .slice none 0 0, .slice none 0 0, .int .i64 0]) := Lib.hid (HXr.out.at hb2)
    clear Zr Kr0 Kr1 Kr2 Kr3 Gr0 Gr1 Gr2 Gr3
    obtain ⟨Zr, Kr0, Kr1, Kr2, Kr3, Gr0, Gr1, Gr2, Gr3⟩ := HXr.out.q4
    clear hb2
    go_wp2_with fail
    refine (spec_within_c room 1 6 _).mono ?_
    rintro e' w3 ⟨rfl, hb3⟩
    rw [h2]
    have s3 : w2.heap.size ≤ w3.heap.size := by have := hb3.size; (try simp at this); omega
    have HBN : Hid (Below w.heap.size w w3) := Lib.hid (HBW.out.trans (hb3.mono om))
    clear HBW
    have HBW := HBN
    clear HBN
    replace HXz : Hid (Bx w3 (w.heap.size) [.bool false, v_docs, v_subs, .int .i64 z.last]) := Lib.hid (HXz.out.at hb3)
    clear Zz Kz0 Kz1 Kz2 Kz3
    obtain ⟨Zz, Kz0, Kz1, Kz2, Kz3⟩ := HXz.out.o4
    replace HXr : Hid (Bx w3 (w.heap.size + 1) [.bool false, .slice none 0 0, .slice none 0 0, .int .i64 0]) := Lib.hid (HXr.out.at hb3)
    clear Zr Kr0 Kr1 Kr2 Kr3 Gr0 Gr1 Gr2 Gr3
    obtain ⟨Zr, Kr0, Kr1, Kr2, Kr3, Gr0, Gr1, Gr2, Gr3⟩ := HXr.out.q4
    clear hb3
    go_wp2
    have HB : Hid (Below w.heap.size w ((((w3.setCell ⟨w.heap.size + 1, 0, none⟩ (.bool false)).setCell ⟨w.heap.size + 1, 1, none⟩ (.slice none 0 0)).setCell ⟨w.heap.size + 1, 2, none⟩ (.slice none 0 0)).setCell ⟨w.heap.size + 1, 3, none⟩ (.int .i64 0))) := Lib.hid ((((HBW.out.setCell (p := ⟨w.heap.size + 1, 0, none⟩) om _).setCell (p := ⟨w.heap.size + 1, 1, none⟩) om _).setCell (p := ⟨w.heap.size + 1, 2, none⟩) om _).setCell (p := ⟨w.heap.size + 1, 3, none⟩) om _)
    rw [HV.out]
    exact bodyPost_ret (v := .tuple #[.agg #[.bool false, .slice none 0 0, .slice none 0 0, .int .i64 0], .int .i64 0, .int .i64 6]) (by simp [results, Tryz.results19, go_sem, cell_setCell, *]) rfl (out_hub0_i_i HB.out)
  obtain ⟨k, d, hk, hd⟩ := hubDoc_get h3
  have HK := Lib.hid hk
  have HD := Lib.hid hd
  have bs := (hubOk_iff.1 h1).ns
  have bl0 := (hubOk_iff.1 h1).l0
  have bl1 := (hubOk_iff.1 h1).l1
  have hdb := headRev_bd ((hubOk_iff.1 h1).doc (List.mem_of_getElem? hd))
  obtain ⟨bh0, bh1, bf0, bf1⟩ := hdb
  have kl := (List.getElem?_eq_some_iff.1 hd).1
  have bd := (hubOk_iff.1 h1).nd
  by_cases h4 : z.subs.length = 6
  · have HV := Lib.hid (hubSubscribe_full (name := name) (room := room) ⟨h1, h2⟩ hsh h3 (.inl h4))
    have e4 : ((z.subs.length : Int) == 6) = true := by simp; omega
    clear hk hd h4 h3
    have hls := fun w1 ty => h_subs.len Tryz.underlying28 w1 ty
    go_enter Tryz.func19, Tryz.ntmps19
    go_wp2_with fail
    refine (HF0.out _ (h_docs.below (((Below.refl w.heap.size w).alloc om _).alloc om _))).mono ?_
    rintro e' w1 ⟨rfl, hb1⟩
    rw [HK.out]
    have s1 : w.heap.size + 2 ≤ w1.heap.size := by have := hb1.size; (try simp at this); omega
    have HBN : Hid (Below w.heap.size w w1) := Lib.hid ((((Below.refl w.heap.size w).alloc om _).alloc om _).trans (hb1.mono om))
    have HBW := HBN
    clear HBN
    have HXz : Hid (Bx w1 (w.heap.size) [.bool false, v_docs, v_subs, .int .i64 z.last]) := Lib.hid (((Bx.new (by first | rfl | simp | omega)).alloc _).at hb1)
    obtain ⟨Zz, Kz0, Kz1, Kz2, Kz3⟩ := HXz.out.o4
    have HXr : Hid (Bx w1 (w.heap.size + 1) [.bool false, .slice none 0 0, .slice none 0 0, .int .i64 0]) := Lib.hid ((Bx.new (by first | rfl | simp | omega)).at hb1)
    obtain ⟨Zr, Kr0, Kr1, Kr2, Kr3, Gr0, Gr1, Gr2, Gr3⟩ := HXr.out.q4
    clear hb1
    go_wp2_with fail
    refine (HOK.out _ (h_docs.below HBW.out) (h_subs.below HBW.out)).mono ?_
    rintro e' w2 ⟨rfl, hb2⟩
    rw [h1]
    have s2 : w1.heap.size ≤ w2.heap.size := by have := hb2.size; (try simp at this); omega
    have HBN : Hid (Below w.heap.size w w2) := Lib.hid (HBW.out.trans (hb2.mono om))
    clear HBW
    have HBW := HBN
    clear HBN
    replace HXz : Hid (Bx w2 (w.heap.size) [.bool false, v_docs, v_subs, .int .i64 z.last]) := Lib.hid (HXz.out.at hb2)
    clear Zz Kz0 Kz1 Kz2 Kz3
    obtain ⟨Zz, Kz0, Kz1, Kz2, Kz3⟩ := HXz.out.o4
    replace HXr : Hid (Bx w2 (w.heap.size + 1) [.bool false, .slice none 0 0, .slice none 0 0, .int .i64 0]) := Lib.hid (HXr.out.at hb2)
    clear Zr Kr0 Kr1 Kr2 Kr3 Gr0 Gr1 Gr2 Gr3
    obtain ⟨Zr, Kr0, Kr1, Kr2, Kr3, Gr0, Gr1, Gr2, Gr3⟩ := HXr.out.q4
    clear hb2
    go_wp2_with fail
    refine (spec_within_c room 1 6 _).mono ?_
    rintro e' w3 ⟨rfl, hb3⟩
    rw [h2]
    have s3 : w2.heap.size ≤ w3.heap.size := by have := hb3.size; (try simp at this); omega
    have HBN : Hid (Below w.heap.size w w3) := Lib.hid (HBW.out.trans (hb3.mono om))
    clear HBW
    have HBW := HBN
    clear HBN
    replace HXz : Hid (Bx w3 (w.heap.size) [.bool false, v_docs, v_subs, .int .i64 z.last]) := Lib.hid (HXz.out.at hb3)
    clear Zz Kz0 Kz1 Kz2 Kz3
    obtain ⟨Zz, Kz0, Kz1, Kz2, Kz3⟩ := HXz.out.o4
    replace HXr : Hid (Bx w3 (w.heap.size + 1) [.bool false, .slice none 0 0, .slice none 0 0, .int .i64 0]) := Lib.hid (HXr.out.at hb3)
    clear Zr Kr0 Kr1 Kr2 Kr3 Gr0 Gr1 Gr2 Gr3
    obtain ⟨Zr, Kr0, Kr1, Kr2, Kr3, Gr0, Gr1, Gr2, Gr3⟩ := HXr.out.q4
    clear hb3
    go_wp2
    have HB : Hid (Below w.heap.size w ((((w3.setCell ⟨w.heap.size + 1, 0, none⟩ (.bool false)).setCell ⟨w.heap.size + 1, 1, none⟩ (.slice none 0 0)).setCell ⟨w.heap.size + 1, 2, none⟩ (.slice none 0 0)).setCell ⟨w.heap.size + 1, 3, none⟩ (.int .i64 0))) := Lib.hid ((((HBW.out.setCell (p := ⟨w.heap.size + 1, 0, none⟩) om _).setCell (p := ⟨w.heap.size + 1, 1, none⟩) om _).setCell (p := ⟨w.heap.size + 1, 2, none⟩) om _).setCell (p := ⟨w.heap.size + 1, 3, none⟩) om _)
    rw [HV.out]
    exact bodyPost_ret (v := .tuple #[.agg #[.bool false, .slice none 0 0, .slice none 0 0, .int .i64 0], .int .i64 0, .int .i64 10]) (by simp [results, Tryz.results19, go_sem, cell_setCell, *]) rfl (out_hub0_i_i HB.out)
  by_cases h5 : z.last = 1000000000
  · have HV := Lib.hid (hubSubscribe_full (name := name) (room := room) ⟨h1, h2⟩ hsh h3 (.inr h5))
    have e4 : ((z.subs.length : Int) == 6) = false := by simp; omega
    have e5 : (z.last == 1000000000) = true := by simp; omega
    clear hk hd h4 h3 h5
    have hls := fun w1 ty => h_subs.len Tryz.underlying28 w1 ty
    go_enter Tryz.func19, Tryz.ntmps19
    go_wp2_with fail
    refine (HF0.out _ (h_docs.below (((Below.refl w.heap.size w).alloc om _).alloc om _))).mono ?_
    rintro e' w1 ⟨rfl, hb1⟩
    rw [HK.out]
    have s1 : w.heap.size + 2 ≤ w1.heap.size := by have := hb1.size; (try simp at this); omega
    have HBN : Hid (Below w.heap.size w w1) := Lib.hid ((((Below.refl w.heap.size w).alloc om _).alloc om _).trans (hb1.mono om))
    have HBW := HBN
    clear HBN
    have HXz : Hid (Bx w1 (w.heap.size) [.bool false, v_docs, v_subs, .int .i64 z.last]) := Lib.hid (((Bx.new (by first | rfl | simp | omega)).alloc _).at hb1)
    obtain ⟨Zz, Kz0, Kz1, Kz2, Kz3⟩ := HXz.out.o4
    have HXr : Hid (Bx w1 (w.heap.size + 1) [.bool false, .slice none 0 0, .slice none 0 0, .int .i64 0]) := Lib.hid ((Bx.new (by first | rfl | simp | omega)).at hb1)
    obtain ⟨Zr, Kr0, Kr1, Kr2, Kr3, Gr0, Gr1, Gr2, Gr3⟩ := HXr.out.q4
    clear hb1
    go_wp2_with fail
    refine (HOK.out _ (h_docs.below HBW.out) (h_subs.below HBW.out)).mono ?_
    rintro e' w2 ⟨rfl, hb2⟩
    rw [h1]
    have s2 : w1.heap.size ≤ w2.heap.size := by have := hb2.size; (try simp at this); omega
    have HBN : Hid (Below w.heap.size w w2) := Lib.hid (HBW.out.trans (hb2.mono om))
    clear HBW
    have HBW := HBN
    clear HBN
    replace HXz : Hid (Bx w2 (w.heap.size) [.bool false, v_docs, v_subs, .int .i64 z.last]) := Lib.hid (HXz.out.at hb2)
    clear Zz Kz0 Kz1 Kz2 Kz3
    obtain ⟨Zz, Kz0, Kz1, Kz2, Kz3⟩ := HXz.out.o4
    replace HXr : Hid (Bx w2 (w.heap.size + 1) [.bool false, .slice none 0 0, .slice none 0 0, .int .i64 0]) := Lib.hid (HXr.out.at hb2)
    clear Zr Kr0 Kr1 Kr2 Kr3 Gr0 Gr1 Gr2 Gr3
    obtain ⟨Zr, Kr0, Kr1, Kr2, Kr3, Gr0, Gr1, Gr2, Gr3⟩ := HXr.out.q4
    clear hb2
    go_wp2_with fail
    refine (spec_within_c room 1 6 _).mono ?_
    rintro e' w3 ⟨rfl, hb3⟩
    rw [h2]
    have s3 : w2.heap.size ≤ w3.heap.size := by have := hb3.size; (try simp at this); omega
    have HBN : Hid (Below w.heap.size w w3) := Lib.hid (HBW.out.trans (hb3.mono om))
    clear HBW
    have HBW := HBN
    clear HBN
    replace HXz : Hid (Bx w3 (w.heap.size) [.bool false, v_docs, v_subs, .int .i64 z.last]) := Lib.hid (HXz.out.at hb3)
    clear Zz Kz0 Kz1 Kz2 Kz3
    obtain ⟨Zz, Kz0, Kz1, Kz2, Kz3⟩ := HXz.out.o4
    replace HXr : Hid (Bx w3 (w.heap.size + 1) [.bool false, .slice none 0 0, .slice none 0 0, .int .i64 0]) := Lib.hid (HXr.out.at hb3)
    clear Zr Kr0 Kr1 Kr2 Kr3 Gr0 Gr1 Gr2 Gr3
    obtain ⟨Zr, Kr0, Kr1, Kr2, Kr3, Gr0, Gr1, Gr2, Gr3⟩ := HXr.out.q4
    clear hb3
    go_wp2
    have HB : Hid (Below w.heap.size w ((((w3.setCell ⟨w.heap.size + 1, 0, none⟩ (.bool false)).setCell ⟨w.heap.size + 1, 1, none⟩ (.slice none 0 0)).setCell ⟨w.heap.size + 1, 2, none⟩ (.slice none 0 0)).setCell ⟨w.heap.size + 1, 3, none⟩ (.int .i64 0))) := Lib.hid ((((HBW.out.setCell (p := ⟨w.heap.size + 1, 0, none⟩) om _).setCell (p := ⟨w.heap.size + 1, 1, none⟩) om _).setCell (p := ⟨w.heap.size + 1, 2, none⟩) om _).setCell (p := ⟨w.heap.size + 1, 3, none⟩) om _)
    rw [HV.out]
    exact bodyPost_ret (v := .tuple #[.agg #[.bool false, .slice none 0 0, .slice none 0 0, .int .i64 0], .int .i64 0, .int .i64 10]) (by simp [results, Tryz.results19, go_sem, cell_setCell, *]) rfl (out_hub0_i_i HB.out)
  have HV := Lib.hid (hubSubscribe_yes (name := name) (room := room) ⟨h1, h2⟩ hsh hk hd (fun h => h.elim h4 h5))
  have e4 : ((z.subs.length : Int) == 6) = false := by simp; omega
  have e5 : (z.last == 1000000000) = false := by simp; omega
  have hRN := fun (W' : World) => (by have := spec_RingNew_c room (headRev d) W' (by omega) (by omega); rw [ringNew_at h2 bh0 bh1] at this; exact this : Calls Tryz.prog 81 #[.int .i64 room, .int .i64 (headRev d)] W' (Out_Ring_b W' ⟨room, headRev d + 1, false, []⟩ true))
  have HRN := Lib.hid hRN
  clear hRN hk hd h4 h3 h5
  have hls := fun w1 ty => h_subs.len Tryz.underlying28 w1 ty
  obtain ⟨j0, hj, jz0, jz1, jz2⟩ := info_parts info_sub
  go_enter Tryz.func19, Tryz.ntmps19
  go_wp2_with fail
  refine (HF0.out _ (h_docs.below (((Below.refl w.heap.size w).alloc om _).alloc om _))).mono ?_
  rintro e' w1 ⟨rfl, hb1⟩
  rw [HK.out]
  have s1 : w.heap.size + 2 ≤ w1.heap.size := by have := hb1.size; (try simp at this); omega
  have HBN : Hid (Below w.heap.size w w1) := Lib.hid ((((Below.refl w.heap.size w).alloc om _).alloc om _).trans (hb1.mono om))
  have HBW := HBN
  clear HBN
  have HXz : Hid (Bx w1 (w.heap.size) [.bool false, v_docs, v_subs, .int .i64 z.last]) := Lib.hid (((Bx.new (by first | rfl | simp | omega)).alloc _).at hb1)
  obtain ⟨Zz, Kz0, Kz1, Kz2, Kz3⟩ := HXz.out.o4
  have HXr : Hid (Bx w1 (w.heap.size + 1) [.bool false, .slice none 0 0, .slice none 0 0, .int .i64 0]) := Lib.hid ((Bx.new (by first | rfl | simp | omega)).at hb1)
  obtain ⟨Zr, Kr0, Kr1, Kr2, Kr3, Gr0, Gr1, Gr2, Gr3⟩ := HXr.out.q4
  clear hb1
  go_wp2_with fail
  refine (HOK.out _ (h_docs.below HBW.out) (h_subs.below HBW.out)).mono ?_
  rintro e' w2 ⟨rfl, hb2⟩
  rw [h1]
  have s2 : w1.heap.size ≤ w2.heap.size := by have := hb2.size; (try simp at this); omega
  have HBN : Hid (Below w.heap.size w w2) := Lib.hid (HBW.out.trans (hb2.mono om))
  clear HBW
  have HBW := HBN
  clear HBN
  replace HXz : Hid (Bx w2 (w.heap.size) [.bool false, v_docs, v_subs, .int .i64 z.last]) := Lib.hid (HXz.out.at hb2)
  clear Zz Kz0 Kz1 Kz2 Kz3
  obtain ⟨Zz, Kz0, Kz1, Kz2, Kz3⟩ := HXz.out.o4
  replace HXr : Hid (Bx w2 (w.heap.size + 1) [.bool false, .slice none 0 0, .slice none 0 0, .int .i64 0]) := Lib.hid (HXr.out.at hb2)
  clear Zr Kr0 Kr1 Kr2 Kr3 Gr0 Gr1 Gr2 Gr3
  obtain ⟨Zr, Kr0, Kr1, Kr2, Kr3, Gr0, Gr1, Gr2, Gr3⟩ := HXr.out.q4
  clear hb2
  go_wp2_with fail
  refine (spec_within_c room 1 6 _).mono ?_
  rintro e' w3 ⟨rfl, hb3⟩
  rw [h2]
  have s3 : w2.heap.size ≤ w3.heap.size := by have := hb3.size; (try simp at this); omega
  have HBN : Hid (Below w.heap.size w w3) := Lib.hid (HBW.out.trans (hb3.mono om))
  clear HBW
  have HBW := HBN
  clear HBN
  replace HXz : Hid (Bx w3 (w.heap.size) [.bool false, v_docs, v_subs, .int .i64 z.last]) := Lib.hid (HXz.out.at hb3)
  clear Zz Kz0 Kz1 Kz2 Kz3
  obtain ⟨Zz, Kz0, Kz1, Kz2, Kz3⟩ := HXz.out.o4
  replace HXr : Hid (Bx w3 (w.heap.size + 1) [.bool false, .slice none 0 0, .slice none 0 0, .int .i64 0]) := Lib.hid (HXr.out.at hb3)
  clear Zr Kr0 Kr1 Kr2 Kr3 Gr0 Gr1 Gr2 Gr3
  obtain ⟨Zr, Kr0, Kr1, Kr2, Kr3, Gr0, Gr1, Gr2, Gr3⟩ := HXr.out.q4
  clear hb3
  obtain ⟨b1, o1, cs, g1, g2, g3⟩ := (h_docs.below HBW.out).idx Tryz.underlying27 szi_DDoc k HD.out
  obtain ⟨d_text, d_list, d_seen, rfl, nd, r_text, r_list, r_seen⟩ := inv_DDoc g3
  have q0 := g2.zero
  have q1 := g2 1 _ rfl
  have q2 := g2 2 _ rfl
  have q3 := g2 3 _ rfl
  have q4 := g2 4 _ rfl
  have l1 : b1 < w3.heap.size := World.block_lt_of_cell? (w := w3) (a := ⟨b1, o1, none⟩) q0
  obtain ⟨at_, ct, rfl⟩ := r_text.isSlice
  obtain ⟨al, cl, rfl⟩ := r_list.isSlice
  obtain ⟨az, cz, rfl⟩ := r_seen.isSlice
  clear g2 g3
  go_wp2_with fail
  refine (spec_HeadRev_c d _ _ _ _ (r_list.below (Below.refl w3.heap.size w3)) (by omega) (by omega)).mono ?_
  rintro e' w4 ⟨rfl, hb4⟩
  have s4 : w3.heap.size ≤ w4.heap.size := by have := hb4.size; (try simp at this); omega
  have HBN : Hid (Below w.heap.size w w4) := Lib.hid (HBW.out.trans (hb4.mono om))
  clear HBW
  have HBW := HBN
  clear HBN
  replace HXz : Hid (Bx w4 (w.heap.size) [.bool false, v_docs, v_subs, .int .i64 z.last]) := Lib.hid (HXz.out.at hb4)
  clear Zz Kz0 Kz1 Kz2 Kz3
  obtain ⟨Zz, Kz0, Kz1, Kz2, Kz3⟩ := HXz.out.o4
  replace HXr : Hid (Bx w4 (w.heap.size + 1) [.bool false, .slice none 0 0, .slice none 0 0, .int .i64 0]) := Lib.hid (HXr.out.at hb4)
  clear Zr Kr0 Kr1 Kr2 Kr3 Gr0 Gr1 Gr2 Gr3
  obtain ⟨Zr, Kr0, Kr1, Kr2, Kr3, Gr0, Gr1, Gr2, Gr3⟩ := HXr.out.q4
  clear hb4
  clear g1 q0 q1 q2 q3 q4 l1 r_text r_list r_seen
  go_wp2_with fail
  refine (HRN.out _).mono ?_
  rintro e' w5 ⟨vr, fr, rfl, sr, kr, hb5⟩
  obtain ⟨ar, cr, rfl⟩ := sr.nilS
  have HRG : Hid (OwnB (w4.heap.size) w5.heap.size w5 (.slice ar 0 cr) ([] : List DEntry)) := Lib.hid ⟨fr, sr, kr, Live.lt sr.live⟩
  clear sr kr
  (try dsimp only)
  have s5 : w4.heap.size ≤ w5.heap.size := by have := hb5.size; (try simp at this); omega
  have HBN : Hid (Below w.heap.size w w5) := Lib.hid (HBW.out.trans (hb5.mono om))
  clear HBW
  have HBW := HBN
  clear HBN
  replace HXz : Hid (Bx w5 (w.heap.size) [.bool false, v_docs, v_subs, .int .i64 z.last]) := Lib.hid (HXz.out.at hb5)
  clear Zz Kz0 Kz1 Kz2 Kz3
  obtain ⟨Zz, Kz0, Kz1, Kz2, Kz3⟩ := HXz.out.o4
  replace HXr : Hid (Bx w5 (w.heap.size + 1) [.bool false, .slice none 0 0, .slice none 0 0, .int .i64 0]) := Lib.hid (HXr.out.at hb5)
  clear Zr Kr0 Kr1 Kr2 Kr3 Gr0 Gr1 Gr2 Gr3
  obtain ⟨Zr, Kr0, Kr1, Kr2, Kr3, Gr0, Gr1, Gr2, Gr3⟩ := HXr.out.q4
  clear hb5
  go_wp2_with fail
  refine (HCP.out _ (h_docs.below (HBW.out.alloc om _)) (h_subs.below (HBW.out.alloc om _)) HZ.out).mono ?_
  rintro e' w6 ⟨_, rfl, ho6, hb6⟩
  obtain ⟨vd, vs, rfl, hown⟩ := HubOwn.of_own ho6
  rw [hsh]
  obtain ⟨ad, cd, rfl⟩ := hown.rd1.isSlice
  obtain ⟨as_, cs_, rfl⟩ := hown.rd2.isSlice
  have HOWN := Lib.hid (hown.mono (C' := w5.heap.size + 1) om)
  clear ho6 hown
  have s6 : w5.heap.size + 1 ≤ w6.heap.size := by have := hb6.size; (try simp at this); omega
  have HBN : Hid (Below w.heap.size w w6) := Lib.hid ((HBW.out.alloc om _).trans (hb6.mono om))
  clear HBW
  have HBW := HBN
  clear HBN
  replace HRG : Hid (OwnB (w4.heap.size) (w5.heap.size) w6 (.slice ar 0 cr) ([] : List DEntry)) := Lib.hid (((HRG.out.alloc _).below hb6))
  replace HXz : Hid (Bx w6 (w.heap.size) [.bool false, v_docs, v_subs, .int .i64 z.last]) := Lib.hid ((HXz.out.alloc _).at hb6)
  clear Zz Kz0 Kz1 Kz2 Kz3
  obtain ⟨Zz, Kz0, Kz1, Kz2, Kz3⟩ := HXz.out.o4
  replace HXr : Hid (Bx w6 (w.heap.size + 1) [.bool false, .slice none 0 0, .slice none 0 0, .int .i64 0]) := Lib.hid ((HXr.out.alloc _).at hb6)
  clear Zr Kr0 Kr1 Kr2 Kr3 Gr0 Gr1 Gr2 Gr3
  obtain ⟨Zr, Kr0, Kr1, Kr2, Kr3, Gr0, Gr1, Gr2, Gr3⟩ := HXr.out.q4
  have HXg : Hid (Bx w6 (w5.heap.size) [.int .i64 room, .int .i64 (headRev d + 1), .bool false, .slice ar 0 cr]) := Lib.hid ((Bx.new (by first | rfl | simp | omega)).at hb6)
  obtain ⟨Zg, Kg0, Kg1, Kg2, Kg3, Gg0, Gg1, Gg2, Gg3⟩ := HXg.out.q4
  clear hb6
  go_upto_region 13 with (fail)
  obtain ⟨U, hU⟩ : ∃ U : World, U = (w6.alloc (.cells #[.bool false, .slice ad z.docs.length cd, .slice as_ z.subs.length cs_, .int .i64 (z.last + 1)] 30)) := ⟨_, rfl⟩
  have sU : w6.heap.size + 1 ≤ U.heap.size := by rw [hU]; first | (simp; done) | (simp; omega)
  have HBN : Hid (Below w.heap.size w U) := Lib.hid (by rw [hU]; exact (HBW.out.alloc om _))
  clear HBW
  have HBW := HBN
  clear HBN
  replace HRG : Hid (OwnB (w4.heap.size) (w5.heap.size) U (.slice ar 0 cr) ([] : List DEntry)) := Lib.hid (by rw [hU]; exact (HRG.out.alloc _))
  replace HOWN : Hid (HubOwn (w5.heap.size + 1) (w6.heap.size) U (.slice ad z.docs.length cd) (.slice as_ z.subs.length cs_) (z.docs) (z.subs)) := Lib.hid (by rw [hU]; exact (HOWN.out.alloc om _))
  replace HXz : Hid (Bx U (w.heap.size) [.bool false, v_docs, v_subs, .int .i64 z.last]) := Lib.hid (by rw [hU]; exact (HXz.out.alloc _))
  clear Zz Kz0 Kz1 Kz2 Kz3
  obtain ⟨Zz, Kz0, Kz1, Kz2, Kz3⟩ := HXz.out.o4
  replace HXr : Hid (Bx U (w.heap.size + 1) [.bool false, .slice none 0 0, .slice none 0 0, .int .i64 0]) := Lib.hid (by rw [hU]; exact (HXr.out.alloc _))
  clear Zr Kr0 Kr1 Kr2 Kr3 Gr0 Gr1 Gr2 Gr3
  obtain ⟨Zr, Kr0, Kr1, Kr2, Kr3, Gr0, Gr1, Gr2, Gr3⟩ := HXr.out.q4
  replace HXg : Hid (Bx U (w5.heap.size) [.int .i64 room, .int .i64 (headRev d + 1), .bool false, .slice ar 0 cr]) := Lib.hid (by rw [hU]; exact (HXg.out.alloc _))
  clear Zg Kg0 Kg1 Kg2 Kg3 Gg0 Gg1 Gg2 Gg3
  obtain ⟨Zg, Kg0, Kg1, Kg2, Kg3, Gg0, Gg1, Gg2, Gg3⟩ := HXg.out.q4
  have HXo : Hid (Bx U (w6.heap.size) [.bool false, .slice ad z.docs.length cd, .slice as_ z.subs.length cs_, .int .i64 (z.last + 1)]) := Lib.hid (by rw [hU]; exact (Bx.new (by first | rfl | simp | omega)))
  obtain ⟨Zo, Ko0, Ko1, Ko2, Ko3, Go0, Go1, Go2, Go3⟩ := HXo.out.q4
  rw [← hU]
  clear hU
  obtain ⟨gs, hrow, hlt, happ⟩ := HOWN.out.row (B := w.heap.size + 2) (ob := w6.heap.size) (by omega) (by omega) (Nat.le_refl _)
  have HG : Hid (∀ p ∈ rowP (GoT.n DSub) (.slice as_ z.subs.length cs_), w5.heap.size + 1 ≤ p.1 ∧ p.1 < w6.heap.size) := Lib.hid fun p hp => ⟨hrow.2.1.ge p hp, hlt p (List.mem_append_left _ hp)⟩
  have HROW := Lib.hid hrow
  have HAPP := Lib.hid happ
  obtain ⟨f, sv, kv, lv⟩ := HRG.out
  have HSV := Lib.hid sv
  have HKV := Lib.hid kv
  have HLV := Lib.hid lv
  clear hrow hlt happ sv kv lv
  have HRD : Hid (GoT.rd BIG U [.int .i64 (z.last + 1), .string name, .int .i64 room, .int .i64 (headRev d + 1), .bool false, .slice ar 0 cr] (subNew z name room (headRev d)) f) := Lib.hid ⟨_, _, rfl, nn, ⟨_, f, rfl, HSV.out.belowW (Below.refl U.heap.size U), rfl⟩, rfl⟩
  have HBC : Hid (Below U.heap.size U (U.alloc (.cells #[.int .i64 (z.last + 1), .string name, .int .i64 room, .int .i64 (headRev d + 1), .bool false, .slice ar 0 cr] 122))) := Lib.hid ((Below.refl U.heap.size U).alloc om _)
  go_wp2_with (at_builtin; refine wpList_append_row rfl _ _ 28 rfl Tryz.underlying28 hj jz0 jz1 jz2 rfl rfl rfl (HROW.out.below HBC.out) (src_built (x := subNew z name room (headRev d)) 122 HRD.out) (fun q hq hm => by have e1 := HKV.out.ge q hq; have e2 := HG.out q hm; have e3 := HLV.out q hq; omega) ?c1 ?c2 ?c3 ?_)
  case c1 => simp; exact le_BIG (by omega)
  case c2 => simp; omega
  case c3 => simp; omega
  intro v7 w7 hr7 hw7 hn7
  obtain ⟨a7, c7, e7⟩ := hr7.rd.isSlice
  rw [List.length_append, List.length_singleton] at e7
  subst e7
  have HNEW : Hid (HubNe (w6.heap.size) (w.heap.size + 2) w7 (.slice ad z.docs.length cd) (.slice a7 (z.subs.length + 1) c7) z.docs (z.subs ++ [subNew z name room (headRev d)])) := Lib.hid (HAPP.out _ _ _ _ _ HBC.out hw7 hr7 (fun p hp => (hn7 p.1 p.2 hp).imp_right fun h => by have := HBC.out.size; (try simp at h); (try simp at this); omega) ((HKV.out.belowL HBC.out (Live.lt HSV.out.live)).mono (by omega)) (HSV.out.live.keep (Live.same_below HBC.out (Live.lt HSV.out.live))) (fun p hp => by have := HKV.out.ge p hp; have := HLV.out p hp; omega))
  have s7 : U.heap.size + 1 ≤ w7.heap.size := by have := hw7.size; (try simp at this); omega
  have HBN : Hid (Below w.heap.size w w7) := Lib.hid ((HBW.out.alloc om _).trans (hw7.below (by simp; omega) (fun p hp => by have := HG.out p hp; omega)))
  clear HBW
  have HBW := HBN
  clear HBN
  replace HXz : Hid (Bx w7 (w.heap.size) [.bool false, v_docs, v_subs, .int .i64 z.last]) := Lib.hid ((HXz.out.alloc _).wr hw7 (fun p hp e => by have := HG.out p hp; omega))
  clear Zz Kz0 Kz1 Kz2 Kz3
  obtain ⟨Zz, Kz0, Kz1, Kz2, Kz3⟩ := HXz.out.o4
  replace HXr : Hid (Bx w7 (w.heap.size + 1) [.bool false, .slice none 0 0, .slice none 0 0, .int .i64 0]) := Lib.hid ((HXr.out.alloc _).wr hw7 (fun p hp e => by have := HG.out p hp; omega))
  clear Zr Kr0 Kr1 Kr2 Kr3 Gr0 Gr1 Gr2 Gr3
  obtain ⟨Zr, Kr0, Kr1, Kr2, Kr3, Gr0, Gr1, Gr2, Gr3⟩ := HXr.out.q4
  replace HXo : Hid (Bx w7 (w6.heap.size) [.bool false, .slice ad z.docs.length cd, .slice as_ z.subs.length cs_, .int .i64 (z.last + 1)]) := Lib.hid ((HXo.out.alloc _).wr hw7 (fun p hp e => by have := HG.out p hp; omega))
  clear Zo Ko0 Ko1 Ko2 Ko3 Go0 Go1 Go2 Go3
  obtain ⟨Zo, Ko0, Ko1, Ko2, Ko3, Go0, Go1, Go2, Go3⟩ := HXo.out.q4
  clear hr7 hw7 hn7 HBC HROW HAPP HRD HSV HKV
  go_upto_region 14 with (fail)
  obtain ⟨V, hV⟩ : ∃ V : World, V = (w7.setCell ⟨w6.heap.size, 2, none⟩ (.slice a7 (z.subs.length + 1) c7)) := ⟨_, rfl⟩
  have sV : w7.heap.size ≤ V.heap.size := by rw [hV]; first | (simp; done) | (simp; omega)
  have HBN : Hid (Below w.heap.size w V) := Lib.hid (by rw [hV]; exact (HBW.out.setCell (p := ⟨w6.heap.size, 2, none⟩) om _))
  clear HBW
  have HBW := HBN
  clear HBN
  replace HNEW : Hid (HubNe (w6.heap.size) (w.heap.size + 2) V (.slice ad z.docs.length cd) (.slice a7 (z.subs.length + 1) c7) z.docs (z.subs ++ [subNew z name room (headRev d)])) := Lib.hid (by rw [hV]; exact (HNEW.out.setCell (by omega) _))
  replace HXz : Hid (Bx V (w.heap.size) [.bool false, v_docs, v_subs, .int .i64 z.last]) := Lib.hid (by rw [hV]; exact (HXz.out.setO om))
  clear Zz Kz0 Kz1 Kz2 Kz3
  obtain ⟨Zz, Kz0, Kz1, Kz2, Kz3⟩ := HXz.out.o4
  replace HXr : Hid (Bx V (w.heap.size + 1) [.bool false, .slice none 0 0, .slice none 0 0, .int .i64 0]) := Lib.hid (by rw [hV]; exact (HXr.out.setO om))
  clear Zr Kr0 Kr1 Kr2 Kr3 Gr0 Gr1 Gr2 Gr3
  obtain ⟨Zr, Kr0, Kr1, Kr2, Kr3, Gr0, Gr1, Gr2, Gr3⟩ := HXr.out.q4
  replace HXo : Hid (Bx V (w6.heap.size) [.bool false, .slice ad z.docs.length cd, .slice a7 (z.subs.length + 1) c7, .int .i64 (z.last + 1)]) := Lib.hid (by rw [hV]; exact (HXo.out.set 2 (.slice a7 (z.subs.length + 1) c7)))
  clear Zo Ko0 Ko1 Ko2 Ko3 Go0 Go1 Go2 Go3
  obtain ⟨Zo, Ko0, Ko1, Ko2, Ko3, Go0, Go1, Go2, Go3⟩ := HXo.out.q4
  rw [← hV]
  clear hV
  go_region
  have HH : Hid (HubNe (w6.heap.size) (w.heap.size + 2) ((((V.setCell ⟨w.heap.size + 1, 0, none⟩ (.bool false)).setCell ⟨w.heap.size + 1, 1, none⟩ (.slice ad z.docs.length cd)).setCell ⟨w.heap.size + 1, 2, none⟩ (.slice a7 (z.subs.length + 1) c7)).setCell ⟨w.heap.size + 1, 3, none⟩ (.int .i64 (z.last + 1))).drew (.slice ad z.docs.length cd) (.slice a7 (z.subs.length + 1) c7) z.docs (z.subs ++ [subNew z name room (headRev d)])) := Lib.hid ((((HNEW.out.setCell (by omega) _).setCell (by omega) _).setCell (by omega) _).setCell (by omega) _).drew
  have HB : Hid (Below w.heap.size w ((((V.setCell ⟨w.heap.size + 1, 0, none⟩ (.bool false)).setCell ⟨w.heap.size + 1, 1, none⟩ (.slice ad z.docs.length cd)).setCell ⟨w.heap.size + 1, 2, none⟩ (.slice a7 (z.subs.length + 1) c7)).setCell ⟨w.heap.size + 1, 3, none⟩ (.int .i64 (z.last + 1))).drew) := Lib.hid ((((HBW.out.setCell (p := ⟨w.heap.size + 1, 0, none⟩) om _).setCell (p := ⟨w.heap.size + 1, 1, none⟩) om _).setCell (p := ⟨w.heap.size + 1, 2, none⟩) om _).setCell (p := ⟨w.heap.size + 1, 3, none⟩) om _).drew
  go_wp2
  rw [HV.out]
  exact bodyPost_ret (v := .tuple #[.agg #[.bool false, .slice ad z.docs.length cd, .slice a7 (z.subs.length + 1) c7, .int .i64 (z.last + 1)], .int .i64 (z.last + 1), .int .i64 0]) (by simp [results, Tryz.results19, go_sem, cell_setCell, *]) rfl (HubNe.out_i_i (y := ⟨false, z.docs, z.subs ++ [subNew z name room (headRev d)], z.last + 1⟩) HH.out (by omega) HB.out)
set_option maxHeartbeats 8000000 in
set_option maxRecDepth 100000 in
theorem impl_HubSubscribe_c (z : DHub) (v_docs v_subs : Value) (name : ByteArray) (room : Int) (w : World) (h_docs : RdS w v_docs z.docs) (h_subs : RdS w v_subs z.subs) (nn : name.size ≤ BIG) : Calls Tryz.prog 20 #[.agg #[.bool z.shut, v_docs, v_subs, .int .i64 z.last], .string name, .int .i64 room] w (Out_Hub_i_i w (hubSubscribe z name room).1 (hubSubscribe z name room).2.1 (hubSubscribe z name room).2.2) := by
  have hOK := fun (W' : World) (a : RdS W' v_docs z.docs) (b : RdS W' v_subs z.subs) => impl_HubOk_c z v_docs v_subs W' a b
  have hCP := fun (W' : World) (a : RdS W' v_docs z.docs) (b : RdS W' v_subs z.subs) (c : HubSz z) => impl_copyHub_c z v_docs v_subs W' a b c
  have hF0 := fun (W' : World) (a : RdS W' v_docs z.docs) => impl_HubDoc_c z v_docs v_subs name W' a
  obtain ⟨sh, hsh⟩ : ∃ sh : Bool, z.shut = sh := ⟨_, rfl⟩
  simp only [hsh] at hOK hCP hF0
  rw [hsh]
  have HOK := Lib.hid hOK
  have HCP := Lib.hid hCP
  have HF0 := Lib.hid hF0
  clear hOK hCP hF0
  by_cases h1 : hubOk z = true
  rotate_left
  · have h1 : hubOk z = false := by simpa using h1
    have HV := Lib.hid (hubSubscribe_no (z := z) (name := name) (room := room) fun h => by rw [h1] at h; cases h.1)
    go_enter Tryz.func20, Tryz.ntmps20
    go_wp2_with fail
    refine (HF0.out _ (h_docs.below (((Below.refl w.heap.size w).alloc om _).alloc om _))).mono ?_
    rintro e' w1 ⟨rfl, hb1⟩
    have s1 : w.heap.size + 2 ≤ w1.heap.size := by have := hb1.size; (try simp at this); omega
    have HBN : Hid (Below w.heap.size w w1) := Lib.hid ((((Below.refl w.heap.size w).alloc om _).alloc om _).trans (hb1.mono om))
    have HBW := HBN
    clear HBN
    have HXz : Hid (Bx w1 (w.heap.size) [.bool sh, v_docs, v_subs, .int .i64 z.last]) := Lib.hid (((Bx.new (by first | rfl | simp | omega)).alloc _).at hb1)
    obtain ⟨Zz, Kz0, Kz1, Kz2, Kz3⟩ := HXz.out.o4
    have HXr : Hid (Bx w1 (w.heap.size + 1) [.bool false, .slice none 0 0, .slice none 0 0, .int .i64 0]) := Lib.hid ((Bx.new (by first | rfl | simp | omega)).at hb1)
    obtain ⟨Zr, Kr0, Kr1, Kr2, Kr3, Gr0, Gr1, Gr2, Gr3⟩ := HXr.out.q4
    clear hb1
    go_wp2_with fail
    refine (HOK.out _ (h_docs.below HBW.out) (h_subs.below HBW.out)).mono ?_
    rintro e' w2 ⟨rfl, hb2⟩
    rw [h1]
    have s2 : w1.heap.size ≤ w2.heap.size := by have := hb2.size; (try simp at this); omega
    have HBN : Hid (Below w.heap.size w w2) := Lib.hid (HBW.out.trans (hb2.mono om))
    clear HBW
    have HBW := HBN
    clear HBN
    replace HXz : Hid (Bx w2 (w.heap.size) [.bool sh, v_docs, v_subs, .int .i64 z.last]) := Lib.hid (HXz.out.at hb2)
    clear Zz Kz0 Kz1 Kz2 Kz3
    obtain ⟨Zz, Kz0, Kz1, Kz2, Kz3⟩ := HXz.out.o4
    replace HXr : Hid (Bx w2 (w.heap.size + 1) [.bool false, .slice none 0 0, .slice none 0 0, .int .i64 0]) := Lib.hid (HXr.out.at hb2)
    clear Zr Kr0 Kr1 Kr2 Kr3 Gr0 Gr1 Gr2 Gr3
    obtain ⟨Zr, Kr0, Kr1, Kr2, Kr3, Gr0, Gr1, Gr2, Gr3⟩ := HXr.out.q4
    clear hb2
    go_wp2
    have HB : Hid (Below w.heap.size w ((((w2.setCell ⟨w.heap.size + 1, 0, none⟩ (.bool false)).setCell ⟨w.heap.size + 1, 1, none⟩ (.slice none 0 0)).setCell ⟨w.heap.size + 1, 2, none⟩ (.slice none 0 0)).setCell ⟨w.heap.size + 1, 3, none⟩ (.int .i64 0))) := Lib.hid ((((HBW.out.setCell (p := ⟨w.heap.size + 1, 0, none⟩) om _).setCell (p := ⟨w.heap.size + 1, 1, none⟩) om _).setCell (p := ⟨w.heap.size + 1, 2, none⟩) om _).setCell (p := ⟨w.heap.size + 1, 3, none⟩) om _)
    rw [HV.out]
    exact bodyPost_ret (v := .tuple #[.agg #[.bool false, .slice none 0 0, .slice none 0 0, .int .i64 0], .int .i64 0, .int .i64 1]) (by simp [results, Tryz.results20, go_sem, cell_setCell, *]) rfl (out_hub0_i_i HB.out)
  have HZ := Lib.hid (hubSz h1)
  by_cases h2 : within room 1 6 = true
  rotate_left
  · have h2 : within room 1 6 = false := by simpa using h2
    have HV := Lib.hid (hubSubscribe_no (z := z) (name := name) (room := room) fun h => by rw [h2] at h; cases h.2)
    go_enter Tryz.func20, Tryz.ntmps20
    go_wp2_with fail
    refine (HF0.out _ (h_docs.below (((Below.refl w.heap.size w).alloc om _).alloc om _))).mono ?_
    rintro e' w1 ⟨rfl, hb1⟩
    have s1 : w.heap.size + 2 ≤ w1.heap.size := by have := hb1.size; (try simp at this); omega
    have HBN : Hid (Below w.heap.size w w1) := Lib.hid ((((Below.refl w.heap.size w).alloc om _).alloc om _).trans (hb1.mono om))
    have HBW := HBN
    clear HBN
    have HXz : Hid (Bx w1 (w.heap.size) [.bool sh, v_docs, v_subs, .int .i64 z.last]) := Lib.hid (((Bx.new (by first | rfl | simp | omega)).alloc _).at hb1)
    obtain ⟨Zz, Kz0, Kz1, Kz2, Kz3⟩ := HXz.out.o4
    have HXr : Hid (Bx w1 (w.heap.size + 1) [.bool false, .slice none 0 0, .slice none 0 0, .int .i64 0]) := Lib.hid ((Bx.new (by first | rfl | simp | omega)).at hb1)
    obtain ⟨Zr, Kr0, Kr1, Kr2, Kr3, Gr0, Gr1, Gr2, Gr3⟩ := HXr.out.q4
    clear hb1
    go_wp2_with fail
    refine (HOK.out _ (h_docs.below HBW.out) (h_subs.below HBW.out)).mono ?_
    rintro e' w2 ⟨rfl, hb2⟩
    rw [h1]
    have s2 : w1.heap.size ≤ w2.heap.size := by have := hb2.size; (try simp at this); omega
    have HBN : Hid (Below w.heap.size w w2) := Lib.hid (HBW.out.trans (hb2.mono om))
    clear HBW
    have HBW := HBN
    clear HBN
    replace HXz : Hid (Bx w2 (w.heap.size) [.bool sh, v_docs, v_subs, .int .i64 z.last]) := Lib.hid (HXz.out.at hb2)
    clear Zz Kz0 Kz1 Kz2 Kz3
    obtain ⟨Zz, Kz0, Kz1, Kz2, Kz3⟩ := HXz.out.o4
    replace HXr : Hid (Bx w2 (w.heap.size + 1) [.bool false, .slice none 0 0, .slice none 0 0, .int .i64 0]) := Lib.hid (HXr.out.at hb2)
    clear Zr Kr0 Kr1 Kr2 Kr3 Gr0 Gr1 Gr2 Gr3
    obtain ⟨Zr, Kr0, Kr1, Kr2, Kr3, Gr0, Gr1, Gr2, Gr3⟩ := HXr.out.q4
    clear hb2
    go_wp2_with fail
    refine (impl_within_c room 1 6 _).mono ?_
    rintro e' w3 ⟨rfl, hb3⟩
    rw [h2]
    have s3 : w2.heap.size ≤ w3.heap.size := by have := hb3.size; (try simp at this); omega
    have HBN : Hid (Below w.heap.size w w3) := Lib.hid (HBW.out.trans (hb3.mono om))
    clear HBW
    have HBW := HBN
    clear HBN
    replace HXz : Hid (Bx w3 (w.heap.size) [.bool sh, v_docs, v_subs, .int .i64 z.last]) := Lib.hid (HXz.out.at hb3)
    clear Zz Kz0 Kz1 Kz2 Kz3
    obtain ⟨Zz, Kz0, Kz1, Kz2, Kz3⟩ := HXz.out.o4
    replace HXr : Hid (Bx w3 (w.heap.size + 1) [.bool false, .slice none 0 0, .slice none 0 0, .int .i64 0]) := Lib.hid (HXr.out.at hb3)
    clear Zr Kr0 Kr1 Kr2 Kr3 Gr0 Gr1 Gr2 Gr3
    obtain ⟨Zr, Kr0, Kr1, Kr2, Kr3, Gr0, Gr1, Gr2, Gr3⟩ := HXr.out.q4
    clear hb3
    go_wp2
    have HB : Hid (Below w.heap.size w ((((w3.setCell ⟨w.heap.size + 1, 0, none⟩ (.bool false)).setCell ⟨w.heap.size + 1, 1, none⟩ (.slice none 0 0)).setCell ⟨w.heap.size + 1, 2, none⟩ (.slice none 0 0)).setCell ⟨w.heap.size + 1, 3, none⟩ (.int .i64 0))) := Lib.hid ((((HBW.out.setCell (p := ⟨w.heap.size + 1, 0, none⟩) om _).setCell (p := ⟨w.heap.size + 1, 1, none⟩) om _).setCell (p := ⟨w.heap.size + 1, 2, none⟩) om _).setCell (p := ⟨w.heap.size + 1, 3, none⟩) om _)
    rw [HV.out]
    exact bodyPost_ret (v := .tuple #[.agg #[.bool false, .slice none 0 0, .slice none 0 0, .int .i64 0], .int .i64 0, .int .i64 1]) (by simp [results, Tryz.results20, go_sem, cell_setCell, *]) rfl (out_hub0_i_i HB.out)
  cases sh
  rotate_left
  · have HV := Lib.hid (hubSubscribe_shut (name := name) (room := room) ⟨h1, h2⟩ hsh)
    go_enter Tryz.func20, Tryz.ntmps20
    go_wp2_with fail
    refine (HF0.out _ (h_docs.below (((Below.refl w.heap.size w).alloc om _).alloc om _))).mono ?_
    rintro e' w1 ⟨rfl, hb1⟩
    have s1 : w.heap.size + 2 ≤ w1.heap.size := by have := hb1.size; (try simp at this); omega
    have HBN : Hid (Below w.heap.size w w1) := Lib.hid ((((Below.refl w.heap.size w).alloc om _).alloc om _).trans (hb1.mono om))
    have HBW := HBN
    clear HBN
    have HXz : Hid (Bx w1 (w.heap.size) [.bool true, v_docs, v_subs, .int .i64 z.last]) := Lib.hid (((Bx.new (by first | rfl | simp | omega)).alloc _).at hb1)
    obtain ⟨Zz, Kz0, Kz1, Kz2, Kz3⟩ := HXz.out.o4
    have HXr : Hid (Bx w1 (w.heap.size + 1) [.bool false, .slice none 0 0, .slice none 0 0, .int .i64 0]) := Lib.hid ((Bx.new (by first | rfl | simp | omega)).at hb1)
    obtain ⟨Zr, Kr0, Kr1, Kr2, Kr3, Gr0, Gr1, Gr2, Gr3⟩ := HXr.out.q4
    clear hb1
    go_wp2_with fail
    refine (HOK.out _ (h_docs.below HBW.out) (h_subs.below HBW.out)).mono ?_
    rintro e' w2 ⟨rfl, hb2⟩
    rw [h1]
    have s2 : w1.heap.size ≤ w2.heap.size := by have := hb2.size; (try simp at this); omega
    have HBN : Hid (Below w.heap.size w w2) := Lib.hid (HBW.out.trans (hb2.mono om))
    clear HBW
    have HBW := HBN
    clear HBN
    replace HXz : Hid (Bx w2 (w.heap.size) [.bool true, v_docs, v_subs, .int .i64 z.last]) := Lib.hid (HXz.out.at hb2)
    clear Zz Kz0 Kz1 Kz2 Kz3
    obtain ⟨Zz, Kz0, Kz1, Kz2, Kz3⟩ := HXz.out.o4
    replace HXr : Hid (Bx w2 (w.heap.size + 1) [.bool false, .slice none 0 0, .slice none 0 0, .int .i64 0]) := Lib.hid (HXr.out.at hb2)
    clear Zr Kr0 Kr1 Kr2 Kr3 Gr0 Gr1 Gr2 Gr3
    obtain ⟨Zr, Kr0, Kr1, Kr2, Kr3, Gr0, Gr1, Gr2, Gr3⟩ := HXr.out.q4
    clear hb2
    go_wp2_with fail
    refine (impl_within_c room 1 6 _).mono ?_
    rintro e' w3 ⟨rfl, hb3⟩
    rw [h2]
    have s3 : w2.heap.size ≤ w3.heap.size := by have := hb3.size; (try simp at this); omega
    have HBN : Hid (Below w.heap.size w w3) := Lib.hid (HBW.out.trans (hb3.mono om))
    clear HBW
    have HBW := HBN
    clear HBN
    replace HXz : Hid (Bx w3 (w.heap.size) [.bool true, v_docs, v_subs, .int .i64 z.last]) := Lib.hid (HXz.out.at hb3)
    clear Zz Kz0 Kz1 Kz2 Kz3
    obtain ⟨Zz, Kz0, Kz1, Kz2, Kz3⟩ := HXz.out.o4
    replace HXr : Hid (Bx w3 (w.heap.size + 1) [.bool false, .slice none 0 0, .slice none 0 0, .int .i64 0]) := Lib.hid (HXr.out.at hb3)
    clear Zr Kr0 Kr1 Kr2 Kr3 Gr0 Gr1 Gr2 Gr3
    obtain ⟨Zr, Kr0, Kr1, Kr2, Kr3, Gr0, Gr1, Gr2, Gr3⟩ := HXr.out.q4
    clear hb3
    go_wp2
    have HB : Hid (Below w.heap.size w ((((w3.setCell ⟨w.heap.size + 1, 0, none⟩ (.bool false)).setCell ⟨w.heap.size + 1, 1, none⟩ (.slice none 0 0)).setCell ⟨w.heap.size + 1, 2, none⟩ (.slice none 0 0)).setCell ⟨w.heap.size + 1, 3, none⟩ (.int .i64 0))) := Lib.hid ((((HBW.out.setCell (p := ⟨w.heap.size + 1, 0, none⟩) om _).setCell (p := ⟨w.heap.size + 1, 1, none⟩) om _).setCell (p := ⟨w.heap.size + 1, 2, none⟩) om _).setCell (p := ⟨w.heap.size + 1, 3, none⟩) om _)
    rw [HV.out]
    exact bodyPost_ret (v := .tuple #[.agg #[.bool false, .slice none 0 0, .slice none 0 0, .int .i64 0], .int .i64 0, .int .i64 12]) (by simp [results, Tryz.results20, go_sem, cell_setCell, *]) rfl (out_hub0_i_i HB.out)
  by_cases h3 : hubDoc z name < 0
  · have HV := Lib.hid (hubSubscribe_doc (name := name) (room := room) ⟨h1, h2⟩ hsh h3)
    go_enter Tryz.func20, Tryz.ntmps20
    go_wp2_with fail
    refine (HF0.out _ (h_docs.below (((Below.refl w.heap.size w).alloc om _).alloc om _))).mono ?_
    rintro e' w1 ⟨rfl, hb1⟩
    have s1 : w.heap.size + 2 ≤ w1.heap.size := by have := hb1.size; (try simp at this); omega
    have HBN : Hid (Below w.heap.size w w1) := Lib.hid ((((Below.refl w.heap.size w).alloc om _).alloc om _).trans (hb1.mono om))
    have HBW := HBN
    clear HBN
    have HXz : Hid (Bx w1 (w.heap.size) [.bool false, v_docs, v_subs, .int .i64 z.last]) := Lib.hid (((Bx.new (by first | rfl | simp | omega)).alloc _).at hb1)
    obtain ⟨Zz, Kz0, Kz1, Kz2, Kz3⟩ := HXz.out.o4
    have HXr : Hid (Bx w1 (w.heap.size + 1) [.bool false, .slice none 0 0, .slice none 0 0, .int .i64 0]) := Lib.hid ((Bx.new (by first | rfl | simp | omega)).at hb1)
    obtain ⟨Zr, Kr0, Kr1, Kr2, Kr3, Gr0, Gr1, Gr2, Gr3⟩ := HXr.out.q4
    clear hb1
    go_wp2_with fail
    refine (HOK.out _ (h_docs.below HBW.out) (h_subs.below HBW.out)).mono ?_
    rintro e' w2 ⟨rfl, hb2⟩
    rw [h1]
    have s2 : w1.heap.size ≤ w2.heap.size := by have := hb2.size; (try simp at this); omega
    have HBN : Hid (Below w.heap.size w w2) := Lib.hid (HBW.out.trans (hb2.mono om))
    clear HBW
    have HBW := HBN
    clear HBN
    replace HXz : Hid (Bx w2 (w.heap.size) [.bool false, v_docs, v_subs, .int .i64 z.last]) := Lib.hid (HXz.out.at hb2)
    clear Zz Kz0 Kz1 Kz2 Kz3
    obtain ⟨Zz, Kz0, Kz1, Kz2, Kz3⟩ := HXz.out.o4
    replace HXr : Hid (Bx w2 (w.heap.size + 1) [.bool false, .slice none 0 0, .slice none 0 0, .int .i64 0]) := Lib.hid (HXr.out.at hb2)
    clear Zr Kr0 Kr1 Kr2 Kr3 Gr0 Gr1 Gr2 Gr3
    obtain ⟨Zr, Kr0, Kr1, Kr2, Kr3, Gr0, Gr1, Gr2, Gr3⟩ := HXr.out.q4
    clear hb2
    go_wp2_with fail
    refine (impl_within_c room 1 6 _).mono ?_
    rintro e' w3 ⟨rfl, hb3⟩
    rw [h2]
    have s3 : w2.heap.size ≤ w3.heap.size := by have := hb3.size; (try simp at this); omega
    have HBN : Hid (Below w.heap.size w w3) := Lib.hid (HBW.out.trans (hb3.mono om))
    clear HBW
    have HBW := HBN
    clear HBN
    replace HXz : Hid (Bx w3 (w.heap.size) [.bool false, v_docs, v_subs, .int .i64 z.last]) := Lib.hid (HXz.out.at hb3)
    clear Zz Kz0 Kz1 Kz2 Kz3
    obtain ⟨Zz, Kz0, Kz1, Kz2, Kz3⟩ := HXz.out.o4
    replace HXr : Hid (Bx w3 (w.heap.size + 1) [.bool false, .slice none 0 0, .slice none 0 0, .int .i64 0]) := Lib.hid (HXr.out.at hb3)
    clear Zr Kr0 Kr1 Kr2 Kr3 Gr0 Gr1 Gr2 Gr3
    obtain ⟨Zr, Kr0, Kr1, Kr2, Kr3, Gr0, Gr1, Gr2, Gr3⟩ := HXr.out.q4
    clear hb3
    go_wp2
    have HB : Hid (Below w.heap.size w ((((w3.setCell ⟨w.heap.size + 1, 0, none⟩ (.bool false)).setCell ⟨w.heap.size + 1, 1, none⟩ (.slice none 0 0)).setCell ⟨w.heap.size + 1, 2, none⟩ (.slice none 0 0)).setCell ⟨w.heap.size + 1, 3, none⟩ (.int .i64 0))) := Lib.hid ((((HBW.out.setCell (p := ⟨w.heap.size + 1, 0, none⟩) om _).setCell (p := ⟨w.heap.size + 1, 1, none⟩) om _).setCell (p := ⟨w.heap.size + 1, 2, none⟩) om _).setCell (p := ⟨w.heap.size + 1, 3, none⟩) om _)
    rw [HV.out]
    exact bodyPost_ret (v := .tuple #[.agg #[.bool false, .slice none 0 0, .slice none 0 0, .int .i64 0], .int .i64 0, .int .i64 6]) (by simp [results, Tryz.results20, go_sem, cell_setCell, *]) rfl (out_hub0_i_i HB.out)
  obtain ⟨k, d, hk, hd⟩ := hubDoc_get h3
  have HK := Lib.hid hk
  have HD := Lib.hid hd
  have bs := (hubOk_iff.1 h1).ns
  have bl0 := (hubOk_iff.1 h1).l0
  have bl1 := (hubOk_iff.1 h1).l1
  have hdb := headRev_bd ((hubOk_iff.1 h1).doc (List.mem_of_getElem? hd))
  obtain ⟨bh0, bh1, bf0, bf1⟩ := hdb
  have kl := (List.getElem?_eq_some_iff.1 hd).1
  have bd := (hubOk_iff.1 h1).nd
  by_cases h4 : z.subs.length = 6
  · have HV := Lib.hid (hubSubscribe_full (name := name) (room := room) ⟨h1, h2⟩ hsh h3 (.inl h4))
    have e4 : ((z.subs.length : Int) == 6) = true := by simp; omega
    clear hk hd h4 h3
    have hls := fun w1 ty => h_subs.len Tryz.underlying28 w1 ty
    go_enter Tryz.func20, Tryz.ntmps20
    go_wp2_with fail
    refine (HF0.out _ (h_docs.below (((Below.refl w.heap.size w).alloc om _).alloc om _))).mono ?_
    rintro e' w1 ⟨rfl, hb1⟩
    rw [HK.out]
    have s1 : w.heap.size + 2 ≤ w1.heap.size := by have := hb1.size; (try simp at this); omega
    have HBN : Hid (Below w.heap.size w w1) := Lib.hid ((((Below.refl w.heap.size w).alloc om _).alloc om _).trans (hb1.mono om))
    have HBW := HBN
    clear HBN
    have HXz : Hid (Bx w1 (w.heap.size) [.bool false, v_docs, v_subs, .int .i64 z.last]) := Lib.hid (((Bx.new (by first | rfl | simp | omega)).alloc _).at hb1)
    obtain ⟨Zz, Kz0, Kz1, Kz2, Kz3⟩ := HXz.out.o4
    have HXr : Hid (Bx w1 (w.heap.size + 1) [.bool false, .slice none 0 0, .slice none 0 0, .int .i64 0]) := Lib.hid ((Bx.new (by first | rfl | simp | omega)).at hb1)
    obtain ⟨Zr, Kr0, Kr1, Kr2, Kr3, Gr0, Gr1, Gr2, Gr3⟩ := HXr.out.q4
    clear hb1
    go_wp2_with fail
    refine (HOK.out _ (h_docs.below HBW.out) (h_subs.below HBW.out)).mono ?_
    rintro e' w2 ⟨rfl, hb2⟩
    rw [h1]
    have s2 : w1.heap.size ≤ w2.heap.size := by have := hb2.size; (try simp at this); omega
    have HBN : Hid (Below w.heap.size w w2) := Lib.hid (HBW.out.trans (hb2.mono om))
    clear HBW
    have HBW := HBN
    clear HBN
    replace HXz : Hid (Bx w2 (w.heap.size) [.bool false, v_docs, v_subs, .int .i64 z.last]) := Lib.hid (HXz.out.at hb2)
    clear Zz Kz0 Kz1 Kz2 Kz3
    obtain ⟨Zz, Kz0, Kz1, Kz2, Kz3⟩ := HXz.out.o4
    replace HXr : Hid (Bx w2 (w.heap.size + 1) [.bool false, .slice none 0 0, .slice none 0 0, .int .i64 0]) := Lib.hid (HXr.out.at hb2)
    clear Zr Kr0 Kr1 Kr2 Kr3 Gr0 Gr1 Gr2 Gr3
    obtain ⟨Zr, Kr0, Kr1, Kr2, Kr3, Gr0, Gr1, Gr2, Gr3⟩ := HXr.out.q4
    clear hb2
    go_wp2_with fail
    refine (impl_within_c room 1 6 _).mono ?_
    rintro e' w3 ⟨rfl, hb3⟩
    rw [h2]
    have s3 : w2.heap.size ≤ w3.heap.size := by have := hb3.size; (try simp at this); omega
    have HBN : Hid (Below w.heap.size w w3) := Lib.hid (HBW.out.trans (hb3.mono om))
    clear HBW
    have HBW := HBN
    clear HBN
    replace HXz : Hid (Bx w3 (w.heap.size) [.bool false, v_docs, v_subs, .int .i64 z.last]) := Lib.hid (HXz.out.at hb3)
    clear Zz Kz0 Kz1 Kz2 Kz3
    obtain ⟨Zz, Kz0, Kz1, Kz2, Kz3⟩ := HXz.out.o4
    replace HXr : Hid (Bx w3 (w.heap.size + 1) [.bool false, .slice none 0 0, .slice none 0 0, .int .i64 0]) := Lib.hid (HXr.out.at hb3)
    clear Zr Kr0 Kr1 Kr2 Kr3 Gr0 Gr1 Gr2 Gr3
    obtain ⟨Zr, Kr0, Kr1, Kr2, Kr3, Gr0, Gr1, Gr2, Gr3⟩ := HXr.out.q4
    clear hb3
    go_wp2
    have HB : Hid (Below w.heap.size w ((((w3.setCell ⟨w.heap.size + 1, 0, none⟩ (.bool false)).setCell ⟨w.heap.size + 1, 1, none⟩ (.slice none 0 0)).setCell ⟨w.heap.size + 1, 2, none⟩ (.slice none 0 0)).setCell ⟨w.heap.size + 1, 3, none⟩ (.int .i64 0))) := Lib.hid ((((HBW.out.setCell (p := ⟨w.heap.size + 1, 0, none⟩) om _).setCell (p := ⟨w.heap.size + 1, 1, none⟩) om _).setCell (p := ⟨w.heap.size + 1, 2, none⟩) om _).setCell (p := ⟨w.heap.size + 1, 3, none⟩) om _)
    rw [HV.out]
    exact bodyPost_ret (v := .tuple #[.agg #[.bool false, .slice none 0 0, .slice none 0 0, .int .i64 0], .int .i64 0, .int .i64 10]) (by simp [results, Tryz.results20, go_sem, cell_setCell, *]) rfl (out_hub0_i_i HB.out)
  by_cases h5 : z.last = 1000000000
  · have HV := Lib.hid (hubSubscribe_full (name := name) (room := room) ⟨h1, h2⟩ hsh h3 (.inr h5))
    have e4 : ((z.subs.length : Int) == 6) = false := by simp; omega
    have e5 : (z.last == 1000000000) = true := by simp; omega
    clear hk hd h4 h3 h5
    have hls := fun w1 ty => h_subs.len Tryz.underlying28 w1 ty
    go_enter Tryz.func20, Tryz.ntmps20
    go_wp2_with fail
    refine (HF0.out _ (h_docs.below (((Below.refl w.heap.size w).alloc om _).alloc om _))).mono ?_
    rintro e' w1 ⟨rfl, hb1⟩
    rw [HK.out]
    have s1 : w.heap.size + 2 ≤ w1.heap.size := by have := hb1.size; (try simp at this); omega
    have HBN : Hid (Below w.heap.size w w1) := Lib.hid ((((Below.refl w.heap.size w).alloc om _).alloc om _).trans (hb1.mono om))
    have HBW := HBN
    clear HBN
    have HXz : Hid (Bx w1 (w.heap.size) [.bool false, v_docs, v_subs, .int .i64 z.last]) := Lib.hid (((Bx.new (by first | rfl | simp | omega)).alloc _).at hb1)
    obtain ⟨Zz, Kz0, Kz1, Kz2, Kz3⟩ := HXz.out.o4
    have HXr : Hid (Bx w1 (w.heap.size + 1) [.bool false, .slice none 0 0, .slice none 0 0, .int .i64 0]) := Lib.hid ((Bx.new (by first | rfl | simp | omega)).at hb1)
    obtain ⟨Zr, Kr0, Kr1, Kr2, Kr3, Gr0, Gr1, Gr2, Gr3⟩ := HXr.out.q4
    clear hb1
    go_wp2_with fail
    refine (HOK.out _ (h_docs.below HBW.out) (h_subs.below HBW.out)).mono ?_
    rintro e' w2 ⟨rfl, hb2⟩
    rw [h1]
    have s2 : w1.heap.size ≤ w2.heap.size := by have := hb2.size; (try simp at this); omega
    have HBN : Hid (Below w.heap.size w w2) := Lib.hid (HBW.out.trans (hb2.mono om))
    clear HBW
    have HBW := HBN
    clear HBN
    replace HXz : Hid (Bx w2 (w.heap.size) [.bool false, v_docs, v_subs, .int .i64 z.last]) := Lib.hid (HXz.out.at hb2)
    clear Zz Kz0 Kz1 Kz2 Kz3
    obtain ⟨Zz, Kz0, Kz1, Kz2, Kz3⟩ := HXz.out.o4
    replace HXr : Hid (Bx w2 (w.heap.size + 1) [.bool false, .slice none 0 0, .slice none 0 0, .int .i64 0]) := Lib.hid (HXr.out.at hb2)
    clear Zr Kr0 Kr1 Kr2 Kr3 Gr0 Gr1 Gr2 Gr3
    obtain ⟨Zr, Kr0, Kr1, Kr2, Kr3, Gr0, Gr1, Gr2, Gr3⟩ := HXr.out.q4
    clear hb2
    go_wp2_with fail
    refine (impl_within_c room 1 6 _).mono ?_
    rintro e' w3 ⟨rfl, hb3⟩
    rw [h2]
    have s3 : w2.heap.size ≤ w3.heap.size := by have := hb3.size; (try simp at this); omega
    have HBN : Hid (Below w.heap.size w w3) := Lib.hid (HBW.out.trans (hb3.mono om))
    clear HBW
    have HBW := HBN
    clear HBN
    replace HXz : Hid (Bx w3 (w.heap.size) [.bool false, v_docs, v_subs, .int .i64 z.last]) := Lib.hid (HXz.out.at hb3)
    clear Zz Kz0 Kz1 Kz2 Kz3
    obtain ⟨Zz, Kz0, Kz1, Kz2, Kz3⟩ := HXz.out.o4
    replace HXr : Hid (Bx w3 (w.heap.size + 1) [.bool false, .slice none 0 0, .slice none 0 0, .int .i64 0]) := Lib.hid (HXr.out.at hb3)
    clear Zr Kr0 Kr1 Kr2 Kr3 Gr0 Gr1 Gr2 Gr3
    obtain ⟨Zr, Kr0, Kr1, Kr2, Kr3, Gr0, Gr1, Gr2, Gr3⟩ := HXr.out.q4
    clear hb3
    go_wp2
    have HB : Hid (Below w.heap.size w ((((w3.setCell ⟨w.heap.size + 1, 0, none⟩ (.bool false)).setCell ⟨w.heap.size + 1, 1, none⟩ (.slice none 0 0)).setCell ⟨w.heap.size + 1, 2, none⟩ (.slice none 0 0)).setCell ⟨w.heap.size + 1, 3, none⟩ (.int .i64 0))) := Lib.hid ((((HBW.out.setCell (p := ⟨w.heap.size + 1, 0, none⟩) om _).setCell (p := ⟨w.heap.size + 1, 1, none⟩) om _).setCell (p := ⟨w.heap.size + 1, 2, none⟩) om _).setCell (p := ⟨w.heap.size + 1, 3, none⟩) om _)
    rw [HV.out]
    exact bodyPost_ret (v := .tuple #[.agg #[.bool false, .slice none 0 0, .slice none 0 0, .int .i64 0], .int .i64 0, .int .i64 10]) (by simp [results, Tryz.results20, go_sem, cell_setCell, *]) rfl (out_hub0_i_i HB.out)
  have HV := Lib.hid (hubSubscribe_yes (name := name) (room := room) ⟨h1, h2⟩ hsh hk hd (fun h => h.elim h4 h5))
  have e4 : ((z.subs.length : Int) == 6) = false := by simp; omega
  have e5 : (z.last == 1000000000) = false := by simp; omega
  have hRN := fun (W' : World) => (by have := impl_RingNew_c room (headRev d) W' (by omega) (by omega); rw [ringNew_at h2 bh0 bh1] at this; exact this : Calls Tryz.prog 85 #[.int .i64 room, .int .i64 (headRev d)] W' (Out_Ring_b W' ⟨room, headRev d + 1, false, []⟩ true))
  have HRN := Lib.hid hRN
  clear hRN hk hd h4 h3 h5
  have hls := fun w1 ty => h_subs.len Tryz.underlying28 w1 ty
  obtain ⟨j0, hj, jz0, jz1, jz2⟩ := info_parts info_sub
  go_enter Tryz.func20, Tryz.ntmps20
  go_wp2_with fail
  refine (HF0.out _ (h_docs.below (((Below.refl w.heap.size w).alloc om _).alloc om _))).mono ?_
  rintro e' w1 ⟨rfl, hb1⟩
  rw [HK.out]
  have s1 : w.heap.size + 2 ≤ w1.heap.size := by have := hb1.size; (try simp at this); omega
  have HBN : Hid (Below w.heap.size w w1) := Lib.hid ((((Below.refl w.heap.size w).alloc om _).alloc om _).trans (hb1.mono om))
  have HBW := HBN
  clear HBN
  have HXz : Hid (Bx w1 (w.heap.size) [.bool false, v_docs, v_subs, .int .i64 z.last]) := Lib.hid (((Bx.new (by first | rfl | simp | omega)).alloc _).at hb1)
  obtain ⟨Zz, Kz0, Kz1, Kz2, Kz3⟩ := HXz.out.o4
  have HXr : Hid (Bx w1 (w.heap.size + 1) [.bool false, .slice none 0 0, .slice none 0 0, .int .i64 0]) := Lib.hid ((Bx.new (by first | rfl | simp | omega)).at hb1)
  obtain ⟨Zr, Kr0, Kr1, Kr2, Kr3, Gr0, Gr1, Gr2, Gr3⟩ := HXr.out.q4
  clear hb1
  go_wp2_with fail
  refine (HOK.out _ (h_docs.below HBW.out) (h_subs.below HBW.out)).mono ?_
  rintro e' w2 ⟨rfl, hb2⟩
  rw [h1]
  have s2 : w1.heap.size ≤ w2.heap.size := by have := hb2.size; (try simp at this); omega
  have HBN : Hid (Below w.heap.size w w2) := Lib.hid (HBW.out.trans (hb2.mono om))
  clear HBW
  have HBW := HBN
  clear HBN
  replace HXz : Hid (Bx w2 (w.heap.size) [.bool false, v_docs, v_subs, .int .i64 z.last]) := Lib.hid (HXz.out.at hb2)
  clear Zz Kz0 Kz1 Kz2 Kz3
  obtain ⟨Zz, Kz0, Kz1, Kz2, Kz3⟩ := HXz.out.o4
  replace HXr : Hid (Bx w2 (w.heap.size + 1) [.bool false, .slice none 0 0, .slice none 0 0, .int .i64 0]) := Lib.hid (HXr.out.at hb2)
  clear Zr Kr0 Kr1 Kr2 Kr3 Gr0 Gr1 Gr2 Gr3
  obtain ⟨Zr, Kr0, Kr1, Kr2, Kr3, Gr0, Gr1, Gr2, Gr3⟩ := HXr.out.q4
  clear hb2
  go_wp2_with fail
  refine (impl_within_c room 1 6 _).mono ?_
  rintro e' w3 ⟨rfl, hb3⟩
  rw [h2]
  have s3 : w2.heap.size ≤ w3.heap.size := by have := hb3.size; (try simp at this); omega
  have HBN : Hid (Below w.heap.size w w3) := Lib.hid (HBW.out.trans (hb3.mono om))
  clear HBW
  have HBW := HBN
  clear HBN
  replace HXz : Hid (Bx w3 (w.heap.size) [.bool false, v_docs, v_subs, .int .i64 z.last]) := Lib.hid (HXz.out.at hb3)
  clear Zz Kz0 Kz1 Kz2 Kz3
  obtain ⟨Zz, Kz0, Kz1, Kz2, Kz3⟩ := HXz.out.o4
  replace HXr : Hid (Bx w3 (w.heap.size + 1) [.bool false, .slice none 0 0, .slice none 0 0, .int .i64 0]) := Lib.hid (HXr.out.at hb3)
  clear Zr Kr0 Kr1 Kr2 Kr3 Gr0 Gr1 Gr2 Gr3
  obtain ⟨Zr, Kr0, Kr1, Kr2, Kr3, Gr0, Gr1, Gr2, Gr3⟩ := HXr.out.q4
  clear hb3
  go_wp2_with fail
  refine (HCP.out _ (h_docs.below HBW.out) (h_subs.below HBW.out) HZ.out).mono ?_
  rintro e' w4 ⟨_, rfl, ho4, hb4⟩
  obtain ⟨vd, vs, rfl, hown⟩ := HubOwn.of_own ho4
  rw [hsh]
  obtain ⟨ad, cd, rfl⟩ := hown.rd1.isSlice
  obtain ⟨as_, cs_, rfl⟩ := hown.rd2.isSlice
  have HOWN := Lib.hid (hown.mono (C' := w3.heap.size) om)
  clear ho4 hown
  have s4 : w3.heap.size ≤ w4.heap.size := by have := hb4.size; (try simp at this); omega
  have HBN : Hid (Below w.heap.size w w4) := Lib.hid (HBW.out.trans (hb4.mono om))
  clear HBW
  have HBW := HBN
  clear HBN
  replace HXz : Hid (Bx w4 (w.heap.size) [.bool false, v_docs, v_subs, .int .i64 z.last]) := Lib.hid (HXz.out.at hb4)
  clear Zz Kz0 Kz1 Kz2 Kz3
  obtain ⟨Zz, Kz0, Kz1, Kz2, Kz3⟩ := HXz.out.o4
  replace HXr : Hid (Bx w4 (w.heap.size + 1) [.bool false, .slice none 0 0, .slice none 0 0, .int .i64 0]) := Lib.hid (HXr.out.at hb4)
  clear Zr Kr0 Kr1 Kr2 Kr3 Gr0 Gr1 Gr2 Gr3
  obtain ⟨Zr, Kr0, Kr1, Kr2, Kr3, Gr0, Gr1, Gr2, Gr3⟩ := HXr.out.q4
  clear hb4
  obtain ⟨b1, o1, cs, g1, g2, g3⟩ := (h_docs.below HBW.out).idx Tryz.underlying27 szi_DDoc k HD.out
  obtain ⟨d_text, d_list, d_seen, rfl, nd, r_text, r_list, r_seen⟩ := inv_DDoc g3
  have q0 := g2.zero
  have q1 := g2 1 _ rfl
  have q2 := g2 2 _ rfl
  have q3 := g2 3 _ rfl
  have q4 := g2 4 _ rfl
  have l1 : b1 < w4.heap.size := World.block_lt_of_cell? (w := w4) (a := ⟨b1, o1, none⟩) q0
  obtain ⟨at_, ct, rfl⟩ := r_text.isSlice
  obtain ⟨al, cl, rfl⟩ := r_list.isSlice
  obtain ⟨az, cz, rfl⟩ := r_seen.isSlice
  clear g2 g3
  go_wp2_with fail
  refine (impl_HeadRev_c d _ _ _ _ (r_list.below ((Below.refl w4.heap.size w4).alloc om _)) (by omega) (by omega)).mono ?_
  rintro e' w5 ⟨rfl, hb5⟩
  have s5 : w4.heap.size + 1 ≤ w5.heap.size := by have := hb5.size; (try simp at this); omega
  have HBN : Hid (Below w.heap.size w w5) := Lib.hid ((HBW.out.alloc om _).trans (hb5.mono om))
  clear HBW
  have HBW := HBN
  clear HBN
  replace HOWN : Hid (HubOwn (w3.heap.size) (w4.heap.size) w5 (.slice ad z.docs.length cd) (.slice as_ z.subs.length cs_) (z.docs) (z.subs)) := Lib.hid (((HOWN.out.alloc om _).below (hb5.mono om)))
  replace HXz : Hid (Bx w5 (w.heap.size) [.bool false, v_docs, v_subs, .int .i64 z.last]) := Lib.hid ((HXz.out.alloc _).at hb5)
  clear Zz Kz0 Kz1 Kz2 Kz3
  obtain ⟨Zz, Kz0, Kz1, Kz2, Kz3⟩ := HXz.out.o4
  replace HXr : Hid (Bx w5 (w.heap.size + 1) [.bool false, .slice none 0 0, .slice none 0 0, .int .i64 0]) := Lib.hid ((HXr.out.alloc _).at hb5)
  clear Zr Kr0 Kr1 Kr2 Kr3 Gr0 Gr1 Gr2 Gr3
  obtain ⟨Zr, Kr0, Kr1, Kr2, Kr3, Gr0, Gr1, Gr2, Gr3⟩ := HXr.out.q4
  have HXo : Hid (Bx w5 (w4.heap.size) [.bool false, .slice ad z.docs.length cd, .slice as_ z.subs.length cs_, .int .i64 (z.last + 1)]) := Lib.hid ((Bx.new (by first | rfl | simp | omega)).at hb5)
  obtain ⟨Zo, Ko0, Ko1, Ko2, Ko3, Go0, Go1, Go2, Go3⟩ := HXo.out.q4
  clear hb5
  clear g1 q0 q1 q2 q3 q4 l1 r_text r_list r_seen
  go_wp2_with fail
  refine (HRN.out _).mono ?_
  rintro e' w6 ⟨vr, fr, rfl, sr, kr, hb6⟩
  obtain ⟨ar, cr, rfl⟩ := sr.nilS
  have HRG : Hid (OwnB (w5.heap.size) w6.heap.size w6 (.slice ar 0 cr) ([] : List DEntry)) := Lib.hid ⟨fr, sr, kr, Live.lt sr.live⟩
  clear sr kr
  (try dsimp only)
  have s6 : w5.heap.size ≤ w6.heap.size := by have := hb6.size; (try simp at this); omega
  have HBN : Hid (Below w.heap.size w w6) := Lib.hid (HBW.out.trans (hb6.mono om))
  clear HBW
  have HBW := HBN
  clear HBN
  replace HOWN : Hid (HubOwn (w3.heap.size) (w4.heap.size) w6 (.slice ad z.docs.length cd) (.slice as_ z.subs.length cs_) (z.docs) (z.subs)) := Lib.hid ((HOWN.out.below (hb6.mono om)))
  replace HXz : Hid (Bx w6 (w.heap.size) [.bool false, v_docs, v_subs, .int .i64 z.last]) := Lib.hid (HXz.out.at hb6)
  clear Zz Kz0 Kz1 Kz2 Kz3
  obtain ⟨Zz, Kz0, Kz1, Kz2, Kz3⟩ := HXz.out.o4
  replace HXr : Hid (Bx w6 (w.heap.size + 1) [.bool false, .slice none 0 0, .slice none 0 0, .int .i64 0]) := Lib.hid (HXr.out.at hb6)
  clear Zr Kr0 Kr1 Kr2 Kr3 Gr0 Gr1 Gr2 Gr3
  obtain ⟨Zr, Kr0, Kr1, Kr2, Kr3, Gr0, Gr1, Gr2, Gr3⟩ := HXr.out.q4
  replace HXo : Hid (Bx w6 (w4.heap.size) [.bool false, .slice ad z.docs.length cd, .slice as_ z.subs.length cs_, .int .i64 (z.last + 1)]) := Lib.hid (HXo.out.at hb6)
  clear Zo Ko0 Ko1 Ko2 Ko3 Go0 Go1 Go2 Go3
  obtain ⟨Zo, Ko0, Ko1, Ko2, Ko3, Go0, Go1, Go2, Go3⟩ := HXo.out.q4
  clear hb6
  go_upto_region 13 with (fail)
  obtain ⟨U, hU⟩ : ∃ U : World, U = (w6.alloc (.cells #[.int .i64 room, .int .i64 (headRev d + 1), .bool false, .slice ar 0 cr] 117)) := ⟨_, rfl⟩
  have sU : w6.heap.size + 1 ≤ U.heap.size := by rw [hU]; first | (simp; done) | (simp; omega)
  have HBN : Hid (Below w.heap.size w U) := Lib.hid (by rw [hU]; exact (HBW.out.alloc om _))
  clear HBW
  have HBW := HBN
  clear HBN
  replace HOWN : Hid (HubOwn (w3.heap.size) (w4.heap.size) U (.slice ad z.docs.length cd) (.slice as_ z.subs.length cs_) (z.docs) (z.subs)) := Lib.hid (by rw [hU]; exact (HOWN.out.alloc om _))
  replace HRG : Hid (OwnB (w5.heap.size) (w6.heap.size) U (.slice ar 0 cr) ([] : List DEntry)) := Lib.hid (by rw [hU]; exact (HRG.out.alloc _))
  replace HXz : Hid (Bx U (w.heap.size) [.bool false, v_docs, v_subs, .int .i64 z.last]) := Lib.hid (by rw [hU]; exact (HXz.out.alloc _))
  clear Zz Kz0 Kz1 Kz2 Kz3
  obtain ⟨Zz, Kz0, Kz1, Kz2, Kz3⟩ := HXz.out.o4
  replace HXr : Hid (Bx U (w.heap.size + 1) [.bool false, .slice none 0 0, .slice none 0 0, .int .i64 0]) := Lib.hid (by rw [hU]; exact (HXr.out.alloc _))
  clear Zr Kr0 Kr1 Kr2 Kr3 Gr0 Gr1 Gr2 Gr3
  obtain ⟨Zr, Kr0, Kr1, Kr2, Kr3, Gr0, Gr1, Gr2, Gr3⟩ := HXr.out.q4
  replace HXo : Hid (Bx U (w4.heap.size) [.bool false, .slice ad z.docs.length cd, .slice as_ z.subs.length cs_, .int .i64 (z.last + 1)]) := Lib.hid (by rw [hU]; exact (HXo.out.alloc _))
  clear Zo Ko0 Ko1 Ko2 Ko3 Go0 Go1 Go2 Go3
  obtain ⟨Zo, Ko0, Ko1, Ko2, Ko3, Go0, Go1, Go2, Go3⟩ := HXo.out.q4
  have HXg : Hid (Bx U (w6.heap.size) [.int .i64 room, .int .i64 (headRev d + 1), .bool false, .slice ar 0 cr]) := Lib.hid (by rw [hU]; exact (Bx.new (by first | rfl | simp | omega)))
  obtain ⟨Zg, Kg0, Kg1, Kg2, Kg3, Gg0, Gg1, Gg2, Gg3⟩ := HXg.out.q4
  rw [← hU]
  clear hU
  obtain ⟨gs, hrow, hlt, happ⟩ := HOWN.out.row (B := w.heap.size + 2) (ob := w4.heap.size) (by omega) (by omega) (Nat.le_refl _)
  have HG : Hid (∀ p ∈ rowP (GoT.n DSub) (.slice as_ z.subs.length cs_), w3.heap.size ≤ p.1 ∧ p.1 < w4.heap.size) := Lib.hid fun p hp => ⟨hrow.2.1.ge p hp, hlt p (List.mem_append_left _ hp)⟩
  have HROW := Lib.hid hrow
  have HAPP := Lib.hid happ
  obtain ⟨f, sv, kv, lv⟩ := HRG.out
  have HSV := Lib.hid sv
  have HKV := Lib.hid kv
  have HLV := Lib.hid lv
  clear hrow hlt happ sv kv lv
  have HRD : Hid (GoT.rd BIG U [.int .i64 (z.last + 1), .string name, .int .i64 room, .int .i64 (headRev d + 1), .bool false, .slice ar 0 cr] (subNew z name room (headRev d)) f) := Lib.hid ⟨_, _, rfl, nn, ⟨_, f, rfl, HSV.out.belowW (Below.refl U.heap.size U), rfl⟩, rfl⟩
  have HBC : Hid (Below U.heap.size U (U.alloc (.cells #[.int .i64 (z.last + 1), .string name, .int .i64 room, .int .i64 (headRev d + 1), .bool false, .slice ar 0 cr] 122))) := Lib.hid ((Below.refl U.heap.size U).alloc om _)
  go_wp2_with (at_builtin; refine wpList_append_row rfl _ _ 28 rfl Tryz.underlying28 hj jz0 jz1 jz2 rfl rfl rfl (HROW.out.below HBC.out) (src_built (x := subNew z name room (headRev d)) 122 HRD.out) (fun q hq hm => by have e1 := HKV.out.ge q hq; have e2 := HG.out q hm; have e3 := HLV.out q hq; omega) ?c1 ?c2 ?c3 ?_)
  case c1 => simp; exact le_BIG (by omega)
  case c2 => simp; omega
  case c3 => simp; omega
  intro v7 w7 hr7 hw7 hn7
  obtain ⟨a7, c7, e7⟩ := hr7.rd.isSlice
  rw [List.length_append, List.length_singleton] at e7
  subst e7
  have HNEW : Hid (HubNe (w4.heap.size) (w.heap.size + 2) w7 (.slice ad z.docs.length cd) (.slice a7 (z.subs.length + 1) c7) z.docs (z.subs ++ [subNew z name room (headRev d)])) := Lib.hid (HAPP.out _ _ _ _ _ HBC.out hw7 hr7 (fun p hp => (hn7 p.1 p.2 hp).imp_right fun h => by have := HBC.out.size; (try simp at h); (try simp at this); omega) ((HKV.out.belowL HBC.out (Live.lt HSV.out.live)).mono (by omega)) (HSV.out.live.keep (Live.same_below HBC.out (Live.lt HSV.out.live))) (fun p hp => by have := HKV.out.ge p hp; have := HLV.out p hp; omega))
  have s7 : U.heap.size + 1 ≤ w7.heap.size := by have := hw7.size; (try simp at this); omega
  have HBN : Hid (Below w.heap.size w w7) := Lib.hid ((HBW.out.alloc om _).trans (hw7.below (by simp; omega) (fun p hp => by have := HG.out p hp; omega)))
  clear HBW
  have HBW := HBN
  clear HBN
  replace HXz : Hid (Bx w7 (w.heap.size) [.bool false, v_docs, v_subs, .int .i64 z.last]) := Lib.hid ((HXz.out.alloc _).wr hw7 (fun p hp e => by have := HG.out p hp; omega))
  clear Zz Kz0 Kz1 Kz2 Kz3
  obtain ⟨Zz, Kz0, Kz1, Kz2, Kz3⟩ := HXz.out.o4
  replace HXr : Hid (Bx w7 (w.heap.size + 1) [.bool false, .slice none 0 0, .slice none 0 0, .int .i64 0]) := Lib.hid ((HXr.out.alloc _).wr hw7 (fun p hp e => by have := HG.out p hp; omega))
  clear Zr Kr0 Kr1 Kr2 Kr3 Gr0 Gr1 Gr2 Gr3
  obtain ⟨Zr, Kr0, Kr1, Kr2, Kr3, Gr0, Gr1, Gr2, Gr3⟩ := HXr.out.q4
  replace HXo : Hid (Bx w7 (w4.heap.size) [.bool false, .slice ad z.docs.length cd, .slice as_ z.subs.length cs_, .int .i64 (z.last + 1)]) := Lib.hid ((HXo.out.alloc _).wr hw7 (fun p hp e => by have := HG.out p hp; omega))
  clear Zo Ko0 Ko1 Ko2 Ko3 Go0 Go1 Go2 Go3
  obtain ⟨Zo, Ko0, Ko1, Ko2, Ko3, Go0, Go1, Go2, Go3⟩ := HXo.out.q4
  clear hr7 hw7 hn7 HBC HROW HAPP HRD HSV HKV
  go_upto_region 14 with (fail)
  obtain ⟨V, hV⟩ : ∃ V : World, V = (w7.setCell ⟨w4.heap.size, 2, none⟩ (.slice a7 (z.subs.length + 1) c7)) := ⟨_, rfl⟩
  have sV : w7.heap.size ≤ V.heap.size := by rw [hV]; first | (simp; done) | (simp; omega)
  have HBN : Hid (Below w.heap.size w V) := Lib.hid (by rw [hV]; exact (HBW.out.setCell (p := ⟨w4.heap.size, 2, none⟩) om _))
  clear HBW
  have HBW := HBN
  clear HBN
  replace HNEW : Hid (HubNe (w4.heap.size) (w.heap.size + 2) V (.slice ad z.docs.length cd) (.slice a7 (z.subs.length + 1) c7) z.docs (z.subs ++ [subNew z name room (headRev d)])) := Lib.hid (by rw [hV]; exact (HNEW.out.setCell (by omega) _))
  replace HXz : Hid (Bx V (w.heap.size) [.bool false, v_docs, v_subs, .int .i64 z.last]) := Lib.hid (by rw [hV]; exact (HXz.out.setO om))
  clear Zz Kz0 Kz1 Kz2 Kz3
  obtain ⟨Zz, Kz0, Kz1, Kz2, Kz3⟩ := HXz.out.o4
  replace HXr : Hid (Bx V (w.heap.size + 1) [.bool false, .slice none 0 0, .slice none 0 0, .int .i64 0]) := Lib.hid (by rw [hV]; exact (HXr.out.setO om))
  clear Zr Kr0 Kr1 Kr2 Kr3 Gr0 Gr1 Gr2 Gr3
  obtain ⟨Zr, Kr0, Kr1, Kr2, Kr3, Gr0, Gr1, Gr2, Gr3⟩ := HXr.out.q4
  replace HXo : Hid (Bx V (w4.heap.size) [.bool false, .slice ad z.docs.length cd, .slice a7 (z.subs.length + 1) c7, .int .i64 (z.last + 1)]) := Lib.hid (by rw [hV]; exact (HXo.out.set 2 (.slice a7 (z.subs.length + 1) c7)))
  clear Zo Ko0 Ko1 Ko2 Ko3 Go0 Go1 Go2 Go3
  obtain ⟨Zo, Ko0, Ko1, Ko2, Ko3, Go0, Go1, Go2, Go3⟩ := HXo.out.q4
  rw [← hV]
  clear hV
  go_region
  have HH : Hid (HubNe (w4.heap.size) (w.heap.size + 2) ((((V.setCell ⟨w.heap.size + 1, 0, none⟩ (.bool false)).setCell ⟨w.heap.size + 1, 1, none⟩ (.slice ad z.docs.length cd)).setCell ⟨w.heap.size + 1, 2, none⟩ (.slice a7 (z.subs.length + 1) c7)).setCell ⟨w.heap.size + 1, 3, none⟩ (.int .i64 (z.last + 1))).drew (.slice ad z.docs.length cd) (.slice a7 (z.subs.length + 1) c7) z.docs (z.subs ++ [subNew z name room (headRev d)])) := Lib.hid ((((HNEW.out.setCell (by omega) _).setCell (by omega) _).setCell (by omega) _).setCell (by omega) _).drew
  have HB : Hid (Below w.heap.size w ((((V.setCell ⟨w.heap.size + 1, 0, none⟩ (.bool false)).setCell ⟨w.heap.size + 1, 1, none⟩ (.slice ad z.docs.length cd)).setCell ⟨w.heap.size + 1, 2, none⟩ (.slice a7 (z.subs.length + 1) c7)).setCell ⟨w.heap.size + 1, 3, none⟩ (.int .i64 (z.last + 1))).drew) := Lib.hid ((((HBW.out.setCell (p := ⟨w.heap.size + 1, 0, none⟩) om _).setCell (p := ⟨w.heap.size + 1, 1, none⟩) om _).setCell (p := ⟨w.heap.size + 1, 2, none⟩) om _).setCell (p := ⟨w.heap.size + 1, 3, none⟩) om _).drew
  go_wp2
  rw [HV.out]
  exact bodyPost_ret (v := .tuple #[.agg #[.bool false, .slice ad z.docs.length cd, .slice a7 (z.subs.length + 1) c7, .int .i64 (z.last + 1)], .int .i64 (z.last + 1), .int .i64 0]) (by simp [results, Tryz.results20, go_sem, cell_setCell, *]) rfl (HubNe.out_i_i (y := ⟨false, z.docs, z.subs ++ [subNew z name room (headRev d)], z.last + 1⟩) HH.out (by omega) HB.out)
end Go.Proofs.YtddohcdkmhaheaaGreat
