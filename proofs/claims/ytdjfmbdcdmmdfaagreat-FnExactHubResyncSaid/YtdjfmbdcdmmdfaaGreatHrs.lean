/- Hubs: resync. -/
import Derived.Test.YtdjfmbdcdmmdfaaGreatHow
import Derived.Test.YtdjfmbdcdmmdfaaGreatTwo
import Derived.Test.YtdjfmbdcdmmdfaaGreatHsb
import Derived.Test.YtdjfmbdcdmmdfaaGreatHpo
import Derived.Test.YtdjfmbdcdmmdfaaGreatDfn
import Derived.Deep.CutRange
import Derived.Deep.RegionHeld3
import Derived.Deep.Cut
namespace Go.Proofs.YtdjfmbdcdmmdfaaGreat
open Go.RowKit
attribute [local go_sem ↓] Go.wp_at_zero Go.wp_at_succ
theorem keep94 {w8 : World} {b b' bD : Nat} {v0 v1 v2 v3 d0 d1 d2 d3 d4 u0 u1 u2 u3 : Value} (h1 : Bx w8 b [v0, v1, v2, v3]) (h2 : Bx w8 bD [d0, d1, d2, d3, d4]) (n1 : b ≠ b') (n2 : bD ≠ b') : ((((w8.setCell ⟨b', 0, none⟩ u0).setCell ⟨b', 1, none⟩ u1).setCell ⟨b', 2, none⟩ u2).setCell ⟨b', 3, none⟩ u3).cell? ⟨b, 0, none⟩ = some v0 ∧ ((((w8.setCell ⟨b', 0, none⟩ u0).setCell ⟨b', 1, none⟩ u1).setCell ⟨b', 2, none⟩ u2).setCell ⟨b', 3, none⟩ u3).cell? ⟨b, 1, none⟩ = some v1 ∧ ((((w8.setCell ⟨b', 0, none⟩ u0).setCell ⟨b', 1, none⟩ u1).setCell ⟨b', 2, none⟩ u2).setCell ⟨b', 3, none⟩ u3).cell? ⟨b, 2, none⟩ = some v2 ∧ ((((w8.setCell ⟨b', 0, none⟩ u0).setCell ⟨b', 1, none⟩ u1).setCell ⟨b', 2, none⟩ u2).setCell ⟨b', 3, none⟩ u3).cell? ⟨b, 3, none⟩ = some v3 ∧ ((((w8.setCell ⟨b', 0, none⟩ u0).setCell ⟨b', 1, none⟩ u1).setCell ⟨b', 2, none⟩ u2).setCell ⟨b', 3, none⟩ u3).cell? ⟨bD, 0, none⟩ = some d0 ∧ ((((w8.setCell ⟨b', 0, none⟩ u0).setCell ⟨b', 1, none⟩ u1).setCell ⟨b', 2, none⟩ u2).setCell ⟨b', 3, none⟩ u3).cell? ⟨bD, 1, none⟩ = some d1 ∧ ((((w8.setCell ⟨b', 0, none⟩ u0).setCell ⟨b', 1, none⟩ u1).setCell ⟨b', 2, none⟩ u2).setCell ⟨b', 3, none⟩ u3).cell? ⟨bD, 2, none⟩ = some d2 ∧ ((((w8.setCell ⟨b', 0, none⟩ u0).setCell ⟨b', 1, none⟩ u1).setCell ⟨b', 2, none⟩ u2).setCell ⟨b', 3, none⟩ u3).cell? ⟨bD, 3, none⟩ = some d3 ∧ ((((w8.setCell ⟨b', 0, none⟩ u0).setCell ⟨b', 1, none⟩ u1).setCell ⟨b', 2, none⟩ u2).setCell ⟨b', 3, none⟩ u3).cell? ⟨bD, 4, none⟩ = some d4 :=
  have ⟨a0, a1, a2, a3⟩ := ((((h1.setO (o := 0) (u := u0) n1).setO (o := 1) (u := u1) n1).setO (o := 2) (u := u2) n1).setO (o := 3) (u := u3) n1).c4
  have ⟨e0, e1, e2, e3, e4⟩ := ((((h2.setO (o := 0) (u := u0) n2).setO (o := 1) (u := u1) n2).setO (o := 2) (u := u2) n2).setO (o := 3) (u := u3) n2).c5
  ⟨a0, a1, a2, a3, e0, e1, e2, e3, e4⟩
theorem mvo {B b o : Nat} {w w' : World} {v : Option Value} (h : Below B w w') (z : b < B) (k : w.cell? ⟨b, o, none⟩ = v) : w'.cell? ⟨b, o, none⟩ = v := (h.cell (p := ⟨b, o, none⟩) z).trans k
theorem HubNe.two {ob B : Nat} {w : World} {vd vs : Value} {docs : List DDoc} {subs : List DSub} (h : HubNe ob B w vd vs docs subs) : ∃ fd fs, Two B w.heap.size w vd vs docs subs fd fs :=
  let ⟨fd, fs, a, b, c, _⟩ := h
  ⟨fd, fs, a, b, c, Live.lt (Live.append.2 ⟨a.live, b.live⟩)⟩
theorem hubResync_no {z : DHub} {id : Int} (h : hubOk z = false) : hubResync z id = (hub0, [], 0, 1) := by simp [hubResync, h]
theorem hubResync_sub {z : DHub} {id : Int} (h : hubOk z = true) (h2 : hubSub z id < 0) : hubResync z id = (hub0, [], 0, 8) := by
  unfold hubResync
  rw [if_pos h]
  split
  · rw [if_pos h2]
  · rfl
def ringAt (r : DRing) (n : Int) : DRing := ⟨r.cap, n + 1, false, []⟩
theorem ringResync_at {r : DRing} {n : Int} (h : ringOk r = true) (h0 : 0 ≤ n) (h1 : n ≤ 999999008) : ringResync r n = (ringAt r n, true) := by
  have := ringOk_next h
  rw [ringResync_yes n h, ringNew_at (within_iff.2 ⟨this.2.2.1, this.2.2.2⟩) h0 h1]
  rfl
theorem hubResync_yes {z : DHub} {id : Int} {k kd : Nat} {s : DSub} {d : DDoc} (h : hubOk z = true) (hk : hubSub z id = k) (hs : z.subs[k]? = some s) (hkd : hubDoc z s.doc = kd) (hd : z.docs[kd]? = some d) :
    hubResync z id = (⟨z.shut, z.docs, z.subs.set k (subRing s (ringAt s.r (headRev d))), z.last⟩, headText d, headRev d, 0) := by
  have hb := headRev_bd ((hubOk_iff.1 h).doc (List.mem_of_getElem? hd))
  have hr := (hubOk_iff.1 h).ring (List.mem_of_getElem? hs)
  unfold hubResync
  have hh : headOf z s.doc = headRev d := by simp [headOf, hkd, hd]
  rw [if_pos h, hk, Int.toNat_natCast, hs]
  simp only [hh, hkd, Int.toNat_natCast, hd, ringResync_at hr hb.1 hb.2.1]
  rw [if_neg (by omega)]
  rfl
theorem hubResync_cnt (z : DHub) (id : Int) : cntL (hubResync z id).1.docs + cntL (hubResync z id).1.subs + cntL (hubResync z id).2.1 ≤ 5 * (szL z.docs + szL z.subs) + 1000 := by
  have := hub_cnt z
  cases h : hubOk z
  · rw [hubResync_no h]; simp [hub0, cntL]
  by_cases h2 : hubSub z id < 0
  · rw [hubResync_sub h h2]; simp [hub0, cntL]
  obtain ⟨k, s, hk, hs⟩ := hubSub_get h2
  obtain ⟨kd, d, hkd, hd⟩ := (hubOk_iff.1 h).at (List.mem_of_getElem? hs)
  rw [hubResync_yes h hk hs hkd hd]
  have e1 := cntL_set (y := subRing s (ringAt s.r (headRev d))) hs
  have e3 : GoM.cnt s = 5 + cntL s.r.list := rfl
  have e4 : GoM.cnt (subRing s (ringAt s.r (headRev d))) = 5 := rfl
  have e5 := cntL_le (headText d)
  have e6 := textAt_len d (headRev d)
  rw [szL_int] at e5
  unfold headText at *
  simp only
  omega

set_option maxHeartbeats 8000000 in
set_option maxRecDepth 100000 in
theorem spec_HubResync_c (z : DHub) (v_docs v_subs : Value) (id : Int) (w : World) (h_docs : RdS w v_docs z.docs) (h_subs : RdS w v_subs z.subs)  : Calls Tryz.prog 9 #[.agg #[.bool z.shut, v_docs, v_subs, .int .i64 z.last], .int .i64 id] w (Out_Hub_IntS_i_i w (hubResync z id).1 (hubResync z id).2.1 (hubResync z id).2.2.1 (hubResync z id).2.2.2) := by
  have hOK := fun (W' : World) (a : RdS W' v_docs z.docs) (b : RdS W' v_subs z.subs) => spec_HubOk_c z v_docs v_subs W' a b
  have hCP := fun (W' : World) (a : RdS W' v_docs z.docs) (b : RdS W' v_subs z.subs) (c : HubSz z) => spec_l11Copy_c z v_docs v_subs W' a b c
  have hF0 := fun (W' : World) (b : RdS W' v_subs z.subs) => spec_HubSub_c z v_docs v_subs id W' b
  have hF1 := fun (W' : World) (nm : ByteArray) (a : RdS W' v_docs z.docs) => spec_HubDoc_c z v_docs v_subs nm W' a
  obtain ⟨sh, hsh⟩ : ∃ sh : Bool, z.shut = sh := ⟨_, rfl⟩
  simp only [hsh] at hOK hCP hF0 hF1
  rw [hsh]
  have HOK := Lib.hid hOK
  have HCP := Lib.hid hCP
  have HF0 := Lib.hid hF0
  have HF1 := Lib.hid hF1
  clear hOK hCP hF0 hF1
  by_cases h1 : hubOk z = true
  rotate_left
  · have h1 : hubOk z = false := by simpa using h1
    have HV := Lib.hid (hubResync_no (z := z) (id := id) h1)
    go_enter Tryz.func9, Tryz.ntmps9
    go_wp2_with fail
    refine (HF0.out _ (h_subs.below (((Below.refl w.heap.size w).alloc om _).alloc om _))).mono ?_
    rintro e' w1 ⟨rfl, hb1⟩
    have s1 : w.heap.size + 2 ≤ w1.heap.size := by have := hb1.size; (try simp at this); omega
    have HBN : Hid (Below w.heap.size w w1) := Lib.hid ((((Below.refl w.heap.size w).alloc om _).alloc om _).trans (hb1.mono om))
    have HBW := HBN
    clear HBN
    have HXz : Hid (Bx w1 (w.heap.size) [.bool sh, v_docs, v_subs, .int .i64 z.last]) := Lib.hid (((Bx.new (by first | rfl | simp | omega)).alloc _).at hb1)
    obtain ⟨Zz, Kz0, Kz1, Kz2, Kz3⟩ := HXz.out.o4
    have HXr : Hid (Bx w1 (w.heap.size + 1) [.bool false, .slice none 0 0, .slice none 0 0, .int .i64 0]) := Lib.hid ((Bx.new (by first | rfl | simp | omega)).at hb1)
    obtain ⟨Zr, Kr0, Kr1, Kr2, Kr3, Gr0, Gr1, Gr2, Gr3⟩ := HXr.out.q4
    clear hb1
    go_wp2_with fail
    refine (HOK.out _ (h_docs.below HBW.out) (h_subs.below HBW.out)).mono ?_
    rintro e' w2 ⟨rfl, hb2⟩
    rw [h1]
    have s2 : w1.heap.size ≤ w2.heap.size := by have := hb2.size; (try simp at this); omega
    have HBN : Hid (Below w.heap.size w w2) := Lib.hid (HBW.out.trans (hb2.mono om))
    clear HBW
    have HBW := HBN
    clear HBN
    replace HXz : Hid (Bx w2 (w.heap.size) [.bool sh, v_docs, v_subs, .int .i64 z.last]) := Lib.hid (HXz.out.at hb2)
    clear Zz Kz0 Kz1 Kz2 Kz3
    obtain ⟨Zz, Kz0, Kz1, Kz2, Kz3⟩ := HXz.out.o4
    replace HXr : Hid (Bx w2 (w.heap.size + 1) [.bool false, .slice none 0 0, .slice none 0 0, .int .i64 0]) := Lib.hid (HXr.out.at hb2)
    clear Zr Kr0 Kr1 Kr2 Kr3 Gr0 Gr1 Gr2 Gr3
    obtain ⟨Zr, Kr0, Kr1, Kr2, Kr3, Gr0, Gr1, Gr2, Gr3⟩ := HXr.out.q4
    clear hb2
    go_wp2
    have HB : Hid (Below w.heap.size w ((((w2.setCell ⟨w.heap.size + 1, 0, none⟩ (.bool false)).setCell ⟨w.heap.size + 1, 1, none⟩ (.slice none 0 0)).setCell ⟨w.heap.size + 1, 2, none⟩ (.slice none 0 0)).setCell ⟨w.heap.size + 1, 3, none⟩ (.int .i64 0))) := Lib.hid ((((HBW.out.setCell (p := ⟨w.heap.size + 1, 0, none⟩) om _).setCell (p := ⟨w.heap.size + 1, 1, none⟩) om _).setCell (p := ⟨w.heap.size + 1, 2, none⟩) om _).setCell (p := ⟨w.heap.size + 1, 3, none⟩) om _)
    rw [HV.out]
    exact bodyPost_ret (v := .tuple #[.agg #[.bool false, .slice none 0 0, .slice none 0 0, .int .i64 0], .slice none 0 0, .int .i64 0, .int .i64 1]) (by simp [results, Tryz.results9, go_sem, cell_setCell, *]) rfl (out_hub0_is_i_i HB.out)
  have HZ := Lib.hid (hubSz h1)
  by_cases h3 : hubSub z id < 0
  · have HV := Lib.hid (hubResync_sub h1 h3)
    go_enter Tryz.func9, Tryz.ntmps9
    go_wp2_with fail
    refine (HF0.out _ (h_subs.below (((Below.refl w.heap.size w).alloc om _).alloc om _))).mono ?_
    rintro e' w1 ⟨rfl, hb1⟩
    have s1 : w.heap.size + 2 ≤ w1.heap.size := by have := hb1.size; (try simp at this); omega
    have HBN : Hid (Below w.heap.size w w1) := Lib.hid ((((Below.refl w.heap.size w).alloc om _).alloc om _).trans (hb1.mono om))
    have HBW := HBN
    clear HBN
    have HXz : Hid (Bx w1 (w.heap.size) [.bool sh, v_docs, v_subs, .int .i64 z.last]) := Lib.hid (((Bx.new (by first | rfl | simp | omega)).alloc _).at hb1)
    obtain ⟨Zz, Kz0, Kz1, Kz2, Kz3⟩ := HXz.out.o4
    have HXr : Hid (Bx w1 (w.heap.size + 1) [.bool false, .slice none 0 0, .slice none 0 0, .int .i64 0]) := Lib.hid ((Bx.new (by first | rfl | simp | omega)).at hb1)
    obtain ⟨Zr, Kr0, Kr1, Kr2, Kr3, Gr0, Gr1, Gr2, Gr3⟩ := HXr.out.q4
    clear hb1
    go_wp2_with fail
    refine (HOK.out _ (h_docs.below HBW.out) (h_subs.below HBW.out)).mono ?_
    rintro e' w2 ⟨rfl, hb2⟩
    rw [h1]
    have s2 : w1.heap.size ≤ w2.heap.size := by have := hb2.size; (try simp at this); omega
    have HBN : Hid (Below w.heap.size w w2) := Lib.hid (HBW.out.trans (hb2.mono om))
    clear HBW
    have HBW := HBN
    clear HBN
    replace HXz : Hid (Bx w2 (w.heap.size) [.bool sh, v_docs, v_subs, .int .i64 z.last]) := Lib.hid (HXz.out.at hb2)
    clear Zz Kz0 Kz1 Kz2 Kz3
    obtain ⟨Zz, Kz0, Kz1, Kz2, Kz3⟩ := HXz.out.o4
    replace HXr : Hid (Bx w2 (w.heap.size + 1) [.bool false, .slice none 0 0, .slice none 0 0, .int .i64 0]) := Lib.hid (HXr.out.at hb2)
    clear Zr Kr0 Kr1 Kr2 Kr3 Gr0 Gr1 Gr2 Gr3
    obtain ⟨Zr, Kr0, Kr1, Kr2, Kr3, Gr0, Gr1, Gr2, Gr3⟩ := HXr.out.q4
    clear hb2
    go_wp2
    have HB : Hid (Below w.heap.size w ((((w2.setCell ⟨w.heap.size + 1, 0, none⟩ (.bool false)).setCell ⟨w.heap.size + 1, 1, none⟩ (.slice none 0 0)).setCell ⟨w.heap.size + 1, 2, none⟩ (.slice none 0 0)).setCell ⟨w.heap.size + 1, 3, none⟩ (.int .i64 0))) := Lib.hid ((((HBW.out.setCell (p := ⟨w.heap.size + 1, 0, none⟩) om _).setCell (p := ⟨w.heap.size + 1, 1, none⟩) om _).setCell (p := ⟨w.heap.size + 1, 2, none⟩) om _).setCell (p := ⟨w.heap.size + 1, 3, none⟩) om _)
    rw [HV.out]
    exact bodyPost_ret (v := .tuple #[.agg #[.bool false, .slice none 0 0, .slice none 0 0, .int .i64 0], .slice none 0 0, .int .i64 0, .int .i64 8]) (by simp [results, Tryz.results9, go_sem, cell_setCell, *]) rfl (out_hub0_is_i_i HB.out)
  obtain ⟨k, s, hk, hs⟩ := hubSub_get h3
  obtain ⟨kd, d, hkd, hdd⟩ := (hubOk_iff.1 h1).at (List.mem_of_getElem? hs)
  have HV := Lib.hid (hubResync_yes h1 hk hs hkd hdd)
  have HK := Lib.hid hk
  have HD := Lib.hid hs
  have HKD := Lib.hid hkd
  have HDD := Lib.hid hdd
  have bs := (hubOk_iff.1 h1).ns
  have bd_ := (hubOk_iff.1 h1).nd
  have kl := (List.getElem?_eq_some_iff.1 hs).1
  have kdl := (List.getElem?_eq_some_iff.1 hdd).1
  have hro := (hubOk_iff.1 h1).ring (List.mem_of_getElem? hs)
  obtain ⟨bh0, bh1, bf0, bf1⟩ := headRev_bd ((hubOk_iff.1 h1).doc (List.mem_of_getElem? hdd))
  have hRR := fun (W' : World) (v : Value) (a : RdS W' v s.r.list) => (by have := spec_RingResync_c s.r (headRev d) v W' (by omega) (by omega) a; rw [ringResync_at hro bh0 bh1] at this; exact this : Calls Tryz.prog 43 #[.agg #[.int .i64 s.r.cap, .int .i64 s.r.next, .bool s.r.out, v], .int .i64 (headRev d)] W' (Out_Ring_b W' (ringAt s.r (headRev d)) true))
  have HRR := Lib.hid hRR
  clear hRR hk hs hkd hdd hro h3
  go_enter Tryz.func9, Tryz.ntmps9
  go_wp2_with fail
  refine (HF0.out _ (h_subs.below (((Below.refl w.heap.size w).alloc om _).alloc om _))).mono ?_
  rintro e' w1 ⟨rfl, hb1⟩
  rw [HK.out]
  have s1 : w.heap.size + 2 ≤ w1.heap.size := by have := hb1.size; (try simp at this); omega
  have HBN : Hid (Below w.heap.size w w1) := Lib.hid ((((Below.refl w.heap.size w).alloc om _).alloc om _).trans (hb1.mono om))
  have HBW := HBN
  clear HBN
  have HXz : Hid (Bx w1 (w.heap.size) [.bool sh, v_docs, v_subs, .int .i64 z.last]) := Lib.hid (((Bx.new (by first | rfl | simp | omega)).alloc _).at hb1)
  obtain ⟨Zz, Kz0, Kz1, Kz2, Kz3⟩ := HXz.out.o4
  have HXr : Hid (Bx w1 (w.heap.size + 1) [.bool false, .slice none 0 0, .slice none 0 0, .int .i64 0]) := Lib.hid ((Bx.new (by first | rfl | simp | omega)).at hb1)
  obtain ⟨Zr, Kr0, Kr1, Kr2, Kr3, Gr0, Gr1, Gr2, Gr3⟩ := HXr.out.q4
  clear hb1
  go_wp2_with fail
  refine (HOK.out _ (h_docs.below HBW.out) (h_subs.below HBW.out)).mono ?_
  rintro e' w2 ⟨rfl, hb2⟩
  rw [h1]
  have s2 : w1.heap.size ≤ w2.heap.size := by have := hb2.size; (try simp at this); omega
  have HBN : Hid (Below w.heap.size w w2) := Lib.hid (HBW.out.trans (hb2.mono om))
  clear HBW
  have HBW := HBN
  clear HBN
  replace HXz : Hid (Bx w2 (w.heap.size) [.bool sh, v_docs, v_subs, .int .i64 z.last]) := Lib.hid (HXz.out.at hb2)
  clear Zz Kz0 Kz1 Kz2 Kz3
  obtain ⟨Zz, Kz0, Kz1, Kz2, Kz3⟩ := HXz.out.o4
  replace HXr : Hid (Bx w2 (w.heap.size + 1) [.bool false, .slice none 0 0, .slice none 0 0, .int .i64 0]) := Lib.hid (HXr.out.at hb2)
  clear Zr Kr0 Kr1 Kr2 Kr3 Gr0 Gr1 Gr2 Gr3
  obtain ⟨Zr, Kr0, Kr1, Kr2, Kr3, Gr0, Gr1, Gr2, Gr3⟩ := HXr.out.q4
  clear hb2
  obtain ⟨b1, o1, cs, g1, g2, g3⟩ := (h_subs.below HBW.out).idx Tryz.underlying28 szi_DSub k HD.out
  obtain ⟨v_rl, rfl, nd, r_rl⟩ := inv_DSub g3
  have q1 := g2 1 _ rfl
  have q2 : w2.cell? ⟨b1, o1 + 2, none⟩ = some _ := g2 2 _ rfl
  have q3 : w2.cell? ⟨b1, o1 + 2 + 1, none⟩ = some _ := g2 3 _ rfl
  have q4 : w2.cell? ⟨b1, o1 + 2 + 2, none⟩ = some _ := g2 4 _ rfl
  have q5 : w2.cell? ⟨b1, o1 + 2 + 3, none⟩ = some _ := g2 5 _ rfl
  have l1 : b1 < w2.heap.size := World.block_lt_of_cell? (w := w2) (a := ⟨b1, o1 + 1, none⟩) q1
  obtain ⟨arl, crl, rfl⟩ := r_rl.isSlice
  clear g2 g3
  obtain ⟨bd, od, ds, i1, i2, i3⟩ := (h_docs.below HBW.out).idx Tryz.underlying27 szi_DDoc kd HDD.out
  obtain ⟨d_text, d_list, d_seen, rfl, nn, r_text, r_list, r_seen⟩ := inv_DDoc i3
  have p0 := i2.zero
  have p1 := i2 1 _ rfl
  have p2 := i2 2 _ rfl
  have p3 := i2 3 _ rfl
  have p4 := i2 4 _ rfl
  have l2 : bd < w2.heap.size := World.block_lt_of_cell? (w := w2) (a := ⟨bd, od, none⟩) p0
  obtain ⟨at_, ct, rfl⟩ := r_text.isSlice
  obtain ⟨al, cl, rfl⟩ := r_list.isSlice
  obtain ⟨az, cz, rfl⟩ := r_seen.isSlice
  clear i2 i3
  have HRL := Lib.hid r_list
  have HRT := Lib.hid r_text
  have HRZ := Lib.hid r_seen
  have HRG := Lib.hid r_rl
  clear r_list r_text r_seen r_rl
  have l10 := l1
  have HV2 : Hid (Below w2.heap.size w2 w2) := Lib.hid (Below.refl _ _)
  go_upto_region 6 with (fail)
  go_cut [9] from 23 to 35 (fun z0 wx => ∃ bD : Nat, z0 = .pointer (some ⟨bD, 0, none⟩) ∧ w2.heap.size ≤ bD ∧ bD < wx.heap.size ∧ wx.cell? ⟨bD, 0, none⟩ = some (.string d.name) ∧ wx.cell? ⟨bD, 1, none⟩ = some (.int .i64 d.from_) ∧ wx.cell? ⟨bD, 2, none⟩ = some (.slice at_ d.text.length ct) ∧ wx.cell? ⟨bD, 3, none⟩ = some (.slice al d.list.length cl) ∧ wx.cell? ⟨bD, 4, none⟩ = some (.slice az d.seen.length cz) ∧ wx.frozen? ⟨bD, 0, none⟩ = false ∧ wx.frozen? ⟨bD, 1, none⟩ = false ∧ wx.frozen? ⟨bD, 2, none⟩ = false ∧ wx.frozen? ⟨bD, 3, none⟩ = false ∧ wx.frozen? ⟨bD, 4, none⟩ = false ∧ Below w2.heap.size w2 wx)
  case first =>
    have m1 : ¬ (w.heap.size = w2.heap.size) := by omega
    have m2 : ¬ (b1 = w2.heap.size) := by omega
    have m3 : ¬ (bd = w2.heap.size) := by omega
    go_region_held3 (fun w' => w'.cell? ⟨w.heap.size, 0, none⟩ = some (.bool sh) ∧ w'.cell? ⟨w.heap.size, 1, none⟩ = some (v_docs) ∧ w'.cell? ⟨w.heap.size, 2, none⟩ = some (v_subs) ∧ w'.cell? ⟨w.heap.size, 3, none⟩ = some (.int .i64 z.last) ∧ w'.cell? ⟨b1, o1 + 1, none⟩ = some (.string s.doc) ∧ w'.cell? ⟨bd, od, none⟩ = some (.string d.name) ∧ w'.cell? ⟨bd, od + 1, none⟩ = some (.int .i64 d.from_) ∧ w'.cell? ⟨bd, od + 2, none⟩ = some (.slice at_ d.text.length ct) ∧ w'.cell? ⟨bd, od + 3, none⟩ = some (.slice al d.list.length cl) ∧ w'.cell? ⟨bd, od + 4, none⟩ = some (.slice az d.seen.length cz)) (first | go_keep | (simp [cell_setCell, *]; done)) ((first | (go_at_call 41; refine (HF1.out _ _ (h_docs.below (show Below w.heap.size w _ from HBW.out.trans ((show Below w2.heap.size w2 _ from blw).mono HBW.out.size)))).mono ?_; rintro e' w3 ⟨rfl, hb3⟩; rw [HKD.out]; have sb3 := hb3.size; (try simp at sb3); (try (have nb0 : w3.cell? ⟨w2.heap.size, 0, none⟩ = some (.string ⟨#[]⟩) := (hb3.cell (p := ⟨w2.heap.size, 0, none⟩) (by first | (simp; done) | (simp; omega) | omega)).trans (by simp [go_sem]; done))); (try (have ng0 : w3.frozen? ⟨w2.heap.size, 0, none⟩ = false := (hb3.frozen (p := ⟨w2.heap.size, 0, none⟩) (by first | (simp; done) | (simp; omega) | omega)).trans (by simp [go_sem]; done))); (try (have nb1 : w3.cell? ⟨w2.heap.size, 1, none⟩ = some (.int .i64 0) := (hb3.cell (p := ⟨w2.heap.size, 1, none⟩) (by first | (simp; done) | (simp; omega) | omega)).trans (by simp [go_sem]; done))); (try (have ng1 : w3.frozen? ⟨w2.heap.size, 1, none⟩ = false := (hb3.frozen (p := ⟨w2.heap.size, 1, none⟩) (by first | (simp; done) | (simp; omega) | omega)).trans (by simp [go_sem]; done))); (try (have nb2 : w3.cell? ⟨w2.heap.size, 2, none⟩ = some (.slice none 0 0) := (hb3.cell (p := ⟨w2.heap.size, 2, none⟩) (by first | (simp; done) | (simp; omega) | omega)).trans (by simp [go_sem]; done))); (try (have ng2 : w3.frozen? ⟨w2.heap.size, 2, none⟩ = false := (hb3.frozen (p := ⟨w2.heap.size, 2, none⟩) (by first | (simp; done) | (simp; omega) | omega)).trans (by simp [go_sem]; done))); (try (have nb3 : w3.cell? ⟨w2.heap.size, 3, none⟩ = some (.slice none 0 0) := (hb3.cell (p := ⟨w2.heap.size, 3, none⟩) (by first | (simp; done) | (simp; omega) | omega)).trans (by simp [go_sem]; done))); (try (have ng3 : w3.frozen? ⟨w2.heap.size, 3, none⟩ = false := (hb3.frozen (p := ⟨w2.heap.size, 3, none⟩) (by first | (simp; done) | (simp; omega) | omega)).trans (by simp [go_sem]; done))); (try (have nb4 : w3.cell? ⟨w2.heap.size, 4, none⟩ = some (.slice none 0 0) := (hb3.cell (p := ⟨w2.heap.size, 4, none⟩) (by first | (simp; done) | (simp; omega) | omega)).trans (by simp [go_sem]; done))); (try (have ng4 : w3.frozen? ⟨w2.heap.size, 4, none⟩ = false := (hb3.frozen (p := ⟨w2.heap.size, 4, none⟩) (by first | (simp; done) | (simp; omega) | omega)).trans (by simp [go_sem]; done))); have B3 : Below w2.heap.size w2 w3 := (show Below w2.heap.size w2 _ from blw).trans (hb3.mono om); have s3 := B3.size; obtain ⟨Zz_3, Kz_3_0, Kz_3_1, Kz_3_2, Kz_3_3⟩ := (HXz.out.at B3).o4; have q1_3 := mvo B3 l1 q1; obtain ⟨p0_3, p1_3, p2_3, p3_3, p4_3⟩ := mv5 B3 l2 p0 p1 p2 p3 p4; clear hb3; have HB3 := Lib.hid B3)))
    all_goals
      go_wp2_with fail
      go_meet
      first | exact ⟨_, rfl, by first | omega | (simp; done) | (simp; omega), by first | omega | (simp; done) | (simp; omega), by simp [go_sem, cell_setCell, *], by simp [go_sem, cell_setCell, *], by simp [go_sem, cell_setCell, *], by simp [go_sem, cell_setCell, *], by simp [go_sem, cell_setCell, *], by simp [go_sem, *], by simp [go_sem, *], by simp [go_sem, *], by simp [go_sem, *], by simp [go_sem, *], (show Below w2.heap.size w2 _ from by first | exact blw | exact HB3.out.trans ((show Below w3.heap.size w3 _ from blw).mono HB3.out.size))⟩
  case rest =>
    obtain ⟨w3, rfl⟩ : ∃ wq : World, wq = wc := ⟨_, rfl⟩
    obtain ⟨bD, rfl, zl1, zl2, k0, k1, k2, k3, k4, f0, f1, f2, f3, f4, hb3⟩ := hcut
    have HXd0 : Hid (Bx w3 bD [.string d.name, .int .i64 d.from_, .slice at_ d.text.length ct, .slice al d.list.length cl, .slice az d.seen.length cz]) := Lib.hid ⟨zl2, fun j v hj => by
      match j, hj with
      | 0, hj => simp at hj; subst hj; exact ⟨k0, f0⟩
      | 1, hj => simp at hj; subst hj; exact ⟨k1, f1⟩
      | 2, hj => simp at hj; subst hj; exact ⟨k2, f2⟩
      | 3, hj => simp at hj; subst hj; exact ⟨k3, f3⟩
      | 4, hj => simp at hj; subst hj; exact ⟨k4, f4⟩⟩
    clear q1 k0 k1 k2 k3 k4 f0 f1 f2 f3 f4
    have s3 : w2.heap.size ≤ w3.heap.size := by have := hb3.size; (try simp at this); omega
    have HBN : Hid (Below w.heap.size w w3) := Lib.hid (HBW.out.trans (hb3.mono om))
    clear HBW
    have HBW := HBN
    clear HBN
    replace HV2 : Hid (Below w2.heap.size w2 w3) := Lib.hid ((HV2.out.trans (hb3.mono om)))
    have RR : Below w2.heap.size w2 w3 := (Below.refl w2.heap.size w2).trans (hb3.mono om)
    have hh := mv4 RR l1 q2 q3 q4 q5
    clear q2 q3 q4 q5
    obtain ⟨q2, q3, q4, q5⟩ := hh
    replace l1 := Nat.lt_of_lt_of_le l1 RR.size
    have hh := mv5 RR l2 p0 p1 p2 p3 p4
    clear p0 p1 p2 p3 p4
    obtain ⟨p0, p1, p2, p3, p4⟩ := hh
    replace l2 := Nat.lt_of_lt_of_le l2 RR.size
    clear RR
    replace HXz : Hid (Bx w3 (w.heap.size) [.bool sh, v_docs, v_subs, .int .i64 z.last]) := Lib.hid (HXz.out.at hb3)
    clear Zz Kz0 Kz1 Kz2 Kz3
    obtain ⟨Zz, Kz0, Kz1, Kz2, Kz3⟩ := HXz.out.o4
    replace HXr : Hid (Bx w3 (w.heap.size + 1) [.bool false, .slice none 0 0, .slice none 0 0, .int .i64 0]) := Lib.hid (HXr.out.at hb3)
    clear Zr Kr0 Kr1 Kr2 Kr3 Gr0 Gr1 Gr2 Gr3
    obtain ⟨Zr, Kr0, Kr1, Kr2, Kr3, Gr0, Gr1, Gr2, Gr3⟩ := HXr.out.q4
    clear hb3
    have HXdd := HXd0
    obtain ⟨Zdd, Kdd0, Kdd1, Kdd2, Kdd3, Kdd4, Gdd0, Gdd1, Gdd2, Gdd3, Gdd4⟩ := HXdd.out.q5
    clear HXd0
    go_wp2_with fail
    refine (HCP.out _ (h_docs.below HBW.out) (h_subs.below HBW.out) HZ.out).mono ?_
    rintro e' w4 ⟨_, rfl, ho4, hb4⟩
    obtain ⟨vd, vs, rfl, hown⟩ := HubOwn.of_own ho4
    rw [hsh]
    obtain ⟨ad, cd, rfl⟩ := hown.rd1.isSlice
    obtain ⟨as_, cs_, rfl⟩ := hown.rd2.isSlice
    have HOWN := Lib.hid (hown.mono (C' := w3.heap.size) om)
    clear ho4 hown
    have s4 : w3.heap.size ≤ w4.heap.size := by have := hb4.size; (try simp at this); omega
    have HBN : Hid (Below w.heap.size w w4) := Lib.hid (HBW.out.trans (hb4.mono om))
    clear HBW
    have HBW := HBN
    clear HBN
    replace HV2 : Hid (Below w2.heap.size w2 w4) := Lib.hid ((HV2.out.trans (hb4.mono om)))
    have RR : Below w3.heap.size w3 w4 := (Below.refl w3.heap.size w3).trans (hb4.mono om)
    have hh := mv4 RR l1 q2 q3 q4 q5
    clear q2 q3 q4 q5
    obtain ⟨q2, q3, q4, q5⟩ := hh
    replace l1 := Nat.lt_of_lt_of_le l1 RR.size
    clear RR
    replace HXz : Hid (Bx w4 (w.heap.size) [.bool sh, v_docs, v_subs, .int .i64 z.last]) := Lib.hid (HXz.out.at hb4)
    clear Zz Kz0 Kz1 Kz2 Kz3
    obtain ⟨Zz, Kz0, Kz1, Kz2, Kz3⟩ := HXz.out.o4
    replace HXr : Hid (Bx w4 (w.heap.size + 1) [.bool false, .slice none 0 0, .slice none 0 0, .int .i64 0]) := Lib.hid (HXr.out.at hb4)
    clear Zr Kr0 Kr1 Kr2 Kr3 Gr0 Gr1 Gr2 Gr3
    obtain ⟨Zr, Kr0, Kr1, Kr2, Kr3, Gr0, Gr1, Gr2, Gr3⟩ := HXr.out.q4
    replace HXdd : Hid (Bx w4 (bD) [.string d.name, .int .i64 d.from_, .slice at_ d.text.length ct, .slice al d.list.length cl, .slice az d.seen.length cz]) := Lib.hid (HXdd.out.at hb4)
    clear Zdd Kdd0 Kdd1 Kdd2 Kdd3 Kdd4 Gdd0 Gdd1 Gdd2 Gdd3 Gdd4
    obtain ⟨Zdd, Kdd0, Kdd1, Kdd2, Kdd3, Kdd4, Gdd0, Gdd1, Gdd2, Gdd3, Gdd4⟩ := HXdd.out.q5
    clear hb4
    clear p0 p1 p2 p3 p4 l2 i1
    go_upto_region 8 with (fail)
    obtain ⟨V, hV⟩ : ∃ V : World, V = (w4.alloc (.cells #[.bool sh, .slice ad z.docs.length cd, .slice as_ z.subs.length cs_, .int .i64 z.last] 30)) := ⟨_, rfl⟩
    have sV : w4.heap.size + 1 ≤ V.heap.size := by rw [hV]; first | (simp; done) | (simp; omega)
    have HBN : Hid (Below w.heap.size w V) := Lib.hid (by rw [hV]; exact (HBW.out.alloc om _))
    clear HBW
    have HBW := HBN
    clear HBN
    replace HV2 : Hid (Below w2.heap.size w2 V) := Lib.hid (by rw [hV]; exact (HV2.out.alloc om _))
    replace HOWN : Hid (HubOwn (w3.heap.size) (w4.heap.size) V (.slice ad z.docs.length cd) (.slice as_ z.subs.length cs_) (z.docs) (z.subs)) := Lib.hid (by rw [hV]; exact (HOWN.out.alloc om _))
    have RR : Below w4.heap.size w4 V := by rw [hV]; exact ((Below.refl w4.heap.size w4).alloc om _)
    have hh := mv4 RR l1 q2 q3 q4 q5
    clear q2 q3 q4 q5
    obtain ⟨q2, q3, q4, q5⟩ := hh
    replace l1 := Nat.lt_of_lt_of_le l1 RR.size
    clear RR
    replace HXz : Hid (Bx V (w.heap.size) [.bool sh, v_docs, v_subs, .int .i64 z.last]) := Lib.hid (by rw [hV]; exact (HXz.out.alloc _))
    clear Zz Kz0 Kz1 Kz2 Kz3
    obtain ⟨Zz, Kz0, Kz1, Kz2, Kz3⟩ := HXz.out.o4
    replace HXr : Hid (Bx V (w.heap.size + 1) [.bool false, .slice none 0 0, .slice none 0 0, .int .i64 0]) := Lib.hid (by rw [hV]; exact (HXr.out.alloc _))
    clear Zr Kr0 Kr1 Kr2 Kr3 Gr0 Gr1 Gr2 Gr3
    obtain ⟨Zr, Kr0, Kr1, Kr2, Kr3, Gr0, Gr1, Gr2, Gr3⟩ := HXr.out.q4
    replace HXdd : Hid (Bx V (bD) [.string d.name, .int .i64 d.from_, .slice at_ d.text.length ct, .slice al d.list.length cl, .slice az d.seen.length cz]) := Lib.hid (by rw [hV]; exact (HXdd.out.alloc _))
    clear Zdd Kdd0 Kdd1 Kdd2 Kdd3 Kdd4 Gdd0 Gdd1 Gdd2 Gdd3 Gdd4
    obtain ⟨Zdd, Kdd0, Kdd1, Kdd2, Kdd3, Kdd4, Gdd0, Gdd1, Gdd2, Gdd3, Gdd4⟩ := HXdd.out.q5
    have HXo : Hid (Bx V (w4.heap.size) [.bool sh, .slice ad z.docs.length cd, .slice as_ z.subs.length cs_, .int .i64 z.last]) := Lib.hid (by rw [hV]; exact (Bx.new (by first | rfl | simp | omega)))
    obtain ⟨Zo, Ko0, Ko1, Ko2, Ko3, Go0, Go1, Go2, Go3⟩ := HXo.out.q4
    rw [← hV]
    clear hV
    obtain ⟨b2, o2, vq, j1, j2, j3, j4, j5, j6, j7, j8⟩ := HOWN.out.el (B := w.heap.size + 2) (by omega) Tryz.underlying28 szi_DSub HD.out
    have HJ8 := Lib.hid j8
    have HJ5 := Lib.hid j5
    have y2 : V.cell? ⟨b2, o2 + 2, none⟩ = some _ := j5 2 _ rfl
    have x2 : V.frozen? ⟨b2, o2 + 2, none⟩ = false := j7 2 (by omega)
    have y3 : V.cell? ⟨b2, o2 + 2 + 1, none⟩ = some _ := j5 3 _ rfl
    have x3 : V.frozen? ⟨b2, o2 + 2 + 1, none⟩ = false := j7 3 (by omega)
    have y4 : V.cell? ⟨b2, o2 + 2 + 2, none⟩ = some _ := j5 4 _ rfl
    have x4 : V.frozen? ⟨b2, o2 + 2 + 2, none⟩ = false := j7 4 (by omega)
    have y5 : V.cell? ⟨b2, o2 + 2 + 3, none⟩ = some _ := j5 5 _ rfl
    have x5 : V.frozen? ⟨b2, o2 + 2 + 3, none⟩ = false := j7 5 (by omega)
    clear j5 j6 j7 j8
    have n1 : ¬ (w.heap.size = b2) := by omega
    have n2 : ¬ (bD = b2) := by omega
    have n3 : ¬ (w4.heap.size = b2) := by omega
    have n4 : ¬ (b1 = b2) := by omega
    have n5 : ¬ (w.heap.size + 1 = b2) := by omega
    have n6 : ¬ (b2 = w.heap.size + 1) := by omega
    have n7 : ¬ (bD = w.heap.size + 1) := by omega
    have n8 : ¬ (w.heap.size + 1 = bD) := by omega
    have n9 : ¬ (w4.heap.size = w.heap.size + 1) := by omega
    go_region_held3 (fun w' => w'.cell? ⟨w.heap.size, 0, none⟩ = some (.bool sh) ∧ w'.cell? ⟨w.heap.size, 1, none⟩ = some (v_docs) ∧ w'.cell? ⟨w.heap.size, 2, none⟩ = some (v_subs) ∧ w'.cell? ⟨w.heap.size, 3, none⟩ = some (.int .i64 z.last) ∧ w'.cell? ⟨bD, 0, none⟩ = some (.string d.name) ∧ w'.cell? ⟨bD, 1, none⟩ = some (.int .i64 d.from_) ∧ w'.cell? ⟨bD, 2, none⟩ = some (.slice at_ d.text.length ct) ∧ w'.cell? ⟨bD, 3, none⟩ = some (.slice al d.list.length cl) ∧ w'.cell? ⟨bD, 4, none⟩ = some (.slice az d.seen.length cz) ∧ w'.cell? ⟨w4.heap.size, 0, none⟩ = some (.bool sh) ∧ w'.cell? ⟨w4.heap.size, 1, none⟩ = some (.slice ad z.docs.length cd) ∧ w'.cell? ⟨w4.heap.size, 2, none⟩ = some (.slice as_ z.subs.length cs_) ∧ w'.cell? ⟨w4.heap.size, 3, none⟩ = some (.int .i64 z.last) ∧ w'.cell? ⟨b1, o1 + 2, none⟩ = some (.int .i64 s.r.cap) ∧ w'.cell? ⟨b1, o1 + 2 + 1, none⟩ = some (.int .i64 s.r.next) ∧ w'.cell? ⟨b1, o1 + 2 + 2, none⟩ = some (.bool s.r.out) ∧ w'.cell? ⟨b1, o1 + 2 + 3, none⟩ = some (.slice arl s.r.list.length crl)) (first | go_keep | (simp [cell_setCell, *]; done))
      (first | (go_at_call 44; refine (spec_HeadRev_c d _ _ _ _ (HRL.out.below ((show Below w2.heap.size w2 V from HV2.out).trans ((show Below V.heap.size V _ from blw).mono HV2.out.size))) (by omega) (by omega)).mono ?_; rintro e' w5 ⟨rfl, hb5⟩; have B5 : Below V.heap.size V w5 := (show Below V.heap.size V _ from blw).trans (hb5.mono om); have s5 := B5.size; obtain ⟨Zz_5, Kz_5_0, Kz_5_1, Kz_5_2, Kz_5_3⟩ := (HXz.out.at B5).o4; obtain ⟨Zdd_5, Kdd_5_0, Kdd_5_1, Kdd_5_2, Kdd_5_3, Kdd_5_4, Gdd_5_0, Gdd_5_1, Gdd_5_2, Gdd_5_3, Gdd_5_4⟩ := (HXdd.out.at B5).q5; obtain ⟨Zo_5, Ko_5_0, Ko_5_1, Ko_5_2, Ko_5_3, Go_5_0, Go_5_1, Go_5_2, Go_5_3⟩ := (HXo.out.at B5).q4; obtain ⟨Zr_5, Kr_5_0, Kr_5_1, Kr_5_2, Kr_5_3, Gr_5_0, Gr_5_1, Gr_5_2, Gr_5_3⟩ := (HXr.out.at B5).q4; obtain ⟨q2_5, q3_5, q4_5, q5_5⟩ := mv4 B5 l1 q2 q3 q4 q5; obtain ⟨y2_5, y3_5, y4_5, y5_5⟩ := mv4 B5 j4 y2 y3 y4 y5; obtain ⟨x2_5, x3_5, x4_5, x5_5⟩ := mf4 B5 j4 x2 x3 x4 x5; clear hb5) | (go_at_call 43; refine (HRR.out _ _ (HRG.out.below ((show Below w2.heap.size w2 V from HV2.out).trans ((show Below V.heap.size V _ from blw).mono HV2.out.size)))).mono ?_; rintro e' w6 ⟨vr, fr, rfl, sr, kr, hb6⟩; obtain ⟨ar, cr, rfl⟩ := sr.nilS; have HSR := Lib.hid sr; have HKR : Hid (Fresh V.heap.size w6 fr) := Lib.hid (kr.mono (by first | omega | (simp; omega))); clear sr kr; have B6 : Below V.heap.size V w6 := (show Below V.heap.size V _ from blw).trans (hb6.mono om); have s6 := B6.size; obtain ⟨Zz_6, Kz_6_0, Kz_6_1, Kz_6_2, Kz_6_3⟩ := (HXz.out.at B6).o4; obtain ⟨Zdd_6, Kdd_6_0, Kdd_6_1, Kdd_6_2, Kdd_6_3, Kdd_6_4, Gdd_6_0, Gdd_6_1, Gdd_6_2, Gdd_6_3, Gdd_6_4⟩ := (HXdd.out.at B6).q5; obtain ⟨Zo_6, Ko_6_0, Ko_6_1, Ko_6_2, Ko_6_3, Go_6_0, Go_6_1, Go_6_2, Go_6_3⟩ := (HXo.out.at B6).q4; obtain ⟨Zr_6, Kr_6_0, Kr_6_1, Kr_6_2, Kr_6_3, Gr_6_0, Gr_6_1, Gr_6_2, Gr_6_3⟩ := (HXr.out.at B6).q4; obtain ⟨q2_6, q3_6, q4_6, q5_6⟩ := mv4 B6 l1 q2 q3 q4 q5; obtain ⟨y2_6, y3_6, y4_6, y5_6⟩ := mv4 B6 j4 y2 y3 y4 y5; obtain ⟨x2_6, x3_6, x4_6, x5_6⟩ := mf4 B6 j4 x2 x3 x4 x5; clear hb6))
    have HWE : Hid (Wr (own b2 o2 6) V ((((w6.setCell ⟨b2, o2 + 2, none⟩ (.int .i64 (ringAt s.r (headRev d)).cap)).setCell ⟨b2, o2 + 2 + 1, none⟩ (.int .i64 (ringAt s.r (headRev d)).next)).setCell ⟨b2, o2 + 2 + 2, none⟩ (.bool (ringAt s.r (headRev d)).out)).setCell ⟨b2, o2 + 2 + 3, none⟩ (.slice ar 0 cr))) := Lib.hid (((((Wr.of_below B6).put (b := b2) (o := o2 + 2) (mem_own.2 ⟨rfl, by simp only; omega, by simp only; omega⟩) (.int .i64 (ringAt s.r (headRev d)).cap)).put (b := b2) (o := o2 + 2 + 1) (mem_own.2 ⟨rfl, by simp only; omega, by simp only; omega⟩) (.int .i64 (ringAt s.r (headRev d)).next)).put (b := b2) (o := o2 + 2 + 2) (mem_own.2 ⟨rfl, by simp only; omega, by simp only; omega⟩) (.bool (ringAt s.r (headRev d)).out)).put (b := b2) (o := o2 + 2 + 3) (mem_own.2 ⟨rfl, by simp only; omega, by simp only; omega⟩) (.slice ar 0 cr))
    have HAE : Hid (At ((((w6.setCell ⟨b2, o2 + 2, none⟩ (.int .i64 (ringAt s.r (headRev d)).cap)).setCell ⟨b2, o2 + 2 + 1, none⟩ (.int .i64 (ringAt s.r (headRev d)).next)).setCell ⟨b2, o2 + 2 + 2, none⟩ (.bool (ringAt s.r (headRev d)).out)).setCell ⟨b2, o2 + 2 + 3, none⟩ (.slice ar 0 cr)) b2 o2 [.int .i64 s.id, .string s.doc, .int .i64 (ringAt s.r (headRev d)).cap, .int .i64 (ringAt s.r (headRev d)).next, .bool (ringAt s.r (headRev d)).out, .slice ar 0 cr]) := Lib.hid (((((HJ5.out.keep fun j hj => B6.cell (p := ⟨b2, o2 + j, none⟩) j4).put 2 (by simp) (.int .i64 (ringAt s.r (headRev d)).cap)).put 3 (by simp) (.int .i64 (ringAt s.r (headRev d)).next)).put 4 (by simp) (.bool (ringAt s.r (headRev d)).out)).put 5 (by simp) (.slice ar 0 cr))
    have htw : Two (α := DEntry) (β := Int) V.heap.size w6.heap.size w6 (.slice ar 0 cr) (.slice none 0 0) [] [] fr [] := ⟨HSR.out, Sl.nil, by simpa using HKR.out, by simpa using Live.lt HSR.out.live⟩
    have HTR := Lib.hid ((((htw.setCell (b := b2) (o := o2 + 2) (.inl j4) (.int .i64 (ringAt s.r (headRev d)).cap)).setCell (b := b2) (o := o2 + 2 + 1) (.inl j4) (.int .i64 (ringAt s.r (headRev d)).next)).setCell (b := b2) (o := o2 + 2 + 2) (.inl j4) (.bool (ringAt s.r (headRev d)).out)).setCell (b := b2) (o := o2 + 2 + 3) (.inl j4) (.slice ar 0 cr))
    clear htw
    obtain ⟨fd, fs, sd, ss, hf, hm⟩ := HJ8.out ((((w6.setCell ⟨b2, o2 + 2, none⟩ (.int .i64 (ringAt s.r (headRev d)).cap)).setCell ⟨b2, o2 + 2 + 1, none⟩ (.int .i64 (ringAt s.r (headRev d)).next)).setCell ⟨b2, o2 + 2 + 2, none⟩ (.bool (ringAt s.r (headRev d)).out)).setCell ⟨b2, o2 + 2 + 3, none⟩ (.slice ar 0 cr)) (ringAt s.r (headRev d)) (.slice ar 0 cr) fr HWE.out HAE.out HTR.out.1 (HTR.out.2.2.1.left.mono (by omega)) (fun p hp => by have := HTR.out.2.2.1.ge p (List.mem_append_left _ hp); omega)
    have HNE : Hid (HubNe w4.heap.size (w.heap.size + 2) ((((w6.setCell ⟨b2, o2 + 2, none⟩ (.int .i64 (ringAt s.r (headRev d)).cap)).setCell ⟨b2, o2 + 2 + 1, none⟩ (.int .i64 (ringAt s.r (headRev d)).next)).setCell ⟨b2, o2 + 2 + 2, none⟩ (.bool (ringAt s.r (headRev d)).out)).setCell ⟨b2, o2 + 2 + 3, none⟩ (.slice ar 0 cr)) (.slice ad z.docs.length cd) (.slice as_ z.subs.length cs_) z.docs (z.subs.set k (subRing s (ringAt s.r (headRev d))))) := Lib.hid ⟨fd, fs, sd, ss, hf, fun p hp => by rcases hm p hp with h | h; omega; have := HTR.out.2.2.1.ge p (List.mem_append_left _ h); omega⟩
    clear sd ss hf hm HJ8 HJ5 HWE HAE HTR
    have s6 : V.heap.size ≤ w6.heap.size := by have := B6.size; (try simp at this); omega
    have HBN : Hid (Below w.heap.size w w6) := Lib.hid (HBW.out.trans (B6.mono om))
    clear HBW
    have HBW := HBN
    clear HBN
    replace HV2 : Hid (Below w2.heap.size w2 w6) := Lib.hid (HV2.out.trans (B6.mono om))
    replace HXr : Hid (Bx w6 (w.heap.size + 1) [.bool false, .slice none 0 0, .slice none 0 0, .int .i64 0]) := Lib.hid (HXr.out.at B6)
    clear Zr Kr0 Kr1 Kr2 Kr3 Gr0 Gr1 Gr2 Gr3
    obtain ⟨Zr, Kr0, Kr1, Kr2, Kr3, Gr0, Gr1, Gr2, Gr3⟩ := HXr.out.q4
    replace HXdd : Hid (Bx w6 (bD) [.string d.name, .int .i64 d.from_, .slice at_ d.text.length ct, .slice al d.list.length cl, .slice az d.seen.length cz]) := Lib.hid (HXdd.out.at B6)
    clear Zdd Kdd0 Kdd1 Kdd2 Kdd3 Kdd4 Gdd0 Gdd1 Gdd2 Gdd3 Gdd4
    obtain ⟨Zdd, Kdd0, Kdd1, Kdd2, Kdd3, Kdd4, Gdd0, Gdd1, Gdd2, Gdd3, Gdd4⟩ := HXdd.out.q5
    replace HXo : Hid (Bx w6 (w4.heap.size) [.bool sh, .slice ad z.docs.length cd, .slice as_ z.subs.length cs_, .int .i64 z.last]) := Lib.hid (HXo.out.at B6)
    clear Zo Ko0 Ko1 Ko2 Ko3 Go0 Go1 Go2 Go3
    obtain ⟨Zo, Ko0, Ko1, Ko2, Ko3, Go0, Go1, Go2, Go3⟩ := HXo.out.q4
    go_upto_region 9 with (fail)
    obtain ⟨U, hU⟩ : ∃ U : World, U = ((((w6.setCell ⟨b2, o2 + 2, none⟩ (.int .i64 (ringAt s.r (headRev d)).cap)).setCell ⟨b2, o2 + 2 + 1, none⟩ (.int .i64 (ringAt s.r (headRev d)).next)).setCell ⟨b2, o2 + 2 + 2, none⟩ (.bool (ringAt s.r (headRev d)).out)).setCell ⟨b2, o2 + 2 + 3, none⟩ (.slice ar 0 cr)) := ⟨_, rfl⟩
    have sU : w6.heap.size ≤ U.heap.size := by rw [hU]; first | (simp; done) | (simp; omega)
    have HBN : Hid (Below w.heap.size w U) := Lib.hid (by rw [hU]; exact ((((HBW.out.setCell (p := ⟨b2, o2 + 2, none⟩) om _).setCell (p := ⟨b2, o2 + 2 + 1, none⟩) om _).setCell (p := ⟨b2, o2 + 2 + 2, none⟩) om _).setCell (p := ⟨b2, o2 + 2 + 3, none⟩) om _))
    clear HBW
    have HBW := HBN
    clear HBN
    replace HV2 : Hid (Below w2.heap.size w2 U) := Lib.hid (by rw [hU]; exact ((((HV2.out.setCell (p := ⟨b2, o2 + 2, none⟩) om _).setCell (p := ⟨b2, o2 + 2 + 1, none⟩) om _).setCell (p := ⟨b2, o2 + 2 + 2, none⟩) om _).setCell (p := ⟨b2, o2 + 2 + 3, none⟩) om _))
    replace HXr : Hid (Bx U (w.heap.size + 1) [.bool false, .slice none 0 0, .slice none 0 0, .int .i64 0]) := Lib.hid (by rw [hU]; exact ((((HXr.out.setO om).setO om).setO om).setO om))
    clear Zr Kr0 Kr1 Kr2 Kr3 Gr0 Gr1 Gr2 Gr3
    obtain ⟨Zr, Kr0, Kr1, Kr2, Kr3, Gr0, Gr1, Gr2, Gr3⟩ := HXr.out.q4
    replace HXdd : Hid (Bx U (bD) [.string d.name, .int .i64 d.from_, .slice at_ d.text.length ct, .slice al d.list.length cl, .slice az d.seen.length cz]) := Lib.hid (by rw [hU]; exact ((((HXdd.out.setO om).setO om).setO om).setO om))
    clear Zdd Kdd0 Kdd1 Kdd2 Kdd3 Kdd4 Gdd0 Gdd1 Gdd2 Gdd3 Gdd4
    obtain ⟨Zdd, Kdd0, Kdd1, Kdd2, Kdd3, Kdd4, Gdd0, Gdd1, Gdd2, Gdd3, Gdd4⟩ := HXdd.out.q5
    replace HXo : Hid (Bx U (w4.heap.size) [.bool sh, .slice ad z.docs.length cd, .slice as_ z.subs.length cs_, .int .i64 z.last]) := Lib.hid (by rw [hU]; exact ((((HXo.out.setO om).setO om).setO om).setO om))
    clear Zo Ko0 Ko1 Ko2 Ko3 Go0 Go1 Go2 Go3
    obtain ⟨Zo, Ko0, Ko1, Ko2, Ko3, Go0, Go1, Go2, Go3⟩ := HXo.out.q4
    have HNU : Hid (HubNe w4.heap.size (w.heap.size + 2) U (.slice ad z.docs.length cd) (.slice as_ z.subs.length cs_) z.docs (z.subs.set k (subRing s (ringAt s.r (headRev d))))) := Lib.hid (by rw [hU]; exact HNE.out)
    rw [← hU]
    clear hU
    obtain ⟨fd, fs, htw⟩ := HNU.out.two
    have HTU := Lib.hid htw
    clear htw HNE HNU
    go_region_held3 (fun w' => w'.cell? ⟨w4.heap.size, 0, none⟩ = some (.bool sh) ∧ w'.cell? ⟨w4.heap.size, 1, none⟩ = some (.slice ad z.docs.length cd) ∧ w'.cell? ⟨w4.heap.size, 2, none⟩ = some (.slice as_ z.subs.length cs_) ∧ w'.cell? ⟨w4.heap.size, 3, none⟩ = some (.int .i64 z.last) ∧ w'.cell? ⟨bD, 0, none⟩ = some (.string d.name) ∧ w'.cell? ⟨bD, 1, none⟩ = some (.int .i64 d.from_) ∧ w'.cell? ⟨bD, 2, none⟩ = some (.slice at_ d.text.length ct) ∧ w'.cell? ⟨bD, 3, none⟩ = some (.slice al d.list.length cl) ∧ w'.cell? ⟨bD, 4, none⟩ = some (.slice az d.seen.length cz)) (first | (go_keep; done) | exact keep94 (HXo.out.at B8) (HXdd.out.at B8) n9 n7)
      (first | (go_at_call 45; refine (spec_HeadText_c d _ _ _ _ nn (HRT.out.below (HV2.out.trans ((show Below U.heap.size U _ from blw).mono HV2.out.size))) (HRL.out.below (HV2.out.trans ((show Below U.heap.size U _ from blw).mono HV2.out.size))) (HRZ.out.below (HV2.out.trans ((show Below U.heap.size U _ from blw).mono HV2.out.size)))).mono ?_; rintro e' w7 ⟨vh, fh, rfl, sh_, kh, hb7⟩; have HSH := Lib.hid sh_; have HKH : Hid (Fresh U.heap.size w7 fh) := Lib.hid (kh.mono om); clear sh_ kh; have B7 : Below U.heap.size U w7 := (show Below U.heap.size U _ from blw).trans (hb7.mono om); have s7 := B7.size; obtain ⟨Zdd_7, Kdd_7_0, Kdd_7_1, Kdd_7_2, Kdd_7_3, Kdd_7_4, Gdd_7_0, Gdd_7_1, Gdd_7_2, Gdd_7_3, Gdd_7_4⟩ := (HXdd.out.at B7).q5; obtain ⟨Zo_7, Ko_7_0, Ko_7_1, Ko_7_2, Ko_7_3, Go_7_0, Go_7_1, Go_7_2, Go_7_3⟩ := (HXo.out.at B7).q4; obtain ⟨Zr_7, Kr_7_0, Kr_7_1, Kr_7_2, Kr_7_3, Gr_7_0, Gr_7_1, Gr_7_2, Gr_7_3⟩ := (HXr.out.at B7).q4; clear hb7) | (go_at_call 44; refine (spec_HeadRev_c d _ _ _ _ (HRL.out.below (HV2.out.trans ((show Below U.heap.size U _ from blw).mono HV2.out.size))) (by omega) (by omega)).mono ?_; rintro e' w8 ⟨rfl, hb8⟩; have B78 : Below w7.heap.size w7 w8 := (show Below w7.heap.size w7 _ from blw).trans (hb8.mono om); have s78 := B78.size; have B8 : Below U.heap.size U w8 := (show Below U.heap.size U _ from blw).trans (hb8.mono om); have s8 := B8.size; obtain ⟨Zdd_8, Kdd_8_0, Kdd_8_1, Kdd_8_2, Kdd_8_3, Kdd_8_4, Gdd_8_0, Gdd_8_1, Gdd_8_2, Gdd_8_3, Gdd_8_4⟩ := (HXdd.out.at B8).q5; obtain ⟨Zo_8, Ko_8_0, Ko_8_1, Ko_8_2, Ko_8_3, Go_8_0, Go_8_1, Go_8_2, Go_8_3⟩ := (HXo.out.at B8).q4; obtain ⟨Zr_8, Kr_8_0, Kr_8_1, Kr_8_2, Kr_8_3, Gr_8_0, Gr_8_1, Gr_8_2, Gr_8_3⟩ := (HXr.out.at B8).q4; clear hb8))
    have htx : Two (α := Int) (β := Int) U.heap.size w7.heap.size w7 vh (.slice none 0 0) (headText d) [] fh [] := ⟨HSH.out, Sl.nil, by simpa using HKH.out, by simpa using Live.lt HSH.out.live⟩
    have HX1 := Lib.hid (((((htx.below B78).setCell (b := w.heap.size + 1) (o := 0) (.inl (by omega)) (.bool sh)).setCell (b := w.heap.size + 1) (o := 1) (.inl (by omega)) (.slice ad z.docs.length cd)).setCell (b := w.heap.size + 1) (o := 2) (.inl (by omega)) (.slice as_ z.subs.length cs_)).setCell (b := w.heap.size + 1) (o := 3) (.inl (by omega)) (.int .i64 z.last))
    have HX2 := Lib.hid (((((HTU.out.below B8).setCell (b := w.heap.size + 1) (o := 0) (.inl (by omega)) (.bool sh)).setCell (b := w.heap.size + 1) (o := 1) (.inl (by omega)) (.slice ad z.docs.length cd)).setCell (b := w.heap.size + 1) (o := 2) (.inl (by omega)) (.slice as_ z.subs.length cs_)).setCell (b := w.heap.size + 1) (o := 3) (.inl (by omega)) (.int .i64 z.last))
    have HB : Hid (Below w.heap.size w ((((w8.setCell ⟨w.heap.size + 1, 0, none⟩ (.bool sh)).setCell ⟨w.heap.size + 1, 1, none⟩ (.slice ad z.docs.length cd)).setCell ⟨w.heap.size + 1, 2, none⟩ (.slice as_ z.subs.length cs_)).setCell ⟨w.heap.size + 1, 3, none⟩ (.int .i64 z.last))) := Lib.hid (((((HBW.out.trans (B8.mono (by omega))).setCell (p := ⟨w.heap.size + 1, 0, none⟩) om _).setCell (p := ⟨w.heap.size + 1, 1, none⟩) om _).setCell (p := ⟨w.heap.size + 1, 2, none⟩) om _).setCell (p := ⟨w.heap.size + 1, 3, none⟩) om _)
    clear htx
    go_wp2
    rw [HV.out]
    subst hsh
    exact bodyPost_ret (v := .tuple #[.agg #[.bool z.shut, .slice ad z.docs.length cd, .slice as_ z.subs.length cs_, .int .i64 z.last], vh, .int .i64 (headRev d), .int .i64 0]) (by simp [results, Tryz.results9, go_sem, cell_setCell, *]) rfl (out_is (y := ⟨z.shut, z.docs, z.subs.set k (subRing s (ringAt s.r (headRev d))), z.last⟩) HX2.out.1 HX2.out.2.1 HX1.out.1 (HX2.out.2.2.1.mono (by omega)) (HX1.out.2.2.1.left.mono (by omega)) (fun p hp hq => by
      have a1 := HX1.out.2.2.1.ge p (List.mem_append_left _ hp)
      have a2 := HX2.out.2.2.2 p hq
      omega) HB.out)
set_option maxHeartbeats 8000000 in
set_option maxRecDepth 100000 in
theorem impl_HubResync_c (z : DHub) (v_docs v_subs : Value) (id : Int) (w : World) (h_docs : RdS w v_docs z.docs) (h_subs : RdS w v_subs z.subs)  : Calls Tryz.prog 11 #[.agg #[.bool z.shut, v_docs, v_subs, .int .i64 z.last], .int .i64 id] w (Out_Hub_IntS_i_i w (hubResync z id).1 (hubResync z id).2.1 (hubResync z id).2.2.1 (hubResync z id).2.2.2) := by
  have hOK := fun (W' : World) (a : RdS W' v_docs z.docs) (b : RdS W' v_subs z.subs) => impl_HubOk_c z v_docs v_subs W' a b
  have hCP := fun (W' : World) (a : RdS W' v_docs z.docs) (b : RdS W' v_subs z.subs) (c : HubSz z) => impl_copyHub_c z v_docs v_subs W' a b c
  have hF0 := fun (W' : World) (b : RdS W' v_subs z.subs) => impl_HubSub_c z v_docs v_subs id W' b
  have hF1 := fun (W' : World) (nm : ByteArray) (a : RdS W' v_docs z.docs) => impl_HubDoc_c z v_docs v_subs nm W' a
  obtain ⟨sh, hsh⟩ : ∃ sh : Bool, z.shut = sh := ⟨_, rfl⟩
  simp only [hsh] at hOK hCP hF0 hF1
  rw [hsh]
  have HOK := Lib.hid hOK
  have HCP := Lib.hid hCP
  have HF0 := Lib.hid hF0
  have HF1 := Lib.hid hF1
  clear hOK hCP hF0 hF1
  by_cases h1 : hubOk z = true
  rotate_left
  · have h1 : hubOk z = false := by simpa using h1
    have HV := Lib.hid (hubResync_no (z := z) (id := id) h1)
    go_enter Tryz.func11, Tryz.ntmps11
    go_wp2_with fail
    refine (HF0.out _ (h_subs.below (((Below.refl w.heap.size w).alloc om _).alloc om _))).mono ?_
    rintro e' w1 ⟨rfl, hb1⟩
    have s1 : w.heap.size + 2 ≤ w1.heap.size := by have := hb1.size; (try simp at this); omega
    have HBN : Hid (Below w.heap.size w w1) := Lib.hid ((((Below.refl w.heap.size w).alloc om _).alloc om _).trans (hb1.mono om))
    have HBW := HBN
    clear HBN
    have HXz : Hid (Bx w1 (w.heap.size) [.bool sh, v_docs, v_subs, .int .i64 z.last]) := Lib.hid (((Bx.new (by first | rfl | simp | omega)).alloc _).at hb1)
    obtain ⟨Zz, Kz0, Kz1, Kz2, Kz3⟩ := HXz.out.o4
    have HXr : Hid (Bx w1 (w.heap.size + 1) [.bool false, .slice none 0 0, .slice none 0 0, .int .i64 0]) := Lib.hid ((Bx.new (by first | rfl | simp | omega)).at hb1)
    obtain ⟨Zr, Kr0, Kr1, Kr2, Kr3, Gr0, Gr1, Gr2, Gr3⟩ := HXr.out.q4
    clear hb1
    go_wp2_with fail
    refine (HOK.out _ (h_docs.below HBW.out) (h_subs.below HBW.out)).mono ?_
    rintro e' w2 ⟨rfl, hb2⟩
    rw [h1]
    have s2 : w1.heap.size ≤ w2.heap.size := by have := hb2.size; (try simp at this); omega
    have HBN : Hid (Below w.heap.size w w2) := Lib.hid (HBW.out.trans (hb2.mono om))
    clear HBW
    have HBW := HBN
    clear HBN
    replace HXz : Hid (Bx w2 (w.heap.size) [.bool sh, v_docs, v_subs, .int .i64 z.last]) := Lib.hid (HXz.out.at hb2)
    clear Zz Kz0 Kz1 Kz2 Kz3
    obtain ⟨Zz, Kz0, Kz1, Kz2, Kz3⟩ := HXz.out.o4
    replace HXr : Hid (Bx w2 (w.heap.size + 1) [.bool false, .slice none 0 0, .slice none 0 0, .int .i64 0]) := Lib.hid (HXr.out.at hb2)
    clear Zr Kr0 Kr1 Kr2 Kr3 Gr0 Gr1 Gr2 Gr3
    obtain ⟨Zr, Kr0, Kr1, Kr2, Kr3, Gr0, Gr1, Gr2, Gr3⟩ := HXr.out.q4
    clear hb2
    go_wp2
    have HB : Hid (Below w.heap.size w ((((w2.setCell ⟨w.heap.size + 1, 0, none⟩ (.bool false)).setCell ⟨w.heap.size + 1, 1, none⟩ (.slice none 0 0)).setCell ⟨w.heap.size + 1, 2, none⟩ (.slice none 0 0)).setCell ⟨w.heap.size + 1, 3, none⟩ (.int .i64 0))) := Lib.hid ((((HBW.out.setCell (p := ⟨w.heap.size + 1, 0, none⟩) om _).setCell (p := ⟨w.heap.size + 1, 1, none⟩) om _).setCell (p := ⟨w.heap.size + 1, 2, none⟩) om _).setCell (p := ⟨w.heap.size + 1, 3, none⟩) om _)
    rw [HV.out]
    exact bodyPost_ret (v := .tuple #[.agg #[.bool false, .slice none 0 0, .slice none 0 0, .int .i64 0], .slice none 0 0, .int .i64 0, .int .i64 1]) (by simp [results, Tryz.results11, go_sem, cell_setCell, *]) rfl (out_hub0_is_i_i HB.out)
  have HZ := Lib.hid (hubSz h1)
  by_cases h3 : hubSub z id < 0
  · have HV := Lib.hid (hubResync_sub h1 h3)
    go_enter Tryz.func11, Tryz.ntmps11
    go_wp2_with fail
    refine (HF0.out _ (h_subs.below (((Below.refl w.heap.size w).alloc om _).alloc om _))).mono ?_
    rintro e' w1 ⟨rfl, hb1⟩
    have s1 : w.heap.size + 2 ≤ w1.heap.size := by have := hb1.size; (try simp at this); omega
    have HBN : Hid (Below w.heap.size w w1) := Lib.hid ((((Below.refl w.heap.size w).alloc om _).alloc om _).trans (hb1.mono om))
    have HBW := HBN
    clear HBN
    have HXz : Hid (Bx w1 (w.heap.size) [.bool sh, v_docs, v_subs, .int .i64 z.last]) := Lib.hid (((Bx.new (by first | rfl | simp | omega)).alloc _).at hb1)
    obtain ⟨Zz, Kz0, Kz1, Kz2, Kz3⟩ := HXz.out.o4
    have HXr : Hid (Bx w1 (w.heap.size + 1) [.bool false, .slice none 0 0, .slice none 0 0, .int .i64 0]) := Lib.hid ((Bx.new (by first | rfl | simp | omega)).at hb1)
    obtain ⟨Zr, Kr0, Kr1, Kr2, Kr3, Gr0, Gr1, Gr2, Gr3⟩ := HXr.out.q4
    clear hb1
    go_wp2_with fail
    refine (HOK.out _ (h_docs.below HBW.out) (h_subs.below HBW.out)).mono ?_
    rintro e' w2 ⟨rfl, hb2⟩
    rw [h1]
    have s2 : w1.heap.size ≤ w2.heap.size := by have := hb2.size; (try simp at this); omega
    have HBN : Hid (Below w.heap.size w w2) := Lib.hid (HBW.out.trans (hb2.mono om))
    clear HBW
    have HBW := HBN
    clear HBN
    replace HXz : Hid (Bx w2 (w.heap.size) [.bool sh, v_docs, v_subs, .int .i64 z.last]) := Lib.hid (HXz.out.at hb2)
    clear Zz Kz0 Kz1 Kz2 Kz3
    obtain ⟨Zz, Kz0, Kz1, Kz2, Kz3⟩ := HXz.out.o4
    replace HXr : Hid (Bx w2 (w.heap.size + 1) [.bool false, .slice none 0 0, .slice none 0 0, .int .i64 0]) := Lib.hid (HXr.out.at hb2)
    clear Zr Kr0 Kr1 Kr2 Kr3 Gr0 Gr1 Gr2 Gr3
    obtain ⟨Zr, Kr0, Kr1, Kr2, Kr3, Gr0, Gr1, Gr2, Gr3⟩ := HXr.out.q4
    clear hb2
    go_wp2
    have HB : Hid (Below w.heap.size w ((((w2.setCell ⟨w.heap.size + 1, 0, none⟩ (.bool false)).setCell ⟨w.heap.size + 1, 1, none⟩ (.slice none 0 0)).setCell ⟨w.heap.size + 1, 2, none⟩ (.slice none 0 0)).setCell ⟨w.heap.size + 1, 3, none⟩ (.int .i64 0))) := Lib.hid ((((HBW.out.setCell (p := ⟨w.heap.size + 1, 0, none⟩) om _).setCell (p := ⟨w.heap.size + 1, 1, none⟩) om _).setCell (p := ⟨w.heap.size + 1, 2, none⟩) om _).setCell (p := ⟨w.heap.size + 1, 3, none⟩) om _)
    rw [HV.out]
    exact bodyPost_ret (v := .tuple #[.agg #[.bool false, .slice none 0 0, .slice none 0 0, .int .i64 0], .slice none 0 0, .int .i64 0, .int .i64 8]) (by simp [results, Tryz.results11, go_sem, cell_setCell, *]) rfl (out_hub0_is_i_i HB.out)
  obtain ⟨k, s, hk, hs⟩ := hubSub_get h3
  obtain ⟨kd, d, hkd, hdd⟩ := (hubOk_iff.1 h1).at (List.mem_of_getElem? hs)
  have HV := Lib.hid (hubResync_yes h1 hk hs hkd hdd)
  have HK := Lib.hid hk
  have HD := Lib.hid hs
  have HKD := Lib.hid hkd
  have HDD := Lib.hid hdd
  have bs := (hubOk_iff.1 h1).ns
  have bd_ := (hubOk_iff.1 h1).nd
  have kl := (List.getElem?_eq_some_iff.1 hs).1
  have kdl := (List.getElem?_eq_some_iff.1 hdd).1
  have hro := (hubOk_iff.1 h1).ring (List.mem_of_getElem? hs)
  obtain ⟨bh0, bh1, bf0, bf1⟩ := headRev_bd ((hubOk_iff.1 h1).doc (List.mem_of_getElem? hdd))
  have hRR := fun (W' : World) (v : Value) (a : RdS W' v s.r.list) => (by have := impl_RingResync_c s.r (headRev d) v W' (by omega) (by omega) a; rw [ringResync_at hro bh0 bh1] at this; exact this : Calls Tryz.prog 52 #[.agg #[.int .i64 s.r.cap, .int .i64 s.r.next, .bool s.r.out, v], .int .i64 (headRev d)] W' (Out_Ring_b W' (ringAt s.r (headRev d)) true))
  have HRR := Lib.hid hRR
  clear hRR hk hs hkd hdd hro h3
  go_enter Tryz.func11, Tryz.ntmps11
  go_wp2_with fail
  refine (HF0.out _ (h_subs.below (((Below.refl w.heap.size w).alloc om _).alloc om _))).mono ?_
  rintro e' w1 ⟨rfl, hb1⟩
  rw [HK.out]
  have s1 : w.heap.size + 2 ≤ w1.heap.size := by have := hb1.size; (try simp at this); omega
  have HBN : Hid (Below w.heap.size w w1) := Lib.hid ((((Below.refl w.heap.size w).alloc om _).alloc om _).trans (hb1.mono om))
  have HBW := HBN
  clear HBN
  have HXz : Hid (Bx w1 (w.heap.size) [.bool sh, v_docs, v_subs, .int .i64 z.last]) := Lib.hid (((Bx.new (by first | rfl | simp | omega)).alloc _).at hb1)
  obtain ⟨Zz, Kz0, Kz1, Kz2, Kz3⟩ := HXz.out.o4
  have HXr : Hid (Bx w1 (w.heap.size + 1) [.bool false, .slice none 0 0, .slice none 0 0, .int .i64 0]) := Lib.hid ((Bx.new (by first | rfl | simp | omega)).at hb1)
  obtain ⟨Zr, Kr0, Kr1, Kr2, Kr3, Gr0, Gr1, Gr2, Gr3⟩ := HXr.out.q4
  clear hb1
  go_wp2_with fail
  refine (HOK.out _ (h_docs.below HBW.out) (h_subs.below HBW.out)).mono ?_
  rintro e' w2 ⟨rfl, hb2⟩
  rw [h1]
  have s2 : w1.heap.size ≤ w2.heap.size := by have := hb2.size; (try simp at this); omega
  have HBN : Hid (Below w.heap.size w w2) := Lib.hid (HBW.out.trans (hb2.mono om))
  clear HBW
  have HBW := HBN
  clear HBN
  replace HXz : Hid (Bx w2 (w.heap.size) [.bool sh, v_docs, v_subs, .int .i64 z.last]) := Lib.hid (HXz.out.at hb2)
  clear Zz Kz0 Kz1 Kz2 Kz3
  obtain ⟨Zz, Kz0, Kz1, Kz2, Kz3⟩ := HXz.out.o4
  replace HXr : Hid (Bx w2 (w.heap.size + 1) [.bool false, .slice none 0 0, .slice none 0 0, .int .i64 0]) := Lib.hid (HXr.out.at hb2)
  clear Zr Kr0 Kr1 Kr2 Kr3 Gr0 Gr1 Gr2 Gr3
  obtain ⟨Zr, Kr0, Kr1, Kr2, Kr3, Gr0, Gr1, Gr2, Gr3⟩ := HXr.out.q4
  clear hb2
  obtain ⟨b1, o1, cs, g1, g2, g3⟩ := (h_subs.below HBW.out).idx Tryz.underlying28 szi_DSub k HD.out
  obtain ⟨v_rl, rfl, nd, r_rl⟩ := inv_DSub g3
  have q1 := g2 1 _ rfl
  have q2 : w2.cell? ⟨b1, o1 + 2, none⟩ = some _ := g2 2 _ rfl
  have q3 : w2.cell? ⟨b1, o1 + 2 + 1, none⟩ = some _ := g2 3 _ rfl
  have q4 : w2.cell? ⟨b1, o1 + 2 + 2, none⟩ = some _ := g2 4 _ rfl
  have q5 : w2.cell? ⟨b1, o1 + 2 + 3, none⟩ = some _ := g2 5 _ rfl
  have l1 : b1 < w2.heap.size := World.block_lt_of_cell? (w := w2) (a := ⟨b1, o1 + 1, none⟩) q1
  obtain ⟨arl, crl, rfl⟩ := r_rl.isSlice
  clear g2 g3
  obtain ⟨bd, od, ds, i1, i2, i3⟩ := (h_docs.below HBW.out).idx Tryz.underlying27 szi_DDoc kd HDD.out
  obtain ⟨d_text, d_list, d_seen, rfl, nn, r_text, r_list, r_seen⟩ := inv_DDoc i3
  have p0 := i2.zero
  have p1 := i2 1 _ rfl
  have p2 := i2 2 _ rfl
  have p3 := i2 3 _ rfl
  have p4 := i2 4 _ rfl
  have l2 : bd < w2.heap.size := World.block_lt_of_cell? (w := w2) (a := ⟨bd, od, none⟩) p0
  obtain ⟨at_, ct, rfl⟩ := r_text.isSlice
  obtain ⟨al, cl, rfl⟩ := r_list.isSlice
  obtain ⟨az, cz, rfl⟩ := r_seen.isSlice
  clear i2 i3
  have HRL := Lib.hid r_list
  have HRT := Lib.hid r_text
  have HRZ := Lib.hid r_seen
  have HRG := Lib.hid r_rl
  clear r_list r_text r_seen r_rl
  have l10 := l1
  have HV2 : Hid (Below w2.heap.size w2 w2) := Lib.hid (Below.refl _ _)
  go_upto_region 6 with (fail)
  go_cut [9] from 23 to 35 (fun z0 wx => ∃ bD : Nat, z0 = .pointer (some ⟨bD, 0, none⟩) ∧ w2.heap.size ≤ bD ∧ bD < wx.heap.size ∧ wx.cell? ⟨bD, 0, none⟩ = some (.string d.name) ∧ wx.cell? ⟨bD, 1, none⟩ = some (.int .i64 d.from_) ∧ wx.cell? ⟨bD, 2, none⟩ = some (.slice at_ d.text.length ct) ∧ wx.cell? ⟨bD, 3, none⟩ = some (.slice al d.list.length cl) ∧ wx.cell? ⟨bD, 4, none⟩ = some (.slice az d.seen.length cz) ∧ wx.frozen? ⟨bD, 0, none⟩ = false ∧ wx.frozen? ⟨bD, 1, none⟩ = false ∧ wx.frozen? ⟨bD, 2, none⟩ = false ∧ wx.frozen? ⟨bD, 3, none⟩ = false ∧ wx.frozen? ⟨bD, 4, none⟩ = false ∧ Below w2.heap.size w2 wx)
  case first =>
    have m1 : ¬ (w.heap.size = w2.heap.size) := by omega
    have m2 : ¬ (b1 = w2.heap.size) := by omega
    have m3 : ¬ (bd = w2.heap.size) := by omega
    go_region_held3 (fun w' => w'.cell? ⟨w.heap.size, 0, none⟩ = some (.bool sh) ∧ w'.cell? ⟨w.heap.size, 1, none⟩ = some (v_docs) ∧ w'.cell? ⟨w.heap.size, 2, none⟩ = some (v_subs) ∧ w'.cell? ⟨w.heap.size, 3, none⟩ = some (.int .i64 z.last) ∧ w'.cell? ⟨b1, o1 + 1, none⟩ = some (.string s.doc) ∧ w'.cell? ⟨bd, od, none⟩ = some (.string d.name) ∧ w'.cell? ⟨bd, od + 1, none⟩ = some (.int .i64 d.from_) ∧ w'.cell? ⟨bd, od + 2, none⟩ = some (.slice at_ d.text.length ct) ∧ w'.cell? ⟨bd, od + 3, none⟩ = some (.slice al d.list.length cl) ∧ w'.cell? ⟨bd, od + 4, none⟩ = some (.slice az d.seen.length cz)) (first | go_keep | (simp [cell_setCell, *]; done)) ((first | (go_at_call 50; refine (HF1.out _ _ (h_docs.below (show Below w.heap.size w _ from HBW.out.trans ((show Below w2.heap.size w2 _ from blw).mono HBW.out.size)))).mono ?_; rintro e' w3 ⟨rfl, hb3⟩; rw [HKD.out]; have sb3 := hb3.size; (try simp at sb3); (try (have nb0 : w3.cell? ⟨w2.heap.size, 0, none⟩ = some (.string ⟨#[]⟩) := (hb3.cell (p := ⟨w2.heap.size, 0, none⟩) (by first | (simp; done) | (simp; omega) | omega)).trans (by simp [go_sem]; done))); (try (have ng0 : w3.frozen? ⟨w2.heap.size, 0, none⟩ = false := (hb3.frozen (p := ⟨w2.heap.size, 0, none⟩) (by first | (simp; done) | (simp; omega) | omega)).trans (by simp [go_sem]; done))); (try (have nb1 : w3.cell? ⟨w2.heap.size, 1, none⟩ = some (.int .i64 0) := (hb3.cell (p := ⟨w2.heap.size, 1, none⟩) (by first | (simp; done) | (simp; omega) | omega)).trans (by simp [go_sem]; done))); (try (have ng1 : w3.frozen? ⟨w2.heap.size, 1, none⟩ = false := (hb3.frozen (p := ⟨w2.heap.size, 1, none⟩) (by first | (simp; done) | (simp; omega) | omega)).trans (by simp [go_sem]; done))); (try (have nb2 : w3.cell? ⟨w2.heap.size, 2, none⟩ = some (.slice none 0 0) := (hb3.cell (p := ⟨w2.heap.size, 2, none⟩) (by first | (simp; done) | (simp; omega) | omega)).trans (by simp [go_sem]; done))); (try (have ng2 : w3.frozen? ⟨w2.heap.size, 2, none⟩ = false := (hb3.frozen (p := ⟨w2.heap.size, 2, none⟩) (by first | (simp; done) | (simp; omega) | omega)).trans (by simp [go_sem]; done))); (try (have nb3 : w3.cell? ⟨w2.heap.size, 3, none⟩ = some (.slice none 0 0) := (hb3.cell (p := ⟨w2.heap.size, 3, none⟩) (by first | (simp; done) | (simp; omega) | omega)).trans (by simp [go_sem]; done))); (try (have ng3 : w3.frozen? ⟨w2.heap.size, 3, none⟩ = false := (hb3.frozen (p := ⟨w2.heap.size, 3, none⟩) (by first | (simp; done) | (simp; omega) | omega)).trans (by simp [go_sem]; done))); (try (have nb4 : w3.cell? ⟨w2.heap.size, 4, none⟩ = some (.slice none 0 0) := (hb3.cell (p := ⟨w2.heap.size, 4, none⟩) (by first | (simp; done) | (simp; omega) | omega)).trans (by simp [go_sem]; done))); (try (have ng4 : w3.frozen? ⟨w2.heap.size, 4, none⟩ = false := (hb3.frozen (p := ⟨w2.heap.size, 4, none⟩) (by first | (simp; done) | (simp; omega) | omega)).trans (by simp [go_sem]; done))); have B3 : Below w2.heap.size w2 w3 := (show Below w2.heap.size w2 _ from blw).trans (hb3.mono om); have s3 := B3.size; obtain ⟨Zz_3, Kz_3_0, Kz_3_1, Kz_3_2, Kz_3_3⟩ := (HXz.out.at B3).o4; have q1_3 := mvo B3 l1 q1; obtain ⟨p0_3, p1_3, p2_3, p3_3, p4_3⟩ := mv5 B3 l2 p0 p1 p2 p3 p4; clear hb3; have HB3 := Lib.hid B3)))
    all_goals
      go_wp2_with fail
      go_meet
      first | exact ⟨_, rfl, by first | omega | (simp; done) | (simp; omega), by first | omega | (simp; done) | (simp; omega), by simp [go_sem, cell_setCell, *], by simp [go_sem, cell_setCell, *], by simp [go_sem, cell_setCell, *], by simp [go_sem, cell_setCell, *], by simp [go_sem, cell_setCell, *], by simp [go_sem, *], by simp [go_sem, *], by simp [go_sem, *], by simp [go_sem, *], by simp [go_sem, *], (show Below w2.heap.size w2 _ from by first | exact blw | exact HB3.out.trans ((show Below w3.heap.size w3 _ from blw).mono HB3.out.size))⟩
  case rest =>
    obtain ⟨w3, rfl⟩ : ∃ wq : World, wq = wc := ⟨_, rfl⟩
    obtain ⟨bD, rfl, zl1, zl2, k0, k1, k2, k3, k4, f0, f1, f2, f3, f4, hb3⟩ := hcut
    have HXd0 : Hid (Bx w3 bD [.string d.name, .int .i64 d.from_, .slice at_ d.text.length ct, .slice al d.list.length cl, .slice az d.seen.length cz]) := Lib.hid ⟨zl2, fun j v hj => by
      match j, hj with
      | 0, hj => simp at hj; subst hj; exact ⟨k0, f0⟩
      | 1, hj => simp at hj; subst hj; exact ⟨k1, f1⟩
      | 2, hj => simp at hj; subst hj; exact ⟨k2, f2⟩
      | 3, hj => simp at hj; subst hj; exact ⟨k3, f3⟩
      | 4, hj => simp at hj; subst hj; exact ⟨k4, f4⟩⟩
    clear q1 k0 k1 k2 k3 k4 f0 f1 f2 f3 f4
    have s3 : w2.heap.size ≤ w3.heap.size := by have := hb3.size; (try simp at this); omega
    have HBN : Hid (Below w.heap.size w w3) := Lib.hid (HBW.out.trans (hb3.mono om))
    clear HBW
    have HBW := HBN
    clear HBN
    replace HV2 : Hid (Below w2.heap.size w2 w3) := Lib.hid ((HV2.out.trans (hb3.mono om)))
    have RR : Below w2.heap.size w2 w3 := (Below.refl w2.heap.size w2).trans (hb3.mono om)
    have hh := mv4 RR l1 q2 q3 q4 q5
    clear q2 q3 q4 q5
    obtain ⟨q2, q3, q4, q5⟩ := hh
    replace l1 := Nat.lt_of_lt_of_le l1 RR.size
    have hh := mv5 RR l2 p0 p1 p2 p3 p4
    clear p0 p1 p2 p3 p4
    obtain ⟨p0, p1, p2, p3, p4⟩ := hh
    replace l2 := Nat.lt_of_lt_of_le l2 RR.size
    clear RR
    replace HXz : Hid (Bx w3 (w.heap.size) [.bool sh, v_docs, v_subs, .int .i64 z.last]) := Lib.hid (HXz.out.at hb3)
    clear Zz Kz0 Kz1 Kz2 Kz3
    obtain ⟨Zz, Kz0, Kz1, Kz2, Kz3⟩ := HXz.out.o4
    replace HXr : Hid (Bx w3 (w.heap.size + 1) [.bool false, .slice none 0 0, .slice none 0 0, .int .i64 0]) := Lib.hid (HXr.out.at hb3)
    clear Zr Kr0 Kr1 Kr2 Kr3 Gr0 Gr1 Gr2 Gr3
    obtain ⟨Zr, Kr0, Kr1, Kr2, Kr3, Gr0, Gr1, Gr2, Gr3⟩ := HXr.out.q4
    clear hb3
    have HXdd := HXd0
    obtain ⟨Zdd, Kdd0, Kdd1, Kdd2, Kdd3, Kdd4, Gdd0, Gdd1, Gdd2, Gdd3, Gdd4⟩ := HXdd.out.q5
    clear HXd0
    go_wp2_with fail
    refine (HCP.out _ (h_docs.below HBW.out) (h_subs.below HBW.out) HZ.out).mono ?_
    rintro e' w4 ⟨_, rfl, ho4, hb4⟩
    obtain ⟨vd, vs, rfl, hown⟩ := HubOwn.of_own ho4
    rw [hsh]
    obtain ⟨ad, cd, rfl⟩ := hown.rd1.isSlice
    obtain ⟨as_, cs_, rfl⟩ := hown.rd2.isSlice
    have HOWN := Lib.hid (hown.mono (C' := w3.heap.size) om)
    clear ho4 hown
    have s4 : w3.heap.size ≤ w4.heap.size := by have := hb4.size; (try simp at this); omega
    have HBN : Hid (Below w.heap.size w w4) := Lib.hid (HBW.out.trans (hb4.mono om))
    clear HBW
    have HBW := HBN
    clear HBN
    replace HV2 : Hid (Below w2.heap.size w2 w4) := Lib.hid ((HV2.out.trans (hb4.mono om)))
    have RR : Below w3.heap.size w3 w4 := (Below.refl w3.heap.size w3).trans (hb4.mono om)
    have hh := mv4 RR l1 q2 q3 q4 q5
    clear q2 q3 q4 q5
    obtain ⟨q2, q3, q4, q5⟩ := hh
    replace l1 := Nat.lt_of_lt_of_le l1 RR.size
    clear RR
    replace HXz : Hid (Bx w4 (w.heap.size) [.bool sh, v_docs, v_subs, .int .i64 z.last]) := Lib.hid (HXz.out.at hb4)
    clear Zz Kz0 Kz1 Kz2 Kz3
    obtain ⟨Zz, Kz0, Kz1, Kz2, Kz3⟩ := HXz.out.o4
    replace HXr : Hid (Bx w4 (w.heap.size + 1) [.bool false, .slice none 0 0, .slice none 0 0, .int .i64 0]) := Lib.hid (HXr.out.at hb4)
    clear Zr Kr0 Kr1 Kr2 Kr3 Gr0 Gr1 Gr2 Gr3
    obtain ⟨Zr, Kr0, Kr1, Kr2, Kr3, Gr0, Gr1, Gr2, Gr3⟩ := HXr.out.q4
    replace HXdd : Hid (Bx w4 (bD) [.string d.name, .int .i64 d.from_, .slice at_ d.text.length ct, .slice al d.list.length cl, .slice az d.seen.length cz]) := Lib.hid (HXdd.out.at hb4)
    clear Zdd Kdd0 Kdd1 Kdd2 Kdd3 Kdd4 Gdd0 Gdd1 Gdd2 Gdd3 Gdd4
    obtain ⟨Zdd, Kdd0, Kdd1, Kdd2, Kdd3, Kdd4, Gdd0, Gdd1, Gdd2, Gdd3, Gdd4⟩ := HXdd.out.q5
    clear hb4
    clear p0 p1 p2 p3 p4 l2 i1
    go_upto_region 8 with (fail)
    obtain ⟨V, hV⟩ : ∃ V : World, V = (w4.alloc (.cells #[.bool sh, .slice ad z.docs.length cd, .slice as_ z.subs.length cs_, .int .i64 z.last] 30)) := ⟨_, rfl⟩
    have sV : w4.heap.size + 1 ≤ V.heap.size := by rw [hV]; first | (simp; done) | (simp; omega)
    have HBN : Hid (Below w.heap.size w V) := Lib.hid (by rw [hV]; exact (HBW.out.alloc om _))
    clear HBW
    have HBW := HBN
    clear HBN
    replace HV2 : Hid (Below w2.heap.size w2 V) := Lib.hid (by rw [hV]; exact (HV2.out.alloc om _))
    replace HOWN : Hid (HubOwn (w3.heap.size) (w4.heap.size) V (.slice ad z.docs.length cd) (.slice as_ z.subs.length cs_) (z.docs) (z.subs)) := Lib.hid (by rw [hV]; exact (HOWN.out.alloc om _))
    have RR : Below w4.heap.size w4 V := by rw [hV]; exact ((Below.refl w4.heap.size w4).alloc om _)
    have hh := mv4 RR l1 q2 q3 q4 q5
    clear q2 q3 q4 q5
    obtain ⟨q2, q3, q4, q5⟩ := hh
    replace l1 := Nat.lt_of_lt_of_le l1 RR.size
    clear RR
    replace HXz : Hid (Bx V (w.heap.size) [.bool sh, v_docs, v_subs, .int .i64 z.last]) := Lib.hid (by rw [hV]; exact (HXz.out.alloc _))
    clear Zz Kz0 Kz1 Kz2 Kz3
    obtain ⟨Zz, Kz0, Kz1, Kz2, Kz3⟩ := HXz.out.o4
    replace HXr : Hid (Bx V (w.heap.size + 1) [.bool false, .slice none 0 0, .slice none 0 0, .int .i64 0]) := Lib.hid (by rw [hV]; exact (HXr.out.alloc _))
    clear Zr Kr0 Kr1 Kr2 Kr3 Gr0 Gr1 Gr2 Gr3
    obtain ⟨Zr, Kr0, Kr1, Kr2, Kr3, Gr0, Gr1, Gr2, Gr3⟩ := HXr.out.q4
    replace HXdd : Hid (Bx V (bD) [.string d.name, .int .i64 d.from_, .slice at_ d.text.length ct, .slice al d.list.length cl, .slice az d.seen.length cz]) := Lib.hid (by rw [hV]; exact (HXdd.out.alloc _))
    clear Zdd Kdd0 Kdd1 Kdd2 Kdd3 Kdd4 Gdd0 Gdd1 Gdd2 Gdd3 Gdd4
    obtain ⟨Zdd, Kdd0, Kdd1, Kdd2, Kdd3, Kdd4, Gdd0, Gdd1, Gdd2, Gdd3, Gdd4⟩ := HXdd.out.q5
    have HXo : Hid (Bx V (w4.heap.size) [.bool sh, .slice ad z.docs.length cd, .slice as_ z.subs.length cs_, .int .i64 z.last]) := Lib.hid (by rw [hV]; exact (Bx.new (by first | rfl | simp | omega)))
    obtain ⟨Zo, Ko0, Ko1, Ko2, Ko3, Go0, Go1, Go2, Go3⟩ := HXo.out.q4
    rw [← hV]
    clear hV
    obtain ⟨b2, o2, vq, j1, j2, j3, j4, j5, j6, j7, j8⟩ := HOWN.out.el (B := w.heap.size + 2) (by omega) Tryz.underlying28 szi_DSub HD.out
    have HJ8 := Lib.hid j8
    have HJ5 := Lib.hid j5
    have y2 : V.cell? ⟨b2, o2 + 2, none⟩ = some _ := j5 2 _ rfl
    have x2 : V.frozen? ⟨b2, o2 + 2, none⟩ = false := j7 2 (by omega)
    have y3 : V.cell? ⟨b2, o2 + 2 + 1, none⟩ = some _ := j5 3 _ rfl
    have x3 : V.frozen? ⟨b2, o2 + 2 + 1, none⟩ = false := j7 3 (by omega)
    have y4 : V.cell? ⟨b2, o2 + 2 + 2, none⟩ = some _ := j5 4 _ rfl
    have x4 : V.frozen? ⟨b2, o2 + 2 + 2, none⟩ = false := j7 4 (by omega)
    have y5 : V.cell? ⟨b2, o2 + 2 + 3, none⟩ = some _ := j5 5 _ rfl
    have x5 : V.frozen? ⟨b2, o2 + 2 + 3, none⟩ = false := j7 5 (by omega)
    clear j5 j6 j7 j8
    have n1 : ¬ (w.heap.size = b2) := by omega
    have n2 : ¬ (bD = b2) := by omega
    have n3 : ¬ (w4.heap.size = b2) := by omega
    have n4 : ¬ (b1 = b2) := by omega
    have n5 : ¬ (w.heap.size + 1 = b2) := by omega
    have n6 : ¬ (b2 = w.heap.size + 1) := by omega
    have n7 : ¬ (bD = w.heap.size + 1) := by omega
    have n8 : ¬ (w.heap.size + 1 = bD) := by omega
    have n9 : ¬ (w4.heap.size = w.heap.size + 1) := by omega
    go_region_held3 (fun w' => w'.cell? ⟨w.heap.size, 0, none⟩ = some (.bool sh) ∧ w'.cell? ⟨w.heap.size, 1, none⟩ = some (v_docs) ∧ w'.cell? ⟨w.heap.size, 2, none⟩ = some (v_subs) ∧ w'.cell? ⟨w.heap.size, 3, none⟩ = some (.int .i64 z.last) ∧ w'.cell? ⟨bD, 0, none⟩ = some (.string d.name) ∧ w'.cell? ⟨bD, 1, none⟩ = some (.int .i64 d.from_) ∧ w'.cell? ⟨bD, 2, none⟩ = some (.slice at_ d.text.length ct) ∧ w'.cell? ⟨bD, 3, none⟩ = some (.slice al d.list.length cl) ∧ w'.cell? ⟨bD, 4, none⟩ = some (.slice az d.seen.length cz) ∧ w'.cell? ⟨w4.heap.size, 0, none⟩ = some (.bool sh) ∧ w'.cell? ⟨w4.heap.size, 1, none⟩ = some (.slice ad z.docs.length cd) ∧ w'.cell? ⟨w4.heap.size, 2, none⟩ = some (.slice as_ z.subs.length cs_) ∧ w'.cell? ⟨w4.heap.size, 3, none⟩ = some (.int .i64 z.last) ∧ w'.cell? ⟨b1, o1 + 2, none⟩ = some (.int .i64 s.r.cap) ∧ w'.cell? ⟨b1, o1 + 2 + 1, none⟩ = some (.int .i64 s.r.next) ∧ w'.cell? ⟨b1, o1 + 2 + 2, none⟩ = some (.bool s.r.out) ∧ w'.cell? ⟨b1, o1 + 2 + 3, none⟩ = some (.slice arl s.r.list.length crl)) (first | go_keep | (simp [cell_setCell, *]; done))
      (first | (go_at_call 53; refine (impl_HeadRev_c d _ _ _ _ (HRL.out.below ((show Below w2.heap.size w2 V from HV2.out).trans ((show Below V.heap.size V _ from blw).mono HV2.out.size))) (by omega) (by omega)).mono ?_; rintro e' w5 ⟨rfl, hb5⟩; have B5 : Below V.heap.size V w5 := (show Below V.heap.size V _ from blw).trans (hb5.mono om); have s5 := B5.size; obtain ⟨Zz_5, Kz_5_0, Kz_5_1, Kz_5_2, Kz_5_3⟩ := (HXz.out.at B5).o4; obtain ⟨Zdd_5, Kdd_5_0, Kdd_5_1, Kdd_5_2, Kdd_5_3, Kdd_5_4, Gdd_5_0, Gdd_5_1, Gdd_5_2, Gdd_5_3, Gdd_5_4⟩ := (HXdd.out.at B5).q5; obtain ⟨Zo_5, Ko_5_0, Ko_5_1, Ko_5_2, Ko_5_3, Go_5_0, Go_5_1, Go_5_2, Go_5_3⟩ := (HXo.out.at B5).q4; obtain ⟨Zr_5, Kr_5_0, Kr_5_1, Kr_5_2, Kr_5_3, Gr_5_0, Gr_5_1, Gr_5_2, Gr_5_3⟩ := (HXr.out.at B5).q4; obtain ⟨q2_5, q3_5, q4_5, q5_5⟩ := mv4 B5 l1 q2 q3 q4 q5; obtain ⟨y2_5, y3_5, y4_5, y5_5⟩ := mv4 B5 j4 y2 y3 y4 y5; obtain ⟨x2_5, x3_5, x4_5, x5_5⟩ := mf4 B5 j4 x2 x3 x4 x5; clear hb5) | (go_at_call 52; refine (HRR.out _ _ (HRG.out.below ((show Below w2.heap.size w2 V from HV2.out).trans ((show Below V.heap.size V _ from blw).mono HV2.out.size)))).mono ?_; rintro e' w6 ⟨vr, fr, rfl, sr, kr, hb6⟩; obtain ⟨ar, cr, rfl⟩ := sr.nilS; have HSR := Lib.hid sr; have HKR : Hid (Fresh V.heap.size w6 fr) := Lib.hid (kr.mono (by first | omega | (simp; omega))); clear sr kr; have B6 : Below V.heap.size V w6 := (show Below V.heap.size V _ from blw).trans (hb6.mono om); have s6 := B6.size; obtain ⟨Zz_6, Kz_6_0, Kz_6_1, Kz_6_2, Kz_6_3⟩ := (HXz.out.at B6).o4; obtain ⟨Zdd_6, Kdd_6_0, Kdd_6_1, Kdd_6_2, Kdd_6_3, Kdd_6_4, Gdd_6_0, Gdd_6_1, Gdd_6_2, Gdd_6_3, Gdd_6_4⟩ := (HXdd.out.at B6).q5; obtain ⟨Zo_6, Ko_6_0, Ko_6_1, Ko_6_2, Ko_6_3, Go_6_0, Go_6_1, Go_6_2, Go_6_3⟩ := (HXo.out.at B6).q4; obtain ⟨Zr_6, Kr_6_0, Kr_6_1, Kr_6_2, Kr_6_3, Gr_6_0, Gr_6_1, Gr_6_2, Gr_6_3⟩ := (HXr.out.at B6).q4; obtain ⟨q2_6, q3_6, q4_6, q5_6⟩ := mv4 B6 l1 q2 q3 q4 q5; obtain ⟨y2_6, y3_6, y4_6, y5_6⟩ := mv4 B6 j4 y2 y3 y4 y5; obtain ⟨x2_6, x3_6, x4_6, x5_6⟩ := mf4 B6 j4 x2 x3 x4 x5; clear hb6))
    have HWE : Hid (Wr (own b2 o2 6) V ((((w6.setCell ⟨b2, o2 + 2, none⟩ (.int .i64 (ringAt s.r (headRev d)).cap)).setCell ⟨b2, o2 + 2 + 1, none⟩ (.int .i64 (ringAt s.r (headRev d)).next)).setCell ⟨b2, o2 + 2 + 2, none⟩ (.bool (ringAt s.r (headRev d)).out)).setCell ⟨b2, o2 + 2 + 3, none⟩ (.slice ar 0 cr))) := Lib.hid (((((Wr.of_below B6).put (b := b2) (o := o2 + 2) (mem_own.2 ⟨rfl, by simp only; omega, by simp only; omega⟩) (.int .i64 (ringAt s.r (headRev d)).cap)).put (b := b2) (o := o2 + 2 + 1) (mem_own.2 ⟨rfl, by simp only; omega, by simp only; omega⟩) (.int .i64 (ringAt s.r (headRev d)).next)).put (b := b2) (o := o2 + 2 + 2) (mem_own.2 ⟨rfl, by simp only; omega, by simp only; omega⟩) (.bool (ringAt s.r (headRev d)).out)).put (b := b2) (o := o2 + 2 + 3) (mem_own.2 ⟨rfl, by simp only; omega, by simp only; omega⟩) (.slice ar 0 cr))
    have HAE : Hid (At ((((w6.setCell ⟨b2, o2 + 2, none⟩ (.int .i64 (ringAt s.r (headRev d)).cap)).setCell ⟨b2, o2 + 2 + 1, none⟩ (.int .i64 (ringAt s.r (headRev d)).next)).setCell ⟨b2, o2 + 2 + 2, none⟩ (.bool (ringAt s.r (headRev d)).out)).setCell ⟨b2, o2 + 2 + 3, none⟩ (.slice ar 0 cr)) b2 o2 [.int .i64 s.id, .string s.doc, .int .i64 (ringAt s.r (headRev d)).cap, .int .i64 (ringAt s.r (headRev d)).next, .bool (ringAt s.r (headRev d)).out, .slice ar 0 cr]) := Lib.hid (((((HJ5.out.keep fun j hj => B6.cell (p := ⟨b2, o2 + j, none⟩) j4).put 2 (by simp) (.int .i64 (ringAt s.r (headRev d)).cap)).put 3 (by simp) (.int .i64 (ringAt s.r (headRev d)).next)).put 4 (by simp) (.bool (ringAt s.r (headRev d)).out)).put 5 (by simp) (.slice ar 0 cr))
    have htw : Two (α := DEntry) (β := Int) V.heap.size w6.heap.size w6 (.slice ar 0 cr) (.slice none 0 0) [] [] fr [] := ⟨HSR.out, Sl.nil, by simpa using HKR.out, by simpa using Live.lt HSR.out.live⟩
    have HTR := Lib.hid ((((htw.setCell (b := b2) (o := o2 + 2) (.inl j4) (.int .i64 (ringAt s.r (headRev d)).cap)).setCell (b := b2) (o := o2 + 2 + 1) (.inl j4) (.int .i64 (ringAt s.r (headRev d)).next)).setCell (b := b2) (o := o2 + 2 + 2) (.inl j4) (.bool (ringAt s.r (headRev d)).out)).setCell (b := b2) (o := o2 + 2 + 3) (.inl j4) (.slice ar 0 cr))
    clear htw
    obtain ⟨fd, fs, sd, ss, hf, hm⟩ := HJ8.out ((((w6.setCell ⟨b2, o2 + 2, none⟩ (.int .i64 (ringAt s.r (headRev d)).cap)).setCell ⟨b2, o2 + 2 + 1, none⟩ (.int .i64 (ringAt s.r (headRev d)).next)).setCell ⟨b2, o2 + 2 + 2, none⟩ (.bool (ringAt s.r (headRev d)).out)).setCell ⟨b2, o2 + 2 + 3, none⟩ (.slice ar 0 cr)) (ringAt s.r (headRev d)) (.slice ar 0 cr) fr HWE.out HAE.out HTR.out.1 (HTR.out.2.2.1.left.mono (by omega)) (fun p hp => by have := HTR.out.2.2.1.ge p (List.mem_append_left _ hp); omega)
    have HNE : Hid (HubNe w4.heap.size (w.heap.size + 2) ((((w6.setCell ⟨b2, o2 + 2, none⟩ (.int .i64 (ringAt s.r (headRev d)).cap)).setCell ⟨b2, o2 + 2 + 1, none⟩ (.int .i64 (ringAt s.r (headRev d)).next)).setCell ⟨b2, o2 + 2 + 2, none⟩ (.bool (ringAt s.r (headRev d)).out)).setCell ⟨b2, o2 + 2 + 3, none⟩ (.slice ar 0 cr)) (.slice ad z.docs.length cd) (.slice as_ z.subs.length cs_) z.docs (z.subs.set k (subRing s (ringAt s.r (headRev d))))) := Lib.hid ⟨fd, fs, sd, ss, hf, fun p hp => by rcases hm p hp with h | h; omega; have := HTR.out.2.2.1.ge p (List.mem_append_left _ h); omega⟩
    clear sd ss hf hm HJ8 HJ5 HWE HAE HTR
    have s6 : V.heap.size ≤ w6.heap.size := by have := B6.size; (try simp at this); omega
    have HBN : Hid (Below w.heap.size w w6) := Lib.hid (HBW.out.trans (B6.mono om))
    clear HBW
    have HBW := HBN
    clear HBN
    replace HV2 : Hid (Below w2.heap.size w2 w6) := Lib.hid (HV2.out.trans (B6.mono om))
    replace HXr : Hid (Bx w6 (w.heap.size + 1) [.bool false, .slice none 0 0, .slice none 0 0, .int .i64 0]) := Lib.hid (HXr.out.at B6)
    clear Zr Kr0 Kr1 Kr2 Kr3 Gr0 Gr1 Gr2 Gr3
    obtain ⟨Zr, Kr0, Kr1, Kr2, Kr3, Gr0, Gr1, Gr2, Gr3⟩ := HXr.out.q4
    replace HXdd : Hid (Bx w6 (bD) [.string d.name, .int .i64 d.from_, .slice at_ d.text.length ct, .slice al d.list.length cl, .slice az d.seen.length cz]) := Lib.hid (HXdd.out.at B6)
    clear Zdd Kdd0 Kdd1 Kdd2 Kdd3 Kdd4 Gdd0 Gdd1 Gdd2 Gdd3 Gdd4
    obtain ⟨Zdd, Kdd0, Kdd1, Kdd2, Kdd3, Kdd4, Gdd0, Gdd1, Gdd2, Gdd3, Gdd4⟩ := HXdd.out.q5
    replace HXo : Hid (Bx w6 (w4.heap.size) [.bool sh, .slice ad z.docs.length cd, .slice as_ z.subs.length cs_, .int .i64 z.last]) := Lib.hid (HXo.out.at B6)
    clear Zo Ko0 Ko1 Ko2 Ko3 Go0 Go1 Go2 Go3
    obtain ⟨Zo, Ko0, Ko1, Ko2, Ko3, Go0, Go1, Go2, Go3⟩ := HXo.out.q4
    go_upto_region 9 with (fail)
    obtain ⟨U, hU⟩ : ∃ U : World, U = ((((w6.setCell ⟨b2, o2 + 2, none⟩ (.int .i64 (ringAt s.r (headRev d)).cap)).setCell ⟨b2, o2 + 2 + 1, none⟩ (.int .i64 (ringAt s.r (headRev d)).next)).setCell ⟨b2, o2 + 2 + 2, none⟩ (.bool (ringAt s.r (headRev d)).out)).setCell ⟨b2, o2 + 2 + 3, none⟩ (.slice ar 0 cr)) := ⟨_, rfl⟩
    have sU : w6.heap.size ≤ U.heap.size := by rw [hU]; first | (simp; done) | (simp; omega)
    have HBN : Hid (Below w.heap.size w U) := Lib.hid (by rw [hU]; exact ((((HBW.out.setCell (p := ⟨b2, o2 + 2, none⟩) om _).setCell (p := ⟨b2, o2 + 2 + 1, none⟩) om _).setCell (p := ⟨b2, o2 + 2 + 2, none⟩) om _).setCell (p := ⟨b2, o2 + 2 + 3, none⟩) om _))
    clear HBW
    have HBW := HBN
    clear HBN
    replace HV2 : Hid (Below w2.heap.size w2 U) := Lib.hid (by rw [hU]; exact ((((HV2.out.setCell (p := ⟨b2, o2 + 2, none⟩) om _).setCell (p := ⟨b2, o2 + 2 + 1, none⟩) om _).setCell (p := ⟨b2, o2 + 2 + 2, none⟩) om _).setCell (p := ⟨b2, o2 + 2 + 3, none⟩) om _))
    replace HXr : Hid (Bx U (w.heap.size + 1) [.bool false, .slice none 0 0, .slice none 0 0, .int .i64 0]) := Lib.hid (by rw [hU]; exact ((((HXr.out.setO om).setO om).setO om).setO om))
    clear Zr Kr0 Kr1 Kr2 Kr3 Gr0 Gr1 Gr2 Gr3
    obtain ⟨Zr, Kr0, Kr1, Kr2, Kr3, Gr0, Gr1, Gr2, Gr3⟩ := HXr.out.q4
    replace HXdd : Hid (Bx U (bD) [.string d.name, .int .i64 d.from_, .slice at_ d.text.length ct, .slice al d.list.length cl, .slice az d.seen.length cz]) := Lib.hid (by rw [hU]; exact ((((HXdd.out.setO om).setO om).setO om).setO om))
    clear Zdd Kdd0 Kdd1 Kdd2 Kdd3 Kdd4 Gdd0 Gdd1 Gdd2 Gdd3 Gdd4
    obtain ⟨Zdd, Kdd0, Kdd1, Kdd2, Kdd3, Kdd4, Gdd0, Gdd1, Gdd2, Gdd3, Gdd4⟩ := HXdd.out.q5
    replace HXo : Hid (Bx U (w4.heap.size) [.bool sh, .slice ad z.docs.length cd, .slice as_ z.subs.length cs_, .int .i64 z.last]) := Lib.hid (by rw [hU]; exact ((((HXo.out.setO om).setO om).setO om).setO om))
    clear Zo Ko0 Ko1 Ko2 Ko3 Go0 Go1 Go2 Go3
    obtain ⟨Zo, Ko0, Ko1, Ko2, Ko3, Go0, Go1, Go2, Go3⟩ := HXo.out.q4
    have HNU : Hid (HubNe w4.heap.size (w.heap.size + 2) U (.slice ad z.docs.length cd) (.slice as_ z.subs.length cs_) z.docs (z.subs.set k (subRing s (ringAt s.r (headRev d))))) := Lib.hid (by rw [hU]; exact HNE.out)
    rw [← hU]
    clear hU
    obtain ⟨fd, fs, htw⟩ := HNU.out.two
    have HTU := Lib.hid htw
    clear htw HNE HNU
    go_region_held3 (fun w' => w'.cell? ⟨w4.heap.size, 0, none⟩ = some (.bool sh) ∧ w'.cell? ⟨w4.heap.size, 1, none⟩ = some (.slice ad z.docs.length cd) ∧ w'.cell? ⟨w4.heap.size, 2, none⟩ = some (.slice as_ z.subs.length cs_) ∧ w'.cell? ⟨w4.heap.size, 3, none⟩ = some (.int .i64 z.last) ∧ w'.cell? ⟨bD, 0, none⟩ = some (.string d.name) ∧ w'.cell? ⟨bD, 1, none⟩ = some (.int .i64 d.from_) ∧ w'.cell? ⟨bD, 2, none⟩ = some (.slice at_ d.text.length ct) ∧ w'.cell? ⟨bD, 3, none⟩ = some (.slice al d.list.length cl) ∧ w'.cell? ⟨bD, 4, none⟩ = some (.slice az d.seen.length cz)) (first | (go_keep; done) | exact keep94 (HXo.out.at B8) (HXdd.out.at B8) n9 n7)
      (first | (go_at_call 54; refine (impl_HeadText_c d _ _ _ _ nn (HRT.out.below (HV2.out.trans ((show Below U.heap.size U _ from blw).mono HV2.out.size))) (HRL.out.below (HV2.out.trans ((show Below U.heap.size U _ from blw).mono HV2.out.size))) (HRZ.out.below (HV2.out.trans ((show Below U.heap.size U _ from blw).mono HV2.out.size)))).mono ?_; rintro e' w7 ⟨vh, fh, rfl, sh_, kh, hb7⟩; have HSH := Lib.hid sh_; have HKH : Hid (Fresh U.heap.size w7 fh) := Lib.hid (kh.mono om); clear sh_ kh; have B7 : Below U.heap.size U w7 := (show Below U.heap.size U _ from blw).trans (hb7.mono om); have s7 := B7.size; obtain ⟨Zdd_7, Kdd_7_0, Kdd_7_1, Kdd_7_2, Kdd_7_3, Kdd_7_4, Gdd_7_0, Gdd_7_1, Gdd_7_2, Gdd_7_3, Gdd_7_4⟩ := (HXdd.out.at B7).q5; obtain ⟨Zo_7, Ko_7_0, Ko_7_1, Ko_7_2, Ko_7_3, Go_7_0, Go_7_1, Go_7_2, Go_7_3⟩ := (HXo.out.at B7).q4; obtain ⟨Zr_7, Kr_7_0, Kr_7_1, Kr_7_2, Kr_7_3, Gr_7_0, Gr_7_1, Gr_7_2, Gr_7_3⟩ := (HXr.out.at B7).q4; clear hb7) | (go_at_call 53; refine (impl_HeadRev_c d _ _ _ _ (HRL.out.below (HV2.out.trans ((show Below U.heap.size U _ from blw).mono HV2.out.size))) (by omega) (by omega)).mono ?_; rintro e' w8 ⟨rfl, hb8⟩; have B78 : Below w7.heap.size w7 w8 := (show Below w7.heap.size w7 _ from blw).trans (hb8.mono om); have s78 := B78.size; have B8 : Below U.heap.size U w8 := (show Below U.heap.size U _ from blw).trans (hb8.mono om); have s8 := B8.size; obtain ⟨Zdd_8, Kdd_8_0, Kdd_8_1, Kdd_8_2, Kdd_8_3, Kdd_8_4, Gdd_8_0, Gdd_8_1, Gdd_8_2, Gdd_8_3, Gdd_8_4⟩ := (HXdd.out.at B8).q5; obtain ⟨Zo_8, Ko_8_0, Ko_8_1, Ko_8_2, Ko_8_3, Go_8_0, Go_8_1, Go_8_2, Go_8_3⟩ := (HXo.out.at B8).q4; obtain ⟨Zr_8, Kr_8_0, Kr_8_1, Kr_8_2, Kr_8_3, Gr_8_0, Gr_8_1, Gr_8_2, Gr_8_3⟩ := (HXr.out.at B8).q4; clear hb8))
    have htx : Two (α := Int) (β := Int) U.heap.size w7.heap.size w7 vh (.slice none 0 0) (headText d) [] fh [] := ⟨HSH.out, Sl.nil, by simpa using HKH.out, by simpa using Live.lt HSH.out.live⟩
    have HX1 := Lib.hid (((((htx.below B78).setCell (b := w.heap.size + 1) (o := 0) (.inl (by omega)) (.bool sh)).setCell (b := w.heap.size + 1) (o := 1) (.inl (by omega)) (.slice ad z.docs.length cd)).setCell (b := w.heap.size + 1) (o := 2) (.inl (by omega)) (.slice as_ z.subs.length cs_)).setCell (b := w.heap.size + 1) (o := 3) (.inl (by omega)) (.int .i64 z.last))
    have HX2 := Lib.hid (((((HTU.out.below B8).setCell (b := w.heap.size + 1) (o := 0) (.inl (by omega)) (.bool sh)).setCell (b := w.heap.size + 1) (o := 1) (.inl (by omega)) (.slice ad z.docs.length cd)).setCell (b := w.heap.size + 1) (o := 2) (.inl (by omega)) (.slice as_ z.subs.length cs_)).setCell (b := w.heap.size + 1) (o := 3) (.inl (by omega)) (.int .i64 z.last))
    have HB : Hid (Below w.heap.size w ((((w8.setCell ⟨w.heap.size + 1, 0, none⟩ (.bool sh)).setCell ⟨w.heap.size + 1, 1, none⟩ (.slice ad z.docs.length cd)).setCell ⟨w.heap.size + 1, 2, none⟩ (.slice as_ z.subs.length cs_)).setCell ⟨w.heap.size + 1, 3, none⟩ (.int .i64 z.last))) := Lib.hid (((((HBW.out.trans (B8.mono (by omega))).setCell (p := ⟨w.heap.size + 1, 0, none⟩) om _).setCell (p := ⟨w.heap.size + 1, 1, none⟩) om _).setCell (p := ⟨w.heap.size + 1, 2, none⟩) om _).setCell (p := ⟨w.heap.size + 1, 3, none⟩) om _)
    clear htx
    go_wp2
    rw [HV.out]
    subst hsh
    exact bodyPost_ret (v := .tuple #[.agg #[.bool z.shut, .slice ad z.docs.length cd, .slice as_ z.subs.length cs_, .int .i64 z.last], vh, .int .i64 (headRev d), .int .i64 0]) (by simp [results, Tryz.results11, go_sem, cell_setCell, *]) rfl (out_is (y := ⟨z.shut, z.docs, z.subs.set k (subRing s (ringAt s.r (headRev d))), z.last⟩) HX2.out.1 HX2.out.2.1 HX1.out.1 (HX2.out.2.2.1.mono (by omega)) (HX1.out.2.2.1.left.mono (by omega)) (fun p hp hq => by
      have a1 := HX1.out.2.2.1.ge p (List.mem_append_left _ hp)
      have a2 := HX2.out.2.2.2 p hq
      omega) HB.out)
end Go.Proofs.YtdjfmbdcdmmdfaaGreat
