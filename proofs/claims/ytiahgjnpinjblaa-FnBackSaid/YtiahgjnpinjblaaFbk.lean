/- FnBack: the walk. -/
import Derived.Test.YtiahgjnpinjblaaMdo
import Derived.Test.YtiahgjnpinjblaaSm
import Derived.Deep.RegionHeld3
namespace Go.Proofs.Ytiahgjnpinjblaa
open Go.RowKit
theorem els_bytes {M : Nat} {w : World} : ∀ {l : List DByte} {cs : List Value} {fp : List Pos}, Els M w cs l fp → Els BIG w cs l fp
  | [], _, _, h => h
  | _ :: _, _, _, ⟨c1, c2, f1, f2, hc, h1, h2, hf⟩ => ⟨c1, c2, f1, f2, hc, h1, els_bytes h2, hf⟩
theorem bytes_rd {w : World} {vb : Value} {bs : List DByte} (hm : RdSM maxLen w vb bs) (hlen : bs.length ≤ 1048576) : RdS w vb bs := by
  obtain ⟨f, h⟩ := hm
  rcases h with h | ⟨b, o, cap, cs, fs, rfl, h1, h2, h3, ha, he, hl, rfl⟩
  · exact ⟨f, .inl h⟩
  · exact ⟨_, .inr ⟨b, o, cap, cs, fs, rfl, h1, h2, le_BIG (by omega), ha, els_bytes he, hl, rfl⟩⟩
/-- a document in a block -/
structure DB (b : Nat) (wr : World) (d : DDoc) (vt vl vs : Value) : Prop where
  x : Bx wr b [.string d.name, .int .i64 d.from_, vt, vl, vs]
  t : RdS wr vt d.text
  l : RdS wr vl d.list
  s : RdS wr vs d.seen
theorem DB.below {wr w' : World} {b : Nat} {d : DDoc} {vt vl vs : Value} (h : DB b wr d vt vl vs) (hb : Below wr.heap.size wr w') : DB b w' d vt vl vs := ⟨h.x.at hb, h.t.below hb, h.l.below hb, h.s.below hb⟩
theorem impl_SignsSame_s (va vb : Value) (a b : List Int) (w : World) (ha : RdS w va a) (hb : RdS w vb b) : Calls Try.prog 11 #[va, vb] w (Tells w (.bool (decide (a = b)))) := by
  go_enter Try.func11, Try.ntmps11
  go_wp2_with fail
  refine (Equal_int_c va vb a b _ ha hb).mono ?_
  rintro e' w1 ⟨rfl, hb1⟩
  go_wp2
  go_ret
  exact ⟨rfl, hb1⟩
set_option maxHeartbeats 16000000 in
set_option maxRecDepth 100000 in
theorem walk_FnBack (vb : Value) (bs : List DByte) (w : World) (hm : RdSM maxLen w vb bs) :
    Calls Try.prog 3 #[vb] w (Tells w (.bool true)) := by
  have hlm := fun w1 ty => hm.len Try.underlying22 w1 ty
  by_cases hlen : bs.length ≤ 1048576
  rotate_left
  · have hl2 : (1048576 : Int) < (bs.length : Int) := by omega
    go_enter Try.func3, Try.ntmps3
    go_wp2
    go_ret
    exact ⟨rfl, Below.refl _ _⟩
  have hl2 : ¬ (1048576 : Int) < (bs.length : Int) := by omega
  have HB := Lib.hid (bytes_rd hm hlen)
  clear hm
  go_enter Try.func3, Try.ntmps3
  go_wp2_with fail
  refine (spec_MakeDoc_c vb bs w HB.out).mono ?_
  rintro e' w1 ⟨d, vt, vl, vs, rfl, hd, ht, hl, hs, hb1⟩
  obtain ⟨dt, dct, rfl⟩ := ht.isSlice
  obtain ⟨dl, dcl, rfl⟩ := hl.isSlice
  obtain ⟨ds, dcs, rfl⟩ := hs.isSlice
  have hnm := hd.name
  have hdp := docOk_iff.1 hd.ok
  have df0 := hdp.f0
  have df1 := hdp.f1
  have dl8 := hdp.len
  have HD := Lib.hid hd
  have HBD : Hid (Below w1.heap.size w1 (w1.alloc (.cells #[.string d.name, .int .i64 d.from_, .slice dt d.text.length dct, .slice dl d.list.length dcl, .slice ds d.seen.length dcs] 27))) := Lib.hid ((Below.refl _ _).alloc (Nat.le_refl _) _)
  have HDB : Hid (DB w1.heap.size (w1.alloc (.cells #[.string d.name, .int .i64 d.from_, .slice dt d.text.length dct, .slice dl d.list.length dcl, .slice ds d.seen.length dcs] 27)) d (.slice dt d.text.length dct) (.slice dl d.list.length dcl) (.slice ds d.seen.length dcs)) := Lib.hid ⟨Bx.new rfl, ht.below HBD.out, hl.below HBD.out, hs.below HBD.out⟩
  have HBW := Lib.hid (hb1.trans (HBD.out.mono hb1.size))
  have HBB := Lib.hid ((HB.out.below hb1).below HBD.out)
  clear hd ht hl hs hb1 hdp HBD HB
  go_upto_region 4 with (fail)
  obtain ⟨W2, hW2⟩ : ∃ W2, w1.alloc (.cells #[.string d.name, .int .i64 d.from_, .slice dt d.text.length dct, .slice dl d.list.length dcl, .slice ds d.seen.length dcs] 27) = W2 := ⟨_, rfl⟩
  rw [hW2] at HDB HBW HBB
  (try rw [hW2])
  clear hW2
  have e1 : IntKind.i64.wrap ((d.list.length : Int) + 1) = (d.list.length : Int) + 1 := IntWalk.i64_in _ (by omega)
  obtain ⟨zz, k0, k1, k2, k3, k4⟩ := HDB.out.x.o5
  go_region_held3 (fun w' => w'.cell? ⟨w1.heap.size, 0, none⟩ = some (.string d.name) ∧ w'.cell? ⟨w1.heap.size, 1, none⟩ = some (.int .i64 d.from_) ∧ w'.cell? ⟨w1.heap.size, 2, none⟩ = some (.slice dt d.text.length dct) ∧ w'.cell? ⟨w1.heap.size, 3, none⟩ = some (.slice dl d.list.length dcl) ∧ w'.cell? ⟨w1.heap.size, 4, none⟩ = some (.slice ds d.seen.length dcs)) (first | (go_keep; done) | (simp [cell_setCell, *]; done)) ((first | (go_at_call 5; refine (spec_MakeNum_c vb bs ((d.list.length : Int) + 1) _ (HBB.out.below blw)).mono ?_; rintro e' w3 ⟨x, rfl, hx, hb3⟩; obtain ⟨x0, x1⟩ := hx.1 (by omega); have ew : IntKind.i64.wrap (d.from_ + x) = d.from_ + x := (IntWalk.i64_in _ (by omega)); have b3 : Below W2.heap.size W2 w3 := (show Below W2.heap.size W2 _ from blw).trans (hb3.mono (by first | (simp; done) | (simp; omega) | omega)); obtain ⟨zz, k0, k1, k2, k3, k4⟩ := (HDB.out.below b3).x.o5; clear hx hb3)))
  clear zz k0 k1 k2 k3 k4
  obtain ⟨rev, hrv⟩ : ∃ rev, d.from_ + x = rev := ⟨_, rfl⟩
  (try rw [hrv])
  have hat : atRev d rev := ⟨HD.out.ok, by omega, by unfold headRev; omega⟩
  obtain ⟨c, b, g1, g2, g3, g4, g5⟩ := back_ok hat
  have G1 := Lib.hid g1
  have G2 := Lib.hid g2
  have G3 := Lib.hid g3
  have G4 := Lib.hid g4
  have G5 := Lib.hid g5
  clear g1 g2 g3 g4 g5 hat ew
  have HDB' := Lib.hid (HDB.out.below b3)
  clear HDB
  have HDB := HDB'
  clear HDB'
  have HBW' := Lib.hid (HBW.out.trans (b3.mono HBW.out.size))
  clear HBW
  have HBW := HBW'
  clear HBW' b3
  clear HBB e1 x0 x1
  try clear hrv
  obtain ⟨HDBz, HDBc0, HDBc1, HDBc2, HDBc3, HDBc4⟩ := HDB.out.x.o5
  go_wp2_with fail
  have hta := impl_TextAt_c d (.slice dt d.text.length dct) (.slice dl d.list.length dcl) (.slice ds d.seen.length dcs) rev w3 hnm HDB.out.t HDB.out.l HDB.out.s
  rw [G3.out] at hta
  refine hta.mono ?_
  rintro e' w4 ⟨vt, ft, rfl, st, _, hb4⟩
  obtain ⟨a4, c4, rfl⟩ := st.isS
  clear hta
  obtain ⟨T, hT⟩ : ∃ T, (textAt d rev).1 = T := ⟨_, rfl⟩
  rw [hT] at st G4 G5
  rw [hT]
  clear hT
  clear HDBz HDBc0 HDBc1 HDBc2 HDBc3 HDBc4
  have HDB' := Lib.hid (HDB.out.below hb4)
  clear HDB
  have HDB := HDB'
  clear HDB'
  have HBW' := Lib.hid (HBW.out.trans (hb4.mono HBW.out.size))
  clear HBW
  have HBW := HBW'
  clear HBW' hb4
  have HTX := Lib.hid (show RdS w4 _ T from ⟨_, st⟩)
  clear st
  obtain ⟨HDBz, HDBc0, HDBc1, HDBc2, HDBc3, HDBc4⟩ := HDB.out.x.o5
  go_wp2_with fail
  have hch := impl_Changed_c d (.slice dt d.text.length dct) (.slice dl d.list.length dcl) (.slice ds d.seen.length dcs) rev w4 hnm HDB.out.t HDB.out.l HDB.out.s
  rw [G1.out] at hch
  refine hch.mono ?_
  rintro e' w5 ⟨vc, rfl, oc, hb5⟩
  have oc' : RdS w5 vc c := oc.rd
  obtain ⟨a5, c5, rfl⟩ := oc'.isSlice
  clear hch oc
  clear HDBz HDBc0 HDBc1 HDBc2 HDBc3 HDBc4
  have HDB' := Lib.hid (HDB.out.below hb5)
  clear HDB
  have HDB := HDB'
  clear HDB'
  have HTX' := Lib.hid (HTX.out.below hb5)
  clear HTX
  have HTX := HTX'
  clear HTX'
  have HBW' := Lib.hid (HBW.out.trans (hb5.mono HBW.out.size))
  clear HBW
  have HBW := HBW'
  clear HBW' hb5
  have HC := Lib.hid oc'
  clear oc'
  obtain ⟨HDBz, HDBc0, HDBc1, HDBc2, HDBc3, HDBc4⟩ := HDB.out.x.o5
  go_wp2_with fail
  have hrt := impl_Reverted_c d (.slice dt d.text.length dct) (.slice dl d.list.length dcl) (.slice ds d.seen.length dcs) rev w5 hnm HDB.out.t HDB.out.l HDB.out.s
  rw [G2.out] at hrt
  refine hrt.mono ?_
  rintro e' w6 ⟨vb', rfl, ob, hb6⟩
  have ob' : RdS w6 vb' b := ob.rd
  obtain ⟨a6, c6, rfl⟩ := ob'.isSlice
  clear hrt ob
  clear HDBz HDBc0 HDBc1 HDBc2 HDBc3 HDBc4
  have HDB' := Lib.hid (HDB.out.below hb6)
  clear HDB
  have HDB := HDB'
  clear HDB'
  have HTX' := Lib.hid (HTX.out.below hb6)
  clear HTX
  have HTX := HTX'
  clear HTX'
  have HC' := Lib.hid (HC.out.below hb6)
  clear HC
  have HC := HC'
  clear HC'
  have HBW' := Lib.hid (HBW.out.trans (hb6.mono HBW.out.size))
  clear HBW
  have HBW := HBW'
  clear HBW' hb6
  have HBO := Lib.hid ob'
  clear ob'
  obtain ⟨HDBz, HDBc0, HDBc1, HDBc2, HDBc3, HDBc4⟩ := HDB.out.x.o5
  go_wp2_with fail
  have hap := impl_Apply_c c T (.slice a5 c.length c5) (.slice a4 T.length c4) w6 HC.out HTX.out
  rw [G4.out] at hap
  refine hap.mono ?_
  rintro e' w7 ⟨vu, fu, rfl, su, _, hb7⟩
  obtain ⟨a7, c7, rfl⟩ := su.isS
  clear hap
  clear HDBz HDBc0 HDBc1 HDBc2 HDBc3 HDBc4
  have HDB' := Lib.hid (HDB.out.below hb7)
  clear HDB
  have HDB := HDB'
  clear HDB'
  have HTX' := Lib.hid (HTX.out.below hb7)
  clear HTX
  have HTX := HTX'
  clear HTX'
  clear HC
  have HBO' := Lib.hid (HBO.out.below hb7)
  clear HBO
  have HBO := HBO'
  clear HBO'
  have HBW' := Lib.hid (HBW.out.trans (hb7.mono HBW.out.size))
  clear HBW
  have HBW := HBW'
  clear HBW' hb7
  have HU := Lib.hid (show RdS w7 _ (headText d) from ⟨_, su⟩)
  clear su
  obtain ⟨HDBz, HDBc0, HDBc1, HDBc2, HDBc3, HDBc4⟩ := HDB.out.x.o5
  go_wp2_with fail
  refine (impl_HeadText_c d (.slice dt d.text.length dct) (.slice dl d.list.length dcl) (.slice ds d.seen.length dcs) _ hnm HDB.out.t HDB.out.l HDB.out.s).mono ?_
  rintro e' w8 ⟨vh, fh, rfl, sh, _, hb8⟩
  obtain ⟨a8, c8, rfl⟩ := sh.isS
  clear HDBz HDBc0 HDBc1 HDBc2 HDBc3 HDBc4
  have HDB' := Lib.hid (HDB.out.below hb8)
  clear HDB
  have HDB := HDB'
  clear HDB'
  have HTX' := Lib.hid (HTX.out.below hb8)
  clear HTX
  have HTX := HTX'
  clear HTX'
  have HBO' := Lib.hid (HBO.out.below hb8)
  clear HBO
  have HBO := HBO'
  clear HBO'
  have HU' := Lib.hid (HU.out.below hb8)
  clear HU
  have HU := HU'
  clear HU'
  have HBW' := Lib.hid (HBW.out.trans (hb8.mono HBW.out.size))
  clear HBW
  have HBW := HBW'
  clear HBW' hb8
  have HH := Lib.hid (show RdS w8 _ (headText d) from ⟨_, sh⟩)
  clear sh
  obtain ⟨HDBz, HDBc0, HDBc1, HDBc2, HDBc3, HDBc4⟩ := HDB.out.x.o5
  go_wp2_with fail
  have hap := impl_Apply_c b (headText d) (.slice a6 b.length c6) (.slice a8 (headText d).length c8) w8 HBO.out HH.out
  rw [G5.out] at hap
  refine hap.mono ?_
  rintro e' w9 ⟨vv, fv, rfl, sv, _, hb9⟩
  obtain ⟨a9, c9, rfl⟩ := sv.isS
  clear hap
  clear HDBz HDBc0 HDBc1 HDBc2 HDBc3 HDBc4
  have HDB' := Lib.hid (HDB.out.below hb9)
  clear HDB
  have HDB := HDB'
  clear HDB'
  have HTX' := Lib.hid (HTX.out.below hb9)
  clear HTX
  have HTX := HTX'
  clear HTX'
  clear HBO
  have HU' := Lib.hid (HU.out.below hb9)
  clear HU
  have HU := HU'
  clear HU'
  clear HH
  have HBW' := Lib.hid (HBW.out.trans (hb9.mono HBW.out.size))
  clear HBW
  have HBW := HBW'
  clear HBW' hb9
  have HV := Lib.hid (show RdS w9 _ T from ⟨_, sv⟩)
  clear sv
  obtain ⟨HDBz, HDBc0, HDBc1, HDBc2, HDBc3, HDBc4⟩ := HDB.out.x.o5
  go_wp2_with fail
  refine (impl_HeadText_c d (.slice dt d.text.length dct) (.slice dl d.list.length dcl) (.slice ds d.seen.length dcs) _ hnm HDB.out.t HDB.out.l HDB.out.s).mono ?_
  rintro e' w10 ⟨vh, fh, rfl, sh, _, hb10⟩
  obtain ⟨a10, c10, rfl⟩ := sh.isS
  clear HDBz HDBc0 HDBc1 HDBc2 HDBc3 HDBc4
  have HDB' := Lib.hid (HDB.out.below hb10)
  clear HDB
  have HDB := HDB'
  clear HDB'
  have HTX' := Lib.hid (HTX.out.below hb10)
  clear HTX
  have HTX := HTX'
  clear HTX'
  have HU' := Lib.hid (HU.out.below hb10)
  clear HU
  have HU := HU'
  clear HU'
  have HV' := Lib.hid (HV.out.below hb10)
  clear HV
  have HV := HV'
  clear HV'
  have HBW' := Lib.hid (HBW.out.trans (hb10.mono HBW.out.size))
  clear HBW
  have HBW := HBW'
  clear HBW' hb10
  have HH := Lib.hid (show RdS w10 _ (headText d) from ⟨_, sh⟩)
  clear sh
  obtain ⟨HDBz, HDBc0, HDBc1, HDBc2, HDBc3, HDBc4⟩ := HDB.out.x.o5
  go_wp2_with fail
  refine (impl_SignsSame_s _ _ (headText d) (headText d) _ HU.out HH.out).mono ?_
  rintro e' w11 ⟨rfl, hb11⟩
  rw [dec_t rfl]
  clear HDBz HDBc0 HDBc1 HDBc2 HDBc3 HDBc4
  have HDB' := Lib.hid (HDB.out.below hb11)
  clear HDB
  have HDB := HDB'
  clear HDB'
  have HTX' := Lib.hid (HTX.out.below hb11)
  clear HTX
  have HTX := HTX'
  clear HTX'
  clear HU
  have HV' := Lib.hid (HV.out.below hb11)
  clear HV
  have HV := HV'
  clear HV'
  clear HH
  have HBW' := Lib.hid (HBW.out.trans (hb11.mono HBW.out.size))
  clear HBW
  have HBW := HBW'
  clear HBW' hb11
  obtain ⟨HDBz, HDBc0, HDBc1, HDBc2, HDBc3, HDBc4⟩ := HDB.out.x.o5
  go_wp2_with fail
  refine (impl_SignsSame_s _ _ T T _ HV.out HTX.out).mono ?_
  rintro e' w12 ⟨rfl, hb12⟩
  rw [dec_t rfl]
  go_wp2
  go_ret
  exact ⟨rfl, HBW.out.trans ((show Below w11.heap.size w11 _ from blw).mono HBW.out.size)⟩
end Go.Proofs.Ytiahgjnpinjblaa
