/- FnSubmit: the walk. -/
import Derived.Test.YtfkaabpaolelgaaGreatMks
import Derived.Test.YtfkaabpaolelgaaGreatFsp
import Derived.Test.YtfkaabpaolelgaaGreatOtn
import Derived.Test.YtfkaabpaolelgaaGreatSub
import Derived.Test.YtfkaabpaolelgaaGreatCmp4
import Derived.Test.YtfkaabpaolelgaaGreatDfg
import Derived.Deep.CutRange
namespace Go.Proofs.YtfkaabpaolelgaaGreat
open Go.RowKit
theorem els_bytes {M : Nat} {w : World} : ∀ {l : List DByte} {cs : List Value} {fp : List Pos}, Els M w cs l fp → Els BIG w cs l fp
  | [], _, _, h => h
  | _ :: _, _, _, ⟨c1, c2, f1, f2, hc, h1, h2, hf⟩ => ⟨c1, c2, f1, f2, hc, h1, els_bytes h2, hf⟩
theorem bytes_rd {w : World} {vb : Value} {bs : List DByte} (hm : RdSM maxLen w vb bs) (hlen : bs.length ≤ 1048576) : RdS w vb bs := by
  obtain ⟨f, h⟩ := hm
  rcases h with h | ⟨b, o, cap, cs, fs, rfl, h1, h2, h3, ha, he, hl, rfl⟩
  · exact ⟨f, .inl h⟩
  · exact ⟨_, .inr ⟨b, o, cap, cs, fs, rfl, h1, h2, le_BIG (by omega), ha, els_bytes he, hl, rfl⟩⟩
/-- a document in a block -/
structure DB (b : Nat) (wr : World) (d : DDoc) (vt vl vs : Value) : Prop where
  x : Bx wr b [.string d.name, .int .i64 d.from_, vt, vl, vs]
  t : RdS wr vt d.text
  l : RdS wr vl d.list
  s : RdS wr vs d.seen
theorem DB.below {wr w' : World} {b : Nat} {d : DDoc} {vt vl vs : Value} (h : DB b wr d vt vl vs) (hb : Below wr.heap.size wr w') : DB b w' d vt vl vs := ⟨h.x.at hb, h.t.below hb, h.l.below hb, h.s.below hb⟩
theorem impl_SignsSame_s (va vb : Value) (a b : List Int) (w : World) (ha : RdS w va a) (hb : RdS w vb b) : Calls Tryz.prog 19 #[va, vb] w (Tells w (.bool (decide (a = b)))) := by
  go_enter Tryz.func19, Tryz.ntmps19
  go_wp2_with fail
  refine (Equal_int_c va vb a b _ ha hb).mono ?_
  rintro e' w1 ⟨rfl, hb1⟩
  go_wp2
  go_ret
  exact ⟨rfl, hb1⟩
set_option maxHeartbeats 16000000 in
set_option maxRecDepth 100000 in
theorem walk_FnSubmit (vb : Value) (bs : List DByte) (w : World) (hm : RdSM maxLen w vb bs) :
    Calls Tryz.prog 5 #[vb] w (Tells w (.bool true)) := by
  have hlm := fun w1 ty => hm.len Tryz.underlying22 w1 ty
  by_cases hlen : bs.length ≤ 1048576
  rotate_left
  · have hl2 : (1048576 : Int) < (bs.length : Int) := by omega
    go_enter Tryz.func5, Tryz.ntmps5
    go_wp2
    go_ret
    exact ⟨rfl, Below.refl _ _⟩
  have hl2 : ¬ (1048576 : Int) < (bs.length : Int) := by omega
  have HB := Lib.hid (bytes_rd hm hlen)
  clear hm
  go_enter Tryz.func5, Tryz.ntmps5
  go_wp2_with fail
  refine (spec_MakeDoc_c vb bs w HB.out).mono ?_
  rintro e' w1 ⟨d, vt, vl, vs, rfl, hd, ht, hl, hs, hb1⟩
  obtain ⟨dt, dct, rfl⟩ := ht.isSlice
  obtain ⟨dl, dcl, rfl⟩ := hl.isSlice
  obtain ⟨ds, dcs, rfl⟩ := hs.isSlice
  have hnm := hd.name
  have HD := Lib.hid hd
  have HBD : Hid (Below w1.heap.size w1 (w1.alloc (.cells #[.string d.name, .int .i64 d.from_, .slice dt d.text.length dct, .slice dl d.list.length dcl, .slice ds d.seen.length dcs] 27))) := Lib.hid ((Below.refl _ _).alloc (Nat.le_refl _) _)
  have HX3 : Hid (Bx (w1.alloc (.cells #[.string d.name, .int .i64 d.from_, .slice dt d.text.length dct, .slice dl d.list.length dcl, .slice ds d.seen.length dcs] 27)) w1.heap.size [.string d.name, .int .i64 d.from_, .slice dt d.text.length dct, .slice dl d.list.length dcl, .slice ds d.seen.length dcs]) := Lib.hid (Bx.new rfl)
  have HT := Lib.hid (ht.below HBD.out)
  have HL := Lib.hid (hl.below HBD.out)
  have HS := Lib.hid (hs.below HBD.out)
  have HB1 := Lib.hid hb1
  have HBB := Lib.hid ((HB.out.below hb1).below HBD.out)
  clear hd ht hl hs hb1
  go_wp2_with fail
  refine (spec_MakeSubmit_c vb bs d (.slice dt d.text.length dct) (.slice dl d.list.length dcl) (.slice ds d.seen.length dcs) _ HBB.out HD.out HT.out HL.out HS.out).mono ?_
  rintro e' w2 ⟨client, seq, base, vo, o, rfl, ho, hb2⟩
  obtain ⟨ao, co, rfl⟩ := ho.isSlice
  have HT2 := Lib.hid (HT.out.below hb2)
  have HL2 := Lib.hid (HL.out.below hb2)
  have HS2 := Lib.hid (HS.out.below hb2)
  have HX2 := Lib.hid (HX3.out.at hb2)
  have HO2 := Lib.hid ho
  have HB2 := Lib.hid (HB1.out.trans ((HBD.out.trans (hb2.mono HBD.out.size)).mono HB1.out.size))
  obtain ⟨z2, k0, k1, k2, k3, k4⟩ := HX2.out.o5
  clear ho hb2 HT HL HS HX3 HBB HBD HB1 HB
  go_wp2_with fail
  obtain ⟨r, hr⟩ : ∃ r, submit d client seq base o = r := ⟨_, rfl⟩
  have hsb := impl_Submit_c d (.slice dt d.text.length dct) (.slice dl d.list.length dcl) (.slice ds d.seen.length dcs) client seq base (.slice ao o.length co) o w2 hnm HT2.out HL2.out HS2.out HO2.out
  rw [hr] at hsb
  obtain ⟨x, rev, code⟩ := r
  refine hsb.mono ?_
  rintro e' w3 ⟨v1, v2, v3, f1, f2, f3, he, s1, s2, s3, hxn, _, hb3⟩
  simp only at he
  subst he
  obtain ⟨xt, xct, rfl⟩ := s1.isS
  obtain ⟨xl, xcl, rfl⟩ := s2.isS
  obtain ⟨xs_, xcs, rfl⟩ := s3.isS
  simp only at s1 s2 s3 hxn
  have HDB : Hid (DB w1.heap.size w3 d (.slice dt d.text.length dct) (.slice dl d.list.length dcl) (.slice ds d.seen.length dcs)) := Lib.hid ⟨HX2.out.at hb3, HT2.out.below hb3, HL2.out.below hb3, HS2.out.below hb3⟩
  have HO := Lib.hid (HO2.out.below hb3)
  have HBW := Lib.hid (HB2.out.trans (hb3.mono HB2.out.size))
  have R1 := Lib.hid (show RdS w3 _ x.text from ⟨_, s1⟩)
  have R2 := Lib.hid (show RdS w3 _ x.list from ⟨_, s2⟩)
  have R3 := Lib.hid (show RdS w3 _ x.seen from ⟨_, s3⟩)
  clear hsb s1 s2 s3 hb3 HT2 HL2 HS2 HX2 HO2 HB2 k0 k1 k2 k3 k4 z2
  obtain ⟨⟨q, th⟩, hq⟩ : ∃ r, seenOf d client = r := ⟨_, rfl⟩
  by_cases hc0 : code = 0
  rotate_left
  · have hcc : (code != 0) = true := by simpa using hc0
    obtain ⟨hb1, hb2, hb3, hb4⟩ := submit_bad (d := d) (client := client) (seq := seq) (base := base) (o := o) (by rw [hr]; exact hc0)
    rw [hr] at hb1 hb2 hb3 hb4
    simp only at hb1 hb2 hb3 hb4
    have hx0 : x.name = ⟨#[]⟩ := by rw [hb1]; rfl
    subst hb2
    clear hr hb1
    have HBX : Hid (Below w3.heap.size w3 (w3.alloc (.cells #[.string ⟨#[]⟩, .int .i64 x.from_, .slice xt x.text.length xct, .slice xl x.list.length xcl, .slice xs_ x.seen.length xcs] 27))) := Lib.hid ((Below.refl _ _).alloc (Nat.le_refl _) _)
    have HXX : Hid (Bx (w3.alloc (.cells #[.string ⟨#[]⟩, .int .i64 x.from_, .slice xt x.text.length xct, .slice xl x.list.length xcl, .slice xs_ x.seen.length xcs] 27)) w3.heap.size [.string ⟨#[]⟩, .int .i64 x.from_, .slice xt x.text.length xct, .slice xl x.list.length xcl, .slice xs_ x.seen.length xcs]) := Lib.hid (Bx.new rfl)
    have HDB' := Lib.hid (HDB.out.below HBX.out)
    clear HDB
    have HDB := HDB'
    clear HDB'
    rw [hx0]
    clear hx0
    obtain ⟨HDBz, HDBc0, HDBc1, HDBc2, HDBc3, HDBc4⟩ := HDB.out.x.o5
    go_wp2_with fail
    have hso := impl_SeenOf_c d (.slice dt d.text.length dct) (.slice dl d.list.length dcl) (.slice ds d.seen.length dcs) client (w3.alloc (.cells #[.string ⟨#[]⟩, .int .i64 x.from_, .slice xt x.text.length xct, .slice xl x.list.length xcl, .slice xs_ x.seen.length xcs] 27)) HDB.out.s
    rw [hq] at hso
    refine hso.mono ?_
    rintro e' w4 ⟨rfl, hb4⟩
    clear hso
    have HX8 := Lib.hid (HXX.out.at hb4)
    have HB4 := Lib.hid (HBX.out.trans (hb4.mono HBX.out.size))
    clear hb4 HXX
    clear HDBz HDBc0 HDBc1 HDBc2 HDBc3 HDBc4
    obtain ⟨z8, j0, j1, j2, j3, j4⟩ := HX8.out.o5
    rcases (show code = 1 ∨ code = 2 ∨ code = 3 ∨ code = 4 ∨ code = 5 by omega) with rfl | rfl | rfl | rfl | rfl
    · go_wp2_with fail
      refine (impl_OtName_1 _).mono ?_
      rintro e' w5 ⟨rfl, hb5⟩
      go_wp2
      go_ret
      exact ⟨rfl, HBW.out.trans ((HB4.out.trans ((show Below w4.heap.size w4 _ from blw).mono HB4.out.size)).mono HBW.out.size)⟩
    · go_wp2_with fail
      refine (impl_OtName_2 _).mono ?_
      rintro e' w5 ⟨rfl, hb5⟩
      go_wp2
      go_ret
      exact ⟨rfl, HBW.out.trans ((HB4.out.trans ((show Below w4.heap.size w4 _ from blw).mono HB4.out.size)).mono HBW.out.size)⟩
    · go_wp2_with fail
      refine (impl_OtName_3 _).mono ?_
      rintro e' w5 ⟨rfl, hb5⟩
      go_wp2
      go_ret
      exact ⟨rfl, HBW.out.trans ((HB4.out.trans ((show Below w4.heap.size w4 _ from blw).mono HB4.out.size)).mono HBW.out.size)⟩
    · go_wp2_with fail
      refine (impl_OtName_4 _).mono ?_
      rintro e' w5 ⟨rfl, hb5⟩
      go_wp2
      go_ret
      exact ⟨rfl, HBW.out.trans ((HB4.out.trans ((show Below w4.heap.size w4 _ from blw).mono HB4.out.size)).mono HBW.out.size)⟩
    · go_wp2_with fail
      refine (impl_OtName_5 _).mono ?_
      rintro e' w5 ⟨rfl, hb5⟩
      go_wp2
      go_ret
      exact ⟨rfl, HBW.out.trans ((HB4.out.trans ((show Below w4.heap.size w4 _ from blw).mono HB4.out.size)).mono HBW.out.size)⟩
  subst hc0
  have HBX : Hid (Below w3.heap.size w3 (w3.alloc (.cells #[.string x.name, .int .i64 x.from_, .slice xt x.text.length xct, .slice xl x.list.length xcl, .slice xs_ x.seen.length xcs] 27))) := Lib.hid ((Below.refl _ _).alloc (Nat.le_refl _) _)
  have HXB : Hid (DB w3.heap.size (w3.alloc (.cells #[.string x.name, .int .i64 x.from_, .slice xt x.text.length xct, .slice xl x.list.length xcl, .slice xs_ x.seen.length xcs] 27)) x (.slice xt x.text.length xct) (.slice xl x.list.length xcl) (.slice xs_ x.seen.length xcs)) := Lib.hid ⟨Bx.new rfl, R1.out.below HBX.out, R2.out.below HBX.out, R3.out.below HBX.out⟩
  have HDB' := Lib.hid (HDB.out.below HBX.out)
  clear HDB
  have HDB := HDB'
  clear HDB'
  have HO' := Lib.hid (HO.out.below HBX.out)
  clear HO
  have HO := HO'
  clear HO' R1 R2 R3
  have HBW' := Lib.hid (HBW.out.trans (HBX.out.mono HBW.out.size))
  clear HBW HBX
  have HBW := HBW'
  clear HBW'
  obtain ⟨HDBz, HDBc0, HDBc1, HDBc2, HDBc3, HDBc4⟩ := HDB.out.x.o5
  obtain ⟨HXBz, HXBc0, HXBc1, HXBc2, HXBc3, HXBc4⟩ := HXB.out.x.o5
  go_wp2_with fail
  have hso := impl_SeenOf_c d (.slice dt d.text.length dct) (.slice dl d.list.length dcl) (.slice ds d.seen.length dcs) client (w3.alloc (.cells #[.string x.name, .int .i64 x.from_, .slice xt x.text.length xct, .slice xl x.list.length xcl, .slice xs_ x.seen.length xcs] 27)) HDB.out.s
  rw [hq] at hso
  refine hso.mono ?_
  rintro e' w4 ⟨rfl, hb4⟩
  clear hso
  clear HDBz HDBc0 HDBc1 HDBc2 HDBc3 HDBc4 HXBz HXBc0 HXBc1 HXBc2 HXBc3 HXBc4
  have HDB' := Lib.hid (HDB.out.below hb4)
  clear HDB
  have HDB := HDB'
  clear HDB'
  have HO' := Lib.hid (HO.out.below hb4)
  clear HO
  have HO := HO'
  clear HO'
  have HXB' := Lib.hid (HXB.out.below hb4)
  clear HXB
  have HXB := HXB'
  clear HXB'
  have HBW' := Lib.hid (HBW.out.trans (hb4.mono HBW.out.size))
  clear HBW
  have HBW := HBW'
  clear HBW' hb4
  have hbq : Below w4.heap.size w4 (w4.alloc (.cells #[.int .i64 q.client, .int .i64 q.seq, .int .i64 q.rev] 33)) := (Below.refl _ _).alloc (Nat.le_refl _) _
  have H11 : Hid (Bx (w4.alloc (.cells #[.int .i64 q.client, .int .i64 q.seq, .int .i64 q.rev] 33)) w4.heap.size [.int .i64 q.client, .int .i64 q.seq, .int .i64 q.rev]) := Lib.hid (Bx.new rfl)
  have HDB' := Lib.hid (HDB.out.below hbq)
  clear HDB
  have HDB := HDB'
  clear HDB'
  have HO' := Lib.hid (HO.out.below hbq)
  clear HO
  have HO := HO'
  clear HO'
  have HXB' := Lib.hid (HXB.out.below hbq)
  clear HXB
  have HXB := HXB'
  clear HXB'
  have HBW' := Lib.hid (HBW.out.trans (hbq.mono HBW.out.size))
  clear HBW
  have HBW := HBW'
  clear HBW' hbq
  go_upto_region 9 with (fail)
  obtain ⟨W5, hW5⟩ : ∃ W5, w4.alloc (.cells #[.int .i64 q.client, .int .i64 q.seq, .int .i64 q.rev] 33) = W5 := ⟨_, rfl⟩
  rw [hW5] at HDB HXB HO H11 HBW
  (try rw [hW5])
  clear hW5
  by_cases hsq : (seenOf d client).1.seq = seq
  · obtain ⟨hk1, hk2⟩ := submit_known (d := d) (client := client) (seq := seq) (base := base) (o := o) (by rw [hr]) hsq
    rw [hr, hq] at hk1
    rw [hq] at hk2 hsq
    simp only [Prod.mk.injEq, and_true] at hk1 hk2 hsq
    obtain ⟨hk3, hk4⟩ := hk1
    subst hk2
    subst hk3
    have e1 : (q.seq == seq) = true := by simpa using hsq
    have e2 : (rev == q.rev) = true := by simpa using hk4
    clear hr hq hsq hk4
    obtain ⟨HDBz, HDBc0, HDBc1, HDBc2, HDBc3, HDBc4⟩ := HDB.out.x.o5
    obtain ⟨HXBz, HXBc0, HXBc1, HXBc2, HXBc3, HXBc4⟩ := HXB.out.x.o5
    obtain ⟨H11z, H11c0, H11c1, H11c2⟩ := H11.out.o3
    go_wp2_with fail
    refine (impl_DocSame_c x x (.slice xt x.text.length xct) (.slice dt x.text.length dct) (.slice xl x.list.length xcl) (.slice dl x.list.length dcl) (.slice xs_ x.seen.length xcs) (.slice ds x.seen.length dcs) _ (HXB.out.t.below blw) (HDB.out.t.below blw) (HXB.out.l.below blw) (HDB.out.l.below blw) (HXB.out.s.below blw) (HDB.out.s.below blw)).mono ?_
    rintro e' w6 ⟨rfl, hb6⟩
    rw [dec_t rfl]
    go_wp2
    go_ret
    exact ⟨rfl, HBW.out.trans ((show Below W5.heap.size W5 _ from blw).mono HBW.out.size)⟩
  obtain ⟨x', y, g1, g2, g3, g4, g5, g6, g7⟩ := submit_new (d := d) (client := client) (seq := seq) (base := base) (o := o) (by rw [hr]) hsq
  rw [hr] at g1
  simp only [Prod.mk.injEq, and_true] at g1
  obtain ⟨rfl, hrev⟩ := g1
  rw [hq] at hsq
  simp only at hsq
  have e1 : (q.seq == seq) = false := by simpa using hsq
  have hdp := docOk_iff.1 HD.out.ok
  have df0 := hdp.f0
  have df1 := hdp.f1
  have dl8 := hdp.len
  have hxp := docOk_iff.1 g7
  have xf0 := hxp.f0
  have xf1 := hxp.f1
  obtain ⟨h, hh⟩ : ∃ h, headRev d = h := ⟨_, rfl⟩
  have hh0 : 0 ≤ h := by rw [← hh]; unfold headRev; omega
  have hh1 : h ≤ 1000000000 := by rw [← hh]; unfold headRev; omega
  rw [hh] at hrev g4 g5 g6
  have ew1 : IntKind.i64.wrap (rev - 1) = h := by rw [hrev, show h + 1 - 1 = h by omega]; exact IntWalk.i64_in _ (by omega)
  have ew2 : IntKind.i64.wrap (h + 1) = rev := by rw [hrev]; exact IntWalk.i64_in _ (by omega)
  rw [← hrev] at g5 g6
  have HH := Lib.hid hh
  have G2 := Lib.hid g2
  have G3 := Lib.hid g3
  have G4 := Lib.hid g4
  have G5 := Lib.hid g5
  have G6 := Lib.hid g6
  have G7 := Lib.hid g7
  clear hr hq hsq hdp hxp hh hrev g2 g3 g4 g5 g6 g7
  obtain ⟨HDBz, HDBc0, HDBc1, HDBc2, HDBc3, HDBc4⟩ := HDB.out.x.o5
  obtain ⟨HXBz, HXBc0, HXBc1, HXBc2, HXBc3, HXBc4⟩ := HXB.out.x.o5
  obtain ⟨H11z, H11c0, H11c1, H11c2⟩ := H11.out.o3
  go_cut [71] from 65 to 70 (fun z wx => z = .bool false ∧ Below W5.heap.size W5 wx)
  case first =>
    cases th
    · go_wp2_with fail
      go_meet
      exact ⟨rfl, blw⟩
    · go_wp2_with fail
      go_meet
      exact ⟨rfl, blw⟩
  case rest =>
    obtain ⟨rfl, hb5⟩ := hcut
    obtain ⟨w5, hw5⟩ : ∃ w5, w5 = wc := ⟨_, rfl⟩
    subst hw5
    clear HDBz HDBc0 HDBc1 HDBc2 HDBc3 HDBc4 HXBz HXBc0 HXBc1 HXBc2 HXBc3 HXBc4 H11z H11c0 H11c1 H11c2
    have HDB' := Lib.hid (HDB.out.below hb5)
    clear HDB
    have HDB := HDB'
    clear HDB'
    have HO' := Lib.hid (HO.out.below hb5)
    clear HO
    have HO := HO'
    clear HO'
    have HXB' := Lib.hid (HXB.out.below hb5)
    clear HXB
    have HXB := HXB'
    clear HXB'
    have H11' := Lib.hid (H11.out.at hb5)
    clear H11
    have H11 := H11'
    clear H11'
    have HBW' := Lib.hid (HBW.out.trans (hb5.mono HBW.out.size))
    clear HBW
    have HBW := HBW'
    clear HBW' hb5
    obtain ⟨HDBz, HDBc0, HDBc1, HDBc2, HDBc3, HDBc4⟩ := HDB.out.x.o5
    obtain ⟨HXBz, HXBc0, HXBc1, HXBc2, HXBc3, HXBc4⟩ := HXB.out.x.o5
    obtain ⟨H11z, H11c0, H11c1, H11c2⟩ := H11.out.o3
    go_wp2_with fail
    have hrb := impl_Rebase_c d (.slice dt d.text.length dct) (.slice dl d.list.length dcl) (.slice ds d.seen.length dcs) base (.slice ao o.length co) o w5 hnm HDB.out.t HDB.out.l HDB.out.s HO.out
    rw [G2.out] at hrb
    refine hrb.mono ?_
    rintro e' w6 ⟨vy, fy, rfl, sy, _, hb6⟩
    obtain ⟨ay, cy, rfl⟩ := sy.isS
    clear hrb
    clear HDBz HDBc0 HDBc1 HDBc2 HDBc3 HDBc4 HXBz HXBc0 HXBc1 HXBc2 HXBc3 HXBc4 H11z H11c0 H11c1 H11c2
    have HDB' := Lib.hid (HDB.out.below hb6)
    clear HDB
    have HDB := HDB'
    clear HDB'
    clear HO
    have HXB' := Lib.hid (HXB.out.below hb6)
    clear HXB
    have HXB := HXB'
    clear HXB'
    have H11' := Lib.hid (H11.out.at hb6)
    clear H11
    have H11 := H11'
    clear H11'
    have HBW' := Lib.hid (HBW.out.trans (hb6.mono HBW.out.size))
    clear HBW
    have HBW := HBW'
    clear HBW' hb6
    have HY := Lib.hid (show RdS w6 _ y from ⟨_, sy⟩)
    clear sy
    obtain ⟨HDBz, HDBc0, HDBc1, HDBc2, HDBc3, HDBc4⟩ := HDB.out.x.o5
    obtain ⟨HXBz, HXBc0, HXBc1, HXBc2, HXBc3, HXBc4⟩ := HXB.out.x.o5
    obtain ⟨H11z, H11c0, H11c1, H11c2⟩ := H11.out.o3
    go_wp2_with fail
    refine (impl_HeadText_c d (.slice dt d.text.length dct) (.slice dl d.list.length dcl) (.slice ds d.seen.length dcs) _ hnm HDB.out.t HDB.out.l HDB.out.s).mono ?_
    rintro e' w7 ⟨vt, ft, rfl, st, _, hb7⟩
    obtain ⟨a7, c7, rfl⟩ := st.isS
    clear HDBz HDBc0 HDBc1 HDBc2 HDBc3 HDBc4 HXBz HXBc0 HXBc1 HXBc2 HXBc3 HXBc4 H11z H11c0 H11c1 H11c2
    have HDB' := Lib.hid (HDB.out.below hb7)
    clear HDB
    have HDB := HDB'
    clear HDB'
    have HXB' := Lib.hid (HXB.out.below hb7)
    clear HXB
    have HXB := HXB'
    clear HXB'
    have H11' := Lib.hid (H11.out.at hb7)
    clear H11
    have H11 := H11'
    clear H11'
    have HY' := Lib.hid (HY.out.below hb7)
    clear HY
    have HY := HY'
    clear HY'
    have HBW' := Lib.hid (HBW.out.trans (hb7.mono HBW.out.size))
    clear HBW
    have HBW := HBW'
    clear HBW' hb7
    have HTX := Lib.hid (show RdS w7 _ (headText d) from ⟨_, st⟩)
    clear st
    obtain ⟨HDBz, HDBc0, HDBc1, HDBc2, HDBc3, HDBc4⟩ := HDB.out.x.o5
    obtain ⟨HXBz, HXBc0, HXBc1, HXBc2, HXBc3, HXBc4⟩ := HXB.out.x.o5
    obtain ⟨H11z, H11c0, H11c1, H11c2⟩ := H11.out.o3
    go_wp2_with fail
    have hap := impl_Apply_c y (headText d) (.slice ay y.length cy) (.slice a7 (headText d).length c7) w7 HY.out HTX.out
    rw [G3.out] at hap
    refine hap.mono ?_
    rintro e' w8 ⟨vu, fu, rfl, su, _, hb8⟩
    obtain ⟨a8, c8, rfl⟩ := su.isS
    clear hap
    clear HDBz HDBc0 HDBc1 HDBc2 HDBc3 HDBc4 HXBz HXBc0 HXBc1 HXBc2 HXBc3 HXBc4 H11z H11c0 H11c1 H11c2
    have HDB' := Lib.hid (HDB.out.below hb8)
    clear HDB
    have HDB := HDB'
    clear HDB'
    have HXB' := Lib.hid (HXB.out.below hb8)
    clear HXB
    have HXB := HXB'
    clear HXB'
    have H11' := Lib.hid (H11.out.at hb8)
    clear H11
    have H11 := H11'
    clear H11'
    have HY' := Lib.hid (HY.out.below hb8)
    clear HY
    have HY := HY'
    clear HY'
    clear HTX
    have HBW' := Lib.hid (HBW.out.trans (hb8.mono HBW.out.size))
    clear HBW
    have HBW := HBW'
    clear HBW' hb8
    have HU := Lib.hid (show RdS w8 _ (headText x) from ⟨_, su⟩)
    clear su
    obtain ⟨HDBz, HDBc0, HDBc1, HDBc2, HDBc3, HDBc4⟩ := HDB.out.x.o5
    obtain ⟨HXBz, HXBc0, HXBc1, HXBc2, HXBc3, HXBc4⟩ := HXB.out.x.o5
    obtain ⟨H11z, H11c0, H11c1, H11c2⟩ := H11.out.o3
    go_wp2_with fail
    have hft := impl_Fetch_c x (.slice xt x.text.length xct) (.slice xl x.list.length xcl) (.slice xs_ x.seen.length xcs) h w8 hxn HXB.out.t HXB.out.l HXB.out.s
    rw [G4.out] at hft
    refine hft.mono ?_
    rintro e' w9 ⟨vl, fl, rfl, sl, _, hb9⟩
    obtain ⟨a9, c9, rfl⟩ := sl.isS
    simp only [List.length_cons, List.length_nil] at sl
    clear hft
    clear HDBz HDBc0 HDBc1 HDBc2 HDBc3 HDBc4 HXBz HXBc0 HXBc1 HXBc2 HXBc3 HXBc4 H11z H11c0 H11c1 H11c2
    have HDB' := Lib.hid (HDB.out.below hb9)
    clear HDB
    have HDB := HDB'
    clear HDB'
    have HXB' := Lib.hid (HXB.out.below hb9)
    clear HXB
    have HXB := HXB'
    clear HXB'
    have H11' := Lib.hid (H11.out.at hb9)
    clear H11
    have H11 := H11'
    clear H11'
    have HY' := Lib.hid (HY.out.below hb9)
    clear HY
    have HY := HY'
    clear HY'
    have HU' := Lib.hid (HU.out.below hb9)
    clear HU
    have HU := HU'
    clear HU'
    have HBW' := Lib.hid (HBW.out.trans (hb9.mono HBW.out.size))
    clear HBW
    have HBW := HBW'
    clear HBW' hb9
    have HLL := Lib.hid (show RdS w9 _ [entry1 client seq y] from ⟨_, sl⟩)
    clear sl
    obtain ⟨HDBz, HDBc0, HDBc1, HDBc2, HDBc3, HDBc4⟩ := HDB.out.x.o5
    obtain ⟨HXBz, HXBc0, HXBc1, HXBc2, HXBc3, HXBc4⟩ := HXB.out.x.o5
    obtain ⟨H11z, H11c0, H11c1, H11c2⟩ := H11.out.o3
    go_wp2_with fail
    have hsx := impl_SeenOf_c x (.slice xt x.text.length xct) (.slice xl x.list.length xcl) (.slice xs_ x.seen.length xcs) client w9 HXB.out.s
    rw [G5.out] at hsx
    refine hsx.mono ?_
    rintro e' w10 ⟨rfl, hb10⟩
    clear hsx
    clear HDBz HDBc0 HDBc1 HDBc2 HDBc3 HDBc4 HXBz HXBc0 HXBc1 HXBc2 HXBc3 HXBc4 H11z H11c0 H11c1 H11c2
    have HDB' := Lib.hid (HDB.out.below hb10)
    clear HDB
    have HDB := HDB'
    clear HDB'
    have HXB' := Lib.hid (HXB.out.below hb10)
    clear HXB
    have HXB := HXB'
    clear HXB'
    have H11' := Lib.hid (H11.out.at hb10)
    clear H11
    have H11 := H11'
    clear H11'
    have HY' := Lib.hid (HY.out.below hb10)
    clear HY
    have HY := HY'
    clear HY'
    have HU' := Lib.hid (HU.out.below hb10)
    clear HU
    have HU := HU'
    clear HU'
    have HLL' := Lib.hid (HLL.out.below hb10)
    clear HLL
    have HLL := HLL'
    clear HLL'
    have HBW' := Lib.hid (HBW.out.trans (hb10.mono HBW.out.size))
    clear HBW
    have HBW := HBW'
    clear HBW' hb10
    have hbs : Below w10.heap.size w10 (w10.alloc (.cells #[.int .i64 client, .int .i64 seq, .int .i64 rev] 33)) := (Below.refl _ _).alloc (Nat.le_refl _) _
    have H19 : Hid (Bx (w10.alloc (.cells #[.int .i64 client, .int .i64 seq, .int .i64 rev] 33)) w10.heap.size [.int .i64 client, .int .i64 seq, .int .i64 rev]) := Lib.hid (Bx.new rfl)
    have HDB' := Lib.hid (HDB.out.below hbs)
    clear HDB
    have HDB := HDB'
    clear HDB'
    have HXB' := Lib.hid (HXB.out.below hbs)
    clear HXB
    have HXB := HXB'
    clear HXB'
    have H11' := Lib.hid (H11.out.at hbs)
    clear H11
    have H11 := H11'
    clear H11'
    have HY' := Lib.hid (HY.out.below hbs)
    clear HY
    have HY := HY'
    clear HY'
    have HU' := Lib.hid (HU.out.below hbs)
    clear HU
    have HU := HU'
    clear HU'
    have HLL' := Lib.hid (HLL.out.below hbs)
    clear HLL
    have HLL := HLL'
    clear HLL'
    have HBW' := Lib.hid (HBW.out.trans (hbs.mono HBW.out.size))
    clear HBW
    have HBW := HBW'
    clear HBW' hbs
    obtain ⟨HDBz, HDBc0, HDBc1, HDBc2, HDBc3, HDBc4⟩ := HDB.out.x.o5
    obtain ⟨HXBz, HXBc0, HXBc1, HXBc2, HXBc3, HXBc4⟩ := HXB.out.x.o5
    obtain ⟨H11z, H11c0, H11c1, H11c2⟩ := H11.out.o3
    obtain ⟨H19z, H19c0, H19c1, H19c2⟩ := H19.out.o3
    have hhd := impl_HeadRev_c d (.slice dt d.text.length dct) (.slice dl d.list.length dcl) (.slice ds d.seen.length dcs) (w10.alloc (.cells #[.int .i64 client, .int .i64 seq, .int .i64 rev] 33)) HDB.out.l (by omega) (by omega)
    rw [HH.out] at hhd
    go_wp2_with fail
    refine hhd.mono ?_
    rintro e' w11 ⟨rfl, hb11⟩
    clear hhd
    clear HDBz HDBc0 HDBc1 HDBc2 HDBc3 HDBc4 HXBz HXBc0 HXBc1 HXBc2 HXBc3 HXBc4 H11z H11c0 H11c1 H11c2 H19z H19c0 H19c1 H19c2
    have HDB' := Lib.hid (HDB.out.below hb11)
    clear HDB
    have HDB := HDB'
    clear HDB'
    have HXB' := Lib.hid (HXB.out.below hb11)
    clear HXB
    have HXB := HXB'
    clear HXB'
    have H11' := Lib.hid (H11.out.at hb11)
    clear H11
    have H11 := H11'
    clear H11'
    have HY' := Lib.hid (HY.out.below hb11)
    clear HY
    have HY := HY'
    clear HY'
    have HU' := Lib.hid (HU.out.below hb11)
    clear HU
    have HU := HU'
    clear HU'
    have HLL' := Lib.hid (HLL.out.below hb11)
    clear HLL
    have HLL := HLL'
    clear HLL'
    have H19' := Lib.hid (H19.out.at hb11)
    clear H19
    have H19 := H19'
    clear H19'
    have HBW' := Lib.hid (HBW.out.trans (hb11.mono HBW.out.size))
    clear HBW
    have HBW := HBW'
    clear HBW' hb11
    obtain ⟨HDBz, HDBc0, HDBc1, HDBc2, HDBc3, HDBc4⟩ := HDB.out.x.o5
    obtain ⟨HXBz, HXBc0, HXBc1, HXBc2, HXBc3, HXBc4⟩ := HXB.out.x.o5
    obtain ⟨H11z, H11c0, H11c1, H11c2⟩ := H11.out.o3
    obtain ⟨H19z, H19c0, H19c1, H19c2⟩ := H19.out.o3
    have hhx := impl_HeadRev_c x (.slice xt x.text.length xct) (.slice xl x.list.length xcl) (.slice xs_ x.seen.length xcs) w11 HXB.out.l (by omega) (by omega)
    rw [G6.out] at hhx
    go_wp2_with fail
    refine hhx.mono ?_
    rintro e' w12 ⟨rfl, hb12⟩
    clear hhx
    clear HDBz HDBc0 HDBc1 HDBc2 HDBc3 HDBc4 HXBz HXBc0 HXBc1 HXBc2 HXBc3 HXBc4 H11z H11c0 H11c1 H11c2 H19z H19c0 H19c1 H19c2
    have HDB' := Lib.hid (HDB.out.below hb12)
    clear HDB
    have HDB := HDB'
    clear HDB'
    have HXB' := Lib.hid (HXB.out.below hb12)
    clear HXB
    have HXB := HXB'
    clear HXB'
    have H11' := Lib.hid (H11.out.at hb12)
    clear H11
    have H11 := H11'
    clear H11'
    have HY' := Lib.hid (HY.out.below hb12)
    clear HY
    have HY := HY'
    clear HY'
    have HU' := Lib.hid (HU.out.below hb12)
    clear HU
    have HU := HU'
    clear HU'
    have HLL' := Lib.hid (HLL.out.below hb12)
    clear HLL
    have HLL := HLL'
    clear HLL'
    have H19' := Lib.hid (H19.out.at hb12)
    clear H19
    have H19 := H19'
    clear H19'
    have HBW' := Lib.hid (HBW.out.trans (hb12.mono HBW.out.size))
    clear HBW
    have HBW := HBW'
    clear HBW' hb12
    obtain ⟨HDBz, HDBc0, HDBc1, HDBc2, HDBc3, HDBc4⟩ := HDB.out.x.o5
    obtain ⟨HXBz, HXBc0, HXBc1, HXBc2, HXBc3, HXBc4⟩ := HXB.out.x.o5
    obtain ⟨H11z, H11c0, H11c1, H11c2⟩ := H11.out.o3
    obtain ⟨H19z, H19c0, H19c1, H19c2⟩ := H19.out.o3
    go_wp2_with fail
    refine (impl_HeadText_c x (.slice xt x.text.length xct) (.slice xl x.list.length xcl) (.slice xs_ x.seen.length xcs) _ hxn HXB.out.t HXB.out.l HXB.out.s).mono ?_
    rintro e' w13 ⟨vt2, ft2, rfl, st2, _, hb13⟩
    obtain ⟨a13, c13, rfl⟩ := st2.isS
    clear HDBz HDBc0 HDBc1 HDBc2 HDBc3 HDBc4 HXBz HXBc0 HXBc1 HXBc2 HXBc3 HXBc4 H11z H11c0 H11c1 H11c2 H19z H19c0 H19c1 H19c2
    have HDB' := Lib.hid (HDB.out.below hb13)
    clear HDB
    have HDB := HDB'
    clear HDB'
    have HXB' := Lib.hid (HXB.out.below hb13)
    clear HXB
    have HXB := HXB'
    clear HXB'
    have H11' := Lib.hid (H11.out.at hb13)
    clear H11
    have H11 := H11'
    clear H11'
    have HY' := Lib.hid (HY.out.below hb13)
    clear HY
    have HY := HY'
    clear HY'
    have HU' := Lib.hid (HU.out.below hb13)
    clear HU
    have HU := HU'
    clear HU'
    have HLL' := Lib.hid (HLL.out.below hb13)
    clear HLL
    have HLL := HLL'
    clear HLL'
    have H19' := Lib.hid (H19.out.at hb13)
    clear H19
    have H19 := H19'
    clear H19'
    have HBW' := Lib.hid (HBW.out.trans (hb13.mono HBW.out.size))
    clear HBW
    have HBW := HBW'
    clear HBW' hb13
    have HT13 := Lib.hid (show RdS w13 _ (headText x) from ⟨_, st2⟩)
    clear st2
    obtain ⟨HDBz, HDBc0, HDBc1, HDBc2, HDBc3, HDBc4⟩ := HDB.out.x.o5
    obtain ⟨HXBz, HXBc0, HXBc1, HXBc2, HXBc3, HXBc4⟩ := HXB.out.x.o5
    obtain ⟨H11z, H11c0, H11c1, H11c2⟩ := H11.out.o3
    obtain ⟨H19z, H19c0, H19c1, H19c2⟩ := H19.out.o3
    go_wp2_with fail
    refine (impl_SignsSame_s _ _ (headText x) (headText x) _ HT13.out HU.out).mono ?_
    rintro e' w14 ⟨rfl, hb14⟩
    rw [dec_t rfl]
    clear HT13
    clear HDBz HDBc0 HDBc1 HDBc2 HDBc3 HDBc4 HXBz HXBc0 HXBc1 HXBc2 HXBc3 HXBc4 H11z H11c0 H11c1 H11c2 H19z H19c0 H19c1 H19c2
    have HDB' := Lib.hid (HDB.out.below hb14)
    clear HDB
    have HDB := HDB'
    clear HDB'
    have HXB' := Lib.hid (HXB.out.below hb14)
    clear HXB
    have HXB := HXB'
    clear HXB'
    have H11' := Lib.hid (H11.out.at hb14)
    clear H11
    have H11 := H11'
    clear H11'
    have HY' := Lib.hid (HY.out.below hb14)
    clear HY
    have HY := HY'
    clear HY'
    clear HU
    have HLL' := Lib.hid (HLL.out.below hb14)
    clear HLL
    have HLL := HLL'
    clear HLL'
    have H19' := Lib.hid (H19.out.at hb14)
    clear H19
    have H19 := H19'
    clear H19'
    have HBW' := Lib.hid (HBW.out.trans (hb14.mono HBW.out.size))
    clear HBW
    have HBW := HBW'
    clear HBW' hb14
    obtain ⟨b9, o9, cs9, i1, i2, i3⟩ := HLL.out.idx Tryz.underlying24 szi_DEntry 0 rfl
    obtain ⟨v_o, rfl, r_o⟩ := inv_DEntry i3
    have p0 := i2.zero
    have p1 := i2 1 _ rfl
    have p2 := i2 2 _ rfl
    obtain ⟨ab, cb, rfl⟩ := r_o.isSlice
    simp only [Int.natCast_zero] at i1
    simp only [entry1] at p0 p1 p2 r_o
    have l9 : b9 < w14.heap.size := World.block_lt_of_cell? (w := w14) (a := ⟨b9, o9 + 1, none⟩) p1
    have HRO := Lib.hid r_o
    clear i2 i3 r_o
    obtain ⟨HDBz, HDBc0, HDBc1, HDBc2, HDBc3, HDBc4⟩ := HDB.out.x.o5
    obtain ⟨HXBz, HXBc0, HXBc1, HXBc2, HXBc3, HXBc4⟩ := HXB.out.x.o5
    obtain ⟨H11z, H11c0, H11c1, H11c2⟩ := H11.out.o3
    obtain ⟨H19z, H19c0, H19c1, H19c2⟩ := H19.out.o3
    go_wp2_with fail
    refine (impl_OpSame_c _ _ y y _ HRO.out HY.out).mono ?_
    rintro e' w15 ⟨rfl, hb15⟩
    rw [dec_t rfl]
    have p0' := (hb15.cell (p := ⟨b9, o9, none⟩) l9).trans p0
    clear p0 p1 p2 HRO
    clear HDBz HDBc0 HDBc1 HDBc2 HDBc3 HDBc4 HXBz HXBc0 HXBc1 HXBc2 HXBc3 HXBc4 H11z H11c0 H11c1 H11c2 H19z H19c0 H19c1 H19c2
    have HDB' := Lib.hid (HDB.out.below hb15)
    clear HDB
    have HDB := HDB'
    clear HDB'
    have HXB' := Lib.hid (HXB.out.below hb15)
    clear HXB
    have HXB := HXB'
    clear HXB'
    have H11' := Lib.hid (H11.out.at hb15)
    clear H11
    have H11 := H11'
    clear H11'
    clear HY
    clear HLL
    have H19' := Lib.hid (H19.out.at hb15)
    clear H19
    have H19 := H19'
    clear H19'
    have HBW' := Lib.hid (HBW.out.trans (hb15.mono HBW.out.size))
    clear HBW
    have HBW := HBW'
    clear HBW' hb15
    obtain ⟨HDBz, HDBc0, HDBc1, HDBc2, HDBc3, HDBc4⟩ := HDB.out.x.o5
    obtain ⟨HXBz, HXBc0, HXBc1, HXBc2, HXBc3, HXBc4⟩ := HXB.out.x.o5
    obtain ⟨H11z, H11c0, H11c1, H11c2⟩ := H11.out.o3
    obtain ⟨H19z, H19c0, H19c1, H19c2⟩ := H19.out.o3
    have hok := impl_DocOk_c x (.slice xt x.text.length xct) (.slice xl x.list.length xcl) (.slice xs_ x.seen.length xcs) w15 hxn HXB.out.t HXB.out.l HXB.out.s
    rw [G7.out] at hok
    go_wp2_with fail
    refine hok.mono ?_
    rintro e' w16 ⟨rfl, hb16⟩
    go_wp2
    go_ret
    exact ⟨rfl, HBW.out.trans ((show Below w15.heap.size w15 _ from blw).mono HBW.out.size)⟩
end Go.Proofs.YtfkaabpaolelgaaGreat
