/- FnAgain: the walk. -/
import Derived.Test.YtfkaabpaolelgaaGreatMks
import Derived.Test.YtfkaabpaolelgaaGreatFap
import Derived.Test.YtfkaabpaolelgaaGreatOtn
import Derived.Test.YtfkaabpaolelgaaGreatSub
import Derived.Test.YtfkaabpaolelgaaGreatCmp4
namespace Go.Proofs.YtfkaabpaolelgaaGreat
open Go.RowKit
theorem els_bytes {M : Nat} {w : World} : ∀ {l : List DByte} {cs : List Value} {fp : List Pos}, Els M w cs l fp → Els BIG w cs l fp
  | [], _, _, h => h
  | _ :: _, _, _, ⟨c1, c2, f1, f2, hc, h1, h2, hf⟩ => ⟨c1, c2, f1, f2, hc, h1, els_bytes h2, hf⟩
theorem bytes_rd {w : World} {vb : Value} {bs : List DByte} (hm : RdSM maxLen w vb bs) (hlen : bs.length ≤ 1048576) : RdS w vb bs := by
  obtain ⟨f, h⟩ := hm
  rcases h with h | ⟨b, o, cap, cs, fs, rfl, h1, h2, h3, ha, he, hl, rfl⟩
  · exact ⟨f, .inl h⟩
  · exact ⟨_, .inr ⟨b, o, cap, cs, fs, rfl, h1, h2, le_BIG (by omega), ha, els_bytes he, hl, rfl⟩⟩
set_option maxHeartbeats 8000000 in
set_option maxRecDepth 100000 in
theorem walk_FnAgain (vb : Value) (bs : List DByte) (w : World) (hm : RdSM maxLen w vb bs) :
    Calls Tryz.prog 4 #[vb] w (Tells w (.bool true)) := by
  have hlm := fun w1 ty => hm.len Tryz.underlying22 w1 ty
  by_cases hlen : bs.length ≤ 1048576
  rotate_left
  · have hl2 : (1048576 : Int) < (bs.length : Int) := by omega
    go_enter Tryz.func4, Tryz.ntmps4
    go_wp2
    go_ret
    exact ⟨rfl, Below.refl _ _⟩
  have hl2 : ¬ (1048576 : Int) < (bs.length : Int) := by omega
  have HB := Lib.hid (bytes_rd hm hlen)
  clear hm
  go_enter Tryz.func4, Tryz.ntmps4
  go_wp2_with fail
  refine (spec_MakeDoc_c vb bs w HB.out).mono ?_
  rintro e' w1 ⟨d, vt, vl, vs, rfl, hd, ht, hl, hs, hb1⟩
  obtain ⟨dt, dct, rfl⟩ := ht.isSlice
  obtain ⟨dl, dcl, rfl⟩ := hl.isSlice
  obtain ⟨ds, dcs, rfl⟩ := hs.isSlice
  have hnm := hd.name
  have HD := Lib.hid hd
  have HBD : Hid (Below w1.heap.size w1 (w1.alloc (.cells #[.string d.name, .int .i64 d.from_, .slice dt d.text.length dct, .slice dl d.list.length dcl, .slice ds d.seen.length dcs] 27))) := Lib.hid ((Below.refl _ _).alloc (Nat.le_refl _) _)
  have HX3 : Hid (Bx (w1.alloc (.cells #[.string d.name, .int .i64 d.from_, .slice dt d.text.length dct, .slice dl d.list.length dcl, .slice ds d.seen.length dcs] 27)) w1.heap.size [.string d.name, .int .i64 d.from_, .slice dt d.text.length dct, .slice dl d.list.length dcl, .slice ds d.seen.length dcs]) := Lib.hid (Bx.new rfl)
  have HT := Lib.hid (ht.below HBD.out)
  have HL := Lib.hid (hl.below HBD.out)
  have HS := Lib.hid (hs.below HBD.out)
  have HB1 := Lib.hid hb1
  have HBB := Lib.hid ((HB.out.below hb1).below HBD.out)
  clear hd ht hl hs hb1
  go_wp2_with fail
  refine (spec_MakeSubmit_c vb bs d (.slice dt d.text.length dct) (.slice dl d.list.length dcl) (.slice ds d.seen.length dcs) _ HBB.out HD.out HT.out HL.out HS.out).mono ?_
  rintro e' w2 ⟨client, seq, base, vo, o, rfl, ho, hb2⟩
  obtain ⟨ao, co, rfl⟩ := ho.isSlice
  have HT2 := Lib.hid (HT.out.below hb2)
  have HL2 := Lib.hid (HL.out.below hb2)
  have HS2 := Lib.hid (HS.out.below hb2)
  have HX2 := Lib.hid (HX3.out.at hb2)
  have HO2 := Lib.hid ho
  have HB2 := Lib.hid (HB1.out.trans ((HBD.out.trans (hb2.mono HBD.out.size)).mono HB1.out.size))
  obtain ⟨z2, k0, k1, k2, k3, k4⟩ := HX2.out.o5
  clear ho hb2 HT HL HS HX3 HBB HBD HB1 HB
  go_wp2_with fail
  obtain ⟨r, hr⟩ : ∃ r, submit d client seq base o = r := ⟨_, rfl⟩
  have hsb := impl_Submit_c d (.slice dt d.text.length dct) (.slice dl d.list.length dcl) (.slice ds d.seen.length dcs) client seq base (.slice ao o.length co) o w2 hnm HT2.out HL2.out HS2.out HO2.out
  rw [hr] at hsb
  obtain ⟨x, rev, code⟩ := r
  refine hsb.mono ?_
  rintro e' w3 ⟨v1, v2, v3, f1, f2, f3, he, s1, s2, s3, hxn, _, hb3⟩
  simp only at he
  subst he
  obtain ⟨xt, xct, rfl⟩ := s1.isS
  obtain ⟨xl, xcl, rfl⟩ := s2.isS
  obtain ⟨xs_, xcs, rfl⟩ := s3.isS
  simp only at s1 s2 s3 hxn
  have HB3 := Lib.hid (HB2.out.trans (hb3.mono HB2.out.size))
  have R1 := Lib.hid (show RdS w3 _ x.text from ⟨_, s1⟩)
  have R2 := Lib.hid (show RdS w3 _ x.list from ⟨_, s2⟩)
  have R3 := Lib.hid (show RdS w3 _ x.seen from ⟨_, s3⟩)
  clear hsb s1 s2 s3 hb3 HT2 HL2 HS2 HX2 HO2 HB2 k0 k1 k2 k3 k4 z2
  by_cases hc0 : code = 0
  · subst hc0
    have hag := fun b => submit_again (d := d) (client := client) (seq := seq) (base := base) (o := o) (by rw [hr]) b
    rw [hr] at hag
    simp only at hag
    have HAG := Lib.hid hag
    obtain ⟨b5, hb5⟩ : ∃ b5, IntKind.i64.wrap (base + 5) = b5 := ⟨_, rfl⟩
    clear hag hr
    have HBX : Hid (Below w3.heap.size w3 (w3.alloc (.cells #[.string x.name, .int .i64 x.from_, .slice xt x.text.length xct, .slice xl x.list.length xcl, .slice xs_ x.seen.length xcs] 27))) := Lib.hid ((Below.refl _ _).alloc (Nat.le_refl _) _)
    have HX8 : Hid (Bx (w3.alloc (.cells #[.string x.name, .int .i64 x.from_, .slice xt x.text.length xct, .slice xl x.list.length xcl, .slice xs_ x.seen.length xcs] 27)) w3.heap.size [.string x.name, .int .i64 x.from_, .slice xt x.text.length xct, .slice xl x.list.length xcl, .slice xs_ x.seen.length xcs]) := Lib.hid (Bx.new rfl)
    go_wp2_with fail
    have hsb2 := impl_Submit_c x (.slice xt x.text.length xct) (.slice xl x.list.length xcl) (.slice xs_ x.seen.length xcs) client seq b5 (.slice none 0 0) [] (w3.alloc (.cells #[.string x.name, .int .i64 x.from_, .slice xt x.text.length xct, .slice xl x.list.length xcl, .slice xs_ x.seen.length xcs] 27)) hxn (R1.out.below HBX.out) (R2.out.below HBX.out) (R3.out.below HBX.out) ⟨[], Sl.nil⟩
    rw [HAG.out b5] at hsb2
    refine hsb2.mono ?_
    rintro e' w5 ⟨v1, v2, v3, f1, f2, f3, he, s1, s2, s3, _, _, hb5'⟩
    simp only at he
    subst he
    obtain ⟨yt, yct, rfl⟩ := s1.isS
    obtain ⟨yl, ycl, rfl⟩ := s2.isS
    obtain ⟨ys_, ycs, rfl⟩ := s3.isS
    simp only at s1 s2 s3
    have HB5 := Lib.hid (HB3.out.trans ((HBX.out.trans (hb5'.mono HBX.out.size)).mono HB3.out.size))
    have HX5 := Lib.hid (HX8.out.at hb5')
    have Q1 := Lib.hid (show RdS w5 _ x.text from ⟨_, s1⟩)
    have Q2 := Lib.hid (show RdS w5 _ x.list from ⟨_, s2⟩)
    have Q3 := Lib.hid (show RdS w5 _ x.seen from ⟨_, s3⟩)
    have P1 := Lib.hid ((R1.out.below HBX.out).below hb5')
    have P2 := Lib.hid ((R2.out.below HBX.out).below hb5')
    have P3 := Lib.hid ((R3.out.below HBX.out).below hb5')
    obtain ⟨z5, j0, j1, j2, j3, j4⟩ := HX5.out.o5
    clear hsb2 s1 s2 s3 hb5' hb5
    go_wp2_with fail
    refine (impl_DocSame_c x x (.slice yt x.text.length yct) (.slice xt x.text.length xct) (.slice yl x.list.length ycl) (.slice xl x.list.length xcl) (.slice ys_ x.seen.length ycs) (.slice xs_ x.seen.length xcs) _ (Q1.out.below blw) (P1.out.below blw) (Q2.out.below blw) (P2.out.below blw) (Q3.out.below blw) (P3.out.below blw)).mono ?_
    rintro e' w6 ⟨rfl, hb6⟩
    rw [dec_t rfl]
    go_wp2
    go_ret
    exact ⟨rfl, HB5.out.trans ((show Below w5.heap.size w5 _ from blw).mono HB5.out.size)⟩
  · have hcc : (code != 0) = true := by simpa using hc0
    have HXX : Hid (Bx (w3.alloc (.cells #[.string x.name, .int .i64 x.from_, .slice xt x.text.length xct, .slice xl x.list.length xcl, .slice xs_ x.seen.length xcs] 27)) w3.heap.size [.string x.name, .int .i64 x.from_, .slice xt x.text.length xct, .slice xl x.list.length xcl, .slice xs_ x.seen.length xcs]) := Lib.hid (Bx.new rfl)
    obtain ⟨hb1, hb2, hb3, hb4⟩ := submit_bad (d := d) (client := client) (seq := seq) (base := base) (o := o) (by rw [hr]; exact hc0)
    rw [hr] at hb1 hb2 hb3 hb4
    simp only at hb1 hb2 hb3 hb4
    subst hb1
    subst hb2
    clear hr
    rcases (show code = 1 ∨ code = 2 ∨ code = 3 ∨ code = 4 ∨ code = 5 by omega) with rfl | rfl | rfl | rfl | rfl
    · go_wp2_with fail
      refine (impl_OtName_1 _).mono ?_
      rintro e' w4 ⟨rfl, hb4'⟩
      obtain ⟨z5, j0, j1, j2, j3, j4⟩ := (HXX.out.at hb4').o5
      go_wp2
      go_ret
      exact ⟨rfl, HB3.out.trans ((show Below w3.heap.size w3 _ from blw).mono HB3.out.size)⟩
    · go_wp2_with fail
      refine (impl_OtName_2 _).mono ?_
      rintro e' w4 ⟨rfl, hb4'⟩
      obtain ⟨z5, j0, j1, j2, j3, j4⟩ := (HXX.out.at hb4').o5
      go_wp2
      go_ret
      exact ⟨rfl, HB3.out.trans ((show Below w3.heap.size w3 _ from blw).mono HB3.out.size)⟩
    · go_wp2_with fail
      refine (impl_OtName_3 _).mono ?_
      rintro e' w4 ⟨rfl, hb4'⟩
      obtain ⟨z5, j0, j1, j2, j3, j4⟩ := (HXX.out.at hb4').o5
      go_wp2
      go_ret
      exact ⟨rfl, HB3.out.trans ((show Below w3.heap.size w3 _ from blw).mono HB3.out.size)⟩
    · go_wp2_with fail
      refine (impl_OtName_4 _).mono ?_
      rintro e' w4 ⟨rfl, hb4'⟩
      obtain ⟨z5, j0, j1, j2, j3, j4⟩ := (HXX.out.at hb4').o5
      go_wp2
      go_ret
      exact ⟨rfl, HB3.out.trans ((show Below w3.heap.size w3 _ from blw).mono HB3.out.size)⟩
    · go_wp2_with fail
      refine (impl_OtName_5 _).mono ?_
      rintro e' w4 ⟨rfl, hb4'⟩
      obtain ⟨z5, j0, j1, j2, j3, j4⟩ := (HXX.out.at hb4').o5
      go_wp2
      go_ret
      exact ⟨rfl, HB3.out.trans ((show Below w3.heap.size w3 _ from blw).mono HB3.out.size)⟩
end Go.Proofs.YtfkaabpaolelgaaGreat
