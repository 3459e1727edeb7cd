/- FnCodes: the walk. -/
import Derived.Test.YtfkaabpaolelgaaGreatMdo
import Derived.Test.YtfkaabpaolelgaaGreatFcp
import Derived.Test.YtfkaabpaolelgaaGreatSub
import Derived.Test.YtfkaabpaolelgaaGreatDfg
import Derived.Deep.CutRange
import Derived.Deep.RegionHeld3
namespace Go.Proofs.YtfkaabpaolelgaaGreat
open Go.RowKit
theorem els_bytes {M : Nat} {w : World} : ∀ {l : List DByte} {cs : List Value} {fp : List Pos}, Els M w cs l fp → Els BIG w cs l fp
  | [], _, _, h => h
  | _ :: _, _, _, ⟨c1, c2, f1, f2, hc, h1, h2, hf⟩ => ⟨c1, c2, f1, f2, hc, h1, els_bytes h2, hf⟩
theorem bytes_rd {w : World} {vb : Value} {bs : List DByte} (hm : RdSM maxLen w vb bs) (hlen : bs.length ≤ 1048576) : RdS w vb bs := by
  obtain ⟨f, h⟩ := hm
  rcases h with h | ⟨b, o, cap, cs, fs, rfl, h1, h2, h3, ha, he, hl, rfl⟩
  · exact ⟨f, .inl h⟩
  · exact ⟨_, .inr ⟨b, o, cap, cs, fs, rfl, h1, h2, le_BIG (by omega), ha, els_bytes he, hl, rfl⟩⟩
/-- a document in its block, with an operation beside it -/
structure DV (w3 : World) (b3 : Nat) (wr : World) (d : DDoc) (vt vl vs vo : Value) (o : List DPart) : Prop where
  x3 : Bx wr b3 [.string d.name, .int .i64 d.from_, vt, vl, vs]
  t : RdS wr vt d.text
  l : RdS wr vl d.list
  s : RdS wr vs d.seen
  o : RdS wr vo o
  be : Below w3.heap.size w3 wr
theorem DV.below {w3 wr w' : World} {b3 : Nat} {d : DDoc} {vt vl vs vo : Value} {o : List DPart} (h : DV w3 b3 wr d vt vl vs vo o) (hb : Below wr.heap.size wr w') : DV w3 b3 w' d vt vl vs vo o :=
  ⟨h.x3.at hb, h.t.below hb, h.l.below hb, h.s.below hb, h.o.below hb, h.be.trans (hb.mono h.be.size)⟩
set_option maxHeartbeats 16000000 in
set_option maxRecDepth 100000 in
theorem walk_FnCodes (vb : Value) (bs : List DByte) (w : World) (hm : RdSM maxLen w vb bs) :
    Calls Tryz.prog 3 #[vb] w (Tells w (.bool true)) := by
  have hlm := fun w1 ty => hm.len Tryz.underlying22 w1 ty
  by_cases hlen : bs.length ≤ 1048576
  rotate_left
  · have hl2 : (1048576 : Int) < (bs.length : Int) := by omega
    go_enter Tryz.func3, Tryz.ntmps3
    go_wp2
    go_ret
    exact ⟨rfl, Below.refl _ _⟩
  have hl2 : ¬ (1048576 : Int) < (bs.length : Int) := by omega
  have HB := Lib.hid (bytes_rd hm hlen)
  clear hm
  go_enter Tryz.func3, Tryz.ntmps3
  go_wp2_with fail
  refine (spec_MakeDoc_c vb bs w HB.out).mono ?_
  rintro e' w1 ⟨d, vt, vl, vs, rfl, hd, ht, hl, hs, hb1⟩
  obtain ⟨at_, ct, rfl⟩ := ht.isSlice
  obtain ⟨al, cl, rfl⟩ := hl.isSlice
  obtain ⟨as_, cs, rfl⟩ := hs.isSlice
  have hnm := hd.name
  have hdp := docOk_iff.1 hd.ok
  have df0 := hdp.f0
  have df1 := hdp.f1
  have dl8 := hdp.len
  have hhr0 : 0 ≤ headRev d := by unfold headRev; omega
  have hhr1 : headRev d ≤ 1000000000 := by unfold headRev; omega
  have htl := head_len hd
  have HD := Lib.hid hd
  have HT := Lib.hid ht
  have HL := Lib.hid hl
  have HS := Lib.hid hs
  have HB1 := Lib.hid hb1
  have hbA : Below w1.heap.size w1 (w1.alloc (.cells #[.string d.name, .int .i64 d.from_, .slice at_ d.text.length ct, .slice al d.list.length cl, .slice as_ d.seen.length cs] 27)) := (Below.refl _ _).alloc (Nat.le_refl _) _
  have HBA := Lib.hid hbA
  have HX3 : Hid (Bx (w1.alloc (.cells #[.string d.name, .int .i64 d.from_, .slice at_ d.text.length ct, .slice al d.list.length cl, .slice as_ d.seen.length cs] 27)) w1.heap.size [.string d.name, .int .i64 d.from_, .slice at_ d.text.length ct, .slice al d.list.length cl, .slice as_ d.seen.length cs]) := Lib.hid (Bx.new rfl)
  clear hd ht hl hs hb1 hbA hdp
  go_wp2_with fail
  refine (impl_HeadText_c d (.slice at_ d.text.length ct) (.slice al d.list.length cl) (.slice as_ d.seen.length cs) _ hnm (HT.out.below blw) (HL.out.below blw) (HS.out.below blw)).mono ?_
  rintro e' w2 ⟨v2, f2, rfl, s2, _, hb2⟩
  obtain ⟨a2, c2, rfl⟩ := s2.isS
  have HB2 := Lib.hid (HBA.out.trans (hb2.mono HBA.out.size))
  have HX3b := Lib.hid (HX3.out.at hb2)
  clear s2 hb2 HX3
  go_wp2_with fail
  refine (impl_Keeping_c (headText d).length _).mono ?_
  rintro e' w3 ⟨vo, fo, rfl, so, _, hb3⟩
  obtain ⟨ao, co, rfl⟩ := so.isS
  obtain ⟨vo, hvo⟩ : ∃ vo, Value.slice ao (keeping (headText d).length).length co = vo := ⟨_, rfl⟩
  rw [hvo] at so
  rw [hvo]
  clear hvo
  have HB3 := Lib.hid (HB2.out.trans (hb3.mono HB2.out.size))
  have HDV : Hid (DV w1 w1.heap.size w3 d (.slice at_ d.text.length ct) (.slice al d.list.length cl) (.slice as_ d.seen.length cs) vo (keeping (headText d).length)) := Lib.hid ⟨HX3b.out.at hb3, HT.out.below HB3.out, HL.out.below HB3.out, HS.out.below HB3.out, ⟨_, so⟩, HB3.out⟩
  clear so hb3 HX3b HB2 HB3 HBA
  obtain ⟨z3, k0, k1, k2, k3, k4⟩ := HDV.out.x3.o5
  go_wp2_with fail
  have hso := impl_SeenOf_c d (.slice at_ d.text.length ct) (.slice al d.list.length cl) (.slice as_ d.seen.length cs) 7 w3 HDV.out.s
  rw [codes_seen HD.out] at hso
  refine hso.mono ?_
  rintro e' w4 ⟨rfl, hb4⟩
  have hbB : Below w4.heap.size w4 (w4.alloc (.cells #[.int .i64 0, .int .i64 0, .int .i64 0] 33)) := (Below.refl _ _).alloc (Nat.le_refl _) _
  have HDV4 := Lib.hid ((HDV.out.below hb4).below hbB)
  have HX5 : Hid (Bx (w4.alloc (.cells #[.int .i64 0, .int .i64 0, .int .i64 0] 33)) w4.heap.size [.int .i64 0, .int .i64 0, .int .i64 0]) := Lib.hid (Bx.new rfl)
  clear hso hb4 hbB HDV k0 k1 k2 k3 k4 z3
  obtain ⟨hr, hhr⟩ : ∃ hr, headRev d = hr := ⟨_, rfl⟩
  obtain ⟨h1, hh1⟩ : ∃ h1, hr + 1 = h1 := ⟨_, rfl⟩
  obtain ⟨fm, hfm⟩ : ∃ fm, d.from_ - 1 = fm := ⟨_, rfl⟩
  have e1 : IntKind.i64.wrap (hr + 1) = h1 := by rw [← hh1]; exact IntWalk.i64_in _ (by omega)
  have e2 : IntKind.i64.wrap (d.from_ - 1) = fm := by rw [← hfm]; exact IntWalk.i64_in _ (by omega)
  have HHR := Lib.hid hhr
  have HH1 := Lib.hid hh1
  have HFM := Lib.hid hfm
  have HRV : Hid (∀ W, DV w1 w1.heap.size W d (.slice at_ d.text.length ct) (.slice al d.list.length cl) (.slice as_ d.seen.length cs) vo (keeping (headText d).length) → Calls Tryz.prog 11 #[.agg #[.string d.name, .int .i64 d.from_, .slice at_ d.text.length ct, .slice al d.list.length cl, .slice as_ d.seen.length cs]] W (Tells W (.int .i64 hr))) := Lib.hid (fun W h => by have := impl_HeadRev_c d (.slice at_ d.text.length ct) (.slice al d.list.length cl) (.slice as_ d.seen.length cs) W h.l (by omega) (by omega); rw [HHR.out] at this; exact this)
  clear hhr hh1 hfm
  have HR6 : Hid (∀ W, DV w1 w1.heap.size W d (.slice at_ d.text.length ct) (.slice al d.list.length cl) (.slice as_ d.seen.length cs) vo (keeping (headText d).length) → Calls Tryz.prog 10 #[.agg #[.string d.name, .int .i64 d.from_, .slice at_ d.text.length ct, .slice al d.list.length cl, .slice as_ d.seen.length cs], .int .i64 (h1), vo] W (Out_PartS_i W (rebase d (h1) (keeping (headText d).length)).1 2)) := Lib.hid (fun W h => by have := impl_Rebase_c d (.slice at_ d.text.length ct) (.slice al d.list.length cl) (.slice as_ d.seen.length cs) (headRev d + 1) vo (keeping (headText d).length) W hnm h.t h.l h.s h.o; rw [codes_future HD.out, HHR.out, HH1.out] at this; exact this)
  have HR7 : Hid (∀ W, DV w1 w1.heap.size W d (.slice at_ d.text.length ct) (.slice al d.list.length cl) (.slice as_ d.seen.length cs) vo (keeping (headText d).length) → Calls Tryz.prog 10 #[.agg #[.string d.name, .int .i64 d.from_, .slice at_ d.text.length ct, .slice al d.list.length cl, .slice as_ d.seen.length cs], .int .i64 (fm), vo] W (Out_PartS_i W (rebase d (fm) (keeping (headText d).length)).1 3)) := Lib.hid (fun W h => by have := impl_Rebase_c d (.slice at_ d.text.length ct) (.slice al d.list.length cl) (.slice as_ d.seen.length cs) (d.from_ - 1) vo (keeping (headText d).length) W hnm h.t h.l h.s h.o; rw [codes_old HD.out, HFM.out] at this; exact this)
  have HR8 : Hid (∀ W v, DV w1 w1.heap.size W d (.slice at_ d.text.length ct) (.slice al d.list.length cl) (.slice as_ d.seen.length cs) vo (keeping (headText d).length) → RdS W v (keeping ((headText d).length + 1)) → Calls Tryz.prog 10 #[.agg #[.string d.name, .int .i64 d.from_, .slice at_ d.text.length ct, .slice al d.list.length cl, .slice as_ d.seen.length cs], .int .i64 (hr), v] W (Out_PartS_i W (rebase d (hr) (keeping ((headText d).length + 1))).1 1)) := Lib.hid (fun W v h ho => by have := impl_Rebase_c d (.slice at_ d.text.length ct) (.slice al d.list.length cl) (.slice as_ d.seen.length cs) (headRev d) v (keeping ((headText d).length + 1)) W hnm h.t h.l h.s ho; rw [codes_odd HD.out, HHR.out] at this; exact this)
  have HR9 : Hid (∀ W, DV w1 w1.heap.size W d (.slice at_ d.text.length ct) (.slice al d.list.length cl) (.slice as_ d.seen.length cs) vo (keeping (headText d).length) → Calls Tryz.prog 12 #[.agg #[.string d.name, .int .i64 d.from_, .slice at_ d.text.length ct, .slice al d.list.length cl, .slice as_ d.seen.length cs], .int .i64 7, .int .i64 2, .int .i64 (hr), vo] W (Out_Doc_i_i W (submit d 7 2 (hr) (keeping (headText d).length)).1 (submit d 7 2 (hr) (keeping (headText d).length)).2.1 4)) := Lib.hid (fun W h => by have := impl_Submit_c d (.slice at_ d.text.length ct) (.slice al d.list.length cl) (.slice as_ d.seen.length cs) 7 2 (headRev d) vo (keeping (headText d).length) W hnm h.t h.l h.s h.o; rw [codes_seq HD.out, HHR.out] at this; exact this)
  have HR10 : Hid (∀ W, DV w1 w1.heap.size W d (.slice at_ d.text.length ct) (.slice al d.list.length cl) (.slice as_ d.seen.length cs) vo (keeping (headText d).length) → Calls Tryz.prog 12 #[.agg #[.string d.name, .int .i64 d.from_, .slice at_ d.text.length ct, .slice al d.list.length cl, .slice as_ d.seen.length cs], .int .i64 9, .int .i64 1, .int .i64 (hr), vo] W (Out_Doc_i_i W (submit d 9 1 (hr) (keeping (headText d).length)).1 (submit d 9 1 (hr) (keeping (headText d).length)).2.1 1)) := Lib.hid (fun W h => by have := impl_Submit_c d (.slice at_ d.text.length ct) (.slice al d.list.length cl) (.slice as_ d.seen.length cs) 9 1 (headRev d) vo (keeping (headText d).length) W hnm h.t h.l h.s h.o; rw [codes_bad, HHR.out] at this; exact this)
  have HR11 : Hid (∀ W, DV w1 w1.heap.size W d (.slice at_ d.text.length ct) (.slice al d.list.length cl) (.slice as_ d.seen.length cs) vo (keeping (headText d).length) → Calls Tryz.prog 13 #[.agg #[.string d.name, .int .i64 d.from_, .slice at_ d.text.length ct, .slice al d.list.length cl, .slice as_ d.seen.length cs], .int .i64 (h1)] W (Out_EntryS_i W (fetch d (h1)).1 2)) := Lib.hid (fun W h => by have := impl_Fetch_c d (.slice at_ d.text.length ct) (.slice al d.list.length cl) (.slice as_ d.seen.length cs) (headRev d + 1) W hnm h.t h.l h.s; rw [codes_late HD.out, HHR.out, HH1.out] at this; exact this)
  have HM0 : Hid (missed d hr = 0) := Lib.hid (by rw [← HHR.out]; exact codes_m0 HD.out)
  have HM1 : Hid (missed d d.from_ = d.list.length) := Lib.hid (codes_m1 HD.out)
  have HM2 : Hid (missed d fm = -1) := Lib.hid (by rw [← HFM.out]; exact codes_m2 HD.out)
  have e3 : IntKind.i64.wrap (((headText d).length : Int) + 1) = ((headText d).length : Int) + 1 := IntWalk.i64_in _ (by omega)
  go_upto_region 6 with (fail)
  obtain ⟨w5, hw5⟩ : ∃ w5, w4.alloc (.cells #[.int .i64 0, .int .i64 0, .int .i64 0] 33) = w5 := ⟨_, rfl⟩
  obtain ⟨b5, hb5⟩ : ∃ b, w4.heap.size = b := ⟨_, rfl⟩
  rw [hw5, hb5] at HX5
  rw [hw5] at HDV4
  rw [hw5, hb5]
  clear hw5 hb5
  have HDV := HDV4
  clear HDV4
  obtain ⟨z3, k0, k1, k2, k3, k4⟩ := HDV.out.x3.o5
  obtain ⟨z5, j0, j1, j2⟩ := HX5.out.o3
  go_region_held3 (fun w' => w'.cell? ⟨w1.heap.size, 0, none⟩ = some (.string d.name) ∧ w'.cell? ⟨w1.heap.size, 1, none⟩ = some (.int .i64 d.from_) ∧ w'.cell? ⟨w1.heap.size, 2, none⟩ = some (.slice at_ d.text.length ct) ∧ w'.cell? ⟨w1.heap.size, 3, none⟩ = some (.slice al d.list.length cl) ∧ w'.cell? ⟨w1.heap.size, 4, none⟩ = some (.slice as_ d.seen.length cs) ∧ w'.cell? ⟨b5, 1, none⟩ = some (.int .i64 0)) (first | (go_keep; done) | (simp [cell_setCell, *]; done)) ((first | (go_at_call 11; refine (HRV.out _ (HDV.out.below (show Below w5.heap.size w5 _ from blw))).mono ?_; rintro e' y1 ⟨rfl, hb1⟩; have bl1 : Below w5.heap.size w5 y1 := (show Below w5.heap.size w5 _ from blw).trans (hb1.mono (by first | (simp; done) | (simp; omega) | omega)); have sz1 : w5.heap.size ≤ y1.heap.size := bl1.size; obtain ⟨z3, k0, k1, k2, k3, k4⟩ := (HDV.out.below bl1).x3.o5; obtain ⟨z5, j0, j1, j2⟩ := (HX5.out.at bl1).o3; clear hb1) | (go_at_call 10; refine (HR6.out _ (HDV.out.below (show Below w5.heap.size w5 _ from blw))).mono ?_; rintro e' y2 ⟨v6, f6, rfl, _, _, hb2⟩; have bl2 : Below w5.heap.size w5 y2 := (show Below w5.heap.size w5 _ from blw).trans (hb2.mono (by first | (simp; done) | (simp; omega) | omega)); have sz2 : w5.heap.size ≤ y2.heap.size := bl2.size; obtain ⟨z3, k0, k1, k2, k3, k4⟩ := (HDV.out.below bl2).x3.o5; obtain ⟨z5, j0, j1, j2⟩ := (HX5.out.at bl2).o3; clear hb2)))
  have HDV' := Lib.hid (HDV.out.below bl2)
  have HX5' := Lib.hid (HX5.out.at bl2)
  clear HDV HX5
  have HDV := HDV'
  have HX5 := HX5'
  clear HDV' HX5' bl1 bl2 sz1 sz2
  clear k0 k1 k2 k3 k4 z3 j0 j1 j2 z5
  obtain ⟨z3, k0, k1, k2, k3, k4⟩ := HDV.out.x3.o5
  obtain ⟨z5, j0, j1, j2⟩ := HX5.out.o3
  go_wp2_with fail
  refine (HR7.out _ (HDV.out.below blw)).mono ?_
  rintro e' w6 ⟨v7, f7, rfl, _, _, hb7⟩
  have HDV' := Lib.hid ((HDV.out.below blw).below hb7)
  have HX5' := Lib.hid ((HX5.out.at blw).at hb7)
  clear HDV HX5 hb7
  have HDV := HDV'
  have HX5 := HX5'
  clear HDV' HX5'
  clear k0 k1 k2 k3 k4 z3 j0 j1 j2 z5
  go_upto_region 8 with (fail)
  go_cut [11, 12] from 53 to 64 (fun _ z wx => z = .int .i64 1 ∧ Below w6.heap.size w6 wx)
  case first =>
    obtain ⟨z3, k0, k1, k2, k3, k4⟩ := HDV.out.x3.o5
    obtain ⟨z5, j0, j1, j2⟩ := HX5.out.o3
    go_region_held3 (fun w' => w'.cell? ⟨w1.heap.size, 0, none⟩ = some (.string d.name) ∧ w'.cell? ⟨w1.heap.size, 1, none⟩ = some (.int .i64 d.from_) ∧ w'.cell? ⟨w1.heap.size, 2, none⟩ = some (.slice at_ d.text.length ct) ∧ w'.cell? ⟨w1.heap.size, 3, none⟩ = some (.slice al d.list.length cl) ∧ w'.cell? ⟨w1.heap.size, 4, none⟩ = some (.slice as_ d.seen.length cs) ∧ w'.cell? ⟨b5, 1, none⟩ = some (.int .i64 0)) (first | (go_keep; done) | (simp [cell_setCell, *]; done)) ((first | (go_at_call 11; refine (HRV.out _ (HDV.out.below (show Below w6.heap.size w6 _ from blw))).mono ?_; rintro e' y1 ⟨rfl, hb1⟩; have bl1 : Below w6.heap.size w6 y1 := (show Below w6.heap.size w6 _ from blw).trans (hb1.mono (by first | (simp; done) | (simp; omega) | omega)); have sz1 : w6.heap.size ≤ y1.heap.size := bl1.size; obtain ⟨z3, k0, k1, k2, k3, k4⟩ := (HDV.out.below bl1).x3.o5; obtain ⟨z5, j0, j1, j2⟩ := (HX5.out.at bl1).o3; (try (have HK8 := Lib.hid (HK8.out.below hb1))); clear hb1) | (go_at_call 8; refine (impl_HeadText_c d (.slice at_ d.text.length ct) (.slice al d.list.length cl) (.slice as_ d.seen.length cs) _ hnm (HDV.out.below (show Below w6.heap.size w6 _ from blw)).t (HDV.out.below (show Below w6.heap.size w6 _ from blw)).l (HDV.out.below (show Below w6.heap.size w6 _ from blw)).s).mono ?_; rintro e' y2 ⟨v8, f8, rfl, s8, _, hb2⟩; have bl2 : Below w6.heap.size w6 y2 := (show Below w6.heap.size w6 _ from blw).trans (hb2.mono (by first | (simp; done) | (simp; omega) | omega)); have sz2 : w6.heap.size ≤ y2.heap.size := bl2.size; obtain ⟨z3, k0, k1, k2, k3, k4⟩ := (HDV.out.below bl2).x3.o5; obtain ⟨z5, j0, j1, j2⟩ := (HX5.out.at bl2).o3; obtain ⟨a8, c8, rfl⟩ := s8.isS; clear s8; clear hb2) | (go_at_call 7; refine (impl_Keeping_c ((headText d).length + 1) _).mono ?_; rintro e' y3 ⟨vk, fk, rfl, sk, _, hb3⟩; have bl3 : Below w6.heap.size w6 y3 := (show Below w6.heap.size w6 _ from blw).trans (hb3.mono (by first | (simp; done) | (simp; omega) | omega)); have sz3 : w6.heap.size ≤ y3.heap.size := bl3.size; obtain ⟨z3, k0, k1, k2, k3, k4⟩ := (HDV.out.below bl3).x3.o5; obtain ⟨z5, j0, j1, j2⟩ := (HX5.out.at bl3).o3; have HK8 : Hid (RdS y3 vk (keeping ((headText d).length + 1))) := Lib.hid ⟨_, sk⟩; clear sk; clear hb3) | (go_at_call 10; refine (HR8.out _ _ (HDV.out.below (show Below w6.heap.size w6 _ from blw)) (HK8.out.below blw)).mono ?_; rintro e' y4 ⟨v9, f9, rfl, _, _, hb4⟩; have bl4 : Below w6.heap.size w6 y4 := (show Below w6.heap.size w6 _ from blw).trans (hb4.mono (by first | (simp; done) | (simp; omega) | omega)); have sz4 : w6.heap.size ≤ y4.heap.size := bl4.size; obtain ⟨z3, k0, k1, k2, k3, k4⟩ := (HDV.out.below bl4).x3.o5; obtain ⟨z5, j0, j1, j2⟩ := (HX5.out.at bl4).o3; clear hb4)))
    all_goals
      go_wp2_with fail
      go_meet
      exact ⟨rfl, (show Below w6.heap.size w6 _ from blw)⟩
  case rest =>
    obtain ⟨rfl, hbl⟩ := hcut
    have HDV' := Lib.hid (HDV.out.below hbl)
    have HX5' := Lib.hid (HX5.out.at hbl)
    clear HDV HX5
    have HDV := HDV'
    have HX5 := HX5'
    clear HDV' HX5'
    obtain ⟨w8, hw8⟩ : ∃ w8, w8 = wc := ⟨_, rfl⟩
    subst hw8
    clear hbl
    go_upto_region 9 with (fail)
    go_cut [13, 14, 15] from 65 to 76 (fun _ _ z wx => z = .int .i64 4 ∧ Below w8.heap.size w8 wx)
    case first =>
      obtain ⟨z3, k0, k1, k2, k3, k4⟩ := HDV.out.x3.o5
      obtain ⟨z5, j0, j1, j2⟩ := HX5.out.o3
      have nw0 : ¬ (w1.heap.size = w8.heap.size) := by omega
      have nv0 : ¬ (b5 = w8.heap.size) := by omega
      go_region_held3 (fun w' => w'.cell? ⟨w1.heap.size, 0, none⟩ = some (.string d.name) ∧ w'.cell? ⟨w1.heap.size, 1, none⟩ = some (.int .i64 d.from_) ∧ w'.cell? ⟨w1.heap.size, 2, none⟩ = some (.slice at_ d.text.length ct) ∧ w'.cell? ⟨w1.heap.size, 3, none⟩ = some (.slice al d.list.length cl) ∧ w'.cell? ⟨w1.heap.size, 4, none⟩ = some (.slice as_ d.seen.length cs) ∧ w'.cell? ⟨b5, 1, none⟩ = some (.int .i64 0)) (first | (go_keep; done) | (simp [cell_setCell, *]; done)) ((first | (go_at_call 11; refine (HRV.out _ (HDV.out.below (show Below w8.heap.size w8 _ from blw))).mono ?_; rintro e' y1 ⟨rfl, hb1⟩; have bl1 : Below w8.heap.size w8 y1 := (show Below w8.heap.size w8 _ from blw).trans (hb1.mono (by first | (simp; done) | (simp; omega) | omega)); have sz1 : w8.heap.size ≤ y1.heap.size := bl1.size; obtain ⟨z3, k0, k1, k2, k3, k4⟩ := (HDV.out.below bl1).x3.o5; obtain ⟨z5, j0, j1, j2⟩ := (HX5.out.at bl1).o3; (try (have NB : Bx y1 w8.heap.size [.string ⟨#[]⟩, .int .i64 0, .slice none 0 0, .slice none 0 0, .slice none 0 0] := Bx.at (show Bx _ w8.heap.size [.string ⟨#[]⟩, .int .i64 0, .slice none 0 0, .slice none 0 0, .slice none 0 0] from (by first | exact HNA.out | exact (show Bx (w8.alloc (.cells #[.string ⟨#[]⟩, .int .i64 0, .slice none 0 0, .slice none 0 0, .slice none 0 0] 27)) w8.heap.size [.string ⟨#[]⟩, .int .i64 0, .slice none 0 0, .slice none 0 0, .slice none 0 0] from Bx.new rfl))) hb1; obtain ⟨nl1, n0, n1, n2, n3, n4, g0, g1, g2, g3, g4⟩ := NB.q5; have HNA := Lib.hid NB; clear NB)); (try (have nw1 : ¬ (w1.heap.size = w8.heap.size) := (by omega))); (try (have nv1 : ¬ (b5 = w8.heap.size) := (by omega))); clear hb1) | (go_at_call 12; refine (HR9.out _ (HDV.out.below (show Below w8.heap.size w8 _ from blw))).mono ?_; rintro e' y2 ⟨va, vb_, vc, fa, fb, fc, rfl, sa, sb, sc, _, _, hb2⟩; have bl2 : Below w8.heap.size w8 y2 := (show Below w8.heap.size w8 _ from blw).trans (hb2.mono (by first | (simp; done) | (simp; omega) | omega)); have sz2 : w8.heap.size ≤ y2.heap.size := bl2.size; obtain ⟨z3, k0, k1, k2, k3, k4⟩ := (HDV.out.below bl2).x3.o5; obtain ⟨z5, j0, j1, j2⟩ := (HX5.out.at bl2).o3; (try (have NB : Bx y2 w8.heap.size [.string ⟨#[]⟩, .int .i64 0, .slice none 0 0, .slice none 0 0, .slice none 0 0] := Bx.at (show Bx _ w8.heap.size [.string ⟨#[]⟩, .int .i64 0, .slice none 0 0, .slice none 0 0, .slice none 0 0] from (by first | exact HNA.out | exact (show Bx (w8.alloc (.cells #[.string ⟨#[]⟩, .int .i64 0, .slice none 0 0, .slice none 0 0, .slice none 0 0] 27)) w8.heap.size [.string ⟨#[]⟩, .int .i64 0, .slice none 0 0, .slice none 0 0, .slice none 0 0] from Bx.new rfl))) hb2; obtain ⟨nl2, n0, n1, n2, n3, n4, g0, g1, g2, g3, g4⟩ := NB.q5; have HNA := Lib.hid NB; clear NB)); (try (have nw2 : ¬ (w1.heap.size = w8.heap.size) := (by omega))); (try (have nv2 : ¬ (b5 = w8.heap.size) := (by omega))); (try (have NB : Bx y2 y1.heap.size [.string ⟨#[]⟩, .int .i64 0, .slice none 0 0, .slice none 0 0, .slice none 0 0] := Bx.at (show Bx _ y1.heap.size [.string ⟨#[]⟩, .int .i64 0, .slice none 0 0, .slice none 0 0, .slice none 0 0] from (by first | exact HNB.out | exact (show Bx (y1.alloc (.cells #[.string ⟨#[]⟩, .int .i64 0, .slice none 0 0, .slice none 0 0, .slice none 0 0] 27)) y1.heap.size [.string ⟨#[]⟩, .int .i64 0, .slice none 0 0, .slice none 0 0, .slice none 0 0] from Bx.new rfl))) hb2; obtain ⟨nl2, n0, n1, n2, n3, n4, g0, g1, g2, g3, g4⟩ := NB.q5; have HNB := Lib.hid NB; clear NB)); (try (have nw2 : ¬ (w1.heap.size = y1.heap.size) := (by omega))); (try (have nv2 : ¬ (b5 = y1.heap.size) := (by omega))); obtain ⟨aa, ca, rfl⟩ := sa.isS; obtain ⟨ab, cb, rfl⟩ := sb.isS; obtain ⟨ac, cc, rfl⟩ := sc.isS; clear sa sb sc; clear hb2)))
      all_goals
        go_wp2_with fail
        go_meet
        exact ⟨rfl, (show Below w8.heap.size w8 _ from blw)⟩
    case rest =>
      obtain ⟨rfl, hbl⟩ := hcut
      have HDV' := Lib.hid (HDV.out.below hbl)
      have HX5' := Lib.hid (HX5.out.at hbl)
      clear HDV HX5
      have HDV := HDV'
      have HX5 := HX5'
      clear HDV' HX5'
      obtain ⟨w9, hw9⟩ : ∃ w9, w9 = wc := ⟨_, rfl⟩
      subst hw9
      clear hbl
      go_upto_region 10 with (fail)
      go_cut [16, 17, 18] from 77 to 85 (fun _ _ z wx => z = .int .i64 1 ∧ Below w9.heap.size w9 wx)
      case first =>
        obtain ⟨z3, k0, k1, k2, k3, k4⟩ := HDV.out.x3.o5
        obtain ⟨z5, j0, j1, j2⟩ := HX5.out.o3
        have nw0 : ¬ (w1.heap.size = w9.heap.size) := by omega
        have nv0 : ¬ (b5 = w9.heap.size) := by omega
        go_region_held3 (fun w' => w'.cell? ⟨w1.heap.size, 0, none⟩ = some (.string d.name) ∧ w'.cell? ⟨w1.heap.size, 1, none⟩ = some (.int .i64 d.from_) ∧ w'.cell? ⟨w1.heap.size, 2, none⟩ = some (.slice at_ d.text.length ct) ∧ w'.cell? ⟨w1.heap.size, 3, none⟩ = some (.slice al d.list.length cl) ∧ w'.cell? ⟨w1.heap.size, 4, none⟩ = some (.slice as_ d.seen.length cs) ∧ w'.cell? ⟨b5, 1, none⟩ = some (.int .i64 0)) (first | (go_keep; done) | (simp [cell_setCell, *]; done)) ((first | (go_at_call 11; refine (HRV.out _ (HDV.out.below (show Below w9.heap.size w9 _ from blw))).mono ?_; rintro e' y1 ⟨rfl, hb1⟩; have bl1 : Below w9.heap.size w9 y1 := (show Below w9.heap.size w9 _ from blw).trans (hb1.mono (by first | (simp; done) | (simp; omega) | omega)); have sz1 : w9.heap.size ≤ y1.heap.size := bl1.size; obtain ⟨z3, k0, k1, k2, k3, k4⟩ := (HDV.out.below bl1).x3.o5; obtain ⟨z5, j0, j1, j2⟩ := (HX5.out.at bl1).o3; (try (have NB : Bx y1 w9.heap.size [.string ⟨#[]⟩, .int .i64 0, .slice none 0 0, .slice none 0 0, .slice none 0 0] := Bx.at (show Bx _ w9.heap.size [.string ⟨#[]⟩, .int .i64 0, .slice none 0 0, .slice none 0 0, .slice none 0 0] from (by first | exact HNA.out | exact (show Bx (w9.alloc (.cells #[.string ⟨#[]⟩, .int .i64 0, .slice none 0 0, .slice none 0 0, .slice none 0 0] 27)) w9.heap.size [.string ⟨#[]⟩, .int .i64 0, .slice none 0 0, .slice none 0 0, .slice none 0 0] from Bx.new rfl))) hb1; obtain ⟨nl1, n0, n1, n2, n3, n4, g0, g1, g2, g3, g4⟩ := NB.q5; have HNA := Lib.hid NB; clear NB)); (try (have nw1 : ¬ (w1.heap.size = w9.heap.size) := (by omega))); (try (have nv1 : ¬ (b5 = w9.heap.size) := (by omega))); clear hb1) | (go_at_call 12; refine (HR10.out _ (HDV.out.below (show Below w9.heap.size w9 _ from blw))).mono ?_; rintro e' y2 ⟨va, vb_, vc, fa, fb, fc, rfl, sa, sb, sc, _, _, hb2⟩; have bl2 : Below w9.heap.size w9 y2 := (show Below w9.heap.size w9 _ from blw).trans (hb2.mono (by first | (simp; done) | (simp; omega) | omega)); have sz2 : w9.heap.size ≤ y2.heap.size := bl2.size; obtain ⟨z3, k0, k1, k2, k3, k4⟩ := (HDV.out.below bl2).x3.o5; obtain ⟨z5, j0, j1, j2⟩ := (HX5.out.at bl2).o3; (try (have NB : Bx y2 w9.heap.size [.string ⟨#[]⟩, .int .i64 0, .slice none 0 0, .slice none 0 0, .slice none 0 0] := Bx.at (show Bx _ w9.heap.size [.string ⟨#[]⟩, .int .i64 0, .slice none 0 0, .slice none 0 0, .slice none 0 0] from (by first | exact HNA.out | exact (show Bx (w9.alloc (.cells #[.string ⟨#[]⟩, .int .i64 0, .slice none 0 0, .slice none 0 0, .slice none 0 0] 27)) w9.heap.size [.string ⟨#[]⟩, .int .i64 0, .slice none 0 0, .slice none 0 0, .slice none 0 0] from Bx.new rfl))) hb2; obtain ⟨nl2, n0, n1, n2, n3, n4, g0, g1, g2, g3, g4⟩ := NB.q5; have HNA := Lib.hid NB; clear NB)); (try (have nw2 : ¬ (w1.heap.size = w9.heap.size) := (by omega))); (try (have nv2 : ¬ (b5 = w9.heap.size) := (by omega))); (try (have NB : Bx y2 y1.heap.size [.string ⟨#[]⟩, .int .i64 0, .slice none 0 0, .slice none 0 0, .slice none 0 0] := Bx.at (show Bx _ y1.heap.size [.string ⟨#[]⟩, .int .i64 0, .slice none 0 0, .slice none 0 0, .slice none 0 0] from (by first | exact HNB.out | exact (show Bx (y1.alloc (.cells #[.string ⟨#[]⟩, .int .i64 0, .slice none 0 0, .slice none 0 0, .slice none 0 0] 27)) y1.heap.size [.string ⟨#[]⟩, .int .i64 0, .slice none 0 0, .slice none 0 0, .slice none 0 0] from Bx.new rfl))) hb2; obtain ⟨nl2, n0, n1, n2, n3, n4, g0, g1, g2, g3, g4⟩ := NB.q5; have HNB := Lib.hid NB; clear NB)); (try (have nw2 : ¬ (w1.heap.size = y1.heap.size) := (by omega))); (try (have nv2 : ¬ (b5 = y1.heap.size) := (by omega))); obtain ⟨aa, ca, rfl⟩ := sa.isS; obtain ⟨ab, cb, rfl⟩ := sb.isS; obtain ⟨ac, cc, rfl⟩ := sc.isS; clear sa sb sc; clear hb2)))
        all_goals
          go_wp2_with fail
          go_meet
          exact ⟨rfl, (show Below w9.heap.size w9 _ from blw)⟩
      case rest =>
        obtain ⟨rfl, hbl⟩ := hcut
        have HDV' := Lib.hid (HDV.out.below hbl)
        have HX5' := Lib.hid (HX5.out.at hbl)
        clear HDV HX5
        have HDV := HDV'
        have HX5 := HX5'
        clear HDV' HX5'
        obtain ⟨w10, hw10⟩ : ∃ w10, w10 = wc := ⟨_, rfl⟩
        subst hw10
        clear hbl
        go_upto_region 11 with (fail)
        obtain ⟨z3, k0, k1, k2, k3, k4⟩ := HDV.out.x3.o5
        obtain ⟨z5, j0, j1, j2⟩ := HX5.out.o3
        go_region_held3 (fun w' => w'.cell? ⟨w1.heap.size, 0, none⟩ = some (.string d.name) ∧ w'.cell? ⟨w1.heap.size, 1, none⟩ = some (.int .i64 d.from_) ∧ w'.cell? ⟨w1.heap.size, 2, none⟩ = some (.slice at_ d.text.length ct) ∧ w'.cell? ⟨w1.heap.size, 3, none⟩ = some (.slice al d.list.length cl) ∧ w'.cell? ⟨w1.heap.size, 4, none⟩ = some (.slice as_ d.seen.length cs) ∧ w'.cell? ⟨b5, 1, none⟩ = some (.int .i64 0)) (first | (go_keep; done) | (simp [cell_setCell, *]; done)) ((first | (go_at_call 11; refine (HRV.out _ (HDV.out.below (show Below w10.heap.size w10 _ from blw))).mono ?_; rintro e' y1 ⟨rfl, hb1⟩; have bl1 : Below w10.heap.size w10 y1 := (show Below w10.heap.size w10 _ from blw).trans (hb1.mono (by first | (simp; done) | (simp; omega) | omega)); have sz1 : w10.heap.size ≤ y1.heap.size := bl1.size; obtain ⟨z3, k0, k1, k2, k3, k4⟩ := (HDV.out.below bl1).x3.o5; obtain ⟨z5, j0, j1, j2⟩ := (HX5.out.at bl1).o3; clear hb1) | (go_at_call 13; refine (HR11.out _ (HDV.out.below (show Below w10.heap.size w10 _ from blw))).mono ?_; rintro e' y2 ⟨v11, f11, rfl, _, _, hb2⟩; have bl2 : Below w10.heap.size w10 y2 := (show Below w10.heap.size w10 _ from blw).trans (hb2.mono (by first | (simp; done) | (simp; omega) | omega)); have sz2 : w10.heap.size ≤ y2.heap.size := bl2.size; obtain ⟨z3, k0, k1, k2, k3, k4⟩ := (HDV.out.below bl2).x3.o5; obtain ⟨z5, j0, j1, j2⟩ := (HX5.out.at bl2).o3; clear hb2)))
        have HDV' := Lib.hid (HDV.out.below bl2)
        have HX5' := Lib.hid (HX5.out.at bl2)
        have HB12 : Hid (Below w1.heap.size w1 y2) := Lib.hid HDV'.out.be
        clear HDV HX5 bl1 bl2 sz1 sz2
        have HDV := HDV'
        have HX5 := HX5'
        clear HDV' HX5'
        clear k0 k1 k2 k3 k4 z3 j0 j1 j2 z5
        go_upto_region 12 with (fail)
        obtain ⟨w11, hw11⟩ : ∃ w11, w11 = y2 := ⟨_, rfl⟩
        rw [← hw11] at HDV HX5
        rw [← hw11]
        clear hw11
        obtain ⟨z3, k0, k1, k2, k3, k4⟩ := HDV.out.x3.o5
        obtain ⟨z5, j0, j1, j2⟩ := HX5.out.o3
        go_region_held3 (fun w' => w'.cell? ⟨w1.heap.size, 0, none⟩ = some (.string d.name) ∧ w'.cell? ⟨w1.heap.size, 1, none⟩ = some (.int .i64 d.from_) ∧ w'.cell? ⟨w1.heap.size, 2, none⟩ = some (.slice at_ d.text.length ct) ∧ w'.cell? ⟨w1.heap.size, 3, none⟩ = some (.slice al d.list.length cl) ∧ w'.cell? ⟨w1.heap.size, 4, none⟩ = some (.slice as_ d.seen.length cs) ∧ w'.cell? ⟨b5, 1, none⟩ = some (.int .i64 0)) (first | (go_keep; done) | (simp [cell_setCell, *]; done)) ((first | (go_at_call 11; refine (HRV.out _ (HDV.out.below (show Below w11.heap.size w11 _ from blw))).mono ?_; rintro e' y1 ⟨rfl, hb1⟩; have bl1 : Below w11.heap.size w11 y1 := (show Below w11.heap.size w11 _ from blw).trans (hb1.mono (by first | (simp; done) | (simp; omega) | omega)); have sz1 : w11.heap.size ≤ y1.heap.size := bl1.size; obtain ⟨z3, k0, k1, k2, k3, k4⟩ := (HDV.out.below bl1).x3.o5; obtain ⟨z5, j0, j1, j2⟩ := (HX5.out.at bl1).o3; clear hb1) | (go_at_call 14; refine (impl_Missed_c d (.slice at_ d.text.length ct) (.slice al d.list.length cl) (.slice as_ d.seen.length cs) _ _ hnm (HDV.out.below (show Below w11.heap.size w11 _ from blw)).t (HDV.out.below (show Below w11.heap.size w11 _ from blw)).l (HDV.out.below (show Below w11.heap.size w11 _ from blw)).s).mono ?_; rintro e' y2 ⟨rfl, hb2⟩; have bl2 : Below w11.heap.size w11 y2 := (show Below w11.heap.size w11 _ from blw).trans (hb2.mono (by first | (simp; done) | (simp; omega) | omega)); have sz2 : w11.heap.size ≤ y2.heap.size := bl2.size; obtain ⟨z3, k0, k1, k2, k3, k4⟩ := (HDV.out.below bl2).x3.o5; obtain ⟨z5, j0, j1, j2⟩ := (HX5.out.at bl2).o3; first | rw [HM0.out] | rw [HM1.out] | rw [HM2.out]; clear hb2)))
        go_wp2_with fail
        go_ret
        exact ⟨rfl, HB1.out.trans ((HDV.out.be.trans ((show Below w11.heap.size w11 _ from blw).mono HDV.out.be.size)).mono HB1.out.size)⟩
end Go.Proofs.YtfkaabpaolelgaaGreat
