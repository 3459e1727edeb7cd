/- MakeSubmit: some submission. -/
import Derived.Test.YtfkaabpaolelgaaGreatMdo
import Derived.Test.YtfkaabpaolelgaaGreatDw
import Derived.Deep.CutRange
namespace Go.Proofs.YtfkaabpaolelgaaGreat
open Go.RowKit
/-- a document's slices beside a cursor -/
def D3 (bc : Nat) (wr : World) (d : DDoc) (vt vl vs : Value) : Prop := ∃ f1 f2 f3, Sl BIG wr vt d.text f1 ∧ Sl BIG wr vl d.list f2 ∧ Sl BIG wr vs d.seen f3 ∧ ∀ p ∈ f1 ++ (f2 ++ f3), p.1 ≠ bc
section
variable {w0 wr w' : World} {bc : Nat} {vb vt vl vs : Value} {bs : List DByte} {d : DDoc}
theorem D3.t (h : D3 bc wr d vt vl vs) : RdS wr vt d.text := let ⟨f1, _, _, a, _⟩ := h; ⟨f1, a⟩
theorem D3.l (h : D3 bc wr d vt vl vs) : RdS wr vl d.list := let ⟨_, f2, _, _, a, _⟩ := h; ⟨f2, a⟩
theorem D3.s (h : D3 bc wr d vt vl vs) : RdS wr vs d.seen := let ⟨_, _, f3, _, _, a, _⟩ := h; ⟨f3, a⟩
theorem D3.below (h : D3 bc wr d vt vl vs) (hb : Below wr.heap.size wr w') : D3 bc w' d vt vl vs := let ⟨f1, f2, f3, a, b, c, e⟩ := h; ⟨f1, f2, f3, a.belowW hb, b.belowW hb, c.belowW hb, e⟩
theorem D3.wrt {fp : List Pos} (h : D3 bc wr d vt vl vs) (hw : Wr fp wr w') (hq : ∀ p ∈ fp, p.1 = bc) : D3 bc w' d vt vl vs := by
  obtain ⟨f1, f2, f3, a, b, c, e⟩ := h
  refine ⟨f1, f2, f3, a.wr hw fun p hp hm => e p (by simp [hp]) (hq p hm), b.wr hw fun p hp hm => e p (by simp [hp]) (hq p hm), c.wr hw fun p hp hm => e p (by simp [hp]) (hq p hm), e⟩
theorem D3.draw (h : D3 bc wr d vt vl vs) (hc : CuOut w0 bc vb bs wr w') : D3 bc w' d vt vl vs := h.wrt hc.2 fun p hp => by simp only [List.mem_cons, List.not_mem_nil, or_false] at hp; rcases hp with rfl | rfl <;> rfl
theorem D3.of {w : World} (ht : RdS w vt d.text) (hl : RdS w vl d.list) (hs : RdS w vs d.seen) (hbc : w.heap.size ≤ bc) : D3 bc w d vt vl vs := by
  obtain ⟨f1, a⟩ := ht
  obtain ⟨f2, b⟩ := hl
  obtain ⟨f3, c⟩ := hs
  refine ⟨f1, f2, f3, a, b, c, fun p hp => ?_⟩
  have : p.1 < w.heap.size := by
    rcases List.mem_append.1 hp with hp | hp
    · exact Live.lt a.live p hp
    · rcases List.mem_append.1 hp with hp | hp
      · exact Live.lt b.live p hp
      · exact Live.lt c.live p hp
  omega
end
set_option maxHeartbeats 4000000 in
set_option maxRecDepth 100000 in
theorem spec_l09Base_c (w0 : World) (bc : Nat) (vb : Value) (bs : List DByte) (d : DDoc) (vt vl vs : Value) (w : World) (hc : Cu w0 bc vb bs w) (hd : DrD d) (h3 : D3 bc w d vt vl vs) :
    Calls Tryz.prog 38 #[.pointer (some ⟨bc, 0, none⟩), .agg #[.string d.name, .int .i64 d.from_, vt, vl, vs]] w (fun e w' => ∃ x : Int, e = .returned (.int .i64 x) ∧ CuOut w0 bc vb bs w w') := by
  obtain ⟨at_, ct, rfl⟩ := h3.t.isSlice
  obtain ⟨al, cl, rfl⟩ := h3.l.isSlice
  obtain ⟨as_, cs, rfl⟩ := h3.s.isSlice
  have hdp := docOk_iff.1 hd.ok
  have df0 := hdp.f0
  have df1 := hdp.f1
  have dl8 := hdp.len
  have hnm := hd.name
  have hbl := hc.lt
  clear hdp
  have hwb : Below w.heap.size w (w.alloc (.cells #[.string d.name, .int .i64 d.from_, .slice at_ d.text.length ct, .slice al d.list.length cl, .slice as_ d.seen.length cs] 27)) := (Below.refl _ _).alloc (Nat.le_refl _) _
  have HX0 : Hid (Bx (w.alloc (.cells #[.string d.name, .int .i64 d.from_, .slice at_ d.text.length ct, .slice al d.list.length cl, .slice as_ d.seen.length cs] 27)) w.heap.size [.string d.name, .int .i64 d.from_, .slice at_ d.text.length ct, .slice al d.list.length cl, .slice as_ d.seen.length cs]) := Lib.hid (Bx.new rfl)
  have HC0 := Lib.hid (hc.below hwb)
  have HD0 := Lib.hid (h3.below hwb)
  have HNX : Hid (∀ p ∈ [(bc, 1), (bc, 2)], p.1 ≠ w.heap.size) := Lib.hid (fun p hp => by simp only [List.mem_cons, List.not_mem_nil, or_false] at hp; rcases hp with rfl | rfl <;> (simp only; omega))
  have HW0 : Hid (Wr [(bc, 1), (bc, 2)] w (w.alloc (.cells #[.string d.name, .int .i64 d.from_, .slice at_ d.text.length ct, .slice al d.list.length cl, .slice as_ d.seen.length cs] 27))) := Lib.hid (Wr.of_below hwb)
  clear hc h3 hwb hd
  go_enter Tryz.func38, Tryz.ntmps38
  go_upto_region 1 with (fail)
  obtain ⟨W, hW⟩ : ∃ W, w.alloc (.cells #[.string d.name, .int .i64 d.from_, .slice at_ d.text.length ct, .slice al d.list.length cl, .slice as_ d.seen.length cs] 27) = W := ⟨_, rfl⟩
  rw [hW] at HX0 HC0 HD0 HW0
  (try rw [hW])
  clear hW
  have l0 := HX0.out.lt
  go_wp2_with fail
  refine (spec_l01Once_c w0 bc vb bs 6 _ HC0.out).mono ?_
  rintro e' w1 ⟨b, rfl, hc1⟩
  have HX := HX0
  have HD3 := HD0
  have HCO := Lib.hid hc1
  have HCO'' : Hid (CuOut w0 bc vb bs W w1) := Lib.hid (hc1)
  clear HCO'' hc1
  obtain ⟨zx, k0, k1, k2, k3, k4⟩ := (HX.out.wr HCO.out.2 HNX.out).o5
  have e2 : IntKind.i64.wrap ((d.list.length : Int) + 1) = (d.list.length : Int) + 1 := IntWalk.i64_in _ (by omega)
  cases b
  · go_upto_region 3 with (fail)
    go_region_held3 (fun w' => w'.cell? ⟨w.heap.size, 0, none⟩ = some (.string d.name) ∧ w'.cell? ⟨w.heap.size, 1, none⟩ = some (.int .i64 d.from_) ∧ w'.cell? ⟨w.heap.size, 2, none⟩ = some (.slice at_ d.text.length ct) ∧ w'.cell? ⟨w.heap.size, 3, none⟩ = some (.slice al d.list.length cl) ∧ w'.cell? ⟨w.heap.size, 4, none⟩ = some (.slice as_ d.seen.length cs)) (first | (go_keep; done) | (simp [cell_setCell, *]; done)) ((first | (go_at_call 53; refine (spec_HeadRev_c d (.slice at_ d.text.length ct) (.slice al d.list.length cl) (.slice as_ d.seen.length cs) _ (HD3.out.draw (HCO.out.below_ blw)).l (by omega) (by omega)).mono ?_; rintro e' ya ⟨rfl, hba⟩; have HCO' : Hid (CuOut w0 bc vb bs W ya) := Lib.hid ((HCO.out.below_ blw).below_ hba); clear HCO; have HCO := HCO'; clear HCO'; obtain ⟨zx, k0, k1, k2, k3, k4⟩ := (HX.out.wr HCO.out.2 HNX.out).o5; clear hba) | (go_at_call 35; refine (spec_l01Below_c w0 bc vb bs ((d.list.length : Int) + 1) _ (HCO.out.below_ blw).1).mono ?_; rintro e' yb ⟨y, rfl, _, hcb⟩; have HCO' : Hid (CuOut w0 bc vb bs W yb) := Lib.hid ((HCO.out.below_ blw).trans hcb); clear HCO; have HCO := HCO'; clear HCO'; obtain ⟨zx, k0, k1, k2, k3, k4⟩ := (HX.out.wr HCO.out.2 HNX.out).o5; clear hcb)))
    all_goals
      go_wp2
      go_ret
      exact ⟨_, rfl, (HCO.out.below_ blw).1, HW0.out.trans (HCO.out.below_ blw).2⟩
  · go_upto_region 2 with (fail)
    go_region_held3 (fun w' => w'.cell? ⟨w.heap.size, 0, none⟩ = some (.string d.name) ∧ w'.cell? ⟨w.heap.size, 1, none⟩ = some (.int .i64 d.from_) ∧ w'.cell? ⟨w.heap.size, 2, none⟩ = some (.slice at_ d.text.length ct) ∧ w'.cell? ⟨w.heap.size, 3, none⟩ = some (.slice al d.list.length cl) ∧ w'.cell? ⟨w.heap.size, 4, none⟩ = some (.slice as_ d.seen.length cs)) (first | (go_keep; done) | (simp [cell_setCell, *]; done)) ((first | (go_at_call 53; refine (spec_HeadRev_c d (.slice at_ d.text.length ct) (.slice al d.list.length cl) (.slice as_ d.seen.length cs) _ (HD3.out.draw (HCO.out.below_ blw)).l (by omega) (by omega)).mono ?_; rintro e' ya ⟨rfl, hba⟩; have HCO' : Hid (CuOut w0 bc vb bs W ya) := Lib.hid ((HCO.out.below_ blw).below_ hba); clear HCO; have HCO := HCO'; clear HCO'; obtain ⟨zx, k0, k1, k2, k3, k4⟩ := (HX.out.wr HCO.out.2 HNX.out).o5; clear hba) | (go_at_call 67; refine (spec_l01Near_c w0 bc vb bs d.from_ (headRev d) _ (HCO.out.below_ blw).1).mono ?_; rintro e' yb ⟨y, rfl, hcb⟩; have HCO' : Hid (CuOut w0 bc vb bs W yb) := Lib.hid ((HCO.out.below_ blw).trans hcb); clear HCO; have HCO := HCO'; clear HCO'; obtain ⟨zx, k0, k1, k2, k3, k4⟩ := (HX.out.wr HCO.out.2 HNX.out).o5; clear hcb)))
    all_goals
      go_wp2
      go_ret
      exact ⟨_, rfl, (HCO.out.below_ blw).1, HW0.out.trans (HCO.out.below_ blw).2⟩
set_option maxHeartbeats 4000000 in
set_option maxRecDepth 100000 in
theorem spec_l09Op_c (w0 : World) (bc : Nat) (vb : Value) (bs : List DByte) (d : DDoc) (vt vl vs : Value) (base : Int) (w : World) (hc : Cu w0 bc vb bs w) (hd : DrD d) (h3 : D3 bc w d vt vl vs) :
    Calls Tryz.prog 39 #[.pointer (some ⟨bc, 0, none⟩), .agg #[.string d.name, .int .i64 d.from_, vt, vl, vs], .int .i64 base] w (fun e w' => ∃ (v : Value) (o : List DPart), e = .returned v ∧ RdS w' v o ∧ CuOut w0 bc vb bs w w') := by
  obtain ⟨at_, ct, rfl⟩ := h3.t.isSlice
  obtain ⟨al, cl, rfl⟩ := h3.l.isSlice
  obtain ⟨as_, cs, rfl⟩ := h3.s.isSlice
  have hdp := docOk_iff.1 hd.ok
  have df0 := hdp.f0
  have df1 := hdp.f1
  have dl8 := hdp.len
  have hnm := hd.name
  have hbl := hc.lt
  clear hdp
  have hwb : Below w.heap.size w (w.alloc (.cells #[.string d.name, .int .i64 d.from_, .slice at_ d.text.length ct, .slice al d.list.length cl, .slice as_ d.seen.length cs] 27)) := (Below.refl _ _).alloc (Nat.le_refl _) _
  have HX0 : Hid (Bx (w.alloc (.cells #[.string d.name, .int .i64 d.from_, .slice at_ d.text.length ct, .slice al d.list.length cl, .slice as_ d.seen.length cs] 27)) w.heap.size [.string d.name, .int .i64 d.from_, .slice at_ d.text.length ct, .slice al d.list.length cl, .slice as_ d.seen.length cs]) := Lib.hid (Bx.new rfl)
  have HC0 := Lib.hid (hc.below hwb)
  have HD0 := Lib.hid (h3.below hwb)
  have HNX : Hid (∀ p ∈ [(bc, 1), (bc, 2)], p.1 ≠ w.heap.size) := Lib.hid (fun p hp => by simp only [List.mem_cons, List.not_mem_nil, or_false] at hp; rcases hp with rfl | rfl <;> (simp only; omega))
  have HW0 : Hid (Wr [(bc, 1), (bc, 2)] w (w.alloc (.cells #[.string d.name, .int .i64 d.from_, .slice at_ d.text.length ct, .slice al d.list.length cl, .slice as_ d.seen.length cs] 27))) := Lib.hid (Wr.of_below hwb)
  clear hc h3 hwb hd
  go_enter Tryz.func39, Tryz.ntmps39
  go_upto_region 1 with (fail)
  obtain ⟨W, hW⟩ : ∃ W, w.alloc (.cells #[.string d.name, .int .i64 d.from_, .slice at_ d.text.length ct, .slice al d.list.length cl, .slice as_ d.seen.length cs] 27) = W := ⟨_, rfl⟩
  rw [hW] at HX0 HC0 HD0 HW0
  (try rw [hW])
  clear hW
  obtain ⟨zx, k0, k1, k2, k3, k4⟩ := HX0.out.o5
  go_wp2_with fail
  refine (spec_TextAt_c d (.slice at_ d.text.length ct) (.slice al d.list.length cl) (.slice as_ d.seen.length cs) base _ hnm HD0.out.t HD0.out.l HD0.out.s).mono ?_
  rintro e' w1 ⟨v1, f1, rfl, s1, _, hb1⟩
  obtain ⟨a1, c1, rfl⟩ := s1.isS
  have hn200 := textAt_len d base
  obtain ⟨n, hnl⟩ : ∃ n, (textAt d base).1.length = n := ⟨_, rfl⟩
  rw [hnl] at hn200
  rw [hnl]
  have HCO : Hid (CuOut w0 bc vb bs W w1) := Lib.hid ⟨HC0.out.below hb1, Wr.of_below hb1⟩
  clear hb1 s1 hnl k0 k1 k2 k3 k4 zx HD0 HX0
  cases htk : (textAt d base).2
  · go_wp2_with fail
    refine (spec_l02Any_c w0 bc vb bs _ HCO.out.1).mono ?_
    rintro e' w3 ⟨v, o, rfl, hr, hc3⟩
    have HR := Lib.hid hr
    obtain ⟨av, cv, rfl⟩ := hr.isSlice
    have HC3 := Lib.hid (HCO.out.trans hc3)
    clear hr hc3
    go_wp2
    go_ret
    exact ⟨_, _, rfl, HR.out, HC3.out.1, HW0.out.trans HC3.out.2⟩
  · go_wp2_with fail
    refine (spec_l01Once_c w0 bc vb bs 10 _ HCO.out.1).mono ?_
    rintro e' w2 ⟨b, rfl, hc2⟩
    have HC2 := Lib.hid (HCO.out.trans hc2)
    clear hc2 HCO
    cases b
    · go_wp2_with fail
      refine (spec_l02Draw_c w0 bc vb bs n _ HC2.out.1 (by omega)).mono ?_
      rintro e' w3 ⟨v, o, rfl, hr, hc3⟩
      have HR := Lib.hid hr.rd
      obtain ⟨av, cv, rfl⟩ := hr.rd.isSlice
      have HC3 := Lib.hid (HC2.out.trans hc3)
      clear hr hc3
      go_wp2
      go_ret
      exact ⟨_, _, rfl, HR.out, HC3.out.1, HW0.out.trans HC3.out.2⟩
    · go_wp2_with fail
      refine (spec_l02Any_c w0 bc vb bs _ HC2.out.1).mono ?_
      rintro e' w3 ⟨v, o, rfl, hr, hc3⟩
      have HR := Lib.hid hr
      obtain ⟨av, cv, rfl⟩ := hr.isSlice
      have HC3 := Lib.hid (HC2.out.trans hc3)
      clear hr hc3
      go_wp2
      go_ret
      exact ⟨_, _, rfl, HR.out, HC3.out.1, HW0.out.trans HC3.out.2⟩
set_option maxHeartbeats 4000000 in
set_option maxRecDepth 100000 in
theorem spec_MakeSubmit_c (vb : Value) (bs : List DByte) (d : DDoc) (vt vl vs : Value) (w : World) (hb : RdS w vb bs) (hd : DrD d) (ht : RdS w vt d.text) (hl : RdS w vl d.list) (hs : RdS w vs d.seen) :
    Calls Tryz.prog 15 #[vb, .agg #[.string d.name, .int .i64 d.from_, vt, vl, vs]] w (fun e w' => ∃ (client seq base : Int) (v : Value) (o : List DPart), e = .returned (.tuple #[.int .i64 client, .int .i64 seq, .int .i64 base, v]) ∧ RdS w' v o ∧ Below w.heap.size w w') := by
  obtain ⟨at_, ct, rfl⟩ := ht.isSlice
  obtain ⟨al, cl, rfl⟩ := hl.isSlice
  obtain ⟨as_, cs, rfl⟩ := hs.isSlice
  have hwb : Below w.heap.size w (w.alloc (.cells #[.string d.name, .int .i64 d.from_, .slice at_ d.text.length ct, .slice al d.list.length cl, .slice as_ d.seen.length cs] 27)) := (Below.refl _ _).alloc (Nat.le_refl _) _
  have HX0 : Hid (Bx (w.alloc (.cells #[.string d.name, .int .i64 d.from_, .slice at_ d.text.length ct, .slice al d.list.length cl, .slice as_ d.seen.length cs] 27)) w.heap.size [.string d.name, .int .i64 d.from_, .slice at_ d.text.length ct, .slice al d.list.length cl, .slice as_ d.seen.length cs]) := Lib.hid (Bx.new rfl)
  have HB := Lib.hid (hb.below hwb)
  have HT := Lib.hid (ht.below hwb)
  have HL := Lib.hid (hl.below hwb)
  have HS := Lib.hid (hs.below hwb)
  have HD := Lib.hid hd
  have HWB := Lib.hid hwb
  clear hb ht hl hs hd hwb
  go_enter Tryz.func15, Tryz.ntmps15
  go_upto_region 1 with (fail)
  obtain ⟨W, hW⟩ : ∃ W, w.alloc (.cells #[.string d.name, .int .i64 d.from_, .slice at_ d.text.length ct, .slice al d.list.length cl, .slice as_ d.seen.length cs] 27) = W := ⟨_, rfl⟩
  rw [hW] at HX0 HB HT HL HS HWB
  (try rw [hW])
  clear hW
  go_wp2_with fail
  refine (spec_l01New_c vb bs W HB.out).mono ?_
  rintro e' w1 ⟨bc, rfl, hc, hb1⟩
  obtain ⟨i, h, hx, hi⟩ := hc.bx
  obtain ⟨zl, c0, c1, c2, g0, g1, g2⟩ := hx.q3
  have hbcW := hc.o
  have HD1 := Lib.hid (D3.of (bc := bc) HT.out HL.out HS.out hc.o |>.below hb1)
  have HX1 := Lib.hid (HX0.out.at hb1)
  have HXC := Lib.hid hx
  have HC := Lib.hid hc
  have HI := Lib.hid hi
  have lW := HX0.out.lt
  have HNX : Hid (∀ p ∈ [(bc, 1), (bc, 2)], p.1 ≠ w.heap.size) := Lib.hid (fun p hp => by simp only [List.mem_cons, List.not_mem_nil, or_false] at hp; rcases hp with rfl | rfl <;> (simp only; omega))
  clear hx hc hi hb1 HT HL HS HX0 HB
  go_upto_region 3 with (fail)
  obtain ⟨h1, hh1⟩ : ∃ h1, wrap64 (h + 7) = h1 := ⟨_, rfl⟩
  rw [hh1]
  clear hh1
  have hw7 : Wr [(bc, 1), (bc, 2)] w1 (w1.setCell ⟨bc, 2, none⟩ (.int .i64 h1)) := (Wr.refl _ _).put (b := bc) (o := 2) (by simp) _
  have HC2 : Hid (Cu W bc vb bs (w1.setCell ⟨bc, 2, none⟩ (.int .i64 h1))) := Lib.hid (HC.out.step hw7 (i := i) (n := h1) (HXC.out.set 2 (.int .i64 h1)) HI.out)
  have HD2 := Lib.hid (HD1.out.draw (w0 := W) (vb := vb) (bs := bs) ⟨HC2.out, hw7⟩)
  have HX2 := Lib.hid (HX1.out.wr hw7 HNX.out)
  obtain ⟨W2, hW2⟩ : ∃ W2, w1.setCell ⟨bc, 2, none⟩ (.int .i64 h1) = W2 := ⟨_, rfl⟩
  rw [hW2] at HC2 HD2 HX2
  (try rw [hW2])
  clear hW2 hw7 c0 c1 c2 g0 g1 g2 zl HC HXC HI HD1 HX1
  go_wp2_with fail
  refine (spec_l01Below_c W bc vb bs 4 _ HC2.out).mono ?_
  rintro e' w3 ⟨x, rfl, hx, hc3⟩
  obtain ⟨x0, x1⟩ := hx.1 (by decide)
  have e1 : IntKind.i64.wrap (1 + x) = 1 + x := IntWalk.i64_in _ (by omega)
  have HC3 := Lib.hid hc3.1
  have HD3' := Lib.hid (HD2.out.draw hc3)
  have HX3 := Lib.hid (HX2.out.wr hc3.2 HNX.out)
  clear hx hc3 HC2 HD2 HX2
  obtain ⟨zx, k0, k1, k2, k3, k4⟩ := HX3.out.o5
  go_wp2_with fail
  refine (spec_SeenOf_c d (.slice at_ d.text.length ct) (.slice al d.list.length cl) (.slice as_ d.seen.length cs) (1 + x) _ HD3'.out.s).mono ?_
  rintro e' w4 ⟨rfl, hb4⟩
  obtain ⟨q, hq'⟩ : ∃ q, (seenOf d (1 + x)).1 = q := ⟨_, rfl⟩
  rw [hq']
  obtain ⟨s1, hs1⟩ : ∃ s1, IntKind.i64.wrap (q.seq + 1) = s1 := ⟨_, rfl⟩
  have hbA : Below w4.heap.size w4 (w4.alloc (.cells #[.int .i64 q.client, .int .i64 q.seq, .int .i64 q.rev] 33)) := (Below.refl _ _).alloc (Nat.le_refl _) _
  have HC4 := Lib.hid ((HC3.out.below hb4).below hbA)
  have HD4 := Lib.hid ((HD3'.out.below hb4).below hbA)
  have HX4 := Lib.hid ((HX3.out.at hb4).at hbA)
  clear hq' hb4 hbA HC3 HD3' HX3 k0 k1 k2 k3 k4 zx
  go_upto_region 6 with (fail)
  obtain ⟨W5, hW5⟩ : ∃ W5, w4.alloc (.cells #[.int .i64 q.client, .int .i64 q.seq, .int .i64 q.rev] 33) = W5 := ⟨_, rfl⟩
  rw [hW5] at HC4 HD4 HX4
  (try rw [hW5])
  clear hW5 hs1
  go_wp2_with fail
  refine (spec_l01Once_c W bc vb bs 6 _ HC4.out).mono ?_
  rintro e' w6 ⟨b, rfl, hc6⟩
  have HC6 := Lib.hid hc6.1
  have HD6 := Lib.hid (HD4.out.draw hc6)
  have HX6 := Lib.hid (HX4.out.wr hc6.2 HNX.out)
  clear hc6 HC4 HD4 HX4
  go_upto_if 37 with (fail)
  go_cut [12] from 36 to 40 (fun z wx => ∃ s : Int, z = .int .i64 s ∧ CuOut W bc vb bs w6 wx)
  case first =>
    cases b
    · go_wp2_with fail
      go_meet
      exact ⟨_, rfl, HC6.out, Wr.refl _ _⟩
    · go_wp2_with fail
      refine (spec_l01Below_c W bc vb bs 3 _ HC6.out).mono ?_
      rintro e' w7 ⟨y, rfl, _, hc7⟩
      have HC7 := Lib.hid hc7
      clear hc7
      go_wp2_with fail
      go_meet
      exact ⟨_, rfl, HC7.out⟩
  case rest =>
    obtain ⟨sq, rfl, hco⟩ := hcut
    have HC7 := Lib.hid hco.1
    have HD7 := Lib.hid (HD6.out.draw hco)
    have HX7 := Lib.hid (HX6.out.wr hco.2 HNX.out)
    clear hco HC6 HD6 HX6
    obtain ⟨w7, hw7⟩ : ∃ w7, w7 = wc := ⟨_, rfl⟩
    subst hw7
    obtain ⟨zx, k0, k1, k2, k3, k4⟩ := HX7.out.o5
    go_wp2_with fail
    refine (spec_l09Base_c W bc vb bs d (.slice at_ d.text.length ct) (.slice al d.list.length cl) (.slice as_ d.seen.length cs) _ HC7.out HD.out HD7.out).mono ?_
    rintro e' w8 ⟨base, rfl, hc8⟩
    have HC8 := Lib.hid hc8.1
    have HD8 := Lib.hid (HD7.out.draw hc8)
    have HX8 := Lib.hid (HX7.out.wr hc8.2 HNX.out)
    clear hc8 HC7 HD7 HX7 k0 k1 k2 k3 k4 zx
    obtain ⟨zx, k0, k1, k2, k3, k4⟩ := HX8.out.o5
    go_wp2_with fail
    refine (spec_l09Op_c W bc vb bs d (.slice at_ d.text.length ct) (.slice al d.list.length cl) (.slice as_ d.seen.length cs) base _ HC8.out HD.out HD8.out).mono ?_
    rintro e' w9 ⟨v, o, rfl, hr, hc9⟩
    have HR := Lib.hid hr
    obtain ⟨av, cv, rfl⟩ := hr.isSlice
    have HB9 := Lib.hid (HWB.out.trans (hc9.1.bel.mono HWB.out.size))
    clear hr hc9 HC8 HD8 HX8
    go_wp2
    exact bodyPost_ret (v := .tuple #[.int .i64 (1 + x), .int .i64 sq, .int .i64 base, .slice av o.length cv]) (by simp [results, Tryz.results15, go_sem, *]) rfl ⟨_, _, _, _, _, rfl, HR.out, HB9.out⟩
end Go.Proofs.YtfkaabpaolelgaaGreat
