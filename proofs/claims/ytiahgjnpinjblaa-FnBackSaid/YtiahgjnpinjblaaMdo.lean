/- l08Draw and MakeDoc: some document as DrD says. -/
import Derived.Test.YtiahgjnpinjblaaDm
import Derived.Test.YtiahgjnpinjblaaSus
import Derived.Test.YtiahgjnpinjblaaDw
import Derived.Test.YtiahgjnpinjblaaDfn
import Derived.Test.YtiahgjnpinjblaaDfo
import Derived.Test.YtiahgjnpinjblaaSeen
import Derived.Deep.CutRange
import Derived.Deep.RegionHeld3
namespace Go.Proofs.Ytiahgjnpinjblaa
open Go.RowKit
theorem CuOut.below_ {w0 a b c : World} {bc : Nat} {vb : Value} {bs : List DByte} (h : CuOut w0 bc vb bs a b) (k : Below b.heap.size b c) : CuOut w0 bc vb bs a c := ⟨h.1.below k, h.2.trans (Wr.of_below k)⟩
section
variable {w0 w a w' : World} {bc B : Nat} {vb ut ul us : Value} {bs : List DByte} {x : DDoc} {f1 f2 f3 : List Pos}
/-- a document's five cells laid into a block -/
theorem fin5 {C : Nat} (s1 : Sl BIG w ut x.text f1) (s2 : Sl BIG w ul x.list f2) (s3 : Sl BIG w us x.seen f3) (hn : ∀ p ∈ f1 ++ (f2 ++ f3), B < p.1) (hC : C ≤ B) (hb : Below C a w) :
    ∃ f1 f2 f3, Sl BIG (((((w.setCell ⟨B, 0, none⟩ (.string x.name)).setCell ⟨B, 1, none⟩ (.int .i64 x.from_)).setCell ⟨B, 2, none⟩ ut).setCell ⟨B, 3, none⟩ ul).setCell ⟨B, 4, none⟩ us) ut x.text f1 ∧ Sl BIG (((((w.setCell ⟨B, 0, none⟩ (.string x.name)).setCell ⟨B, 1, none⟩ (.int .i64 x.from_)).setCell ⟨B, 2, none⟩ ut).setCell ⟨B, 3, none⟩ ul).setCell ⟨B, 4, none⟩ us) ul x.list f2 ∧ Sl BIG (((((w.setCell ⟨B, 0, none⟩ (.string x.name)).setCell ⟨B, 1, none⟩ (.int .i64 x.from_)).setCell ⟨B, 2, none⟩ ut).setCell ⟨B, 3, none⟩ ul).setCell ⟨B, 4, none⟩ us) us x.seen f3 ∧ (∀ p ∈ f1 ++ (f2 ++ f3), B ≤ p.1) ∧ Below C a (((((w.setCell ⟨B, 0, none⟩ (.string x.name)).setCell ⟨B, 1, none⟩ (.int .i64 x.from_)).setCell ⟨B, 2, none⟩ ut).setCell ⟨B, 3, none⟩ ul).setCell ⟨B, 4, none⟩ us) := by
  have hw : Wr [(B, 0), (B, 1), (B, 2), (B, 3), (B, 4)] w (((((w.setCell ⟨B, 0, none⟩ (.string x.name)).setCell ⟨B, 1, none⟩ (.int .i64 x.from_)).setCell ⟨B, 2, none⟩ ut).setCell ⟨B, 3, none⟩ ul).setCell ⟨B, 4, none⟩ us) :=
    (((((Wr.refl _ w).put (b := B) (o := 0) (by simp) _).put (b := B) (o := 1) (by simp) _).put (b := B) (o := 2) (by simp) _).put (b := B) (o := 3) (by simp) _).put (b := B) (o := 4) (by simp) _
  have hq : ∀ p ∈ [(B, 0), (B, 1), (B, 2), (B, 3), (B, 4)], p.1 = B := fun p hp => by simp only [List.mem_cons, List.not_mem_nil, or_false] at hp; rcases hp with rfl | rfl | rfl | rfl | rfl <;> rfl
  refine ⟨f1, f2, f3, s1.wr hw fun p hp hm => ?_, s2.wr hw fun p hp hm => ?_, s3.wr hw fun p hp hm => ?_, fun p hp => Nat.le_of_lt (hn p hp), ((((hb.setCell (p := ⟨B, 0, none⟩) hC _).setCell (p := ⟨B, 1, none⟩) hC _).setCell (p := ⟨B, 2, none⟩) hC _).setCell (p := ⟨B, 3, none⟩) hC _).setCell (p := ⟨B, 4, none⟩) hC _⟩
  · have := hn p (by simp [hp]); have := hq p hm; omega
  · have := hn p (by simp [hp]); have := hq p hm; omega
  · have := hn p (by simp [hp]); have := hq p hm; omega
theorem DW.fin {wr : World} {b7 : Nat} (h : DW w0 bc vb bs w wr b7 x ut ul us) : ∃ f1 f2 f3, Sl BIG (((((wr.setCell ⟨w.heap.size, 0, none⟩ (.string x.name)).setCell ⟨w.heap.size, 1, none⟩ (.int .i64 x.from_)).setCell ⟨w.heap.size, 2, none⟩ ut).setCell ⟨w.heap.size, 3, none⟩ ul).setCell ⟨w.heap.size, 4, none⟩ us) ut x.text f1 ∧ Sl BIG (((((wr.setCell ⟨w.heap.size, 0, none⟩ (.string x.name)).setCell ⟨w.heap.size, 1, none⟩ (.int .i64 x.from_)).setCell ⟨w.heap.size, 2, none⟩ ut).setCell ⟨w.heap.size, 3, none⟩ ul).setCell ⟨w.heap.size, 4, none⟩ us) ul x.list f2 ∧ Sl BIG (((((wr.setCell ⟨w.heap.size, 0, none⟩ (.string x.name)).setCell ⟨w.heap.size, 1, none⟩ (.int .i64 x.from_)).setCell ⟨w.heap.size, 2, none⟩ ut).setCell ⟨w.heap.size, 3, none⟩ ul).setCell ⟨w.heap.size, 4, none⟩ us) us x.seen f3 ∧ (∀ p ∈ f1 ++ (f2 ++ f3), w0.heap.size ≤ p.1) ∧ Below w0.heap.size w0 (((((wr.setCell ⟨w.heap.size, 0, none⟩ (.string x.name)).setCell ⟨w.heap.size, 1, none⟩ (.int .i64 x.from_)).setCell ⟨w.heap.size, 2, none⟩ ut).setCell ⟨w.heap.size, 3, none⟩ ul).setCell ⟨w.heap.size, 4, none⟩ us) := by
  obtain ⟨f1, f2, f3, a1, a2, a3, a4⟩ := h.rd
  have lo := h.cu.1.o
  have lc := h.lc
  obtain ⟨g1, g2, g3, b1, b2, b3, b4, b5⟩ := fin5 (B := w.heap.size) a1 a2 a3 (fun p hp => (a4 p hp).1) (by omega) h.cu.1.bel
  exact ⟨g1, g2, g3, b1, b2, b3, fun p hp => by have := b4 p hp; omega, b5⟩
/-- behind Submit: its block is made last -/
theorem sub_new {T : TypeId} (hc : CuOut w0 bc vb bs a w) (s1 : Sl BIG w ut x.text f1) (s2 : Sl BIG w ul x.list f2) (s3 : Sl BIG w us x.seen f3) (hp : ∀ p ∈ f1 ++ (f2 ++ f3), a.heap.size ≤ p.1) :
    CuOut w0 bc vb bs a (w.alloc (.cells #[.string x.name, .int .i64 x.from_, ut, ul, us] T)) ∧ Bx (w.alloc (.cells #[.string x.name, .int .i64 x.from_, ut, ul, us] T)) w.heap.size [.string x.name, .int .i64 x.from_, ut, ul, us] ∧ Sl BIG (w.alloc (.cells #[.string x.name, .int .i64 x.from_, ut, ul, us] T)) ut x.text f1 ∧ Sl BIG (w.alloc (.cells #[.string x.name, .int .i64 x.from_, ut, ul, us] T)) ul x.list f2 ∧ Sl BIG (w.alloc (.cells #[.string x.name, .int .i64 x.from_, ut, ul, us] T)) us x.seen f3 ∧ (∀ p ∈ f1 ++ (f2 ++ f3), a.heap.size ≤ p.1) :=
  have k : ∀ o, Below w.heap.size w (w.alloc o) := fun o => (Below.refl _ _).alloc (Nat.le_refl _) o
  ⟨hc.below_ (k _), Bx.new rfl, s1.belowW (k _), s2.belowW (k _), s3.belowW (k _), hp⟩
/-- behind Submit: its block was made before -/
theorem sub_set {z0 z1 z2 z3 z4 : Value} (hc : CuOut w0 bc vb bs a w) (hB : Bx w B [z0, z1, z2, z3, z4]) (hC : a.heap.size ≤ B) (hbc : bc < a.heap.size) (s1 : Sl BIG w ut x.text f1) (s2 : Sl BIG w ul x.list f2) (s3 : Sl BIG w us x.seen f3) (hn : ∀ p ∈ f1 ++ (f2 ++ f3), B < p.1) :
    CuOut w0 bc vb bs a (((((w.setCell ⟨B, 0, none⟩ (.string x.name)).setCell ⟨B, 1, none⟩ (.int .i64 x.from_)).setCell ⟨B, 2, none⟩ ut).setCell ⟨B, 3, none⟩ ul).setCell ⟨B, 4, none⟩ us) ∧ Bx (((((w.setCell ⟨B, 0, none⟩ (.string x.name)).setCell ⟨B, 1, none⟩ (.int .i64 x.from_)).setCell ⟨B, 2, none⟩ ut).setCell ⟨B, 3, none⟩ ul).setCell ⟨B, 4, none⟩ us) B [.string x.name, .int .i64 x.from_, ut, ul, us] ∧ Sl BIG (((((w.setCell ⟨B, 0, none⟩ (.string x.name)).setCell ⟨B, 1, none⟩ (.int .i64 x.from_)).setCell ⟨B, 2, none⟩ ut).setCell ⟨B, 3, none⟩ ul).setCell ⟨B, 4, none⟩ us) ut x.text f1 ∧ Sl BIG (((((w.setCell ⟨B, 0, none⟩ (.string x.name)).setCell ⟨B, 1, none⟩ (.int .i64 x.from_)).setCell ⟨B, 2, none⟩ ut).setCell ⟨B, 3, none⟩ ul).setCell ⟨B, 4, none⟩ us) ul x.list f2 ∧ Sl BIG (((((w.setCell ⟨B, 0, none⟩ (.string x.name)).setCell ⟨B, 1, none⟩ (.int .i64 x.from_)).setCell ⟨B, 2, none⟩ ut).setCell ⟨B, 3, none⟩ ul).setCell ⟨B, 4, none⟩ us) us x.seen f3 ∧ (∀ p ∈ f1 ++ (f2 ++ f3), a.heap.size ≤ p.1) := by
  have hw : Wr [(B, 0), (B, 1), (B, 2), (B, 3), (B, 4)] w (((((w.setCell ⟨B, 0, none⟩ (.string x.name)).setCell ⟨B, 1, none⟩ (.int .i64 x.from_)).setCell ⟨B, 2, none⟩ ut).setCell ⟨B, 3, none⟩ ul).setCell ⟨B, 4, none⟩ us) :=
    (((((Wr.refl _ w).put (b := B) (o := 0) (by simp) _).put (b := B) (o := 1) (by simp) _).put (b := B) (o := 2) (by simp) _).put (b := B) (o := 3) (by simp) _).put (b := B) (o := 4) (by simp) _
  have hq : ∀ p ∈ [(B, 0), (B, 1), (B, 2), (B, 3), (B, 4)], p.1 = B := fun p hp => by simp only [List.mem_cons, List.not_mem_nil, or_false] at hp; rcases hp with rfl | rfl | rfl | rfl | rfl <;> rfl
  have lo := hc.1.o
  refine ⟨⟨hc.1.wr hw fun p hp => by have := hq p hp; omega, wr_cu hc.2 hw fun p hp => by have := hq p hp; omega⟩, ((((hB.set 0 _).set 1 _).set 2 _).set 3 _).set 4 _, s1.wr hw fun p hp hm => ?_, s2.wr hw fun p hp hm => ?_, s3.wr hw fun p hp hm => ?_, fun p hp => by have := hn p hp; omega⟩
  · have := hn p (by simp [hp]); have := hq p hm; omega
  · have := hn p (by simp [hp]); have := hq p hm; omega
  · have := hn p (by simp [hp]); have := hq p hm; omega
end
set_option maxHeartbeats 8000000 in
set_option maxRecDepth 100000 in
theorem spec_l08Draw_c (w0 : World) (bc : Nat) (vb : Value) (bs : List DByte) (nm : ByteArray) (w : World) (hc : Cu w0 bc vb bs w) (hn : nameOk nm = true) (h8 : nm.size ≤ 8) :
    Calls Try.prog 13 #[.pointer (some ⟨bc, 0, none⟩), .string nm, .int .i64 10] w (fun e w' => ∃ (d : DDoc) (vt vl vs : Value), e = .returned (.agg #[.string d.name, .int .i64 d.from_, vt, vl, vs]) ∧ DrD d ∧ ∃ f1 f2 f3, Sl BIG w' vt d.text f1 ∧ Sl BIG w' vl d.list f2 ∧ Sl BIG w' vs d.seen f3 ∧ (∀ p ∈ f1 ++ (f2 ++ f3), w0.heap.size ≤ p.1) ∧ Below w0.heap.size w0 w') := by
  have hbl := hc.lt
  have HCU := Lib.hid hc
  clear hc
  go_enter Try.func13, Try.ntmps13
  go_wp2_with fail
  refine (spec_l01Signs_s w0 bc vb bs 8 _ (HCU.out.below ((Below.refl _ _).alloc (Nat.le_refl _) _)) (by decide)).mono ?_
  rintro e' w1 ⟨vt, t, rfl, ht, htl, hts, hc1⟩
  have hq : ∀ p ∈ [(bc, 1), (bc, 2)], p.1 = bc := fun p hp => by simp only [List.mem_cons, List.not_mem_nil, or_false] at hp; rcases hp with rfl | rfl <;> rfl
  have hB0 : Bx (w.alloc (.cells #[.string ⟨#[]⟩, .int .i64 0, .slice none 0 0, .slice none 0 0, .slice none 0 0] 27)) w.heap.size [.string ⟨#[]⟩, .int .i64 0, .slice none 0 0, .slice none 0 0, .slice none 0 0] := Bx.new rfl
  have HB6 := Lib.hid (hB0.wr hc1.2 fun p hp => by have := hq p hp; omega)
  have HC1 : Hid (CuOut w0 bc vb bs w w1) := Lib.hid ⟨hc1.1, (Wr.of_below ((Below.refl _ _).alloc (Nat.le_refl _) _)).trans hc1.2⟩
  have HT := Lib.hid ht.rd
  have HN := Lib.hid (DrD.new hn htl hts)
  have hnb : nm.size ≤ BIG := le_BIG (by omega)
  clear hc1 ht hB0 HCU
  go_wp2_with fail
  have hdn := spec_DocNew_c nm t vt w1 hnb HT.out (by omega)
  rw [show docNew nm t = (⟨nm, 0, t, [], []⟩, true) from if_pos HN.out.ok] at hdn
  refine hdn.mono ?_
  rintro e' w2 ⟨v1, v2, v3, f1, f2, f3, he, s1, s2, s3, _, hf, hb2⟩
  simp only at he
  subst he
  have l1 := HB6.out.lt
  have l2 := hb2.size
  have HF : Hid (∀ p ∈ f1 ++ (f2 ++ f3), w1.heap.size ≤ p.1 ∧ p.1 < w2.heap.size) := Lib.hid (fun p hp => ⟨hf.ge p hp, by
    rcases List.mem_append.1 hp with hp | hp
    · exact Live.lt s1.live p hp
    · rcases List.mem_append.1 hp with hp | hp
      · exact Live.lt s2.live p hp
      · exact Live.lt s3.live p hp⟩)
  have hbA : Below w2.heap.size w2 (w2.alloc (.cells #[.string nm, .int .i64 0, v1, v2, v3] 27)) := (Below.refl _ _).alloc (Nat.le_refl _) _
  obtain ⟨W3, hW3⟩ : ∃ W3, w2.alloc (.cells #[.string nm, .int .i64 0, v1, v2, v3] 27) = W3 := ⟨_, rfl⟩
  have HDW0 : Hid (DW w0 bc vb bs w W3 w2.heap.size ⟨nm, 0, t, [], []⟩ v1 v2 v3) := Lib.hid (by
    rw [hW3] at hbA
    exact ⟨⟨(HC1.out.1.below hb2).below hbA, (HC1.out.2.trans (Wr.of_below hb2)).trans (Wr.of_below hbA)⟩, hbl, (HB6.out.at hb2).at hbA, by rw [← hW3]; exact Bx.new rfl, by omega,
      ⟨f1, f2, f3, s1.belowW hbA, s2.belowW hbA, s3.belowW hbA, fun p hp => by have := HF.out p hp; omega⟩, HN.out⟩)
  obtain ⟨b7, hb7⟩ : ∃ b7, w2.heap.size = b7 := ⟨_, rfl⟩
  obtain ⟨a1, c1, rfl⟩ := (show RdS w2 v1 t from ⟨_, s1⟩).isSlice
  obtain ⟨a2, c2, rfl⟩ := (show RdS w2 v2 ([] : List DEntry) from ⟨_, s2⟩).isSlice
  obtain ⟨a3, c3, rfl⟩ := (show RdS w2 v3 ([] : List DSeen) from ⟨_, s3⟩).isSlice
  clear hdn s1 s2 s3 hf hb2 hbA HF HB6 HC1 HT HN hts htl hn h8 hnb
  go_upto_region 2 with (fail)
  rw [show (([] : List DEntry).length) = 0 from rfl, show (([] : List DSeen).length) = 0 from rfl] at hW3
  (try rw [hW3])
  rw [hb7] at HDW0
  (try rw [hb7])
  clear hW3
  go_wp2_with fail
  refine (spec_l01Below_c w0 bc vb bs 11 _ HDW0.out.cu.1).mono ?_
  rintro e' w4 ⟨x, rfl, hx, hc4⟩
  obtain ⟨x0, x1⟩ := hx.1 (by decide)
  obtain ⟨k0, rfl⟩ : ∃ k : Nat, x = k := ⟨x.toNat, by omega⟩
  have HDW1 := Lib.hid (HDW0.out.draw hc4)
  clear hx hc4 HDW0 hb7 l2
  go_wp2_with fail
  go_loopw [9] (fun n wr => ∃ (k : Nat) (d : DDoc) (vt vl vs : Value), n = .int .i64 k ∧ k ≤ 10 ∧ DW w0 bc vb bs w wr b7 d vt vl vs) (fun n _ => (intOf n).toNat)
  case atStart => exact ⟨k0, _, _, _, _, rfl, by omega, HDW1.out⟩
  case round =>
    obtain ⟨k, d, vt', vl, vs, rfl, hk10, hdw⟩ := hrel
    obtain ⟨at_, ct, rfl⟩ := hdw.t.isSlice
    obtain ⟨al, cl, rfl⟩ := hdw.l.isSlice
    obtain ⟨as_, cs, rfl⟩ := hdw.s.isSlice
    have hdp := docOk_iff.1 hdw.ok.ok
    have df0 := hdp.f0
    have df1 := hdp.f1
    have dl8 := hdp.len
    have hnm := hdw.ok.name
    have SB : Hid (∀ client, 0 ≤ (seenOf d client).1.seq ∧ (seenOf d client).1.seq ≤ 1000000000) := Lib.hid (fun client => ⟨(seenOf_bd hdw.ok.ok client).1, (seenOf_bd hdw.ok.ok client).2.1⟩)
    clear hdp
    have lt7 := hdw.lt
    have HDW := Lib.hid hdw
    clear hdw HDW1
    by_cases hk : 0 < k
    · have hk2 : (0 : Int) < (k : Int) := by omega
      go_wp2_with fail
      refine (spec_l01Below_c w0 bc vb bs 3 _ HDW.out.cu.1).mono ?_
      rintro e' w3 ⟨x, rfl, hx, hc3⟩
      obtain ⟨x0, x1⟩ := hx.1 (by decide)
      have e1 : IntKind.i64.wrap (1 + x) = 1 + x := IntWalk.i64_in _ (by omega)
      have HDW3 := Lib.hid (HDW.out.draw hc3)
      clear hx hc3 HDW
      obtain ⟨zb7, k0, k1, k2, k3, k4⟩ := HDW3.out.x7.o5
      go_wp2_with fail
      refine (spec_SeenOf_c d (.slice at_ d.text.length ct) (.slice al d.list.length cl) (.slice as_ d.seen.length cs) (1 + x) _ HDW3.out.s).mono ?_
      rintro e' w4 ⟨rfl, hb4⟩
      obtain ⟨q, hq'⟩ : ∃ q, (seenOf d (1 + x)).1 = q := ⟨_, rfl⟩
      obtain ⟨sq0, sq1⟩ := SB.out (1 + x)
      rw [hq'] at sq0 sq1
      rw [hq']
      have HQ := Lib.hid hq'
      clear SB hq'
      have HDW4 := Lib.hid ((HDW3.out.below hb4).below ((Below.refl _ _).alloc (Nat.le_refl _) (.cells #[.int .i64 q.client, .int .i64 q.seq, .int .i64 q.rev] 65)))
      have HX11 : Hid (Bx (w4.alloc (.cells #[.int .i64 q.client, .int .i64 q.seq, .int .i64 q.rev] 65)) w4.heap.size [.int .i64 q.client, .int .i64 q.seq, .int .i64 q.rev]) := Lib.hid (Bx.new rfl)
      have l74 : b7 < w4.heap.size := (HDW3.out.below hb4).x7.lt
      clear hb4 HDW3 k0 k1 k2 k3 k4 zb7
      go_upto_region 7 with (fail)
      obtain ⟨W5, hW5⟩ : ∃ W5, w4.alloc (.cells #[.int .i64 q.client, .int .i64 q.seq, .int .i64 q.rev] 65) = W5 := ⟨_, rfl⟩
      obtain ⟨b11, hb11⟩ : ∃ b, w4.heap.size = b := ⟨_, rfl⟩
      rw [hW5, hb11] at HX11
      rw [hW5] at HDW4
      rw [hb11] at l74
      rw [hW5, hb11]
      clear hW5 hb11
      have HN11 : Hid (∀ p ∈ [(bc, 1), (bc, 2)], p.1 ≠ b11) := Lib.hid (fun p hp => by have := hq p hp; omega)
      obtain ⟨W6, hW6⟩ : ∃ W6, W6 = W5 := ⟨_, rfl⟩
      rw [← hW6] at HX11 HDW4
      rw [← hW6]
      clear hW6
      have HDW := HDW4
      clear HDW4
      have HCO : Hid (CuOut w0 bc vb bs W6 W6) := Lib.hid ⟨HDW.out.cu.1, Wr.refl _ _⟩
      go_cut [13] from 43 to 51 (fun z wx => ∃ b : Int, z = .int .i64 b ∧ CuOut w0 bc vb bs W6 wx)
      case first =>
        obtain ⟨zb7, k0, k1, k2, k3, k4⟩ := HDW.out.x7.o5
        obtain ⟨z11, j0, j1, j2⟩ := HX11.out.o3
        have e2 : IntKind.i64.wrap ((d.list.length : Int) + 1) = (d.list.length : Int) + 1 := IntWalk.i64_in _ (by omega)
        go_region_held3 (fun w' => w'.cell? ⟨b7, 0, none⟩ = some (.string d.name) ∧ w'.cell? ⟨b7, 1, none⟩ = some (.int .i64 d.from_) ∧ w'.cell? ⟨b7, 2, none⟩ = some (.slice at_ d.text.length ct) ∧ w'.cell? ⟨b7, 3, none⟩ = some (.slice al d.list.length cl) ∧ w'.cell? ⟨b7, 4, none⟩ = some (.slice as_ d.seen.length cs) ∧ w'.cell? ⟨b11, 1, none⟩ = some (.int .i64 q.seq)) (first | (go_keep; done) | (simp [cell_setCell, *]; done)) ((first | (go_at_call 31; refine (spec_HeadRev_c d (.slice at_ d.text.length ct) (.slice al d.list.length cl) (.slice as_ d.seen.length cs) _ (HDW.out.draw (HCO.out.below_ blw)).l (by omega) (by omega)).mono ?_; rintro e' ya ⟨rfl, hba⟩; have HCO' : Hid (CuOut w0 bc vb bs W6 ya) := Lib.hid ((HCO.out.below_ blw).below_ hba); clear HCO; have HCO := HCO'; clear HCO'; have sza : W6.heap.size ≤ ya.heap.size := HCO.out.2.size; obtain ⟨zb7, k0, k1, k2, k3, k4⟩ := (HDW.out.draw HCO.out).x7.o5; obtain ⟨z11, j0, j1, j2⟩ := (HX11.out.wr HCO.out.2 HN11.out).o3; clear hba) | (go_at_call 15; refine (spec_l01Below_c w0 bc vb bs ((d.list.length : Int) + 1) _ (HDW.out.draw (HCO.out.below_ blw)).cu.1).mono ?_; rintro e' yb ⟨y, rfl, hy, hcb⟩; obtain ⟨y0, y1⟩ := hy.1 (by omega); have HCO' : Hid (CuOut w0 bc vb bs W6 yb) := Lib.hid ((HCO.out.below_ blw).trans hcb); clear HCO; have HCO := HCO'; clear HCO'; have szb : W6.heap.size ≤ yb.heap.size := HCO.out.2.size; obtain ⟨zb7, k0, k1, k2, k3, k4⟩ := (HDW.out.draw HCO.out).x7.o5; obtain ⟨z11, j0, j1, j2⟩ := (HX11.out.wr HCO.out.2 HN11.out).o3; clear hcb hy)))
        all_goals
          go_wp2_with fail
          go_meet
          exact ⟨_, rfl, HCO.out.below_ blw⟩
      case rest =>
        obtain ⟨b, rfl, hco⟩ := hcut
        have HDW6 := Lib.hid (HDW.out.draw hco)
        have HX6 := Lib.hid (HX11.out.wr hco.2 HN11.out)
        clear hco HCO HDW HX11
        obtain ⟨w6, hw6⟩ : ∃ w6, w6 = wc := ⟨_, rfl⟩
        subst hw6
        obtain ⟨zb7, k0, k1, k2, k3, k4⟩ := HDW6.out.x7.o5
        go_wp2_with fail
        refine (spec_TextAt_c d (.slice at_ d.text.length ct) (.slice al d.list.length cl) (.slice as_ d.seen.length cs) b _ hnm HDW6.out.t HDW6.out.l HDW6.out.s).mono ?_
        rintro e' w7 ⟨v14, f14, rfl, s14, _, hb7'⟩
        obtain ⟨a14, c14, rfl⟩ := s14.isS
        obtain ⟨n, hnl⟩ : ∃ n, (textAt d b).1.length = n := ⟨_, rfl⟩
        have hn200 : n ≤ 200 := by rw [← hnl]; exact textAt_len d b
        rw [hnl]
        have HDW := Lib.hid (HDW6.out.below hb7')
        have HX11 := Lib.hid (HX6.out.at hb7')
        have l77 := HDW.out.x7.lt
        have l11 := HX11.out.lt
        have lw7 : w.heap.size < w7.heap.size := by omega
        have HCO : Hid (CuOut w0 bc vb bs w7 w7) := Lib.hid ⟨HDW.out.cu.1, Wr.refl _ _⟩
        have HN7 : Hid (∀ p ∈ [(bc, 1), (bc, 2)], p.1 ≠ w7.heap.size) := Lib.hid (fun p hp => by have := hq p hp; omega)
        clear hb7' s14 HDW6 HX6 hnl k0 k1 k2 k3 k4 zb7
        have e3 : IntKind.i64.wrap (q.seq + 1) = q.seq + 1 := IntWalk.i64_in _ (by omega)
        go_upto_region 9 with (fail)
        go_cut [16, 17, 18] from 58 to 72 (fun z16 z17 z18 wx => ∃ (x' : DDoc) (code : Int) (b16 : Nat) (ut ul us : Value) (g1 g2 g3 : List Pos), z16 = .pointer (some ⟨b16, 0, none⟩) ∧ z18 = .int .i64 code ∧ (code = 0 → DrD x') ∧ w7.heap.size ≤ b16 ∧ CuOut w0 bc vb bs w7 wx ∧ Bx wx b16 [.string x'.name, .int .i64 x'.from_, ut, ul, us] ∧ Sl BIG wx ut x'.text g1 ∧ Sl BIG wx ul x'.list g2 ∧ Sl BIG wx us x'.seen g3 ∧ (∀ p ∈ g1 ++ (g2 ++ g3), w7.heap.size ≤ p.1))
        case first =>
          obtain ⟨zb7, k0, k1, k2, k3, k4⟩ := HDW.out.x7.o5
          obtain ⟨z11, j0, j1, j2⟩ := HX11.out.o3
          have nq1 : ¬ (b7 = w7.heap.size) := by omega
          have nq2 : ¬ (b11 = w7.heap.size) := by omega
          go_region_held3 (fun w' => w'.cell? ⟨b7, 0, none⟩ = some (.string d.name) ∧ w'.cell? ⟨b7, 1, none⟩ = some (.int .i64 d.from_) ∧ w'.cell? ⟨b7, 2, none⟩ = some (.slice at_ d.text.length ct) ∧ w'.cell? ⟨b7, 3, none⟩ = some (.slice al d.list.length cl) ∧ w'.cell? ⟨b7, 4, none⟩ = some (.slice as_ d.seen.length cs) ∧ w'.cell? ⟨b11, 1, none⟩ = some (.int .i64 q.seq)) (first | (go_keep; done) | (simp [cell_setCell, *]; done)) ((first | (go_at_call 34; refine (spec_l02Draw_c w0 bc vb bs n _ (HDW.out.draw (HCO.out.below_ blw)).cu.1 (by omega)).mono ?_; rintro e' ya ⟨vo, o, rfl, ho, hca⟩; (try (have NB : Bx ya w7.heap.size [.string ⟨#[]⟩, .int .i64 0, .slice none 0 0, .slice none 0 0, .slice none 0 0] := Bx.wr (show Bx _ w7.heap.size [.string ⟨#[]⟩, .int .i64 0, .slice none 0 0, .slice none 0 0, .slice none 0 0] from (by exact (show Bx (w7.alloc (.cells #[.string ⟨#[]⟩, .int .i64 0, .slice none 0 0, .slice none 0 0, .slice none 0 0] 27)) w7.heap.size [.string ⟨#[]⟩, .int .i64 0, .slice none 0 0, .slice none 0 0, .slice none 0 0] from Bx.new rfl))) hca.2 HN7.out; obtain ⟨nl, n0, n1, n2, n3, n4, g0, g1, g2, g3, g4⟩ := NB.q5; have HNB := Lib.hid NB; clear NB)); have HCO' : Hid (CuOut w0 bc vb bs w7 ya) := Lib.hid ((HCO.out.below_ blw).trans hca); clear HCO; have HCO := HCO'; clear HCO'; have sza : w7.heap.size ≤ ya.heap.size := HCO.out.2.size; obtain ⟨zb7, k0, k1, k2, k3, k4⟩ := (HDW.out.draw HCO.out).x7.o5; obtain ⟨z11, j0, j1, j2⟩ := (HX11.out.wr HCO.out.2 HN11.out).o3; have HO := Lib.hid ho.rd; have nq1 : ¬ (b7 = w7.heap.size) := (by omega); have nq2 : ¬ (b11 = w7.heap.size) := (by omega); have nq3 : ¬ (b7 = ya.heap.size) := (by omega); have nq4 : ¬ (b11 = ya.heap.size) := (by omega); clear hca ho) | (go_at_call 33; refine (spec_Submit_c d (.slice at_ d.text.length ct) (.slice al d.list.length cl) (.slice as_ d.seen.length cs) (1 + x) (q.seq + 1) b vo o _ hnm (HDW.out.draw (HCO.out.below_ blw)).t (HDW.out.draw (HCO.out.below_ blw)).l (HDW.out.draw (HCO.out.below_ blw)).s (HO.out.below blw)).mono ?_; rintro e' yb ⟨u1, u2, u3, f1, f2, f3, rfl, s1, s2, s3, _, hf, hbb⟩; obtain ⟨d1, d2, rfl⟩ := s1.isS; obtain ⟨d3, d4, rfl⟩ := s2.isS; obtain ⟨d5, d6, rfl⟩ := s3.isS; (try (have NB : Bx yb w7.heap.size [.string ⟨#[]⟩, .int .i64 0, .slice none 0 0, .slice none 0 0, .slice none 0 0] := HNB.out.at hbb; obtain ⟨nl, n0, n1, n2, n3, n4, g0, g1, g2, g3, g4⟩ := NB.q5; have HNC := Lib.hid NB; clear NB)); (try (have NB : Bx yb ya.heap.size [.string ⟨#[]⟩, .int .i64 0, .slice none 0 0, .slice none 0 0, .slice none 0 0] := Bx.at (show Bx _ ya.heap.size [.string ⟨#[]⟩, .int .i64 0, .slice none 0 0, .slice none 0 0, .slice none 0 0] from (by exact (show Bx (ya.alloc (.cells #[.string ⟨#[]⟩, .int .i64 0, .slice none 0 0, .slice none 0 0, .slice none 0 0] 27)) ya.heap.size [.string ⟨#[]⟩, .int .i64 0, .slice none 0 0, .slice none 0 0, .slice none 0 0] from Bx.new rfl))) hbb; obtain ⟨nl, n0, n1, n2, n3, n4, g0, g1, g2, g3, g4⟩ := NB.q5; have HNC := Lib.hid NB; clear NB)); have HCO' : Hid (CuOut w0 bc vb bs w7 yb) := Lib.hid ((HCO.out.below_ blw).below_ hbb); clear HCO; have HCO := HCO'; clear HCO'; have szb : w7.heap.size ≤ yb.heap.size := HCO.out.2.size; obtain ⟨zb7, k0, k1, k2, k3, k4⟩ := (HDW.out.draw HCO.out).x7.o5; obtain ⟨z11, j0, j1, j2⟩ := (HX11.out.wr HCO.out.2 HN11.out).o3; have szb' : ya.heap.size ≤ yb.heap.size := (by have := hbb.size; first | omega | (simp at this; omega)); have HS1 := Lib.hid s1; have HS2 := Lib.hid s2; have HS3 := Lib.hid s3; have HF := Lib.hid hf; clear s1 s2 s3 hf hbb)))
          · go_wp2_with fail
            go_meet
            exact ⟨(submit d (1 + x) (q.seq + 1) b o).1, (submit d (1 + x) (q.seq + 1) b o).2.2, _, _, _, _, _, _, _, rfl, rfl, (fun hc0 => (by have := HDW.out.ok.step (client := 1 + x) (base := b) (o := o) (by omega) (by rw [HQ.out]; exact hc0); rw [HQ.out] at this; exact this)), (by omega), sub_new HCO.out HS1.out HS2.out HS3.out (fun p hp => Nat.le_trans sza (HF.out.ge p hp))⟩
          · go_wp2_with fail
            go_meet
            exact ⟨(submit d (1 + x) (q.seq + 1) b o).1, (submit d (1 + x) (q.seq + 1) b o).2.2, _, _, _, _, _, _, _, rfl, rfl, (fun hc0 => (by have := HDW.out.ok.step (client := 1 + x) (base := b) (o := o) (by omega) (by rw [HQ.out]; exact hc0); rw [HQ.out] at this; exact this)), (by omega), sub_set HCO.out HNC.out (by omega) (by omega) HS1.out HS2.out HS3.out (fun p hp => by have := HF.out.ge p hp; simp at this; omega)⟩
          · go_wp2_with fail
            go_meet
            exact ⟨(submit d (1 + x) (q.seq + 1) b o).1, (submit d (1 + x) (q.seq + 1) b o).2.2, _, _, _, _, _, _, _, rfl, rfl, (fun hc0 => (by have := HDW.out.ok.step (client := 1 + x) (base := b) (o := o) (by omega) (by rw [HQ.out]; exact hc0); rw [HQ.out] at this; exact this)), (by omega), sub_set HCO.out HNC.out (by omega) (by omega) HS1.out HS2.out HS3.out (fun p hp => by have := HF.out.ge p hp; omega)⟩
        case rest =>
          obtain ⟨x', code, b16, ut, ul, us, g1, g2, g3, rfl, rfl, hox, h16, hco, hx16, s1, s2, s3, hp⟩ := hcut
          have HDW9 := Lib.hid (HDW.out.draw hco)
          clear hco HCO HDW HX11
          obtain ⟨w9, hw9⟩ : ∃ w9, w9 = wc := ⟨_, rfl⟩
          subst hw9
          by_cases hc0 : code = 0
          · subst hc0
            have HOX := Lib.hid (hox rfl)
            obtain ⟨au, cu_, rfl⟩ := (show RdS w9 ut x'.text from ⟨_, s1⟩).isSlice
            obtain ⟨av, cv, rfl⟩ := (show RdS w9 ul x'.list from ⟨_, s2⟩).isSlice
            obtain ⟨aw, cw, rfl⟩ := (show RdS w9 us x'.seen from ⟨_, s3⟩).isSlice
            have HPUT := Lib.hid (HDW9.out.put HOX.out s1 s2 s3 (fun p hq => by have := hp p hq; omega))
            obtain ⟨z16, m0, m1, m2, m3, m4⟩ := hx16.o5
            obtain ⟨zb7, k0, k1, k2, k3, k4, g0, g1, g2, g3, g4⟩ := HDW9.out.x7.q5
            clear hox hx16 s1 s2 s3 hp
            go_wp2
            go_roundw
            case rel => exact ⟨k - 1, x', _, _, _, by first | go_num | (congr 1; omega), by omega, HPUT.out⟩
            case measure => simp [intOf]; omega
          · have hc1 : (code == 0) = false := by simpa using hc0
            clear hox hx16 s1 s2 s3 hp
            go_wp2
            go_roundw
            case rel => exact ⟨k - 1, d, _, _, _, by first | go_num | (congr 1; omega), by omega, HDW9.out⟩
            case measure => simp [intOf]; omega
    · obtain rfl : k = 0 := by omega
      obtain ⟨zb6, m0, m1, m2, m3, m4, g0, g1, g2, g3, g4⟩ := HDW.out.x6.q5
      obtain ⟨zb7, k0, k1, k2, k3, k4⟩ := HDW.out.x7.o5
      have HFIN := Lib.hid HDW.out.fin
      have HOK := Lib.hid HDW.out.ok
      have n67 : ¬ (b7 = w.heap.size) := by omega
      clear HDW
      go_wp2
      exact bodyPost_ret (v := .agg #[.string d.name, .int .i64 d.from_, .slice at_ d.text.length ct, .slice al d.list.length cl, .slice as_ d.seen.length cs]) (by simp [results, Try.results13, go_sem, cell_setCell, *]) rfl ⟨d, _, _, _, rfl, HOK.out, HFIN.out⟩
set_option maxHeartbeats 2000000 in
set_option maxRecDepth 100000 in
theorem spec_MakeDoc_c (vb : Value) (bs : List DByte) (w : World) (hb : RdS w vb bs) :
    Calls Try.prog 4 #[vb] w (fun e w' => ∃ (d : DDoc) (vt vl vs : Value), e = .returned (.agg #[.string d.name, .int .i64 d.from_, vt, vl, vs]) ∧ DrD d ∧ RdS w' vt d.text ∧ RdS w' vl d.list ∧ RdS w' vs d.seen ∧ Below w.heap.size w w') := by
  obtain ⟨W, hW⟩ : ∃ W : World, w.alloc (.cells #[.string ⟨#[]⟩, .int .i64 0, .slice none 0 0, .slice none 0 0, .slice none 0 0] 27) = W := ⟨_, rfl⟩
  have hwb : Below w.heap.size w W := by rw [← hW]; exact (Below.refl _ _).alloc (Nat.le_refl _) _
  have hx2 : Bx W w.heap.size [.string ⟨#[]⟩, .int .i64 0, .slice none 0 0, .slice none 0 0, .slice none 0 0] := by rw [← hW]; exact Bx.new rfl
  have HB := Lib.hid (hb.below hwb)
  have HWB := Lib.hid hwb
  have HX2 := Lib.hid hx2
  clear hb hwb hx2
  go_enter Try.func4, Try.ntmps4
  go_upto_region 1 with (fail)
  clear hW
  go_wp2_with fail
  refine (spec_l01New_c vb bs W HB.out).mono ?_
  rintro e' w1 ⟨bc, rfl, hc1, _⟩
  have HC1 := Lib.hid hc1
  clear hc1
  go_wp2_with fail
  refine (spec_l08Name_c W bc vb bs w1 HC1.out).mono ?_
  rintro e' w2 ⟨nm, rfl, hn, h8, hc2⟩
  have HC2 := Lib.hid hc2.1
  clear hc2 HC1
  go_wp2_with fail
  refine (spec_l08Draw_c W bc vb bs nm w2 HC2.out hn h8).mono ?_
  rintro e' w3 ⟨d, vt, vl, vs, rfl, hd, f1, f2, f3, s1, s2, s3, hp, hb3⟩
  have HX3 := Lib.hid (HX2.out.below hb3 HX2.out.lt)
  obtain ⟨at_, ct, rfl⟩ := (show RdS w3 vt d.text from ⟨_, s1⟩).isSlice
  obtain ⟨al, cl, rfl⟩ := (show RdS w3 vl d.list from ⟨_, s2⟩).isSlice
  obtain ⟨as_, cs, rfl⟩ := (show RdS w3 vs d.seen from ⟨_, s3⟩).isSlice
  obtain ⟨z2, m0, m1, m2, m3, m4, g0, g1, g2, g3, g4⟩ := HX3.out.q5
  have HD := Lib.hid hd
  have HFIN := Lib.hid (fin5 (x := d) s1 s2 s3 (fun p hq => show w.heap.size < p.1 by have := hp p hq; have := HX2.out.lt; omega) (Nat.le_refl _) (HWB.out.trans (hb3.mono HWB.out.size)))
  clear hd s1 s2 s3 hp hb3 HC2 HX3 HX2
  go_wp2
  exact bodyPost_ret (v := .agg #[.string d.name, .int .i64 d.from_, .slice at_ d.text.length ct, .slice al d.list.length cl, .slice as_ d.seen.length cs]) (by simp [results, Try.results4, go_sem, cell_setCell, *]) rfl ⟨d, _, _, _, rfl, HD.out, let ⟨_, _, _, a, b, c, _, e⟩ := HFIN.out; ⟨_, a⟩, let ⟨_, _, _, a, b, c, _, e⟩ := HFIN.out; ⟨_, b⟩, let ⟨_, _, _, a, b, c, _, e⟩ := HFIN.out; ⟨_, c⟩, let ⟨_, _, _, a, b, c, _, e⟩ := HFIN.out; e⟩
end Go.Proofs.Ytiahgjnpinjblaa
