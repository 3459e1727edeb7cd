/- The copies that the laws make. -/
import Derived.Test.YtbpbeomngflkfaaGreatBa
import Derived.Handy
namespace Go.Proofs.YtbpbeomngflkfaaGreat
open Go.RowKit

/-- a call that gives back a struct that can be read -/
def GivesR {α : Type} [GoT α] (w : World) (x : α) (e : Ending) (w' : World) : Prop := ∃ cs, e = .returned (.agg cs.toArray) ∧ Rd w' cs x ∧ Below w.heap.size w w'
theorem At.zero {w : World} {b o : Nat} {c : Value} {cs : List Value} (h : At w b o (c :: cs)) : w.cell? ⟨b, o, none⟩ = some c := h 0 c rfl

set_option maxHeartbeats 1000000 in
theorem toPart_c (x : DPart) (v_signs : Value) (w : World)  (h_signs : RdS w v_signs x.signs) :
    Calls Tryz.prog 45 #[.agg #[.int .i64 x.kind, .int .i64 x.n, v_signs]] w (Gives w x) := by
  go_enter Tryz.func45, Tryz.ntmps45
  go_wp2_with fail
  refine (toIntS_c _ _ _ (h_signs.below blw)).mono ?_
  rintro e w1 ⟨v1, rfl, ho0, hb1⟩
  have s1 : w.heap.size + 3 ≤ w1.heap.size := by have := hb1.size; (try simp at this); omega
  obtain ⟨a1_0, c1_0, rfl⟩ := ho0.rd.isSlice
  obtain ⟨C1_0, D1_0, HO1_0, jc1_0, jd1_0, je1_0⟩ := ho0.ex (m := w.heap.size + 3) (by simp) hb1.size
  clear ho0
  obtain ⟨hc1, hf1⟩ := bcell hb1
  have z1_0 : w.heap.size < w1.heap.size := by omega
  have z1_1 : w.heap.size + 1 < w1.heap.size := by omega
  have z1_2 : w.heap.size + 1 + 1 < w1.heap.size := by omega
  go_wp2
  refine bodyPost_ret (v := .agg #[.int .i64 x.kind, .int .i64 x.n, .slice a1_0 x.signs.length c1_0]) (by simp [results, Tryz.results45, go_sem, cell_setCell, *]) rfl ?_
  exact ⟨_, rfl, own_DPart (C0 := C1_0) (D0 := D1_0) x  (by repeat' (first | (with_reducible exact HO1_0) | (with_reducible refine OwnB.setCell ?_ ?_ _) | (with_reducible refine OwnB.drew ?_) | (with_reducible refine OwnB.drewN ?_ _) | (with_reducible refine OwnB.below ?_ (by assumption)) | (with_reducible refine OwnB.alloc ?_ _) | omega)) (by omega), blw⟩

theorem szl_DPart : ∀ w1, (sizeOf 67).run Tryz.prog w1 = .ok 3 w1 := fun _ => by kernel_rfl
theorem info_DPart : (Tryz.prog.info? 86).map (fun i => (i.zero, i.size, i.bytes)) = some (some (.agg #[.int .i64 0, .int .i64 0, .slice none 0 0]), 3, 40) := by kernel_rfl
set_option maxHeartbeats 1000000 in
theorem toPartS_c (v : Value) (l : List DPart) (w : World) (h : RdS w v l) :
    Calls Tryz.prog 11 #[v] w (GivesS w l) := by
  have hl := fun w1 ty => h.len Tryz.underlying27 w1 ty
  have hb := h.le
  obtain ⟨i0, hi, hz0, hz1, hz2⟩ := info_parts info_DPart
  go_enter Tryz.func11, Tryz.ntmps11
  go_wp2_with (first | (at_make; refine wpList_make_full _ rfl _ _ 37 rfl w.heap.size 86 i0 (.agg #[.int .i64 0, .int .i64 0, .slice none 0 0]) 3 Tryz.underlying37 hi hz0 hz1 .i64 .i64 _ _ l.length rfl rfl rfl rfl ?c1 ?c2 ?c3 ?_))
  case c1 => rw [hz2]; omega
  case c2 => unfold maxLen; omega
  case c3 => exact Nat.le_refl _
  intro w1 hown hgrow
  have HF : Hid (Fill 86 w1 w.heap.size w.heap.size l 0) := Fill.start hown rfl (le_BIG hb)
  have HB : Hid (Below w.heap.size w w1) := (Below.refl _ _).grown hgrow (Nat.le_refl _) (fun _ e => by cases e)
  clear hown hgrow
  go_wp2
  go_loopw [4] (fun i wr => ∃ k : Nat, k ≤ l.length ∧ i = .int .i64 k ∧ Fill 86 wr w.heap.size w.heap.size l k ∧ Below w.heap.size w wr) (fun i _ => l.length - (intOf i).toNat)
  case atStart => exact ⟨0, Nat.zero_le _, rfl, HF.out, HB.out⟩
  case round =>
    obtain ⟨k, hk, rfl, hf, hbw⟩ := hrel
    by_cases hlt : k < l.length
    · obtain ⟨x, hx⟩ := get_some hlt
      obtain ⟨b1, o1, cs, h1, h2, h3⟩ := (h.below hbw).idx Tryz.underlying27 szl_DPart k hx
      obtain ⟨v_signs, rfl, r_signs⟩ := inv_DPart h3
      have q0 := h2.zero
      have q1 := h2 1 _ rfl
      have q2 := h2 2 _ rfl
      have HX := Lib.hid hx; clear hx
      have HFL := Lib.hid hf; clear hf
      go_wp2_with fail
      refine (toPart_c x _ _ r_signs).mono ?_
      rintro e w2 ⟨_, rfl, ho, hb2⟩
      have HW := Lib.hid ho
      obtain ⟨u_signs, rfl, _r_signs⟩ := inv_own_DPart ho
      obtain ⟨a_signs, c_signs, rfl⟩ := _r_signs.rd.isSlice
      have HFL2 := HFL.out.below hb2
      obtain ⟨⟨p0, hp0⟩, hq0⟩ := HFL2.cells hlt 0 (by decide)
      obtain ⟨⟨p1, hp1⟩, hq1⟩ := HFL2.cells hlt 1 (by decide)
      obtain ⟨⟨p2, hp2⟩, hq2⟩ := HFL2.cells hlt 2 (by decide)
      replace hp0 : w2.cell? ⟨w.heap.size, k * 3, none⟩ = some p0 := hp0
      replace hq0 : w2.frozen? ⟨w.heap.size, k * 3, none⟩ = false := hq0
      replace hp1 : w2.cell? ⟨w.heap.size, k * 3 + 1, none⟩ = some p1 := hp1
      replace hq1 : w2.frozen? ⟨w.heap.size, k * 3 + 1, none⟩ = false := hq1
      replace hp2 : w2.cell? ⟨w.heap.size, k * 3 + 2, none⟩ = some p2 := hp2
      replace hq2 : w2.frozen? ⟨w.heap.size, k * 3 + 2, none⟩ = false := hq2
      have HS : Hid (Fill 86 (((w2.setCell ⟨w.heap.size, k * 3, none⟩ (.int .i64 x.kind)).setCell ⟨w.heap.size, k * 3 + 1, none⟩ (.int .i64 x.n)).setCell ⟨w.heap.size, k * 3 + 2, none⟩ (.slice a_signs x.signs.length c_signs)) w.heap.size w.heap.size l (k + 1)) := by
        have := HFL.out.step hb2 HX.out HW.out
        show Fill 86 (((w2.setCell ⟨w.heap.size, k * 3, none⟩ (.int .i64 x.kind)).setCell ⟨w.heap.size, k * 3 + 1, none⟩ (.int .i64 x.n)).setCell ⟨w.heap.size, k * 3 + 2, none⟩ (.slice a_signs x.signs.length c_signs)) w.heap.size w.heap.size l (k + 1)
        simpa [World.setCells, GoT.n] using this
      have HBW : Hid (Below w.heap.size w (((w2.setCell ⟨w.heap.size, k * 3, none⟩ (.int .i64 x.kind)).setCell ⟨w.heap.size, k * 3 + 1, none⟩ (.int .i64 x.n)).setCell ⟨w.heap.size, k * 3 + 2, none⟩ (.slice a_signs x.signs.length c_signs))) := by
        have h0 := hbw.size
        have h1 : Below w.heap.size w w2 := hbw.trans (hb2.mono h0)
        show Below w.heap.size w (((w2.setCell ⟨w.heap.size, k * 3, none⟩ (.int .i64 x.kind)).setCell ⟨w.heap.size, k * 3 + 1, none⟩ (.int .i64 x.n)).setCell ⟨w.heap.size, k * 3 + 2, none⟩ (.slice a_signs x.signs.length c_signs))
        exact (by repeat' (first | (with_reducible exact h1) | (with_reducible refine Below.setCell ?_ ?_ _) | (show w.heap.size ≤ w.heap.size; exact Nat.le_refl _)))
      clear HX HFL HFL2 HW ho hb2 hbw
      go_wp2
      go_roundw
      case rel => exact ⟨k + 1, by omega, by go_num, HS.out, HBW.out⟩
      case measure => simp [intOf]; omega
    · obtain rfl : k = l.length := by omega
      have hd := hf.done
      go_wp2
      go_ret
      exact ⟨_, rfl, hd, hbw⟩

set_option maxHeartbeats 1000000 in
theorem toEntry_c (x : DEntry) (v_o : Value) (w : World)  (h_o : RdS w v_o x.o) :
    Calls Tryz.prog 102 #[.agg #[.int .i64 x.client, .int .i64 x.seq, v_o]] w (Gives w x) := by
  go_enter Tryz.func102, Tryz.ntmps102
  go_wp2_with fail
  refine (toPartS_c _ _ _ (h_o.below blw)).mono ?_
  rintro e w1 ⟨v1, rfl, ho0, hb1⟩
  have s1 : w.heap.size + 3 ≤ w1.heap.size := by have := hb1.size; (try simp at this); omega
  obtain ⟨a1_0, c1_0, rfl⟩ := ho0.rd.isSlice
  obtain ⟨C1_0, D1_0, HO1_0, jc1_0, jd1_0, je1_0⟩ := ho0.ex (m := w.heap.size + 3) (by simp) hb1.size
  clear ho0
  obtain ⟨hc1, hf1⟩ := bcell hb1
  have z1_0 : w.heap.size < w1.heap.size := by omega
  have z1_1 : w.heap.size + 1 < w1.heap.size := by omega
  have z1_2 : w.heap.size + 1 + 1 < w1.heap.size := by omega
  go_wp2
  refine bodyPost_ret (v := .agg #[.int .i64 x.client, .int .i64 x.seq, .slice a1_0 x.o.length c1_0]) (by simp [results, Tryz.results102, go_sem, cell_setCell, *]) rfl ?_
  exact ⟨_, rfl, own_DEntry (C0 := C1_0) (D0 := D1_0) x  (by repeat' (first | (with_reducible exact HO1_0) | (with_reducible refine OwnB.setCell ?_ ?_ _) | (with_reducible refine OwnB.drew ?_) | (with_reducible refine OwnB.drewN ?_ _) | (with_reducible refine OwnB.below ?_ (by assumption)) | (with_reducible refine OwnB.alloc ?_ _) | omega)) (by omega), blw⟩

theorem szl_DEntry : ∀ w1, (sizeOf 119).run Tryz.prog w1 = .ok 3 w1 := fun _ => by kernel_rfl
theorem info_DEntry : (Tryz.prog.info? 80).map (fun i => (i.zero, i.size, i.bytes)) = some (some (.agg #[.int .i64 0, .int .i64 0, .slice none 0 0]), 3, 40) := by kernel_rfl
set_option maxHeartbeats 1000000 in
theorem toEntryS_c (v : Value) (l : List DEntry) (w : World) (h : RdS w v l) :
    Calls Tryz.prog 43 #[v] w (GivesS w l) := by
  have hl := fun w1 ty => h.len Tryz.underlying23 w1 ty
  have hb := h.le
  obtain ⟨i0, hi, hz0, hz1, hz2⟩ := info_parts info_DEntry
  go_enter Tryz.func43, Tryz.ntmps43
  go_wp2_with (first | (at_make; refine wpList_make_full _ rfl _ _ 30 rfl w.heap.size 80 i0 (.agg #[.int .i64 0, .int .i64 0, .slice none 0 0]) 3 Tryz.underlying30 hi hz0 hz1 .i64 .i64 _ _ l.length rfl rfl rfl rfl ?c1 ?c2 ?c3 ?_))
  case c1 => rw [hz2]; omega
  case c2 => unfold maxLen; omega
  case c3 => exact Nat.le_refl _
  intro w1 hown hgrow
  have HF : Hid (Fill 80 w1 w.heap.size w.heap.size l 0) := Fill.start hown rfl (le_BIG hb)
  have HB : Hid (Below w.heap.size w w1) := (Below.refl _ _).grown hgrow (Nat.le_refl _) (fun _ e => by cases e)
  clear hown hgrow
  go_wp2
  go_loopw [4] (fun i wr => ∃ k : Nat, k ≤ l.length ∧ i = .int .i64 k ∧ Fill 80 wr w.heap.size w.heap.size l k ∧ Below w.heap.size w wr) (fun i _ => l.length - (intOf i).toNat)
  case atStart => exact ⟨0, Nat.zero_le _, rfl, HF.out, HB.out⟩
  case round =>
    obtain ⟨k, hk, rfl, hf, hbw⟩ := hrel
    by_cases hlt : k < l.length
    · obtain ⟨x, hx⟩ := get_some hlt
      obtain ⟨b1, o1, cs, h1, h2, h3⟩ := (h.below hbw).idx Tryz.underlying23 szl_DEntry k hx
      obtain ⟨v_o, rfl, r_o⟩ := inv_DEntry h3
      have q0 := h2.zero
      have q1 := h2 1 _ rfl
      have q2 := h2 2 _ rfl
      have HX := Lib.hid hx; clear hx
      have HFL := Lib.hid hf; clear hf
      go_wp2_with fail
      refine (toEntry_c x _ _ r_o).mono ?_
      rintro e w2 ⟨_, rfl, ho, hb2⟩
      have HW := Lib.hid ho
      obtain ⟨u_o, rfl, _r_o⟩ := inv_own_DEntry ho
      obtain ⟨a_o, c_o, rfl⟩ := _r_o.rd.isSlice
      have HFL2 := HFL.out.below hb2
      obtain ⟨⟨p0, hp0⟩, hq0⟩ := HFL2.cells hlt 0 (by decide)
      obtain ⟨⟨p1, hp1⟩, hq1⟩ := HFL2.cells hlt 1 (by decide)
      obtain ⟨⟨p2, hp2⟩, hq2⟩ := HFL2.cells hlt 2 (by decide)
      replace hp0 : w2.cell? ⟨w.heap.size, k * 3, none⟩ = some p0 := hp0
      replace hq0 : w2.frozen? ⟨w.heap.size, k * 3, none⟩ = false := hq0
      replace hp1 : w2.cell? ⟨w.heap.size, k * 3 + 1, none⟩ = some p1 := hp1
      replace hq1 : w2.frozen? ⟨w.heap.size, k * 3 + 1, none⟩ = false := hq1
      replace hp2 : w2.cell? ⟨w.heap.size, k * 3 + 2, none⟩ = some p2 := hp2
      replace hq2 : w2.frozen? ⟨w.heap.size, k * 3 + 2, none⟩ = false := hq2
      have HS : Hid (Fill 80 (((w2.setCell ⟨w.heap.size, k * 3, none⟩ (.int .i64 x.client)).setCell ⟨w.heap.size, k * 3 + 1, none⟩ (.int .i64 x.seq)).setCell ⟨w.heap.size, k * 3 + 2, none⟩ (.slice a_o x.o.length c_o)) w.heap.size w.heap.size l (k + 1)) := by
        have := HFL.out.step hb2 HX.out HW.out
        show Fill 80 (((w2.setCell ⟨w.heap.size, k * 3, none⟩ (.int .i64 x.client)).setCell ⟨w.heap.size, k * 3 + 1, none⟩ (.int .i64 x.seq)).setCell ⟨w.heap.size, k * 3 + 2, none⟩ (.slice a_o x.o.length c_o)) w.heap.size w.heap.size l (k + 1)
        simpa [World.setCells, GoT.n] using this
      have HBW : Hid (Below w.heap.size w (((w2.setCell ⟨w.heap.size, k * 3, none⟩ (.int .i64 x.client)).setCell ⟨w.heap.size, k * 3 + 1, none⟩ (.int .i64 x.seq)).setCell ⟨w.heap.size, k * 3 + 2, none⟩ (.slice a_o x.o.length c_o))) := by
        have h0 := hbw.size
        have h1 : Below w.heap.size w w2 := hbw.trans (hb2.mono h0)
        show Below w.heap.size w (((w2.setCell ⟨w.heap.size, k * 3, none⟩ (.int .i64 x.client)).setCell ⟨w.heap.size, k * 3 + 1, none⟩ (.int .i64 x.seq)).setCell ⟨w.heap.size, k * 3 + 2, none⟩ (.slice a_o x.o.length c_o))
        exact (by repeat' (first | (with_reducible exact h1) | (with_reducible refine Below.setCell ?_ ?_ _) | (show w.heap.size ≤ w.heap.size; exact Nat.le_refl _)))
      clear HX HFL HFL2 HW ho hb2 hbw
      go_wp2
      go_roundw
      case rel => exact ⟨k + 1, by omega, by go_num, HS.out, HBW.out⟩
      case measure => simp [intOf]; omega
    · obtain rfl : k = l.length := by omega
      have hd := hf.done
      go_wp2
      go_ret
      exact ⟨_, rfl, hd, hbw⟩

set_option maxHeartbeats 1000000 in
theorem toSeen_c (x : DSeen)  (w : World)   :
    Calls Tryz.prog 103 #[.agg #[.int .i64 x.client, .int .i64 x.seq, .int .i64 x.rev]] w (Gives w x) := by
  go_enter Tryz.func103, Tryz.ntmps103
  go_wp2
  go_returns
  exact ⟨_, rfl, own_DSeen x, blw⟩

theorem szl_DSeen : ∀ w1, (sizeOf 130).run Tryz.prog w1 = .ok 3 w1 := fun _ => by kernel_rfl
theorem info_DSeen : (Tryz.prog.info? 72).map (fun i => (i.zero, i.size, i.bytes)) = some (some (.agg #[.int .i64 0, .int .i64 0, .int .i64 0]), 3, 24) := by kernel_rfl
set_option maxHeartbeats 1000000 in
theorem toSeenS_c (v : Value) (l : List DSeen) (w : World) (h : RdS w v l) :
    Calls Tryz.prog 44 #[v] w (GivesS w l) := by
  have hl := fun w1 ty => h.len Tryz.underlying24 w1 ty
  have hb := h.le
  obtain ⟨i0, hi, hz0, hz1, hz2⟩ := info_parts info_DSeen
  go_enter Tryz.func44, Tryz.ntmps44
  go_wp2_with (first | (at_make; refine wpList_make_full _ rfl _ _ 31 rfl w.heap.size 72 i0 (.agg #[.int .i64 0, .int .i64 0, .int .i64 0]) 3 Tryz.underlying31 hi hz0 hz1 .i64 .i64 _ _ l.length rfl rfl rfl rfl ?c1 ?c2 ?c3 ?_))
  case c1 => rw [hz2]; omega
  case c2 => unfold maxLen; omega
  case c3 => exact Nat.le_refl _
  intro w1 hown hgrow
  have HF : Hid (Fill 72 w1 w.heap.size w.heap.size l 0) := Fill.start hown rfl (le_BIG hb)
  have HB : Hid (Below w.heap.size w w1) := (Below.refl _ _).grown hgrow (Nat.le_refl _) (fun _ e => by cases e)
  clear hown hgrow
  go_wp2
  go_loopw [4] (fun i wr => ∃ k : Nat, k ≤ l.length ∧ i = .int .i64 k ∧ Fill 72 wr w.heap.size w.heap.size l k ∧ Below w.heap.size w wr) (fun i _ => l.length - (intOf i).toNat)
  case atStart => exact ⟨0, Nat.zero_le _, rfl, HF.out, HB.out⟩
  case round =>
    obtain ⟨k, hk, rfl, hf, hbw⟩ := hrel
    by_cases hlt : k < l.length
    · obtain ⟨x, hx⟩ := get_some hlt
      obtain ⟨b1, o1, cs, h1, h2, h3⟩ := (h.below hbw).idx Tryz.underlying24 szl_DSeen k hx
      obtain rfl := inv_DSeen h3
      have q0 := h2.zero
      have q1 := h2 1 _ rfl
      have q2 := h2 2 _ rfl
      have HX := Lib.hid hx; clear hx
      have HFL := Lib.hid hf; clear hf
      go_wp2_with fail
      refine (toSeen_c x _).mono ?_
      rintro e w2 ⟨_, rfl, ho, hb2⟩
      have HW := Lib.hid ho
      obtain rfl := inv_DSeen ho.rd
      have HFL2 := HFL.out.below hb2
      obtain ⟨⟨p0, hp0⟩, hq0⟩ := HFL2.cells hlt 0 (by decide)
      obtain ⟨⟨p1, hp1⟩, hq1⟩ := HFL2.cells hlt 1 (by decide)
      obtain ⟨⟨p2, hp2⟩, hq2⟩ := HFL2.cells hlt 2 (by decide)
      replace hp0 : w2.cell? ⟨w.heap.size, k * 3, none⟩ = some p0 := hp0
      replace hq0 : w2.frozen? ⟨w.heap.size, k * 3, none⟩ = false := hq0
      replace hp1 : w2.cell? ⟨w.heap.size, k * 3 + 1, none⟩ = some p1 := hp1
      replace hq1 : w2.frozen? ⟨w.heap.size, k * 3 + 1, none⟩ = false := hq1
      replace hp2 : w2.cell? ⟨w.heap.size, k * 3 + 2, none⟩ = some p2 := hp2
      replace hq2 : w2.frozen? ⟨w.heap.size, k * 3 + 2, none⟩ = false := hq2
      have HS : Hid (Fill 72 (((w2.setCell ⟨w.heap.size, k * 3, none⟩ (.int .i64 x.client)).setCell ⟨w.heap.size, k * 3 + 1, none⟩ (.int .i64 x.seq)).setCell ⟨w.heap.size, k * 3 + 2, none⟩ (.int .i64 x.rev)) w.heap.size w.heap.size l (k + 1)) := by
        have := HFL.out.step hb2 HX.out HW.out
        show Fill 72 (((w2.setCell ⟨w.heap.size, k * 3, none⟩ (.int .i64 x.client)).setCell ⟨w.heap.size, k * 3 + 1, none⟩ (.int .i64 x.seq)).setCell ⟨w.heap.size, k * 3 + 2, none⟩ (.int .i64 x.rev)) w.heap.size w.heap.size l (k + 1)
        simpa [World.setCells, GoT.n] using this
      have HBW : Hid (Below w.heap.size w (((w2.setCell ⟨w.heap.size, k * 3, none⟩ (.int .i64 x.client)).setCell ⟨w.heap.size, k * 3 + 1, none⟩ (.int .i64 x.seq)).setCell ⟨w.heap.size, k * 3 + 2, none⟩ (.int .i64 x.rev))) := by
        have h0 := hbw.size
        have h1 : Below w.heap.size w w2 := hbw.trans (hb2.mono h0)
        show Below w.heap.size w (((w2.setCell ⟨w.heap.size, k * 3, none⟩ (.int .i64 x.client)).setCell ⟨w.heap.size, k * 3 + 1, none⟩ (.int .i64 x.seq)).setCell ⟨w.heap.size, k * 3 + 2, none⟩ (.int .i64 x.rev))
        exact (by repeat' (first | (with_reducible exact h1) | (with_reducible refine Below.setCell ?_ ?_ _) | (show w.heap.size ≤ w.heap.size; exact Nat.le_refl _)))
      clear HX HFL HFL2 HW ho hb2 hbw
      go_wp2
      go_roundw
      case rel => exact ⟨k + 1, by omega, by go_num, HS.out, HBW.out⟩
      case measure => simp [intOf]; omega
    · obtain rfl : k = l.length := by omega
      have hd := hf.done
      go_wp2
      go_ret
      exact ⟨_, rfl, hd, hbw⟩

end Go.Proofs.YtbpbeomngflkfaaGreat

namespace Go.Proofs.YtbpbeomngflkfaaGreat
open Go.RowKit

set_option maxHeartbeats 1000000 in
theorem toDoc_c (x : DDoc) (v_text : Value) (v_list : Value) (v_seen : Value) (w : World) (n_name : x.name.size ≤ BIG) (h_text : RdS w v_text x.text) (h_list : RdS w v_list x.list) (h_seen : RdS w v_seen x.seen) :
    Calls Tryz.prog 10 #[.agg #[.string x.name, .int .i64 x.from_, v_text, v_list, v_seen]] w (Gives w x) := by
  go_enter Tryz.func10, Tryz.ntmps10
  go_wp2_with fail
  refine (toIntS_c _ _ _ (h_text.below blw)).mono ?_
  rintro e w1 ⟨v1, rfl, ho0, hb1⟩
  have s1 : w.heap.size + 3 ≤ w1.heap.size := by have := hb1.size; (try simp at this); omega
  obtain ⟨a1_0, c1_0, rfl⟩ := ho0.rd.isSlice
  obtain ⟨C1_0, D1_0, HO1_0, jc1_0, jd1_0, je1_0⟩ := ho0.ex (m := w.heap.size + 3) (by simp) hb1.size
  clear ho0
  obtain ⟨hc1, hf1⟩ := bcell hb1
  have z1_0 : w.heap.size < w1.heap.size := by omega
  have z1_1 : w.heap.size + 1 < w1.heap.size := by omega
  have z1_2 : w.heap.size + 1 + 1 < w1.heap.size := by omega
  go_wp2_with fail
  refine (toEntryS_c _ _ _ (h_list.below blw)).mono ?_
  rintro e w2 ⟨v2, rfl, ho0, hb2⟩
  have s2 : w1.heap.size ≤ w2.heap.size := by have := hb2.size; (try simp at this); omega
  obtain ⟨a2_0, c2_0, rfl⟩ := ho0.rd.isSlice
  obtain ⟨C2_0, D2_0, HO2_0, jc2_0, jd2_0, je2_0⟩ := ho0.ex (m := w1.heap.size) (by simp) hb2.size
  clear ho0
  obtain ⟨hc2, hf2⟩ := bcell hb2
  have z2_0 : w.heap.size < w2.heap.size := by omega
  have z2_1 : w.heap.size + 1 < w2.heap.size := by omega
  have z2_2 : w.heap.size + 1 + 1 < w2.heap.size := by omega
  go_wp2_with fail
  refine (toSeenS_c _ _ _ (h_seen.below blw)).mono ?_
  rintro e w3 ⟨v3, rfl, ho0, hb3⟩
  have s3 : w2.heap.size ≤ w3.heap.size := by have := hb3.size; (try simp at this); omega
  obtain ⟨a3_0, c3_0, rfl⟩ := ho0.rd.isSlice
  obtain ⟨C3_0, D3_0, HO3_0, jc3_0, jd3_0, je3_0⟩ := ho0.ex (m := w2.heap.size) (by simp) hb3.size
  clear ho0
  obtain ⟨hc3, hf3⟩ := bcell hb3
  have z3_0 : w.heap.size < w3.heap.size := by omega
  have z3_1 : w.heap.size + 1 < w3.heap.size := by omega
  have z3_2 : w.heap.size + 1 + 1 < w3.heap.size := by omega
  go_wp2
  refine bodyPost_ret (v := .agg #[.string x.name, .int .i64 x.from_, .slice a1_0 x.text.length c1_0, .slice a2_0 x.list.length c2_0, .slice a3_0 x.seen.length c3_0]) (by simp [results, Tryz.results10, go_sem, cell_setCell, *]) rfl ?_
  exact ⟨_, rfl, own_DDoc (C0 := C1_0) (D0 := D1_0) (C1 := C2_0) (D1 := D2_0) (C2 := C3_0) (D2 := D3_0) x n_name (by repeat' (first | (with_reducible exact HO1_0) | (with_reducible refine OwnB.setCell ?_ ?_ _) | (with_reducible refine OwnB.drew ?_) | (with_reducible refine OwnB.drewN ?_ _) | (with_reducible refine OwnB.below ?_ (by assumption)) | (with_reducible refine OwnB.alloc ?_ _) | omega)) (by repeat' (first | (with_reducible exact HO2_0) | (with_reducible refine OwnB.setCell ?_ ?_ _) | (with_reducible refine OwnB.drew ?_) | (with_reducible refine OwnB.drewN ?_ _) | (with_reducible refine OwnB.below ?_ (by assumption)) | (with_reducible refine OwnB.alloc ?_ _) | omega)) (by repeat' (first | (with_reducible exact HO3_0) | (with_reducible refine OwnB.setCell ?_ ?_ _) | (with_reducible refine OwnB.drew ?_) | (with_reducible refine OwnB.drewN ?_ _) | (with_reducible refine OwnB.below ?_ (by assumption)) | (with_reducible refine OwnB.alloc ?_ _) | omega)) (by omega) (by omega) (by omega) (by omega) (by omega) (by omega), blw⟩

theorem szl_DDoc : ∀ w1, (sizeOf 26).run Tryz.prog w1 = .ok 5 w1 := fun _ => by kernel_rfl
theorem info_DDoc : (Tryz.prog.info? 33).map (fun i => (i.zero, i.size, i.bytes)) = some (some (.agg #[.string ByteArray.empty, .int .i64 0, .slice none 0 0, .slice none 0 0, .slice none 0 0]), 5, 96) := by kernel_rfl
set_option maxHeartbeats 1000000 in
theorem toDocS_c (v : Value) (l : List DDoc) (w : World) (h : RdS w v l) :
    Calls Tryz.prog 71 #[v] w (GivesS w l) := by
  have hl := fun w1 ty => h.len Tryz.underlying44 w1 ty
  have hb := h.le
  obtain ⟨i0, hi, hz0, hz1, hz2⟩ := info_parts info_DDoc
  go_enter Tryz.func71, Tryz.ntmps71
  go_wp2_with (first | (at_make; refine wpList_make_full _ rfl _ _ 49 rfl w.heap.size 33 i0 (.agg #[.string ByteArray.empty, .int .i64 0, .slice none 0 0, .slice none 0 0, .slice none 0 0]) 5 Tryz.underlying49 hi hz0 hz1 .i64 .i64 _ _ l.length rfl rfl rfl rfl ?c1 ?c2 ?c3 ?_))
  case c1 => rw [hz2]; omega
  case c2 => unfold maxLen; omega
  case c3 => exact Nat.le_refl _
  intro w1 hown hgrow
  have HF : Hid (Fill 33 w1 w.heap.size w.heap.size l 0) := Fill.start hown rfl (le_BIG hb)
  have HB : Hid (Below w.heap.size w w1) := (Below.refl _ _).grown hgrow (Nat.le_refl _) (fun _ e => by cases e)
  clear hown hgrow
  go_wp2
  go_loopw [4] (fun i wr => ∃ k : Nat, k ≤ l.length ∧ i = .int .i64 k ∧ Fill 33 wr w.heap.size w.heap.size l k ∧ Below w.heap.size w wr) (fun i _ => l.length - (intOf i).toNat)
  case atStart => exact ⟨0, Nat.zero_le _, rfl, HF.out, HB.out⟩
  case round =>
    obtain ⟨k, hk, rfl, hf, hbw⟩ := hrel
    by_cases hlt : k < l.length
    · obtain ⟨x, hx⟩ := get_some hlt
      obtain ⟨b1, o1, cs, h1, h2, h3⟩ := (h.below hbw).idx Tryz.underlying44 szl_DDoc k hx
      obtain ⟨v_text, v_list, v_seen, rfl, n_name, r_text, r_list, r_seen⟩ := inv_DDoc h3
      have q0 := h2.zero
      have q1 := h2 1 _ rfl
      have q2 := h2 2 _ rfl
      have q3 := h2 3 _ rfl
      have q4 := h2 4 _ rfl
      have HX := Lib.hid hx; clear hx
      have HFL := Lib.hid hf; clear hf
      go_wp2_with fail
      refine (toDoc_c x _ _ _ _ n_name r_text r_list r_seen).mono ?_
      rintro e w2 ⟨_, rfl, ho, hb2⟩
      have HW := Lib.hid ho
      obtain ⟨u_text, u_list, u_seen, rfl, _, _r_text, _r_list, _r_seen⟩ := inv_own_DDoc ho
      obtain ⟨a_text, c_text, rfl⟩ := _r_text.rd.isSlice
      obtain ⟨a_list, c_list, rfl⟩ := _r_list.rd.isSlice
      obtain ⟨a_seen, c_seen, rfl⟩ := _r_seen.rd.isSlice
      have HFL2 := HFL.out.below hb2
      obtain ⟨⟨p0, hp0⟩, hq0⟩ := HFL2.cells hlt 0 (by decide)
      obtain ⟨⟨p1, hp1⟩, hq1⟩ := HFL2.cells hlt 1 (by decide)
      obtain ⟨⟨p2, hp2⟩, hq2⟩ := HFL2.cells hlt 2 (by decide)
      obtain ⟨⟨p3, hp3⟩, hq3⟩ := HFL2.cells hlt 3 (by decide)
      obtain ⟨⟨p4, hp4⟩, hq4⟩ := HFL2.cells hlt 4 (by decide)
      replace hp0 : w2.cell? ⟨w.heap.size, k * 5, none⟩ = some p0 := hp0
      replace hq0 : w2.frozen? ⟨w.heap.size, k * 5, none⟩ = false := hq0
      replace hp1 : w2.cell? ⟨w.heap.size, k * 5 + 1, none⟩ = some p1 := hp1
      replace hq1 : w2.frozen? ⟨w.heap.size, k * 5 + 1, none⟩ = false := hq1
      replace hp2 : w2.cell? ⟨w.heap.size, k * 5 + 2, none⟩ = some p2 := hp2
      replace hq2 : w2.frozen? ⟨w.heap.size, k * 5 + 2, none⟩ = false := hq2
      replace hp3 : w2.cell? ⟨w.heap.size, k * 5 + 3, none⟩ = some p3 := hp3
      replace hq3 : w2.frozen? ⟨w.heap.size, k * 5 + 3, none⟩ = false := hq3
      replace hp4 : w2.cell? ⟨w.heap.size, k * 5 + 4, none⟩ = some p4 := hp4
      replace hq4 : w2.frozen? ⟨w.heap.size, k * 5 + 4, none⟩ = false := hq4
      have HS : Hid (Fill 33 (((((w2.setCell ⟨w.heap.size, k * 5, none⟩ (.string x.name)).setCell ⟨w.heap.size, k * 5 + 1, none⟩ (.int .i64 x.from_)).setCell ⟨w.heap.size, k * 5 + 2, none⟩ (.slice a_text x.text.length c_text)).setCell ⟨w.heap.size, k * 5 + 3, none⟩ (.slice a_list x.list.length c_list)).setCell ⟨w.heap.size, k * 5 + 4, none⟩ (.slice a_seen x.seen.length c_seen)) w.heap.size w.heap.size l (k + 1)) := by
        have := HFL.out.step hb2 HX.out HW.out
        show Fill 33 (((((w2.setCell ⟨w.heap.size, k * 5, none⟩ (.string x.name)).setCell ⟨w.heap.size, k * 5 + 1, none⟩ (.int .i64 x.from_)).setCell ⟨w.heap.size, k * 5 + 2, none⟩ (.slice a_text x.text.length c_text)).setCell ⟨w.heap.size, k * 5 + 3, none⟩ (.slice a_list x.list.length c_list)).setCell ⟨w.heap.size, k * 5 + 4, none⟩ (.slice a_seen x.seen.length c_seen)) w.heap.size w.heap.size l (k + 1)
        simpa [World.setCells, GoT.n] using this
      have HBW : Hid (Below w.heap.size w (((((w2.setCell ⟨w.heap.size, k * 5, none⟩ (.string x.name)).setCell ⟨w.heap.size, k * 5 + 1, none⟩ (.int .i64 x.from_)).setCell ⟨w.heap.size, k * 5 + 2, none⟩ (.slice a_text x.text.length c_text)).setCell ⟨w.heap.size, k * 5 + 3, none⟩ (.slice a_list x.list.length c_list)).setCell ⟨w.heap.size, k * 5 + 4, none⟩ (.slice a_seen x.seen.length c_seen))) := by
        have h0 := hbw.size
        have h1 : Below w.heap.size w w2 := hbw.trans (hb2.mono h0)
        show Below w.heap.size w (((((w2.setCell ⟨w.heap.size, k * 5, none⟩ (.string x.name)).setCell ⟨w.heap.size, k * 5 + 1, none⟩ (.int .i64 x.from_)).setCell ⟨w.heap.size, k * 5 + 2, none⟩ (.slice a_text x.text.length c_text)).setCell ⟨w.heap.size, k * 5 + 3, none⟩ (.slice a_list x.list.length c_list)).setCell ⟨w.heap.size, k * 5 + 4, none⟩ (.slice a_seen x.seen.length c_seen))
        exact (by repeat' (first | (with_reducible exact h1) | (with_reducible refine Below.setCell ?_ ?_ _) | (show w.heap.size ≤ w.heap.size; exact Nat.le_refl _)))
      clear HX HFL HFL2 HW ho hb2 hbw
      go_wp2
      go_roundw
      case rel => exact ⟨k + 1, by omega, by go_num, HS.out, HBW.out⟩
      case measure => simp [intOf]; omega
    · obtain rfl : k = l.length := by omega
      have hd := hf.done
      go_wp2
      go_ret
      exact ⟨_, rfl, hd, hbw⟩

set_option maxHeartbeats 1000000 in
theorem toRing_c (x : DRing) (v_list : Value) (w : World)  (h_list : RdS w v_list x.list) :
    Calls Tryz.prog 156 #[.agg #[.int .i64 x.cap, .int .i64 x.next, .bool x.out, v_list]] w (Gives w x) := by
  go_enter Tryz.func156, Tryz.ntmps156
  go_wp2_with fail
  refine (toEntryS_c _ _ _ (h_list.below blw)).mono ?_
  rintro e w1 ⟨v1, rfl, ho0, hb1⟩
  have s1 : w.heap.size + 3 ≤ w1.heap.size := by have := hb1.size; (try simp at this); omega
  obtain ⟨a1_0, c1_0, rfl⟩ := ho0.rd.isSlice
  obtain ⟨C1_0, D1_0, HO1_0, jc1_0, jd1_0, je1_0⟩ := ho0.ex (m := w.heap.size + 3) (by simp) hb1.size
  clear ho0
  obtain ⟨hc1, hf1⟩ := bcell hb1
  have z1_0 : w.heap.size < w1.heap.size := by omega
  have z1_1 : w.heap.size + 1 < w1.heap.size := by omega
  have z1_2 : w.heap.size + 1 + 1 < w1.heap.size := by omega
  go_wp2
  refine bodyPost_ret (v := .agg #[.int .i64 x.cap, .int .i64 x.next, .bool x.out, .slice a1_0 x.list.length c1_0]) (by simp [results, Tryz.results156, go_sem, cell_setCell, *]) rfl ?_
  exact ⟨_, rfl, own_DRing (C0 := C1_0) (D0 := D1_0) x  (by repeat' (first | (with_reducible exact HO1_0) | (with_reducible refine OwnB.setCell ?_ ?_ _) | (with_reducible refine OwnB.drew ?_) | (with_reducible refine OwnB.drewN ?_ _) | (with_reducible refine OwnB.below ?_ (by assumption)) | (with_reducible refine OwnB.alloc ?_ _) | omega)) (by omega), blw⟩

set_option maxHeartbeats 1000000 in
theorem toSub_c (x : DSub) (v_r_list : Value) (w : World) (n_doc : x.doc.size ≤ BIG) (h_r_list : RdS w v_r_list x.r.list) :
    Calls Tryz.prog 125 #[.agg #[.int .i64 x.id, .string x.doc, .int .i64 x.r.cap, .int .i64 x.r.next, .bool x.r.out, v_r_list]] w (Gives w x) := by
  go_enter Tryz.func125, Tryz.ntmps125
  go_wp2_with fail
  refine (toRing_c x.r _ _  (h_r_list.below blw)).mono ?_
  rintro e w1 ⟨_, rfl, ho, hb1⟩
  obtain ⟨v1_0, rfl, ho0⟩ := inv_own_DRing ho
  clear ho
  have s1 : w.heap.size + 3 ≤ w1.heap.size := by have := hb1.size; (try simp at this); omega
  obtain ⟨a1_0, c1_0, rfl⟩ := ho0.rd.isSlice
  obtain ⟨C1_0, D1_0, HO1_0, jc1_0, jd1_0, je1_0⟩ := ho0.ex (m := w.heap.size + 3) (by simp) hb1.size
  clear ho0
  obtain ⟨hc1, hf1⟩ := bcell hb1
  have z1_0 : w.heap.size < w1.heap.size := by omega
  have z1_1 : w.heap.size + 1 < w1.heap.size := by omega
  have z1_2 : w.heap.size + 1 + 1 < w1.heap.size := by omega
  go_wp2
  refine bodyPost_ret (v := .agg #[.int .i64 x.id, .string x.doc, .int .i64 x.r.cap, .int .i64 x.r.next, .bool x.r.out, .slice a1_0 x.r.list.length c1_0]) (by simp [results, Tryz.results125, go_sem, cell_setCell, *]) rfl ?_
  exact ⟨_, rfl, own_DSub (C0 := C1_0) (D0 := D1_0) x n_doc (by repeat' (first | (with_reducible exact HO1_0) | (with_reducible refine OwnB.setCell ?_ ?_ _) | (with_reducible refine OwnB.drew ?_) | (with_reducible refine OwnB.drewN ?_ _) | (with_reducible refine OwnB.below ?_ (by assumption)) | (with_reducible refine OwnB.alloc ?_ _) | omega)) (by omega), blw⟩

theorem szl_DSub : ∀ w1, (sizeOf 140).run Tryz.prog w1 = .ok 6 w1 := fun _ => by kernel_rfl
theorem info_DSub : (Tryz.prog.info? 103).map (fun i => (i.zero, i.size, i.bytes)) = some (some (.agg #[.int .i64 0, .string ByteArray.empty, .int .i64 0, .int .i64 0, .bool false, .slice none 0 0]), 6, 72) := by kernel_rfl
set_option maxHeartbeats 1000000 in
theorem toSubS_c (v : Value) (l : List DSub) (w : World) (h : RdS w v l) :
    Calls Tryz.prog 72 #[v] w (GivesS w l) := by
  have hl := fun w1 ty => h.len Tryz.underlying45 w1 ty
  have hb := h.le
  obtain ⟨i0, hi, hz0, hz1, hz2⟩ := info_parts info_DSub
  go_enter Tryz.func72, Tryz.ntmps72
  go_wp2_with (first | (at_make; refine wpList_make_full _ rfl _ _ 50 rfl w.heap.size 103 i0 (.agg #[.int .i64 0, .string ByteArray.empty, .int .i64 0, .int .i64 0, .bool false, .slice none 0 0]) 6 Tryz.underlying50 hi hz0 hz1 .i64 .i64 _ _ l.length rfl rfl rfl rfl ?c1 ?c2 ?c3 ?_))
  case c1 => rw [hz2]; omega
  case c2 => unfold maxLen; omega
  case c3 => exact Nat.le_refl _
  intro w1 hown hgrow
  have HF : Hid (Fill 103 w1 w.heap.size w.heap.size l 0) := Fill.start hown rfl (le_BIG hb)
  have HB : Hid (Below w.heap.size w w1) := (Below.refl _ _).grown hgrow (Nat.le_refl _) (fun _ e => by cases e)
  clear hown hgrow
  go_wp2
  go_loopw [4] (fun i wr => ∃ k : Nat, k ≤ l.length ∧ i = .int .i64 k ∧ Fill 103 wr w.heap.size w.heap.size l k ∧ Below w.heap.size w wr) (fun i _ => l.length - (intOf i).toNat)
  case atStart => exact ⟨0, Nat.zero_le _, rfl, HF.out, HB.out⟩
  case round =>
    obtain ⟨k, hk, rfl, hf, hbw⟩ := hrel
    by_cases hlt : k < l.length
    · obtain ⟨x, hx⟩ := get_some hlt
      obtain ⟨b1, o1, cs, h1, h2, h3⟩ := (h.below hbw).idx Tryz.underlying45 szl_DSub k hx
      obtain ⟨v_r_list, rfl, n_doc, r_r_list⟩ := inv_DSub h3
      have q0 := h2.zero
      have q1 := h2 1 _ rfl
      have q2 := h2 2 _ rfl
      have q3 := h2 3 _ rfl
      have q4 := h2 4 _ rfl
      have q5 := h2 5 _ rfl
      have HX := Lib.hid hx; clear hx
      have HFL := Lib.hid hf; clear hf
      go_wp2_with fail
      refine (toSub_c x _ _ n_doc r_r_list).mono ?_
      rintro e w2 ⟨_, rfl, ho, hb2⟩
      have HW := Lib.hid ho
      obtain ⟨u_r_list, rfl, _, _r_r_list⟩ := inv_own_DSub ho
      obtain ⟨a_r_list, c_r_list, rfl⟩ := _r_r_list.rd.isSlice
      have HFL2 := HFL.out.below hb2
      obtain ⟨⟨p0, hp0⟩, hq0⟩ := HFL2.cells hlt 0 (by decide)
      obtain ⟨⟨p1, hp1⟩, hq1⟩ := HFL2.cells hlt 1 (by decide)
      obtain ⟨⟨p2, hp2⟩, hq2⟩ := HFL2.cells hlt 2 (by decide)
      obtain ⟨⟨p3, hp3⟩, hq3⟩ := HFL2.cells hlt 3 (by decide)
      obtain ⟨⟨p4, hp4⟩, hq4⟩ := HFL2.cells hlt 4 (by decide)
      obtain ⟨⟨p5, hp5⟩, hq5⟩ := HFL2.cells hlt 5 (by decide)
      replace hp0 : w2.cell? ⟨w.heap.size, k * 6, none⟩ = some p0 := hp0
      replace hq0 : w2.frozen? ⟨w.heap.size, k * 6, none⟩ = false := hq0
      replace hp1 : w2.cell? ⟨w.heap.size, k * 6 + 1, none⟩ = some p1 := hp1
      replace hq1 : w2.frozen? ⟨w.heap.size, k * 6 + 1, none⟩ = false := hq1
      replace hp2 : w2.cell? ⟨w.heap.size, k * 6 + 2, none⟩ = some p2 := hp2
      replace hq2 : w2.frozen? ⟨w.heap.size, k * 6 + 2, none⟩ = false := hq2
      replace hp3 : w2.cell? ⟨w.heap.size, k * 6 + 3, none⟩ = some p3 := hp3
      replace hq3 : w2.frozen? ⟨w.heap.size, k * 6 + 3, none⟩ = false := hq3
      replace hp4 : w2.cell? ⟨w.heap.size, k * 6 + 4, none⟩ = some p4 := hp4
      replace hq4 : w2.frozen? ⟨w.heap.size, k * 6 + 4, none⟩ = false := hq4
      replace hp5 : w2.cell? ⟨w.heap.size, k * 6 + 5, none⟩ = some p5 := hp5
      replace hq5 : w2.frozen? ⟨w.heap.size, k * 6 + 5, none⟩ = false := hq5
      have HS : Hid (Fill 103 ((((((w2.setCell ⟨w.heap.size, k * 6, none⟩ (.int .i64 x.id)).setCell ⟨w.heap.size, k * 6 + 1, none⟩ (.string x.doc)).setCell ⟨w.heap.size, k * 6 + 2, none⟩ (.int .i64 x.r.cap)).setCell ⟨w.heap.size, k * 6 + 3, none⟩ (.int .i64 x.r.next)).setCell ⟨w.heap.size, k * 6 + 4, none⟩ (.bool x.r.out)).setCell ⟨w.heap.size, k * 6 + 5, none⟩ (.slice a_r_list x.r.list.length c_r_list)) w.heap.size w.heap.size l (k + 1)) := by
        have := HFL.out.step hb2 HX.out HW.out
        show Fill 103 ((((((w2.setCell ⟨w.heap.size, k * 6, none⟩ (.int .i64 x.id)).setCell ⟨w.heap.size, k * 6 + 1, none⟩ (.string x.doc)).setCell ⟨w.heap.size, k * 6 + 2, none⟩ (.int .i64 x.r.cap)).setCell ⟨w.heap.size, k * 6 + 3, none⟩ (.int .i64 x.r.next)).setCell ⟨w.heap.size, k * 6 + 4, none⟩ (.bool x.r.out)).setCell ⟨w.heap.size, k * 6 + 5, none⟩ (.slice a_r_list x.r.list.length c_r_list)) w.heap.size w.heap.size l (k + 1)
        simpa [World.setCells, GoT.n] using this
      have HBW : Hid (Below w.heap.size w ((((((w2.setCell ⟨w.heap.size, k * 6, none⟩ (.int .i64 x.id)).setCell ⟨w.heap.size, k * 6 + 1, none⟩ (.string x.doc)).setCell ⟨w.heap.size, k * 6 + 2, none⟩ (.int .i64 x.r.cap)).setCell ⟨w.heap.size, k * 6 + 3, none⟩ (.int .i64 x.r.next)).setCell ⟨w.heap.size, k * 6 + 4, none⟩ (.bool x.r.out)).setCell ⟨w.heap.size, k * 6 + 5, none⟩ (.slice a_r_list x.r.list.length c_r_list))) := by
        have h0 := hbw.size
        have h1 : Below w.heap.size w w2 := hbw.trans (hb2.mono h0)
        show Below w.heap.size w ((((((w2.setCell ⟨w.heap.size, k * 6, none⟩ (.int .i64 x.id)).setCell ⟨w.heap.size, k * 6 + 1, none⟩ (.string x.doc)).setCell ⟨w.heap.size, k * 6 + 2, none⟩ (.int .i64 x.r.cap)).setCell ⟨w.heap.size, k * 6 + 3, none⟩ (.int .i64 x.r.next)).setCell ⟨w.heap.size, k * 6 + 4, none⟩ (.bool x.r.out)).setCell ⟨w.heap.size, k * 6 + 5, none⟩ (.slice a_r_list x.r.list.length c_r_list))
        exact (by repeat' (first | (with_reducible exact h1) | (with_reducible refine Below.setCell ?_ ?_ _) | (show w.heap.size ≤ w.heap.size; exact Nat.le_refl _)))
      clear HX HFL HFL2 HW ho hb2 hbw
      go_wp2
      go_roundw
      case rel => exact ⟨k + 1, by omega, by go_num, HS.out, HBW.out⟩
      case measure => simp [intOf]; omega
    · obtain rfl : k = l.length := by omega
      have hd := hf.done
      go_wp2
      go_ret
      exact ⟨_, rfl, hd, hbw⟩

end Go.Proofs.YtbpbeomngflkfaaGreat

namespace Go.Proofs.YtbpbeomngflkfaaGreat
open Go.RowKit

set_option maxHeartbeats 1000000 in
theorem toHub_c (x : DHub) (v_docs : Value) (v_subs : Value) (w : World)  (h_docs : RdS w v_docs x.docs) (h_subs : RdS w v_subs x.subs) :
    Calls Tryz.prog 20 #[.agg #[.bool x.shut, v_docs, v_subs, .int .i64 x.last]] w (Gives w x) := by
  go_enter Tryz.func20, Tryz.ntmps20
  go_wp2_with fail
  refine (toDocS_c _ _ _ (h_docs.below blw)).mono ?_
  rintro e w1 ⟨v1, rfl, ho0, hb1⟩
  have s1 : w.heap.size + 3 ≤ w1.heap.size := by have := hb1.size; (try simp at this); omega
  obtain ⟨a1_0, c1_0, rfl⟩ := ho0.rd.isSlice
  obtain ⟨C1_0, D1_0, HO1_0, jc1_0, jd1_0, je1_0⟩ := ho0.ex (m := w.heap.size + 3) (by simp) hb1.size
  clear ho0
  obtain ⟨hc1, hf1⟩ := bcell hb1
  have z1_0 : w.heap.size < w1.heap.size := by omega
  have z1_1 : w.heap.size + 1 < w1.heap.size := by omega
  have z1_2 : w.heap.size + 1 + 1 < w1.heap.size := by omega
  go_wp2_with fail
  refine (toSubS_c _ _ _ (h_subs.below blw)).mono ?_
  rintro e w2 ⟨v2, rfl, ho0, hb2⟩
  have s2 : w1.heap.size ≤ w2.heap.size := by have := hb2.size; (try simp at this); omega
  obtain ⟨a2_0, c2_0, rfl⟩ := ho0.rd.isSlice
  obtain ⟨C2_0, D2_0, HO2_0, jc2_0, jd2_0, je2_0⟩ := ho0.ex (m := w1.heap.size) (by simp) hb2.size
  clear ho0
  obtain ⟨hc2, hf2⟩ := bcell hb2
  have z2_0 : w.heap.size < w2.heap.size := by omega
  have z2_1 : w.heap.size + 1 < w2.heap.size := by omega
  have z2_2 : w.heap.size + 1 + 1 < w2.heap.size := by omega
  go_wp2
  refine bodyPost_ret (v := .agg #[.bool x.shut, .slice a1_0 x.docs.length c1_0, .slice a2_0 x.subs.length c2_0, .int .i64 x.last]) (by simp [results, Tryz.results20, go_sem, cell_setCell, *]) rfl ?_
  exact ⟨_, rfl, own_DHub (C0 := C1_0) (D0 := D1_0) (C1 := C2_0) (D1 := D2_0) x  (by repeat' (first | (with_reducible exact HO1_0) | (with_reducible refine OwnB.setCell ?_ ?_ _) | (with_reducible refine OwnB.drew ?_) | (with_reducible refine OwnB.drewN ?_ _) | (with_reducible refine OwnB.below ?_ (by assumption)) | (with_reducible refine OwnB.alloc ?_ _) | omega)) (by repeat' (first | (with_reducible exact HO2_0) | (with_reducible refine OwnB.setCell ?_ ?_ _) | (with_reducible refine OwnB.drew ?_) | (with_reducible refine OwnB.drewN ?_ _) | (with_reducible refine OwnB.below ?_ (by assumption)) | (with_reducible refine OwnB.alloc ?_ _) | omega)) (by omega) (by omega) (by omega), blw⟩




end Go.Proofs.YtbpbeomngflkfaaGreat

