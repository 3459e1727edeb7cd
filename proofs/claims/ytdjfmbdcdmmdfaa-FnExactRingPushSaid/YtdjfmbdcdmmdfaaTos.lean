/- The copies that the laws make. -/
import Derived.Test.YtdjfmbdcdmmdfaaBa
import Derived.Handy
namespace Go.Proofs.Ytdjfmbdcdmmdfaa
open Go.RowKit

/-- a call that gives back a struct that can be read -/
def GivesR {α : Type} [GoT α] (w : World) (x : α) (e : Ending) (w' : World) : Prop := ∃ cs, e = .returned (.agg cs.toArray) ∧ Rd w' cs x ∧ Below w.heap.size w w'
theorem At.zero {w : World} {b o : Nat} {c : Value} {cs : List Value} (h : At w b o (c :: cs)) : w.cell? ⟨b, o, none⟩ = some c := h 0 c rfl

set_option maxHeartbeats 1000000 in
theorem toPart_c (x : DPart) (v_signs : Value) (w : World)  (h_signs : RdS w v_signs x.signs) :
    Calls Try.prog 37 #[.agg #[.int .i64 x.kind, .int .i64 x.n, v_signs]] w (Gives w x) := by
  go_enter Try.func37, Try.ntmps37
  go_wp2_with fail
  refine (toIntS_c _ _ _ (h_signs.below blw)).mono ?_
  rintro e w1 ⟨v1, rfl, ho0, hb1⟩
  have s1 : w.heap.size + 3 ≤ w1.heap.size := by have := hb1.size; (try simp at this); omega
  obtain ⟨a1_0, c1_0, rfl⟩ := ho0.rd.isSlice
  obtain ⟨C1_0, D1_0, HO1_0, jc1_0, jd1_0, je1_0⟩ := ho0.ex (m := w.heap.size + 3) (by simp) hb1.size
  clear ho0
  obtain ⟨hc1, hf1⟩ := bcell hb1
  have z1_0 : w.heap.size < w1.heap.size := by omega
  have z1_1 : w.heap.size + 1 < w1.heap.size := by omega
  have z1_2 : w.heap.size + 1 + 1 < w1.heap.size := by omega
  go_wp2
  refine bodyPost_ret (v := .agg #[.int .i64 x.kind, .int .i64 x.n, .slice a1_0 x.signs.length c1_0]) (by simp [results, Try.results37, go_sem, cell_setCell, *]) rfl ?_
  exact ⟨_, rfl, own_DPart (C0 := C1_0) (D0 := D1_0) x  (by repeat' (first | (with_reducible exact HO1_0) | (with_reducible refine OwnB.setCell ?_ ?_ _) | (with_reducible refine OwnB.drew ?_) | (with_reducible refine OwnB.drewN ?_ _) | (with_reducible refine OwnB.below ?_ (by assumption)) | (with_reducible refine OwnB.alloc ?_ _) | omega)) (by omega), blw⟩

theorem szl_DPart : ∀ w1, (sizeOf 60).run Try.prog w1 = .ok 3 w1 := fun _ => by kernel_rfl
theorem info_DPart : (Try.prog.info? 64).map (fun i => (i.zero, i.size, i.bytes)) = some (some (.agg #[.int .i64 0, .int .i64 0, .slice none 0 0]), 3, 40) := by kernel_rfl
set_option maxHeartbeats 1000000 in
theorem toPartS_c (v : Value) (l : List DPart) (w : World) (h : RdS w v l) :
    Calls Try.prog 22 #[v] w (GivesS w l) := by
  have hl := fun w1 ty => h.len Try.underlying25 w1 ty
  have hb := h.le
  obtain ⟨i0, hi, hz0, hz1, hz2⟩ := info_parts info_DPart
  go_enter Try.func22, Try.ntmps22
  go_wp2_with (first | (at_make; refine wpList_make_full _ rfl _ _ 35 rfl w.heap.size 64 i0 (.agg #[.int .i64 0, .int .i64 0, .slice none 0 0]) 3 Try.underlying35 hi hz0 hz1 .i64 .i64 _ _ l.length rfl rfl rfl rfl ?c1 ?c2 ?c3 ?_))
  case c1 => rw [hz2]; omega
  case c2 => unfold maxLen; omega
  case c3 => exact Nat.le_refl _
  intro w1 hown hgrow
  have HF : Hid (Fill 64 w1 w.heap.size w.heap.size l 0) := Fill.start hown rfl (le_BIG hb)
  have HB : Hid (Below w.heap.size w w1) := (Below.refl _ _).grown hgrow (Nat.le_refl _) (fun _ e => by cases e)
  clear hown hgrow
  go_wp2
  go_loopw [4] (fun i wr => ∃ k : Nat, k ≤ l.length ∧ i = .int .i64 k ∧ Fill 64 wr w.heap.size w.heap.size l k ∧ Below w.heap.size w wr) (fun i _ => l.length - (intOf i).toNat)
  case atStart => exact ⟨0, Nat.zero_le _, rfl, HF.out, HB.out⟩
  case round =>
    obtain ⟨k, hk, rfl, hf, hbw⟩ := hrel
    by_cases hlt : k < l.length
    · obtain ⟨x, hx⟩ := get_some hlt
      obtain ⟨b1, o1, cs, h1, h2, h3⟩ := (h.below hbw).idx Try.underlying25 szl_DPart k hx
      obtain ⟨v_signs, rfl, r_signs⟩ := inv_DPart h3
      have q0 := h2.zero
      have q1 := h2 1 _ rfl
      have q2 := h2 2 _ rfl
      have HX := Lib.hid hx; clear hx
      have HFL := Lib.hid hf; clear hf
      go_wp2_with fail
      refine (toPart_c x _ _ r_signs).mono ?_
      rintro e w2 ⟨_, rfl, ho, hb2⟩
      have HW := Lib.hid ho
      obtain ⟨u_signs, rfl, _r_signs⟩ := inv_own_DPart ho
      obtain ⟨a_signs, c_signs, rfl⟩ := _r_signs.rd.isSlice
      have HFL2 := HFL.out.below hb2
      obtain ⟨⟨p0, hp0⟩, hq0⟩ := HFL2.cells hlt 0 (by decide)
      obtain ⟨⟨p1, hp1⟩, hq1⟩ := HFL2.cells hlt 1 (by decide)
      obtain ⟨⟨p2, hp2⟩, hq2⟩ := HFL2.cells hlt 2 (by decide)
      replace hp0 : w2.cell? ⟨w.heap.size, k * 3, none⟩ = some p0 := hp0
      replace hq0 : w2.frozen? ⟨w.heap.size, k * 3, none⟩ = false := hq0
      replace hp1 : w2.cell? ⟨w.heap.size, k * 3 + 1, none⟩ = some p1 := hp1
      replace hq1 : w2.frozen? ⟨w.heap.size, k * 3 + 1, none⟩ = false := hq1
      replace hp2 : w2.cell? ⟨w.heap.size, k * 3 + 2, none⟩ = some p2 := hp2
      replace hq2 : w2.frozen? ⟨w.heap.size, k * 3 + 2, none⟩ = false := hq2
      have HS : Hid (Fill 64 (((w2.setCell ⟨w.heap.size, k * 3, none⟩ (.int .i64 x.kind)).setCell ⟨w.heap.size, k * 3 + 1, none⟩ (.int .i64 x.n)).setCell ⟨w.heap.size, k * 3 + 2, none⟩ (.slice a_signs x.signs.length c_signs)) w.heap.size w.heap.size l (k + 1)) := by
        have := HFL.out.step hb2 HX.out HW.out
        show Fill 64 (((w2.setCell ⟨w.heap.size, k * 3, none⟩ (.int .i64 x.kind)).setCell ⟨w.heap.size, k * 3 + 1, none⟩ (.int .i64 x.n)).setCell ⟨w.heap.size, k * 3 + 2, none⟩ (.slice a_signs x.signs.length c_signs)) w.heap.size w.heap.size l (k + 1)
        simpa [World.setCells, GoT.n] using this
      have HBW : Hid (Below w.heap.size w (((w2.setCell ⟨w.heap.size, k * 3, none⟩ (.int .i64 x.kind)).setCell ⟨w.heap.size, k * 3 + 1, none⟩ (.int .i64 x.n)).setCell ⟨w.heap.size, k * 3 + 2, none⟩ (.slice a_signs x.signs.length c_signs))) := by
        have h0 := hbw.size
        have h1 : Below w.heap.size w w2 := hbw.trans (hb2.mono h0)
        show Below w.heap.size w (((w2.setCell ⟨w.heap.size, k * 3, none⟩ (.int .i64 x.kind)).setCell ⟨w.heap.size, k * 3 + 1, none⟩ (.int .i64 x.n)).setCell ⟨w.heap.size, k * 3 + 2, none⟩ (.slice a_signs x.signs.length c_signs))
        exact (by repeat' (first | (with_reducible exact h1) | (with_reducible refine Below.setCell ?_ ?_ _) | (show w.heap.size ≤ w.heap.size; exact Nat.le_refl _)))
      clear HX HFL HFL2 HW ho hb2 hbw
      go_wp2
      go_roundw
      case rel => exact ⟨k + 1, by omega, by go_num, HS.out, HBW.out⟩
      case measure => simp [intOf]; omega
    · obtain rfl : k = l.length := by omega
      have hd := hf.done
      go_wp2
      go_ret
      exact ⟨_, rfl, hd, hbw⟩

set_option maxHeartbeats 1000000 in
theorem toEntry_c (x : DEntry) (v_o : Value) (w : World)  (h_o : RdS w v_o x.o) :
    Calls Try.prog 8 #[.agg #[.int .i64 x.client, .int .i64 x.seq, v_o]] w (Gives w x) := by
  go_enter Try.func8, Try.ntmps8
  go_wp2_with fail
  refine (toPartS_c _ _ _ (h_o.below blw)).mono ?_
  rintro e w1 ⟨v1, rfl, ho0, hb1⟩
  have s1 : w.heap.size + 3 ≤ w1.heap.size := by have := hb1.size; (try simp at this); omega
  obtain ⟨a1_0, c1_0, rfl⟩ := ho0.rd.isSlice
  obtain ⟨C1_0, D1_0, HO1_0, jc1_0, jd1_0, je1_0⟩ := ho0.ex (m := w.heap.size + 3) (by simp) hb1.size
  clear ho0
  obtain ⟨hc1, hf1⟩ := bcell hb1
  have z1_0 : w.heap.size < w1.heap.size := by omega
  have z1_1 : w.heap.size + 1 < w1.heap.size := by omega
  have z1_2 : w.heap.size + 1 + 1 < w1.heap.size := by omega
  go_wp2
  refine bodyPost_ret (v := .agg #[.int .i64 x.client, .int .i64 x.seq, .slice a1_0 x.o.length c1_0]) (by simp [results, Try.results8, go_sem, cell_setCell, *]) rfl ?_
  exact ⟨_, rfl, own_DEntry (C0 := C1_0) (D0 := D1_0) x  (by repeat' (first | (with_reducible exact HO1_0) | (with_reducible refine OwnB.setCell ?_ ?_ _) | (with_reducible refine OwnB.drew ?_) | (with_reducible refine OwnB.drewN ?_ _) | (with_reducible refine OwnB.below ?_ (by assumption)) | (with_reducible refine OwnB.alloc ?_ _) | omega)) (by omega), blw⟩

theorem szl_DEntry : ∀ w1, (sizeOf 27).run Try.prog w1 = .ok 3 w1 := fun _ => by kernel_rfl
theorem info_DEntry : (Try.prog.info? 37).map (fun i => (i.zero, i.size, i.bytes)) = some (some (.agg #[.int .i64 0, .int .i64 0, .slice none 0 0]), 3, 40) := by kernel_rfl
set_option maxHeartbeats 1000000 in
theorem toEntryS_c (v : Value) (l : List DEntry) (w : World) (h : RdS w v l) :
    Calls Try.prog 21 #[v] w (GivesS w l) := by
  have hl := fun w1 ty => h.len Try.underlying22 w1 ty
  have hb := h.le
  obtain ⟨i0, hi, hz0, hz1, hz2⟩ := info_parts info_DEntry
  go_enter Try.func21, Try.ntmps21
  go_wp2_with (first | (at_make; refine wpList_make_full _ rfl _ _ 30 rfl w.heap.size 37 i0 (.agg #[.int .i64 0, .int .i64 0, .slice none 0 0]) 3 Try.underlying30 hi hz0 hz1 .i64 .i64 _ _ l.length rfl rfl rfl rfl ?c1 ?c2 ?c3 ?_))
  case c1 => rw [hz2]; omega
  case c2 => unfold maxLen; omega
  case c3 => exact Nat.le_refl _
  intro w1 hown hgrow
  have HF : Hid (Fill 37 w1 w.heap.size w.heap.size l 0) := Fill.start hown rfl (le_BIG hb)
  have HB : Hid (Below w.heap.size w w1) := (Below.refl _ _).grown hgrow (Nat.le_refl _) (fun _ e => by cases e)
  clear hown hgrow
  go_wp2
  go_loopw [4] (fun i wr => ∃ k : Nat, k ≤ l.length ∧ i = .int .i64 k ∧ Fill 37 wr w.heap.size w.heap.size l k ∧ Below w.heap.size w wr) (fun i _ => l.length - (intOf i).toNat)
  case atStart => exact ⟨0, Nat.zero_le _, rfl, HF.out, HB.out⟩
  case round =>
    obtain ⟨k, hk, rfl, hf, hbw⟩ := hrel
    by_cases hlt : k < l.length
    · obtain ⟨x, hx⟩ := get_some hlt
      obtain ⟨b1, o1, cs, h1, h2, h3⟩ := (h.below hbw).idx Try.underlying22 szl_DEntry k hx
      obtain ⟨v_o, rfl, r_o⟩ := inv_DEntry h3
      have q0 := h2.zero
      have q1 := h2 1 _ rfl
      have q2 := h2 2 _ rfl
      have HX := Lib.hid hx; clear hx
      have HFL := Lib.hid hf; clear hf
      go_wp2_with fail
      refine (toEntry_c x _ _ r_o).mono ?_
      rintro e w2 ⟨_, rfl, ho, hb2⟩
      have HW := Lib.hid ho
      obtain ⟨u_o, rfl, _r_o⟩ := inv_own_DEntry ho
      obtain ⟨a_o, c_o, rfl⟩ := _r_o.rd.isSlice
      have HFL2 := HFL.out.below hb2
      obtain ⟨⟨p0, hp0⟩, hq0⟩ := HFL2.cells hlt 0 (by decide)
      obtain ⟨⟨p1, hp1⟩, hq1⟩ := HFL2.cells hlt 1 (by decide)
      obtain ⟨⟨p2, hp2⟩, hq2⟩ := HFL2.cells hlt 2 (by decide)
      replace hp0 : w2.cell? ⟨w.heap.size, k * 3, none⟩ = some p0 := hp0
      replace hq0 : w2.frozen? ⟨w.heap.size, k * 3, none⟩ = false := hq0
      replace hp1 : w2.cell? ⟨w.heap.size, k * 3 + 1, none⟩ = some p1 := hp1
      replace hq1 : w2.frozen? ⟨w.heap.size, k * 3 + 1, none⟩ = false := hq1
      replace hp2 : w2.cell? ⟨w.heap.size, k * 3 + 2, none⟩ = some p2 := hp2
      replace hq2 : w2.frozen? ⟨w.heap.size, k * 3 + 2, none⟩ = false := hq2
      have HS : Hid (Fill 37 (((w2.setCell ⟨w.heap.size, k * 3, none⟩ (.int .i64 x.client)).setCell ⟨w.heap.size, k * 3 + 1, none⟩ (.int .i64 x.seq)).setCell ⟨w.heap.size, k * 3 + 2, none⟩ (.slice a_o x.o.length c_o)) w.heap.size w.heap.size l (k + 1)) := by
        have := HFL.out.step hb2 HX.out HW.out
        show Fill 37 (((w2.setCell ⟨w.heap.size, k * 3, none⟩ (.int .i64 x.client)).setCell ⟨w.heap.size, k * 3 + 1, none⟩ (.int .i64 x.seq)).setCell ⟨w.heap.size, k * 3 + 2, none⟩ (.slice a_o x.o.length c_o)) w.heap.size w.heap.size l (k + 1)
        simpa [World.setCells, GoT.n] using this
      have HBW : Hid (Below w.heap.size w (((w2.setCell ⟨w.heap.size, k * 3, none⟩ (.int .i64 x.client)).setCell ⟨w.heap.size, k * 3 + 1, none⟩ (.int .i64 x.seq)).setCell ⟨w.heap.size, k * 3 + 2, none⟩ (.slice a_o x.o.length c_o))) := by
        have h0 := hbw.size
        have h1 : Below w.heap.size w w2 := hbw.trans (hb2.mono h0)
        show Below w.heap.size w (((w2.setCell ⟨w.heap.size, k * 3, none⟩ (.int .i64 x.client)).setCell ⟨w.heap.size, k * 3 + 1, none⟩ (.int .i64 x.seq)).setCell ⟨w.heap.size, k * 3 + 2, none⟩ (.slice a_o x.o.length c_o))
        exact (by repeat' (first | (with_reducible exact h1) | (with_reducible refine Below.setCell ?_ ?_ _) | (show w.heap.size ≤ w.heap.size; exact Nat.le_refl _)))
      clear HX HFL HFL2 HW ho hb2 hbw
      go_wp2
      go_roundw
      case rel => exact ⟨k + 1, by omega, by go_num, HS.out, HBW.out⟩
      case measure => simp [intOf]; omega
    · obtain rfl : k = l.length := by omega
      have hd := hf.done
      go_wp2
      go_ret
      exact ⟨_, rfl, hd, hbw⟩



end Go.Proofs.Ytdjfmbdcdmmdfaa

namespace Go.Proofs.Ytdjfmbdcdmmdfaa
open Go.RowKit



set_option maxHeartbeats 1000000 in
theorem toRing_c (x : DRing) (v_list : Value) (w : World)  (h_list : RdS w v_list x.list) :
    Calls Try.prog 7 #[.agg #[.int .i64 x.cap, .int .i64 x.next, .bool x.out, v_list]] w (Gives w x) := by
  go_enter Try.func7, Try.ntmps7
  go_wp2_with fail
  refine (toEntryS_c _ _ _ (h_list.below blw)).mono ?_
  rintro e w1 ⟨v1, rfl, ho0, hb1⟩
  have s1 : w.heap.size + 3 ≤ w1.heap.size := by have := hb1.size; (try simp at this); omega
  obtain ⟨a1_0, c1_0, rfl⟩ := ho0.rd.isSlice
  obtain ⟨C1_0, D1_0, HO1_0, jc1_0, jd1_0, je1_0⟩ := ho0.ex (m := w.heap.size + 3) (by simp) hb1.size
  clear ho0
  obtain ⟨hc1, hf1⟩ := bcell hb1
  have z1_0 : w.heap.size < w1.heap.size := by omega
  have z1_1 : w.heap.size + 1 < w1.heap.size := by omega
  have z1_2 : w.heap.size + 1 + 1 < w1.heap.size := by omega
  go_wp2
  refine bodyPost_ret (v := .agg #[.int .i64 x.cap, .int .i64 x.next, .bool x.out, .slice a1_0 x.list.length c1_0]) (by simp [results, Try.results7, go_sem, cell_setCell, *]) rfl ?_
  exact ⟨_, rfl, own_DRing (C0 := C1_0) (D0 := D1_0) x  (by repeat' (first | (with_reducible exact HO1_0) | (with_reducible refine OwnB.setCell ?_ ?_ _) | (with_reducible refine OwnB.drew ?_) | (with_reducible refine OwnB.drewN ?_ _) | (with_reducible refine OwnB.below ?_ (by assumption)) | (with_reducible refine OwnB.alloc ?_ _) | omega)) (by omega), blw⟩



end Go.Proofs.Ytdjfmbdcdmmdfaa

namespace Go.Proofs.Ytdjfmbdcdmmdfaa
open Go.RowKit





end Go.Proofs.Ytdjfmbdcdmmdfaa

