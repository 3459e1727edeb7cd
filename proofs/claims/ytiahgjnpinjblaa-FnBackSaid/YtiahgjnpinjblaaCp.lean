/- Copies. -/
import Derived.Test.YtiahgjnpinjblaaBu
import Derived.Test.YtiahgjnpinjblaaRo
import Derived.Test.YtiahgjnpinjblaaEz
import Derived.Deep.RegionHeld3
import Derived.Deep.Cut
import Derived.Test.YtiahgjnpinjblaaTos
namespace Go.Proofs.Ytiahgjnpinjblaa
open Go.RowKit
theorem Row.empty {α : Type} [GoT α] (B : Nat) (w : World) (ao : Option Addr) : Row (α := α) B w (.slice ao 0 0) [] [] := by
  refine ⟨.inl ⟨ao, rfl, rfl, ?_⟩, ?_, fun _ h => (by cases h)⟩
  · cases ao <;> simp [rowP, own]
  · cases ao <;> simp [rowP, own] <;> exact Fresh.nil _ _
theorem src_built {α : Type} [GoT α] {w : World} {c : List Value} {x : α} {f : List Pos} (E : TypeId) (h : GoT.rd BIG w c x f) : Src (w.alloc (.cells c.toArray E)) (.slice (some ⟨w.heap.size, 0, none⟩) 1 1) [x] f := by
  have hb : Below w.heap.size w (w.alloc (.cells c.toArray E)) := (Below.refl _ _).alloc (Nat.le_refl _) _
  refine Src.one (c := c) ?_ (GoT.keep h (Live.same_below hb (Live.lt (GoT.live h))))
  have := row_at (c1 := []) (c2 := c) (c3 := []) (E := E) (fr := (0, 0)) (w := w.alloc (.cells c.toArray E)) (g := w.heap.size) (by simpa using heap_alloc_new w (.cells c.toArray E))
  simpa using this
theorem szs_mem {α : Type} [GoT α] [GoS α] : ∀ {l : List α} {x : α}, x ∈ l → GoS.sz x ≤ szs l
  | y :: ys, x, h => by
    simp only [szs]
    rcases List.mem_cons.1 h with rfl | h
    · omega
    · have := szs_mem h; omega
theorem szL_mem {α : Type} [GoT α] [GoS α] {l : List α} {x : α} (h : x ∈ l) : GoS.sz x ≤ szL l := by have := szs_mem h; unfold szL; omega
theorem szL_sub {α : Type} [GoT α] [GoS α] (l : List α) (k : Nat) : szL (l.take k) ≤ szL l ∧ szL (l.drop k) ≤ szL l := by
  have h := szs_append (l.take k) (l.drop k)
  rw [List.take_append_drop] at h
  unfold szL
  simp only [List.length_take, List.length_drop]
  constructor <;> omega
/-- memory made behind w0 -/
theorem Wr.nilBelow {w w' : World} (h : Wr [] w w') : Below w.heap.size w w' := h.below (Nat.le_refl _) (fun _ h => by cases h)
theorem impl_copyInts_c (v : Value) (l : List Int) (w : World) (h : RdS w v l) (hl : l.length ≤ 4000000) : Calls Try.prog 39 #[v] w (GivesS w l) := by
  obtain ⟨i0, hi, hz0, hz1, hz2⟩ := info_parts info_int2
  have HSRC := Lib.hid (Src.ints2 h)
  go_enter Try.func39, Try.ntmps39
  go_wp2_with (at_builtin; refine wpList_append_row rfl _ _ 23 rfl Try.underlying23 hi hz0 hz1 hz2 rfl rfl rfl (Row.nil w.heap.size _) HSRC.out (fun _ h => by cases h) ?c1 ?c2 ?c3 ?_)
  case c1 => simp; exact le_BIG (by omega)
  case c2 => simp; omega
  case c3 => exact Nat.le_refl _
  intro v' w1 hr hw _
  have HO := Lib.hid (hr.owns (Fresh.nil _ _))
  have HB := Lib.hid (hw.below (Nat.le_refl w.heap.size) (fun _ h => by cases h))
  clear hr hw
  go_wp2
  go_ret
  exact ⟨_, rfl, HO.out, HB.out⟩
set_option maxHeartbeats 2000000 in
set_option maxRecDepth 100000 in
theorem impl_copyOp_c (v : Value) (o : List DPart) (w : World) (h : RdS w v o) (hs : szL o ≤ 4000000) : Calls Try.prog 40 #[v] w (GivesS w o) := by
  have hl := fun w1 ty => h.len Try.underlying32 w1 ty
  obtain ⟨i0, hi, hz0, hz1, hz2⟩ := info_parts info_part
  have h1 : o.length ≤ 4000000 := by unfold szL at hs; omega
  have H2 : Hid (∀ p ∈ o, p.signs.length ≤ 4000000) := Lib.hid fun p hp => by have := szL_mem hp; simp only [GoS.sz, szL_int] at this; omega
  clear hs
  go_enter Try.func40, Try.ntmps40
  go_wp2
  go_loopw [3, 8] (fun z i wr => ∃ (k : Nat) (u : Value), u = z ∧ k ≤ o.length ∧ i = .int .i64 k ∧ OwnS w.heap.size wr u (o.take k) ∧ Below w.heap.size w wr) (fun _ i _ => o.length - (intOf i).toNat)
  case atStart => exact ⟨0, _, rfl, Nat.zero_le _, rfl, OwnS.empty _ _ _, blw⟩
  case round =>
    obtain ⟨k, u, rfl, hk, rfl, hu, hbw⟩ := hrel
    have hsz := hbw.size
    by_cases hlt : k < o.length
    · obtain ⟨p, hx⟩ := get_some hlt
      obtain ⟨b1, o1, cs, g1, g2, g3⟩ := (h.below hbw).idx Try.underlying32 szi_DPart k hx
      obtain ⟨v_signs, rfl, r_signs⟩ := inv_DPart g3
      have q0 := g2.zero
      have q1 := g2 1 _ rfl
      have q2 := g2 2 _ rfl
      obtain ⟨aa, ca, rfl⟩ := r_signs.isSlice
      have HT := Lib.hid (take_snoc hx)
      have hps := H2.out p (List.mem_of_getElem? hx)
      have hkl : (o.take k).length ≤ 4000000 := by simp; omega
      clear hx
      go_wp2_with fail
      refine (impl_copyInts_c _ p.signs _ (r_signs.below blw) hps).mono ?_
      rintro e w1 ⟨v1, rfl, ho1, hb1⟩
      have s1 := hb1.size
      (try simp at s1)
      obtain ⟨hc1, hf1⟩ := bcell hb1
      have z1 : wr.heap.size < w1.heap.size := by omega
      obtain ⟨f1, sf1, ff1⟩ := ho1
      obtain ⟨a1, c1, rfl⟩ := RdS.isSlice ⟨_, sf1⟩
      have HBW : Hid (Below wr.heap.size wr w1) := Lib.hid blw
      have HS1 := Lib.hid sf1
      have HF1 := Lib.hid (ff1.mono (B' := wr.heap.size) (by simp))
      obtain ⟨fs, hrow, hfs⟩ := hu.row
      have HROW := Lib.hid hrow
      have HFS := Lib.hid hfs
      obtain ⟨W, hW⟩ : ∃ W : World, W = w1.setCell ⟨wr.heap.size, 2, none⟩ (.slice a1 p.signs.length c1) := ⟨_, rfl⟩
      have HWB : Hid (Below wr.heap.size wr W) := Lib.hid (by rw [hW]; exact HBW.out.setCell (Nat.le_refl _) _)
      have hWs : w1.heap.size ≤ W.heap.size := by rw [hW]; simp
      have HSW : Hid (Sl BIG W (.slice a1 p.signs.length c1) p.signs f1) := Lib.hid (by
        rw [hW]
        refine sf1.keep fun q hq => ?_
        rw [cell_setCell, if_neg]
        rintro ⟨e1, _⟩
        have := ff1.ge q hq
        simp at this
        omega)
      have HFW : Hid (Fresh wr.heap.size W f1) := Lib.hid (by rw [hW]; exact HF1.out.put _ _)
      have k0 : W.cell? ⟨wr.heap.size, 0, none⟩ = some (.int .i64 p.kind) := by rw [hW, cell_setCell, if_neg (by simp), hc1 _ _ (by simp)]; simp
      have k1 : W.cell? ⟨wr.heap.size, 1, none⟩ = some (.int .i64 p.n) := by rw [hW, cell_setCell, if_neg (by simp), hc1 _ _ (by simp)]; simp
      have k2 : W.cell? ⟨wr.heap.size, 2, none⟩ = some (.slice a1 p.signs.length c1) := by rw [hW, cell_setCell, if_pos ⟨rfl, rfl⟩, hc1 _ _ (by simp)]; simp
      have zz0 : w1.cell? ⟨wr.heap.size, 2, none⟩ = some (.slice aa p.signs.length ca) := by rw [hc1 _ _ (by simp)]; simp
      have zz1 : w1.frozen? ⟨wr.heap.size, 2, none⟩ = false := by rw [hf1 _ _ (by simp)]; simp [go_sem]
      clear hc1 hf1 sf1 ff1 hrow hfs hu HS1 HF1
      go_upto_region 6 with (fail)
      rw [← hW]
      clear hW zz0 zz1
      go_wp2_with (at_builtin; refine wpList_append_row rfl _ _ 32 rfl Try.underlying32 hi hz0 hz1 hz2 rfl rfl rfl ((HROW.out.below HWB.out).below ((Below.refl _ _).alloc (Nat.le_refl _) _)) (src_built (x := p) 60 ⟨_, f1, rfl, HSW.out, rfl⟩) (fun q hq hm => by have e1 := HFW.out.ge q hq; have e2 := Live.lt (Live.append.1 HROW.out.1.live).1 q hm; omega) ?c1 ?c2 ?c3 ?_)
      case c1 => simp at hkl ⊢; exact le_BIG (by omega)
      case c2 => simp at hkl ⊢; omega
      case c3 => simp; omega
      intro v' w2 hr hw _
      have HO : Hid (OwnS w.heap.size w2 v' (o.take (k + 1))) := Lib.hid (by
        rw [HT.out]
        exact Row.grown HROW.out HFS.out (HWB.out.alloc (by omega) _) (HFW.out.belowL ((Below.refl _ _).alloc (Nat.le_refl _) _) (Live.lt HSW.out.live)) (HSW.out.belowW ((Below.refl _ _).alloc (Nat.le_refl _) _)).live hsz hr hw)
      have HB2 : Hid (Below w.heap.size w w2) := Lib.hid (below_after2 hbw (wrb (C := w.heap.size) hw (HWB.out.alloc (by omega) _) hsz (fun q hq => HROW.out.2.1.ge q hq)) (Nat.le_refl _))
      clear hr hw
      go_wp2
      go_roundw
      case rel => exact ⟨k + 1, _, rfl, by omega, by go_num, HO.out, HB2.out⟩
      case measure => simp [intOf]; omega
    · obtain rfl : k = o.length := by omega
      rw [List.take_length] at hu
      have HU := Lib.hid hu
      clear hu
      go_wp2
      go_ret
      exact ⟨_, rfl, HU.out, hbw⟩
set_option maxHeartbeats 4000000 in
set_option maxRecDepth 100000 in
theorem spec_l02Copy_c (v : Value) (o : List DPart) (w : World) (h : RdS w v o) (hs : szL o ≤ 4000000) : Calls Try.prog 83 #[v] w (GivesS w o) := by
  have hl := fun w1 ty => h.len Try.underlying32 w1 ty
  obtain ⟨i0, hi, hz0, hz1, hz2⟩ := info_parts info_part
  obtain ⟨j0, hj, jz0, jz1, jz2⟩ := info_parts info_int2
  have h1 : o.length ≤ 4000000 := by unfold szL at hs; omega
  have H2 : Hid (∀ p ∈ o, p.signs.length ≤ 4000000) := Lib.hid fun p hp => by have := szL_mem hp; simp only [GoS.sz, szL_int] at this; omega
  clear hs
  go_enter Try.func83, Try.ntmps83
  go_wp2
  go_loopw [3, 9] (fun z i wr => ∃ (k : Nat) (u : Value), u = z ∧ k ≤ o.length ∧ i = .int .i64 k ∧ OwnS w.heap.size wr u (o.take k) ∧ Below w.heap.size w wr) (fun _ i _ => o.length - (intOf i).toNat)
  case atStart => exact ⟨0, _, rfl, Nat.zero_le _, rfl, OwnS.empty _ _ _, blw⟩
  case round =>
    obtain ⟨k, u, rfl, hk, rfl, hu, hbw⟩ := hrel
    have hsz := hbw.size
    by_cases hlt : k < o.length
    · obtain ⟨p, hx⟩ := get_some hlt
      obtain ⟨b1, o1, cs, g1, g2, g3⟩ := (h.below hbw).idx Try.underlying32 szi_DPart k hx
      obtain ⟨v_signs, rfl, r_signs⟩ := inv_DPart g3
      have q0 := g2.zero
      have q1 := g2 1 _ rfl
      have q2 := g2 2 _ rfl
      obtain ⟨aa, ca, rfl⟩ := r_signs.isSlice
      have HT := Lib.hid (take_snoc hx)
      have hps := H2.out p (List.mem_of_getElem? hx)
      have hkl : (o.take k).length ≤ 4000000 := by simp; omega
      clear hx
      obtain ⟨fs, hrow, hfs⟩ := hu.row
      have HROW := Lib.hid hrow
      have HFS := Lib.hid hfs
      clear hrow hfs hu
      go_wp2_with fail
      obtain ⟨W, hW⟩ : ∃ W : World, W = wr.alloc (.cells #[.int .i64 p.kind, .int .i64 p.n, .slice aa p.signs.length ca] 60) := ⟨_, rfl⟩
      have hWB : Below wr.heap.size wr W := by rw [hW]; exact (Below.refl _ _).alloc (Nat.le_refl _) _
      have zW : wr.heap.size < W.heap.size := by rw [hW]; simp
      have k0 : W.cell? ⟨wr.heap.size, 0, none⟩ = some (.int .i64 p.kind) := by rw [hW]; simp
      have k1 : W.cell? ⟨wr.heap.size, 1, none⟩ = some (.int .i64 p.n) := by rw [hW]; simp
      have k2 : W.cell? ⟨wr.heap.size, 2, none⟩ = some (.slice aa p.signs.length ca) := by rw [hW]; simp
      rw [← hW]
      clear hW q0 q1 q2
      have HRS := Lib.hid r_signs
      clear r_signs g2 g3
      have HNB : Hid (∀ j, ((wr.heap.size, j) : Pos) ∉ rowP (GoT.n DPart) u) := Lib.hid fun j hm => by have := Live.lt (Live.append.1 HROW.out.1.live).1 _ hm; simp at this
      have HWB := Lib.hid hWB
      go_region_held3 (fun w' => w'.cell? ⟨wr.heap.size, 0, none⟩ = some (.int .i64 p.kind) ∧ w'.cell? ⟨wr.heap.size, 1, none⟩ = some (.int .i64 p.n) ∧ w'.cell? ⟨wr.heap.size, 2, none⟩ = some (.slice aa p.signs.length ca)) (go_keep)
        (first
          | ((refine step_append_row (by rfl) (.tmp 18) (.tmp 20) 23 (by rfl) Try.underlying23 hj jz0 jz1 jz2 rfl (by rfl) (by rfl) (Row.empty W.heap.size _ _) (Src.ints2 (HRS.out.below blw)) (fun _ h => by cases h) (le_BIG (by simp; omega)) (by simp; omega) (by simp) ?_); intro v1 w1 hr1 hw1 hn1; replace hr1 : Row W.heap.size w1 v1 p.signs [] := hr1; obtain ⟨a1, c1, rfl⟩ := hr1.rd.isSlice; have hb1 : Below W.heap.size W w1 := (((Below.refl W.heap.size W).drew).alloc (Nat.le_refl _) _).trans (hw1.nilBelow.mono (by simp)); have HSL := hr1.1; rw [List.append_nil] at HSL; have HSL := Lib.hid HSL; have HR1 := Lib.hid hr1; have HB1 := Lib.hid hb1; have s1 := hb1.size; have y0 := (hb1.cell (p := ⟨wr.heap.size, 0, none⟩) zW).trans k0; have y1 := (hb1.cell (p := ⟨wr.heap.size, 1, none⟩) zW).trans k1; have y2 := (hb1.cell (p := ⟨wr.heap.size, 2, none⟩) zW).trans k2; clear hr1 hw1 hn1 hb1)
          | ((refine step_append_row (by rfl) (.tmp 13) (.tmp 23) 32 (by rfl) Try.underlying32 hi hz0 hz1 hz2 rfl (by rfl) (by rfl) ((HROW.out.below (below_after2 HWB.out HB1.out (by omega))).below ((Below.refl _ _).alloc (Nat.le_refl _) _)) (src_built (x := p) 60 ⟨_, _, rfl, HSL.out, rfl⟩) (fun q hq hm => by have e1 := HR1.out.2.1.ge q hq; have e2 := Live.lt (Live.append.1 HROW.out.1.live).1 q hm; omega) (le_BIG (by simp; omega)) (by simp; omega) (by simp; omega) ?_); intro v2 w2 hr2 hw2 hn2; have HR2 := Lib.hid hr2; have HW2 := Lib.hid hw2; have x0 := cellw ((Below.refl _ _).alloc (Nat.le_refl _) _) hw2 y0 (HNB.out 0); have x1 := cellw ((Below.refl _ _).alloc (Nat.le_refl _) _) hw2 y1 (HNB.out 1); have x2 := cellw ((Below.refl _ _).alloc (Nat.le_refl _) _) hw2 y2 (HNB.out 2); clear hr2 hw2 hn2))
      all_goals
        have HO : Hid (OwnS w.heap.size w2 v2 (o.take (k + 1))) := Lib.hid (by
          rw [HT.out]
          have hb2 : Below wr.heap.size wr w1 := below_after2 HWB.out HB1.out (by omega)
          exact Row.grown HROW.out HFS.out (hb2.alloc (by omega) _) ((HR1.out.2.1.mono (by omega)).belowL ((Below.refl _ _).alloc (Nat.le_refl _) _) (Live.lt (Live.append.1 HR1.out.1.live).1)) ((HSL.out.belowW ((Below.refl _ _).alloc (Nat.le_refl _) _)).live) hsz HR2.out HW2.out)
        have HB2 : Hid (Below w.heap.size w w2) := Lib.hid (below_after2 hbw (wrb (C := w.heap.size) HW2.out ((below_after2 HWB.out HB1.out (by omega)).alloc (by omega) _) hsz (fun q hq => HROW.out.2.1.ge q hq)) (Nat.le_refl _))
        go_wp2
        go_roundw
        case rel => exact ⟨k + 1, _, rfl, by omega, by go_num, HO.out, HB2.out⟩
        case measure => simp [intOf]; omega
    · obtain rfl : k = o.length := by omega
      rw [List.take_length] at hu
      have HU := Lib.hid hu
      clear hu
      go_wp2
      go_ret
      exact ⟨_, rfl, HU.out, hbw⟩
end Go.Proofs.Ytiahgjnpinjblaa

namespace Go.Proofs.Ytiahgjnpinjblaa
open Go.RowKit
theorem OwnS.poke {α : Type} [GoT α] {B : Nat} {w : World} {v : Value} {l : List α} (h : OwnS B w v l) {b o : Nat} (hb : b < B) (u : Value) : OwnS B (w.setCell ⟨b, o, none⟩ u) v l := by
  obtain ⟨f, s, k⟩ := h
  refine ⟨f, s.keep fun p hp => ?_, k.put _ _⟩
  rw [cell_setCell, if_neg]
  rintro ⟨e, _⟩
  have := k.ge p hp
  omega
theorem OwnS.alloc2 {α : Type} [GoT α] {B : Nat} {w : World} {v : Value} {l : List α} (h : OwnS B w v l) (o : Obj) : OwnS B (w.alloc o) v l := h.below ((Below.refl _ _).alloc (Nat.le_refl _) _)
theorem own_entry {B : Nat} {w : World} {v_o : Value} {e : DEntry} (h : OwnS B w v_o e.o) : Own B w [.int .i64 e.client, .int .i64 e.seq, v_o] e := by
  obtain ⟨f, s, k⟩ := h
  exact ⟨f, ⟨v_o, f, rfl, s, rfl⟩, k⟩
theorem own_ring {B : Nat} {w : World} {v : Value} {r : DRing} (h : OwnS B w v r.list) : Own B w [.int .i64 r.cap, .int .i64 r.next, .bool r.out, v] r := by
  obtain ⟨f, s, k⟩ := h
  exact ⟨f, ⟨v, f, rfl, s, rfl⟩, k⟩
set_option maxRecDepth 100000 in
theorem spec_l08Entry_c (e : DEntry) (v_o : Value) (w : World) (h : RdS w v_o e.o) (hs : szL e.o ≤ 4000000) : Calls Try.prog 82 #[.agg #[.int .i64 e.client, .int .i64 e.seq, v_o]] w (Gives w e) := by
  go_enter Try.func82, Try.ntmps82
  go_wp2_with fail
  obtain ⟨W, hW⟩ : ∃ W : World, W = (w.alloc (.cells #[.int .i64 e.client, .int .i64 e.seq, v_o] 76)).alloc (.cells #[.int .i64 0, .int .i64 0, .slice none 0 0] 76) := ⟨_, rfl⟩
  have hWB : Below w.heap.size w W := by rw [hW]; exact blw
  have zW : w.heap.size + 1 < W.heap.size := by rw [hW]; simp
  have k0 : W.cell? ⟨w.heap.size, 0, none⟩ = some (.int .i64 e.client) := by rw [hW]; simp [go_sem]
  have k1 : W.cell? ⟨w.heap.size, 1, none⟩ = some (.int .i64 e.seq) := by rw [hW]; simp [go_sem]
  have k2 : W.cell? ⟨w.heap.size, 2, none⟩ = some v_o := by rw [hW]; simp [go_sem]
  have r0 : W.cell? ⟨w.heap.size + 1, 0, none⟩ = some (.int .i64 0) := by rw [hW]; simp [go_sem]
  have r1 : W.cell? ⟨w.heap.size + 1, 1, none⟩ = some (.int .i64 0) := by rw [hW]; simp [go_sem]
  have r2 : W.cell? ⟨w.heap.size + 1, 2, none⟩ = some (.slice none 0 0) := by rw [hW]; simp [go_sem]
  have f0 : W.frozen? ⟨w.heap.size + 1, 0, none⟩ = false := by rw [hW]; simp [go_sem]
  have f1 : W.frozen? ⟨w.heap.size + 1, 1, none⟩ = false := by rw [hW]; simp [go_sem]
  have f2 : W.frozen? ⟨w.heap.size + 1, 2, none⟩ = false := by rw [hW]; simp [go_sem]
  rw [← hW]
  clear hW
  have zW0 : w.heap.size < W.heap.size := by omega
  go_region_held3 (fun w' => w'.cell? ⟨w.heap.size, 0, none⟩ = some (.int .i64 e.client) ∧ w'.cell? ⟨w.heap.size, 1, none⟩ = some (.int .i64 e.seq) ∧ w'.cell? ⟨w.heap.size, 2, none⟩ = some v_o) (first | go_keep | (simp [cell_setCell, *]; done))
    (first | (go_at_call 83; refine (spec_l02Copy_c _ e.o _ (h.below blw) hs).mono ?_; rintro e' w1 ⟨v1, rfl, ho1, hb1⟩; have s1 := hb1.size; have HB1 : Hid (Below W.heap.size W w1) := Lib.hid blw; have HO1 := Lib.hid ho1; have y0 := (HB1.out.cell (p := ⟨w.heap.size, 0, none⟩) zW0).trans k0; have y1 := (HB1.out.cell (p := ⟨w.heap.size, 1, none⟩) zW0).trans k1; have y2 := (HB1.out.cell (p := ⟨w.heap.size, 2, none⟩) zW0).trans k2; have x0 := (HB1.out.cell (p := ⟨w.heap.size + 1, 0, none⟩) zW).trans r0; have x1 := (HB1.out.cell (p := ⟨w.heap.size + 1, 1, none⟩) zW).trans r1; have x2 := (HB1.out.cell (p := ⟨w.heap.size + 1, 2, none⟩) zW).trans r2; have t0 := (HB1.out.frozen (p := ⟨w.heap.size + 1, 0, none⟩) zW).trans f0; have t1 := (HB1.out.frozen (p := ⟨w.heap.size + 1, 1, none⟩) zW).trans f1; have t2 := (HB1.out.frozen (p := ⟨w.heap.size + 1, 2, none⟩) zW).trans f2; obtain ⟨a1, c1, rfl⟩ := ho1.rd.isSlice; clear ho1 hb1))
  all_goals
    have HR : Hid (OwnS w.heap.size (((w1.setCell ⟨w.heap.size + 1, 0, none⟩ (.int .i64 e.client)).setCell ⟨w.heap.size + 1, 1, none⟩ (.int .i64 e.seq)).setCell ⟨w.heap.size + 1, 2, none⟩ (.slice a1 e.o.length c1)) (.slice a1 e.o.length c1) e.o) := Lib.hid ((((HO1.out.poke (by simpa using zW) _).poke (by simpa using zW) _).poke (by simpa using zW) _).mono (by simp; omega))
    have HB : Hid (Below w.heap.size w w1) := Lib.hid (below_after hWB HB1.out (by omega))
    go_wp2
    exact bodyPost_ret (v := .agg #[.int .i64 e.client, .int .i64 e.seq, .slice a1 e.o.length c1]) (by simp [results, Try.results82, go_sem, cell_setCell, *]) rfl ⟨_, rfl, own_entry HR.out, ((HB.out.setCell (by simp) _).setCell (by simp) _).setCell (by simp) _⟩
set_option maxHeartbeats 2000000 in
set_option maxRecDepth 100000 in
theorem spec_l08Entries_c (v : Value) (l : List DEntry) (w : World) (h : RdS w v l) (hs : szL l ≤ 4000000) : Calls Try.prog 72 #[v] w (GivesS w l) := by
  have hl := fun w1 ty => h.len Try.underlying24 w1 ty
  obtain ⟨i0, hi, hz0, hz1, hz2⟩ := info_parts info_DEntry
  have h1 : l.length ≤ 4000000 := by unfold szL at hs; omega
  have H2 : Hid (∀ e ∈ l, szL e.o ≤ 4000000) := Lib.hid fun e he => by have := szL_mem he; simp only [GoS.sz] at this; omega
  clear hs
  go_enter Try.func72, Try.ntmps72
  go_wp2
  go_loopw [3, 9] (fun z i wr => ∃ (k : Nat) (u : Value), u = z ∧ k ≤ l.length ∧ i = .int .i64 k ∧ OwnS w.heap.size wr u (l.take k) ∧ Below w.heap.size w wr) (fun _ i _ => l.length - (intOf i).toNat)
  case atStart => exact ⟨0, _, rfl, Nat.zero_le _, rfl, OwnS.empty _ _ _, blw⟩
  case round =>
    obtain ⟨k, u, rfl, hk, rfl, hu, hbw⟩ := hrel
    have hsz := hbw.size
    by_cases hlt : k < l.length
    · obtain ⟨p, hx⟩ := get_some hlt
      obtain ⟨b1, o1, cs, g1, g2, g3⟩ := (h.below hbw).idx Try.underlying24 szi_DEntry k hx
      obtain ⟨v_o, rfl, r_o⟩ := inv_DEntry g3
      have q0 := g2.zero
      have q1 := g2 1 _ rfl
      have q2 := g2 2 _ rfl
      obtain ⟨aa, ca, rfl⟩ := r_o.isSlice
      have HT := Lib.hid (take_snoc hx)
      have hps := H2.out p (List.mem_of_getElem? hx)
      have hkl : (l.take k).length ≤ 4000000 := by simp; omega
      clear hx
      obtain ⟨fs, hrow, hfs⟩ := hu.row
      have HROW := Lib.hid hrow
      have HFS := Lib.hid hfs
      clear hrow hfs hu
      go_wp2_with fail
      refine (spec_l08Entry_c p _ _ (r_o.below blw) hps).mono ?_
      rintro e w1 ⟨_, rfl, ho, hb1⟩
      obtain ⟨f, hrd, hfr⟩ := ho
      obtain ⟨v1, fv1, rfl, sv1, rfl⟩ := hrd
      obtain ⟨a1, c1, rfl⟩ := RdS.isSlice ⟨_, sv1⟩
      have hb1' : Below wr.heap.size wr w1 := blw
      have HB1 := Lib.hid hb1'
      have s1 := hb1'.size
      have HFR := Lib.hid (hfr.mono (B' := wr.heap.size) (by simp))
      have HSV := Lib.hid sv1
      clear hb1 hb1' hfr sv1
      go_wp2_with (at_builtin; refine wpList_append_row rfl _ _ 24 rfl Try.underlying24 hi hz0 hz1 hz2 rfl rfl rfl ((HROW.out.below HB1.out).below ((Below.refl _ _).alloc (Nat.le_refl _) _)) (src_built (x := p) 76 ⟨_, f, rfl, HSV.out, rfl⟩) (fun q hq hm => by have e1 := HFR.out.ge q hq; have e2 := Live.lt (Live.append.1 HROW.out.1.live).1 q hm; omega) ?c1 ?c2 ?c3 ?_)
      case c1 => simp at hkl ⊢; exact le_BIG (by omega)
      case c2 => simp at hkl ⊢; omega
      case c3 => simp; omega
      intro v' w2 hr hw _
      have HO : Hid (OwnS w.heap.size w2 v' (l.take (k + 1))) := Lib.hid (by
        rw [HT.out]
        exact Row.grown HROW.out HFS.out (HB1.out.alloc (by omega) _) (HFR.out.belowL ((Below.refl _ _).alloc (Nat.le_refl _) _) (Live.lt HSV.out.live)) (HSV.out.belowW ((Below.refl _ _).alloc (Nat.le_refl _) _)).live hsz hr hw)
      have HB2 : Hid (Below w.heap.size w w2) := Lib.hid (below_after2 hbw (wrb (C := w.heap.size) hw (HB1.out.alloc (by omega) _) hsz (fun q hq => HROW.out.2.1.ge q hq)) (Nat.le_refl _))
      clear hr hw
      go_wp2
      go_roundw
      case rel => exact ⟨k + 1, _, rfl, by omega, by go_num, HO.out, HB2.out⟩
      case measure => simp [intOf]; omega
    · obtain rfl : k = l.length := by omega
      rw [List.take_length] at hu
      have HU := Lib.hid hu
      clear hu
      go_wp2
      go_ret
      exact ⟨_, rfl, HU.out, hbw⟩
end Go.Proofs.Ytiahgjnpinjblaa

