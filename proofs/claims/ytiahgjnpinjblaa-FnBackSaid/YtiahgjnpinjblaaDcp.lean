/- Names, operations of entries, copies of documents. -/
import Derived.Test.YtiahgjnpinjblaaApl
import Derived.Deep.RegionHeld3
import Derived.Deep.DrawnRows
namespace Go.Proofs.Ytiahgjnpinjblaa
open Go.RowKit
attribute [local go_sem ↓] Go.wp_at_zero Go.wp_at_succ
theorem info_seen : (Try.prog.info? 65).map (fun i => (i.zero, i.size, i.bytes)) = some (some (.agg #[.int .i64 0, .int .i64 0, .int .i64 0]), 3, 24) := by kernel_rfl
theorem rdSeen_fp {M : Nat} {w : World} {c : List Value} {x : DSeen} {f : List Pos} (h : GoT.rd M w c x f) : f = [] := h.2
theorem Src.seens {w : World} {v : Value} {l : List DSeen} (h : RdS w v l) : Src w v l [] := by
  obtain ⟨gs, ao, c, news, h1, h2, h3⟩ := h.src
  have := Els.flat (α := DSeen) rdSeen_fp h2
  subst this
  exact ⟨ao, c, news, h1, h2, h3⟩
theorem Row.flatB {α : Type} [GoT α] {B : Nat} {w : World} {v : Value} {l : List α} (h : Row B w v l []) : OwnB B w.heap.size w v l := (h.owns (Fresh.nil _ _)).bd

set_option maxHeartbeats 8000000 in
set_option maxRecDepth 100000 in
theorem spec_l08Copy_c (d : DDoc) (v_text v_list v_seen : Value) (w : World) (n_name : d.name.size ≤ BIG) (h_text : RdS w v_text d.text) (h_list : RdS w v_list d.list) (h_seen : RdS w v_seen d.seen) (b_text : d.text.length ≤ 4000000) (b_list : szL d.list ≤ 4000000) (b_seen : d.seen.length ≤ 4000000) :
    Calls Try.prog 53 #[.agg #[.string d.name, .int .i64 d.from_, v_text, v_list, v_seen]] w (Gives w d) := by
  obtain ⟨i0, hi, hz0, hz1, hz2⟩ := info_parts info_seen
  obtain ⟨j0, hj, jz0, jz1, jz2⟩ := info_parts info_int2
  go_enter Try.func53, Try.ntmps53
  go_wp2_with fail
  obtain ⟨W, hW⟩ : ∃ W : World, W = (w.alloc (.cells #[.string d.name, .int .i64 d.from_, v_text, v_list, v_seen] 27)).alloc (.cells #[.string ⟨#[]⟩, .int .i64 0, .slice none 0 0, .slice none 0 0, .slice none 0 0] 27) := ⟨_, rfl⟩
  have hWB : Below w.heap.size w W := by rw [hW]; exact blw
  have zW : w.heap.size + 1 < W.heap.size := by rw [hW]; simp
  have zW0 : w.heap.size < W.heap.size := by omega
  have k0 : W.cell? ⟨w.heap.size, 0, none⟩ = some (.string d.name) := by rw [hW]; simp [go_sem]
  have k1 : W.cell? ⟨w.heap.size, 1, none⟩ = some (.int .i64 d.from_) := by rw [hW]; simp [go_sem]
  have k2 : W.cell? ⟨w.heap.size, 2, none⟩ = some (v_text) := by rw [hW]; simp [go_sem]
  have k3 : W.cell? ⟨w.heap.size, 3, none⟩ = some (v_list) := by rw [hW]; simp [go_sem]
  have k4 : W.cell? ⟨w.heap.size, 4, none⟩ = some (v_seen) := by rw [hW]; simp [go_sem]
  have r0 : W.cell? ⟨w.heap.size + 1, 0, none⟩ = some (.string ⟨#[]⟩) := by rw [hW]; simp [go_sem]
  have f0 : W.frozen? ⟨w.heap.size + 1, 0, none⟩ = false := by rw [hW]; simp [go_sem]
  have r1 : W.cell? ⟨w.heap.size + 1, 1, none⟩ = some (.int .i64 0) := by rw [hW]; simp [go_sem]
  have f1 : W.frozen? ⟨w.heap.size + 1, 1, none⟩ = false := by rw [hW]; simp [go_sem]
  have r2 : W.cell? ⟨w.heap.size + 1, 2, none⟩ = some (.slice none 0 0) := by rw [hW]; simp [go_sem]
  have f2 : W.frozen? ⟨w.heap.size + 1, 2, none⟩ = false := by rw [hW]; simp [go_sem]
  have r3 : W.cell? ⟨w.heap.size + 1, 3, none⟩ = some (.slice none 0 0) := by rw [hW]; simp [go_sem]
  have f3 : W.frozen? ⟨w.heap.size + 1, 3, none⟩ = false := by rw [hW]; simp [go_sem]
  have r4 : W.cell? ⟨w.heap.size + 1, 4, none⟩ = some (.slice none 0 0) := by rw [hW]; simp [go_sem]
  have f4 : W.frozen? ⟨w.heap.size + 1, 4, none⟩ = false := by rw [hW]; simp [go_sem]
  rw [← hW]
  clear hW
  have HXT := Lib.hid (h_text.below hWB)
  have HXL := Lib.hid (h_list.below hWB)
  have HXS := Lib.hid (h_seen.below hWB)
  clear h_text h_list h_seen
  go_region_held3 (fun w' => w'.cell? ⟨w.heap.size, 0, none⟩ = some (.string d.name) ∧ w'.cell? ⟨w.heap.size, 1, none⟩ = some (.int .i64 d.from_) ∧ w'.cell? ⟨w.heap.size, 2, none⟩ = some (v_text) ∧ w'.cell? ⟨w.heap.size, 3, none⟩ = some (v_list) ∧ w'.cell? ⟨w.heap.size, 4, none⟩ = some (v_seen)) (first | go_keep | (simp [cell_setCell, *]; done))
    (first
      | ((refine step_append_row (by rfl) (.tmp 7) (.tmp 9) 23 (by rfl) Try.underlying23 hj jz0 jz1 jz2 rfl (by rfl) (by rfl) (Row.empty W.heap.size _ _) (Src.ints2 (HXT.out.below blw)) (fun _ h => by cases h) (le_BIG (by simp; omega)) (by simp; omega) (by first | (simp; done) | (simp; omega)) ?_); intro v1 w1 hr1 hw1 hn1; replace hr1 : Row W.heap.size w1 v1 d.text [] := hr1; obtain ⟨a1, c1, rfl⟩ := hr1.rd.isSlice; have B1 : Below W.heap.size W w1 := (show Below W.heap.size W _ from blw).trans (hw1.nilBelow.mono om); have s1 := B1.size; have H1 := Lib.hid hr1.flatB; clear hr1 hw1 hn1; have y1_0 := (B1.cell (p := ⟨w.heap.size, 0, none⟩) zW0).trans k0; have y1_1 := (B1.cell (p := ⟨w.heap.size, 1, none⟩) zW0).trans k1; have y1_2 := (B1.cell (p := ⟨w.heap.size, 2, none⟩) zW0).trans k2; have y1_3 := (B1.cell (p := ⟨w.heap.size, 3, none⟩) zW0).trans k3; have y1_4 := (B1.cell (p := ⟨w.heap.size, 4, none⟩) zW0).trans k4; have x1_0 := (B1.cell (p := ⟨w.heap.size + 1, 0, none⟩) zW).trans r0; have t1_0 := (B1.frozen (p := ⟨w.heap.size + 1, 0, none⟩) zW).trans f0; have x1_1 := (B1.cell (p := ⟨w.heap.size + 1, 1, none⟩) zW).trans r1; have t1_1 := (B1.frozen (p := ⟨w.heap.size + 1, 1, none⟩) zW).trans f1; have x1_2 := (B1.cell (p := ⟨w.heap.size + 1, 2, none⟩) zW).trans r2; have t1_2 := (B1.frozen (p := ⟨w.heap.size + 1, 2, none⟩) zW).trans f2; have x1_3 := (B1.cell (p := ⟨w.heap.size + 1, 3, none⟩) zW).trans r3; have t1_3 := (B1.frozen (p := ⟨w.heap.size + 1, 3, none⟩) zW).trans f3; have x1_4 := (B1.cell (p := ⟨w.heap.size + 1, 4, none⟩) zW).trans r4; have t1_4 := (B1.frozen (p := ⟨w.heap.size + 1, 4, none⟩) zW).trans f4)
      | (go_at_call 72; refine (spec_l08Entries_c _ d.list _ (HXL.out.below blw) b_list).mono ?_; rintro e' w2 ⟨v2, rfl, ho2, hb2⟩; have Q2 : Below w1.heap.size w1 w2 := (show Below w1.heap.size w1 _ from blw).trans (hb2.mono om); have B2 : Below W.heap.size W w2 := B1.trans (Q2.mono om); have s2 := Q2.size; obtain ⟨a2, c2, rfl⟩ := ho2.rd.isSlice; have H2 : Hid (OwnB w1.heap.size w2.heap.size w2 (.slice a2 d.list.length c2) d.list) := Lib.hid (ho2.mono om).bd; have H12 := Lib.hid (H1.out.below Q2); clear ho2 hb2; have y2_0 := (B2.cell (p := ⟨w.heap.size, 0, none⟩) zW0).trans k0; have y2_1 := (B2.cell (p := ⟨w.heap.size, 1, none⟩) zW0).trans k1; have y2_2 := (B2.cell (p := ⟨w.heap.size, 2, none⟩) zW0).trans k2; have y2_3 := (B2.cell (p := ⟨w.heap.size, 3, none⟩) zW0).trans k3; have y2_4 := (B2.cell (p := ⟨w.heap.size, 4, none⟩) zW0).trans k4; have x2_0 := (B2.cell (p := ⟨w.heap.size + 1, 0, none⟩) zW).trans r0; have t2_0 := (B2.frozen (p := ⟨w.heap.size + 1, 0, none⟩) zW).trans f0; have x2_1 := (B2.cell (p := ⟨w.heap.size + 1, 1, none⟩) zW).trans r1; have t2_1 := (B2.frozen (p := ⟨w.heap.size + 1, 1, none⟩) zW).trans f1; have x2_2 := (B2.cell (p := ⟨w.heap.size + 1, 2, none⟩) zW).trans r2; have t2_2 := (B2.frozen (p := ⟨w.heap.size + 1, 2, none⟩) zW).trans f2; have x2_3 := (B2.cell (p := ⟨w.heap.size + 1, 3, none⟩) zW).trans r3; have t2_3 := (B2.frozen (p := ⟨w.heap.size + 1, 3, none⟩) zW).trans f3; have x2_4 := (B2.cell (p := ⟨w.heap.size + 1, 4, none⟩) zW).trans r4; have t2_4 := (B2.frozen (p := ⟨w.heap.size + 1, 4, none⟩) zW).trans f4)
      | ((refine step_append_row (by rfl) (.tmp 14) (.tmp 16) 25 (by rfl) Try.underlying25 hi hz0 hz1 hz2 rfl (by rfl) (by rfl) (Row.empty w2.heap.size _ _) (Src.seens (HXS.out.below blw)) (fun _ h => by cases h) (le_BIG (by simp; omega)) (by simp; omega) (by first | (simp; done) | (simp; omega)) ?_); intro v3 w3 hr3 hw3 hn3; replace hr3 : Row w2.heap.size w3 v3 d.seen [] := hr3; obtain ⟨a3, c3, rfl⟩ := hr3.rd.isSlice; have Q3 : Below w2.heap.size w2 w3 := (show Below w2.heap.size w2 _ from blw).trans (hw3.nilBelow.mono om); have B3 : Below W.heap.size W w3 := B2.trans (Q3.mono om); have s3 := Q3.size; have H3 := Lib.hid hr3.flatB; have H13 := Lib.hid (H12.out.below Q3); have H23 := Lib.hid (H2.out.below Q3); clear hr3 hw3 hn3; have y3_0 := (B3.cell (p := ⟨w.heap.size, 0, none⟩) zW0).trans k0; have y3_1 := (B3.cell (p := ⟨w.heap.size, 1, none⟩) zW0).trans k1; have y3_2 := (B3.cell (p := ⟨w.heap.size, 2, none⟩) zW0).trans k2; have y3_3 := (B3.cell (p := ⟨w.heap.size, 3, none⟩) zW0).trans k3; have y3_4 := (B3.cell (p := ⟨w.heap.size, 4, none⟩) zW0).trans k4; have x3_0 := (B3.cell (p := ⟨w.heap.size + 1, 0, none⟩) zW).trans r0; have t3_0 := (B3.frozen (p := ⟨w.heap.size + 1, 0, none⟩) zW).trans f0; have x3_1 := (B3.cell (p := ⟨w.heap.size + 1, 1, none⟩) zW).trans r1; have t3_1 := (B3.frozen (p := ⟨w.heap.size + 1, 1, none⟩) zW).trans f1; have x3_2 := (B3.cell (p := ⟨w.heap.size + 1, 2, none⟩) zW).trans r2; have t3_2 := (B3.frozen (p := ⟨w.heap.size + 1, 2, none⟩) zW).trans f2; have x3_3 := (B3.cell (p := ⟨w.heap.size + 1, 3, none⟩) zW).trans r3; have t3_3 := (B3.frozen (p := ⟨w.heap.size + 1, 3, none⟩) zW).trans f3; have x3_4 := (B3.cell (p := ⟨w.heap.size + 1, 4, none⟩) zW).trans r4; have t3_4 := (B3.frozen (p := ⟨w.heap.size + 1, 4, none⟩) zW).trans f4))
  all_goals
    have HR : Hid (Own w.heap.size (((((w3.setCell ⟨w.heap.size + 1, 0, none⟩ (.string d.name)).setCell ⟨w.heap.size + 1, 1, none⟩ (.int .i64 d.from_)).setCell ⟨w.heap.size + 1, 2, none⟩ (.slice a1 d.text.length c1)).setCell ⟨w.heap.size + 1, 3, none⟩ (.slice a2 d.list.length c2)).setCell ⟨w.heap.size + 1, 4, none⟩ (.slice a3 d.seen.length c3)) [.string d.name, .int .i64 d.from_, .slice a1 d.text.length c1, .slice a2 d.list.length c2, .slice a3 d.seen.length c3] d) := Lib.hid (own_DDoc d n_name (((((H13.out.setCell (.inl (by omega)) (.string d.name)).setCell (.inl (by omega)) (.int .i64 d.from_)).setCell (.inl (by omega)) (.slice a1 d.text.length c1)).setCell (.inl (by omega)) (.slice a2 d.list.length c2)).setCell (.inl (by omega)) (.slice a3 d.seen.length c3)) (((((H23.out.setCell (.inl (by omega)) (.string d.name)).setCell (.inl (by omega)) (.int .i64 d.from_)).setCell (.inl (by omega)) (.slice a1 d.text.length c1)).setCell (.inl (by omega)) (.slice a2 d.list.length c2)).setCell (.inl (by omega)) (.slice a3 d.seen.length c3)) (((((H3.out.setCell (.inl (by omega)) (.string d.name)).setCell (.inl (by omega)) (.int .i64 d.from_)).setCell (.inl (by omega)) (.slice a1 d.text.length c1)).setCell (.inl (by omega)) (.slice a2 d.list.length c2)).setCell (.inl (by omega)) (.slice a3 d.seen.length c3)) (by omega) (by omega) (by omega) (by omega) (by omega) (by omega))
    have HB : Hid (Below w.heap.size w (((((w3.setCell ⟨w.heap.size + 1, 0, none⟩ (.string d.name)).setCell ⟨w.heap.size + 1, 1, none⟩ (.int .i64 d.from_)).setCell ⟨w.heap.size + 1, 2, none⟩ (.slice a1 d.text.length c1)).setCell ⟨w.heap.size + 1, 3, none⟩ (.slice a2 d.list.length c2)).setCell ⟨w.heap.size + 1, 4, none⟩ (.slice a3 d.seen.length c3))) := Lib.hid ((((((hWB.trans (B3.mono (by omega))).setCell (by simp) _).setCell (by simp) _).setCell (by simp) _).setCell (by simp) _).setCell (by simp) _)
    go_wp2
    exact bodyPost_ret (v := .agg #[.string d.name, .int .i64 d.from_, .slice a1 d.text.length c1, .slice a2 d.list.length c2, .slice a3 d.seen.length c3]) (by simp [results, Try.results53, go_sem, cell_setCell, *]) rfl ⟨_, rfl, HR.out, HB.out⟩
theorem info_ops : (Try.prog.info? 32).map (fun i => (i.zero, i.size, i.bytes)) = some (some (.slice none 0 0), 1, 24) := by kernel_rfl
set_option maxHeartbeats 2000000 in
set_option maxRecDepth 100000 in
theorem impl_opsOf_c (v : Value) (l : List DEntry) (w : World) (h : RdS w v l) (hs : szL l ≤ 4000000) : Calls Try.prog 20 #[v] w (GivesS w (l.map DEntry.o)) := by
  have hl := fun w1 ty => h.len Try.underlying24 w1 ty
  obtain ⟨i0, hi, hz0, hz1, hz2⟩ := info_parts info_ops
  have h1 : l.length ≤ 4000000 := by unfold szL at hs; omega
  have H2 : Hid (∀ e ∈ l, szL e.o ≤ 4000000) := Lib.hid fun e he => by have := szL_mem he; simp only [GoS.sz] at this; omega
  clear hs
  go_enter Try.func20, Try.ntmps20
  go_wp2
  go_loopw [3, 8] (fun z i wr => ∃ (k : Nat) (u : Value), u = z ∧ k ≤ l.length ∧ i = .int .i64 k ∧ OwnS w.heap.size wr u ((l.map DEntry.o).take k) ∧ Below w.heap.size w wr) (fun _ i _ => l.length - (intOf i).toNat)
  case atStart => exact ⟨0, _, rfl, Nat.zero_le _, rfl, OwnS.empty _ _ _, blw⟩
  case round =>
    obtain ⟨k, u, rfl, hk, rfl, hu, hbw⟩ := hrel
    have hsz := hbw.size
    by_cases hlt : k < l.length
    · obtain ⟨p, hx⟩ := get_some hlt
      obtain ⟨b1, o1, cs, g1, g2, g3⟩ := (h.below hbw).idx Try.underlying24 szi_DEntry k hx
      obtain ⟨v_o, rfl, r_o⟩ := inv_DEntry g3
      have q0 := g2.zero
      have q1 := g2 1 _ rfl
      have q2 := g2 2 _ rfl
      obtain ⟨aa, ca, rfl⟩ := r_o.isSlice
      have HT : Hid ((l.map DEntry.o).take (k + 1) = (l.map DEntry.o).take k ++ [p.o]) := Lib.hid (by refine take_snoc ?_; simp [hx])
      have hps := H2.out p (List.mem_of_getElem? hx)
      have hkl : ((l.map DEntry.o).take k).length ≤ 4000000 := by simp; omega
      clear hx
      obtain ⟨fs, hrow, hfs⟩ := hu.row
      have HROW := Lib.hid hrow
      have HFS := Lib.hid hfs
      clear hrow hfs hu
      go_wp2_with fail
      refine (impl_copyOp_c _ p.o _ (r_o.below blw) hps).mono ?_
      rintro e w1 ⟨v1, rfl, ho, hb1⟩
      obtain ⟨f, hrd, hfr⟩ := ho
      obtain ⟨a1, c1, rfl⟩ := RdS.isSlice ⟨_, hrd⟩
      have hb1' : Below wr.heap.size wr w1 := blw
      have HB1 := Lib.hid hb1'
      have s1 := hb1'.size
      have HFR := Lib.hid (hfr.mono (B' := wr.heap.size) (by simp))
      have HSV := Lib.hid hrd
      clear hb1 hb1' hfr hrd
      go_wp2_with (at_builtin; refine wpList_append_row rfl _ _ 50 rfl Try.underlying50 hi hz0 hz1 hz2 rfl rfl rfl ((HROW.out.below HB1.out).below ((Below.refl _ _).alloc (Nat.le_refl _) _)) (src_built (x := p.o) 32 ⟨_, rfl, HSV.out⟩) (fun q hq hm => by have e1 := HFR.out.ge q hq; have e2 := Live.lt (Live.append.1 HROW.out.1.live).1 q hm; omega) ?c1 ?c2 ?c3 ?_)
      case c1 => simp at hkl ⊢; exact le_BIG (by omega)
      case c2 => simp at hkl ⊢; omega
      case c3 => simp; omega
      intro v' w2 hr hw _
      have HO : Hid (OwnS w.heap.size w2 v' ((l.map DEntry.o).take (k + 1))) := Lib.hid (by
        rw [HT.out]
        exact Row.grown HROW.out HFS.out (HB1.out.alloc (by omega) _) (HFR.out.belowL ((Below.refl _ _).alloc (Nat.le_refl _) _) (Live.lt HSV.out.live)) (HSV.out.belowW ((Below.refl _ _).alloc (Nat.le_refl _) _)).live hsz hr hw)
      have HB2 : Hid (Below w.heap.size w w2) := Lib.hid (below_after2 hbw (wrb (C := w.heap.size) hw (HB1.out.alloc (by omega) _) hsz (fun q hq => HROW.out.2.1.ge q hq)) (Nat.le_refl _))
      clear hr hw
      go_wp2
      go_roundw
      case rel => exact ⟨k + 1, _, rfl, by omega, by go_num, HO.out, HB2.out⟩
      case measure => simp [intOf]; omega
    · obtain rfl : k = l.length := by omega
      rw [List.take_of_length_le (by simp)] at hu
      have HU := Lib.hid hu
      clear hu
      go_wp2
      go_ret
      exact ⟨_, rfl, HU.out, hbw⟩

/-- a name: small letters, one to eight -/
def nameOk (s : ByteArray) : Bool := s.data.toList.all (fun c => decide (97 ≤ (c.toNat : Int)) && decide ((c.toNat : Int) ≤ 122)) && within s.size 1 8
theorem ba_get (s : ByteArray) (k : Nat) (h : k < s.size) : s.data.toList[k]? = some s[k] := by
  rw [List.getElem?_eq_getElem (by simpa using h)]; rfl
set_option maxHeartbeats 1000000 in
theorem spec_NameOk_c (s : ByteArray) (w : World) (hs : s.size ≤ 4294967296) : Calls Try.prog 64 #[.string s] w (Tells w (.bool (nameOk s))) := by
  have hl : s.data.toList.length = s.size := by simp
  go_enter Try.func64, Try.ntmps64
  go_wp2
  go_loopw [3] (fun i wr => ∃ k : Nat, k ≤ s.size ∧ i = .int .i64 k ∧ (∀ j < k, ∀ y, s.data.toList[j]? = some y → (decide (97 ≤ (y.toNat : Int)) && decide ((y.toNat : Int) ≤ 122)) = true) ∧ Below w.heap.size w wr) (fun i _ => s.size - (intOf i).toNat)
  case atStart => exact ⟨0, Nat.zero_le _, rfl, fun _ h => absurd h (Nat.not_lt_zero _), blw⟩
  case round =>
    obtain ⟨k, hk, rfl, hj, hbw⟩ := hrel
    have hsz := hbw.size
    have HJ := Lib.hid hj; clear hj
    by_cases hlt : k < s.size
    · have HX := Lib.hid (ba_get s k hlt)
      by_cases c1 : 97 ≤ (s[k].toNat : Int)
      · by_cases c2 : (s[k].toNat : Int) ≤ 122
        · have HE : Hid ((decide (97 ≤ (s[k].toNat : Int)) && decide ((s[k].toNat : Int) ≤ 122)) = true) := Lib.hid (by simp; omega)
          go_wp2
          go_roundw
          case rel => exact ⟨k + 1, by omega, by go_num, yes_step HX.out HE.out HJ.out, hbw⟩
          case measure => simp [intOf]; omega
        · have HN : Hid (nameOk s = false) := Lib.hid (by unfold nameOk; rw [all_no HX.out (by simp; omega)]; rfl)
          go_wp2
          go_ret
          exact ⟨ret_bool HN.out.symm, hbw⟩
      · have HN : Hid (nameOk s = false) := Lib.hid (by unfold nameOk; rw [all_no HX.out (by simp; omega)]; rfl)
        go_wp2
        go_ret
        exact ⟨ret_bool HN.out.symm, hbw⟩
    · have HN : Hid (nameOk s = within s.size 1 8) := Lib.hid (by unfold nameOk; rw [all_yes fun j hj => HJ.out j (by omega)]; rfl)
      go_wp2_with fail
      refine (spec_within_c _ _ _ _).mono ?_
      rintro e w1 ⟨rfl, hb1⟩
      have s1 := hb1.size
      (try simp at s1)
      obtain ⟨hc1, hf1⟩ := bcell hb1
      go_wp2
      go_ret
      exact ⟨ret_bool HN.out.symm, blw⟩
set_option maxHeartbeats 1000000 in
theorem impl_NameOk_c (s : ByteArray) (w : World) (hs : s.size ≤ 4294967296) : Calls Try.prog 37 #[.string s] w (Tells w (.bool (nameOk s))) := by
  have hl : s.data.toList.length = s.size := by simp
  go_enter Try.func37, Try.ntmps37
  go_wp2
  go_loopw [3] (fun i wr => ∃ k : Nat, k ≤ s.size ∧ i = .int .i64 k ∧ (∀ j < k, ∀ y, s.data.toList[j]? = some y → (decide (97 ≤ (y.toNat : Int)) && decide ((y.toNat : Int) ≤ 122)) = true) ∧ Below w.heap.size w wr) (fun i _ => s.size - (intOf i).toNat)
  case atStart => exact ⟨0, Nat.zero_le _, rfl, fun _ h => absurd h (Nat.not_lt_zero _), blw⟩
  case round =>
    obtain ⟨k, hk, rfl, hj, hbw⟩ := hrel
    have hsz := hbw.size
    have HJ := Lib.hid hj; clear hj
    by_cases hlt : k < s.size
    · have HX := Lib.hid (ba_get s k hlt)
      by_cases c1 : 97 ≤ (s[k].toNat : Int)
      · by_cases c2 : (s[k].toNat : Int) ≤ 122
        · have HE : Hid ((decide (97 ≤ (s[k].toNat : Int)) && decide ((s[k].toNat : Int) ≤ 122)) = true) := Lib.hid (by simp; omega)
          go_wp2
          go_roundw
          case rel => exact ⟨k + 1, by omega, by go_num, yes_step HX.out HE.out HJ.out, hbw⟩
          case measure => simp [intOf]; omega
        · have HN : Hid (nameOk s = false) := Lib.hid (by unfold nameOk; rw [all_no HX.out (by simp; omega)]; rfl)
          go_wp2
          go_ret
          exact ⟨ret_bool HN.out.symm, hbw⟩
      · have HN : Hid (nameOk s = false) := Lib.hid (by unfold nameOk; rw [all_no HX.out (by simp; omega)]; rfl)
        go_wp2
        go_ret
        exact ⟨ret_bool HN.out.symm, hbw⟩
    · have HN : Hid (nameOk s = within s.size 1 8) := Lib.hid (by unfold nameOk; rw [all_yes fun j hj => HJ.out j (by omega)]; rfl)
      go_wp2_with fail
      refine (impl_within_c _ _ _ _).mono ?_
      rintro e w1 ⟨rfl, hb1⟩
      have s1 := hb1.size
      (try simp at s1)
      obtain ⟨hc1, hf1⟩ := bcell hb1
      go_wp2
      go_ret
      exact ⟨ret_bool HN.out.symm, blw⟩
end Go.Proofs.Ytiahgjnpinjblaa
