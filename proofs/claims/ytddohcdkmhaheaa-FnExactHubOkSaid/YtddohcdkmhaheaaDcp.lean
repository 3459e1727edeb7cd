/- Names, operations of entries, copies of documents. -/
import Derived.Test.YtddohcdkmhaheaaApl
import Derived.Deep.RegionHeld3
import Derived.Deep.DrawnRows
namespace Go.Proofs.Ytddohcdkmhaheaa
open Go.RowKit
attribute [local go_sem ↓] Go.wp_at_zero Go.wp_at_succ
theorem info_seen : (Try.prog.info? 127).map (fun i => (i.zero, i.size, i.bytes)) = some (some (.agg #[.int .i64 0, .int .i64 0, .int .i64 0]), 3, 24) := by kernel_rfl
theorem rdSeen_fp {M : Nat} {w : World} {c : List Value} {x : DSeen} {f : List Pos} (h : GoT.rd M w c x f) : f = [] := h.2
theorem Src.seens {w : World} {v : Value} {l : List DSeen} (h : RdS w v l) : Src w v l [] := by
  obtain ⟨gs, ao, c, news, h1, h2, h3⟩ := h.src
  have := Els.flat (α := DSeen) rdSeen_fp h2
  subst this
  exact ⟨ao, c, news, h1, h2, h3⟩
theorem Row.flatB {α : Type} [GoT α] {B : Nat} {w : World} {v : Value} {l : List α} (h : Row B w v l []) : OwnB B w.heap.size w v l := (h.owns (Fresh.nil _ _)).bd

theorem info_ops : (Try.prog.info? 35).map (fun i => (i.zero, i.size, i.bytes)) = some (some (.slice none 0 0), 1, 24) := by kernel_rfl
set_option maxHeartbeats 2000000 in
set_option maxRecDepth 100000 in
theorem impl_opsOf_c (v : Value) (l : List DEntry) (w : World) (h : RdS w v l) (hs : szL l ≤ 4000000) : Calls Try.prog 91 #[v] w (GivesS w (l.map DEntry.o)) := by
  have hl := fun w1 ty => h.len Try.underlying30 w1 ty
  obtain ⟨i0, hi, hz0, hz1, hz2⟩ := info_parts info_ops
  have h1 : l.length ≤ 4000000 := by unfold szL at hs; omega
  have H2 : Hid (∀ e ∈ l, szL e.o ≤ 4000000) := Lib.hid fun e he => by have := szL_mem he; simp only [GoS.sz] at this; omega
  clear hs
  go_enter Try.func91, Try.ntmps91
  go_wp2
  go_loopw [3, 8] (fun z i wr => ∃ (k : Nat) (u : Value), u = z ∧ k ≤ l.length ∧ i = .int .i64 k ∧ OwnS w.heap.size wr u ((l.map DEntry.o).take k) ∧ Below w.heap.size w wr) (fun _ i _ => l.length - (intOf i).toNat)
  case atStart => exact ⟨0, _, rfl, Nat.zero_le _, rfl, OwnS.empty _ _ _, blw⟩
  case round =>
    obtain ⟨k, u, rfl, hk, rfl, hu, hbw⟩ := hrel
    have hsz := hbw.size
    by_cases hlt : k < l.length
    · obtain ⟨p, hx⟩ := get_some hlt
      obtain ⟨b1, o1, cs, g1, g2, g3⟩ := (h.below hbw).idx Try.underlying30 szi_DEntry k hx
      obtain ⟨v_o, rfl, r_o⟩ := inv_DEntry g3
      have q0 := g2.zero
      have q1 := g2 1 _ rfl
      have q2 := g2 2 _ rfl
      obtain ⟨aa, ca, rfl⟩ := r_o.isSlice
      have HT : Hid ((l.map DEntry.o).take (k + 1) = (l.map DEntry.o).take k ++ [p.o]) := Lib.hid (by refine take_snoc ?_; simp [hx])
      have hps := H2.out p (List.mem_of_getElem? hx)
      have hkl : ((l.map DEntry.o).take k).length ≤ 4000000 := by simp; omega
      clear hx
      obtain ⟨fs, hrow, hfs⟩ := hu.row
      have HROW := Lib.hid hrow
      have HFS := Lib.hid hfs
      clear hrow hfs hu
      go_wp2_with fail
      refine (impl_copyOp_c _ p.o _ (r_o.below blw) hps).mono ?_
      rintro e w1 ⟨v1, rfl, ho, hb1⟩
      obtain ⟨f, hrd, hfr⟩ := ho
      obtain ⟨a1, c1, rfl⟩ := RdS.isSlice ⟨_, hrd⟩
      have hb1' : Below wr.heap.size wr w1 := blw
      have HB1 := Lib.hid hb1'
      have s1 := hb1'.size
      have HFR := Lib.hid (hfr.mono (B' := wr.heap.size) (by simp))
      have HSV := Lib.hid hrd
      clear hb1 hb1' hfr hrd
      go_wp2_with (at_builtin; refine wpList_append_row rfl _ _ 131 rfl Try.underlying131 hi hz0 hz1 hz2 rfl rfl rfl ((HROW.out.below HB1.out).below ((Below.refl _ _).alloc (Nat.le_refl _) _)) (src_built (x := p.o) 35 ⟨_, rfl, HSV.out⟩) (fun q hq hm => by have e1 := HFR.out.ge q hq; have e2 := Live.lt (Live.append.1 HROW.out.1.live).1 q hm; omega) ?c1 ?c2 ?c3 ?_)
      case c1 => simp at hkl ⊢; exact le_BIG (by omega)
      case c2 => simp at hkl ⊢; omega
      case c3 => simp; omega
      intro v' w2 hr hw _
      have HO : Hid (OwnS w.heap.size w2 v' ((l.map DEntry.o).take (k + 1))) := Lib.hid (by
        rw [HT.out]
        exact Row.grown HROW.out HFS.out (HB1.out.alloc (by omega) _) (HFR.out.belowL ((Below.refl _ _).alloc (Nat.le_refl _) _) (Live.lt HSV.out.live)) (HSV.out.belowW ((Below.refl _ _).alloc (Nat.le_refl _) _)).live hsz hr hw)
      have HB2 : Hid (Below w.heap.size w w2) := Lib.hid (below_after2 hbw (wrb (C := w.heap.size) hw (HB1.out.alloc (by omega) _) hsz (fun q hq => HROW.out.2.1.ge q hq)) (Nat.le_refl _))
      clear hr hw
      go_wp2
      go_roundw
      case rel => exact ⟨k + 1, _, rfl, by omega, by go_num, HO.out, HB2.out⟩
      case measure => simp [intOf]; omega
    · obtain rfl : k = l.length := by omega
      rw [List.take_of_length_le (by simp)] at hu
      have HU := Lib.hid hu
      clear hu
      go_wp2
      go_ret
      exact ⟨_, rfl, HU.out, hbw⟩

/-- a name: small letters, one to eight -/
def nameOk (s : ByteArray) : Bool := s.data.toList.all (fun c => decide (97 ≤ (c.toNat : Int)) && decide ((c.toNat : Int) ≤ 122)) && within s.size 1 8
theorem ba_get (s : ByteArray) (k : Nat) (h : k < s.size) : s.data.toList[k]? = some s[k] := by
  rw [List.getElem?_eq_getElem (by simpa using h)]; rfl
set_option maxHeartbeats 1000000 in
theorem spec_NameOk_c (s : ByteArray) (w : World) (hs : s.size ≤ 4294967296) : Calls Try.prog 83 #[.string s] w (Tells w (.bool (nameOk s))) := by
  have hl : s.data.toList.length = s.size := by simp
  go_enter Try.func83, Try.ntmps83
  go_wp2
  go_loopw [3] (fun i wr => ∃ k : Nat, k ≤ s.size ∧ i = .int .i64 k ∧ (∀ j < k, ∀ y, s.data.toList[j]? = some y → (decide (97 ≤ (y.toNat : Int)) && decide ((y.toNat : Int) ≤ 122)) = true) ∧ Below w.heap.size w wr) (fun i _ => s.size - (intOf i).toNat)
  case atStart => exact ⟨0, Nat.zero_le _, rfl, fun _ h => absurd h (Nat.not_lt_zero _), blw⟩
  case round =>
    obtain ⟨k, hk, rfl, hj, hbw⟩ := hrel
    have hsz := hbw.size
    have HJ := Lib.hid hj; clear hj
    by_cases hlt : k < s.size
    · have HX := Lib.hid (ba_get s k hlt)
      by_cases c1 : 97 ≤ (s[k].toNat : Int)
      · by_cases c2 : (s[k].toNat : Int) ≤ 122
        · have HE : Hid ((decide (97 ≤ (s[k].toNat : Int)) && decide ((s[k].toNat : Int) ≤ 122)) = true) := Lib.hid (by simp; omega)
          go_wp2
          go_roundw
          case rel => exact ⟨k + 1, by omega, by go_num, yes_step HX.out HE.out HJ.out, hbw⟩
          case measure => simp [intOf]; omega
        · have HN : Hid (nameOk s = false) := Lib.hid (by unfold nameOk; rw [all_no HX.out (by simp; omega)]; rfl)
          go_wp2
          go_ret
          exact ⟨ret_bool HN.out.symm, hbw⟩
      · have HN : Hid (nameOk s = false) := Lib.hid (by unfold nameOk; rw [all_no HX.out (by simp; omega)]; rfl)
        go_wp2
        go_ret
        exact ⟨ret_bool HN.out.symm, hbw⟩
    · have HN : Hid (nameOk s = within s.size 1 8) := Lib.hid (by unfold nameOk; rw [all_yes fun j hj => HJ.out j (by omega)]; rfl)
      go_wp2_with fail
      refine (spec_within_c _ _ _ _).mono ?_
      rintro e w1 ⟨rfl, hb1⟩
      have s1 := hb1.size
      (try simp at s1)
      obtain ⟨hc1, hf1⟩ := bcell hb1
      go_wp2
      go_ret
      exact ⟨ret_bool HN.out.symm, blw⟩
set_option maxHeartbeats 1000000 in
theorem impl_NameOk_c (s : ByteArray) (w : World) (hs : s.size ≤ 4294967296) : Calls Try.prog 88 #[.string s] w (Tells w (.bool (nameOk s))) := by
  have hl : s.data.toList.length = s.size := by simp
  go_enter Try.func88, Try.ntmps88
  go_wp2
  go_loopw [3] (fun i wr => ∃ k : Nat, k ≤ s.size ∧ i = .int .i64 k ∧ (∀ j < k, ∀ y, s.data.toList[j]? = some y → (decide (97 ≤ (y.toNat : Int)) && decide ((y.toNat : Int) ≤ 122)) = true) ∧ Below w.heap.size w wr) (fun i _ => s.size - (intOf i).toNat)
  case atStart => exact ⟨0, Nat.zero_le _, rfl, fun _ h => absurd h (Nat.not_lt_zero _), blw⟩
  case round =>
    obtain ⟨k, hk, rfl, hj, hbw⟩ := hrel
    have hsz := hbw.size
    have HJ := Lib.hid hj; clear hj
    by_cases hlt : k < s.size
    · have HX := Lib.hid (ba_get s k hlt)
      by_cases c1 : 97 ≤ (s[k].toNat : Int)
      · by_cases c2 : (s[k].toNat : Int) ≤ 122
        · have HE : Hid ((decide (97 ≤ (s[k].toNat : Int)) && decide ((s[k].toNat : Int) ≤ 122)) = true) := Lib.hid (by simp; omega)
          go_wp2
          go_roundw
          case rel => exact ⟨k + 1, by omega, by go_num, yes_step HX.out HE.out HJ.out, hbw⟩
          case measure => simp [intOf]; omega
        · have HN : Hid (nameOk s = false) := Lib.hid (by unfold nameOk; rw [all_no HX.out (by simp; omega)]; rfl)
          go_wp2
          go_ret
          exact ⟨ret_bool HN.out.symm, hbw⟩
      · have HN : Hid (nameOk s = false) := Lib.hid (by unfold nameOk; rw [all_no HX.out (by simp; omega)]; rfl)
        go_wp2
        go_ret
        exact ⟨ret_bool HN.out.symm, hbw⟩
    · have HN : Hid (nameOk s = within s.size 1 8) := Lib.hid (by unfold nameOk; rw [all_yes fun j hj => HJ.out j (by omega)]; rfl)
      go_wp2_with fail
      refine (impl_within_c _ _ _ _).mono ?_
      rintro e w1 ⟨rfl, hb1⟩
      have s1 := hb1.size
      (try simp at s1)
      obtain ⟨hc1, hf1⟩ := bcell hb1
      go_wp2
      go_ret
      exact ⟨ret_bool HN.out.symm, blw⟩
end Go.Proofs.Ytddohcdkmhaheaa
