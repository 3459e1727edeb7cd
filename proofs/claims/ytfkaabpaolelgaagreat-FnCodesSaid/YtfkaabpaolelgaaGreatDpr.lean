/- The draw of an operation's parts. -/
import Derived.Test.YtfkaabpaolelgaaGreatDry
import Derived.Test.YtfkaabpaolelgaaGreatDrn
import Derived.Deep.Cut
import Derived.Deep.CutRange
import Derived.Deep.LoopGhost
namespace Go.Proofs.YtfkaabpaolelgaaGreat
open Go.RowKit
theorem OwnB.cu {α : Type} [GoT α] {C D bc : Nat} {w w' : World} {v : Value} {l : List α} (h : OwnB C D w v l) (hw : Wr [(bc, 1), (bc, 2)] w w') (hb : bc < C) : OwnB C D w' v l := by
  obtain ⟨f, h1, h2, h3⟩ := h
  exact ⟨f, h1.wr hw fun p hp hq => by have := h2.ge p hp; simp only [List.mem_cons, List.not_mem_nil, or_false] at hq; rcases hq with rfl | rfl <;> (simp only at this; omega), hw.fresh h1.live h2, h3⟩
theorem OwnB.row2 {α : Type} [GoT α] {C D : Nat} {w : World} {v : Value} {l : List α} (h : OwnB C D w v l) : ∃ fs, Row C w v l fs ∧ Fresh C w fs ∧ ∀ p ∈ rowP (GoT.n α) v ++ fs, p.1 < D := by
  obtain ⟨fp, h, k, hd⟩ := h
  obtain ⟨fs, rfl⟩ := h.split
  exact ⟨fs, ⟨h, k.left, fun _ hp hq => (List.nodup_append.1 k.nodup).2.2 _ hq _ hp rfl⟩, k.right, hd⟩
set_option maxHeartbeats 8000000 in
set_option maxRecDepth 100000 in
theorem spec_l02Draw_c (w0 : World) (bc : Nat) (vb : Value) (bs : List DByte) (m : Nat) (w : World) (hc : Cu w0 bc vb bs w) (hm : m ≤ 1000) :
    Calls Tryz.prog 56 #[.pointer (some ⟨bc, 0, none⟩), .int .i64 m] w (fun e w' => ∃ (v : Value) (o : List DPart), e = .returned v ∧ OwnS w.heap.size w' v o ∧ CuOut w0 bc vb bs w w') := by
  obtain ⟨i0, hi, hz0, hz1, hz2⟩ := info_parts info_part
  have hbl := hc.lt
  have HC0 : Hid (CuOut w0 bc vb bs w (w.alloc (.cells #[] 62))) := Lib.hid ⟨hc.below ((Below.refl _ _).alloc (Nat.le_refl _) _), Wr.of_below ((Below.refl _ _).alloc (Nat.le_refl _) _)⟩
  clear hc
  go_enter Tryz.func56, Tryz.ntmps56
  go_wp2_with fail
  go_loopg [5, 6, 7] 41 (fun n x5 x6 x7 wr => ∃ (u : Value) (o : List DPart) (L R : Nat), u = x5 ∧ n = 41 - o.length ∧ x6 = .int .i64 L ∧ x7 = .int .i64 R ∧ L ≤ m ∧ R ≤ 12 ∧ o.length ≤ 40 ∧ OwnS w.heap.size wr u o ∧ CuOut w0 bc vb bs w wr)
  case atStart => exact ⟨_, [], m, 12, rfl, rfl, rfl, rfl, Nat.le_refl _, Nat.le_refl _, Nat.zero_le _, OwnS.empty _ _ _, HC0.out⟩
  case round =>
    obtain ⟨u, o, L, R, rfl, rfl, rfl, rfl, hL, hR, ho, hu, hcw⟩ := hrel
    have HU := Lib.hid hu
    have HCW := Lib.hid hcw
    clear hu hcw HC0
    go_upto_region 4 with (fail)
    go_cut [18] from 13 to 73 (fun z wx => ∃ b : Bool, z = .bool b ∧ OwnS w.heap.size wx u o ∧ CuOut w0 bc vb bs w wx)
    case first =>
      by_cases hL0 : 0 < L
      · have hl0 : (0 : Int) < (L : Int) := by omega
        go_wp2_with fail
        go_meet
        exact ⟨true, rfl, HU.out, HCW.out⟩
      · have hl0 : ¬ (0 : Int) < (L : Int) := by omega
        go_wp2_with fail
        refine (spec_l01Once_c w0 bc vb bs 3 _ HCW.out.1).mono ?_
        rintro e' w1 ⟨b, rfl, hc1⟩
        have HC1 := Lib.hid hc1
        clear hc1
        go_wp2_with fail
        go_meet
        exact ⟨b, rfl, HU.out.cu HC1.out.2 hbl, HCW.out.trans HC1.out⟩
    case rest =>
      obtain ⟨b, rfl, hu1, hc1⟩ := hcut
      replace HU := Lib.hid hu1
      replace HCW := Lib.hid hc1
      clear hu1 hc1
      cases b
      · go_wp2
        go_ret
        exact ⟨u, o, rfl, HU.out, HCW.out⟩
      go_wp2_with fail
      refine (spec_l01Below_c w0 bc vb bs 4 _ HCW.out.1).mono ?_
      rintro e' w2 ⟨x, rfl, hx, hc2⟩
      obtain ⟨hx0, hx1⟩ := hx.1 (by decide)
      replace HU := Lib.hid (HU.out.cu hc2.2 hbl)
      have HC2 := Lib.hid (HCW.out.trans hc2)
      clear hx hc2 HCW
      rcases (show x = 0 ∨ x = 1 ∨ (2 ≤ x) by omega) with rfl | rfl | h2
      · go_wp2_with fail
        refine (spec_l01Signs_c w0 bc vb bs 3 _ HC2.out.1 (by decide)).mono ?_
        rintro e' w3 ⟨vs, s, rfl, hos, hsl, hc3⟩
        have HUB := Lib.hid (HU.out.bd.cu hc3.2 hbl)
        have HC3 := Lib.hid (HC2.out.trans hc3)
        have hsz2 : w.heap.size ≤ w2.heap.size := HC2.out.2.size
        obtain ⟨fg, hsg, hfg⟩ := hos
        obtain ⟨as_, cs_, rfl⟩ := hsg.isS
        have HSG := Lib.hid hsg
        have HFG := Lib.hid hfg
        have hlq := fun w1 ty => (show RdS w3 (.slice as_ s.length cs_) s from ⟨_, hsg⟩).len Tryz.underlying23 w1 ty
        clear hsg hfg hc3
        by_cases hroom : R < s.length
        · have hr2 : (R : Int) < (s.length : Int) := by omega
          obtain ⟨fs4, hrow4, hff4, hlt4⟩ := HUB.out.row2
          have HROW4 := Lib.hid hrow4
          have HFF4 := Lib.hid hff4
          have HLT4 := Lib.hid hlt4
          have hsr4 := src_built (w := w3) (c := [.int .i64 2, .int .i64 0, .slice none 0 0]) (x := (⟨2, 0, []⟩ : DPart)) (f := []) 62 ⟨_, [], rfl, Sl.nil, rfl⟩
          have HSR4 := Lib.hid hsr4
          have HLV4 : Hid (∀ p ∈ fs4, p.1 < w3.heap.size) := Lib.hid (Live.lt (Live.append.1 hrow4.1.live).2)
          have hsz4 : w.heap.size ≤ w3.heap.size := HC3.out.2.size
          clear hrow4 hff4 hlt4 hsr4
          go_wp2_with (at_builtin; go_must (refine wpList_append_row rfl _ _ 29 rfl Tryz.underlying29 hi hz0 hz1 hz2 rfl rfl rfl (HROW4.out.below ((Below.refl _ _).alloc (Nat.le_refl _) _)) HSR4.out (fun _ h => by cases h) ?c1 ?c2 ?c3 ?_))
          case c1 => exact le_BIG (by simp; omega)
          case c2 => simp; omega
          case c3 => simp; omega
          intro v4 w4 hr4 hw4 hn4
          have HC4 : Hid (CuOut w0 bc vb bs w w4) := Lib.hid ⟨(HC3.out.1.below ((Below.refl _ _).alloc (Nat.le_refl _) _)).wr hw4 (fun p hp => by have := HROW4.out.2.1.ge p hp; have := HC3.out.1.o; omega), wr_cu (HC3.out.2.trans (Wr.of_below ((Below.refl _ _).alloc (Nat.le_refl _) _))) hw4 (fun p hp => HROW4.out.2.1.ge p hp)⟩
          have HFA4 : Hid (Fresh w.heap.size w4 fs4) := Lib.hid (hw4.fresh (Live.keep (Live.append.1 HROW4.out.1.live).2 (Live.same_below ((Below.refl _ _).alloc (Nat.le_refl _) _) HLV4.out)) (HFF4.out.belowL ((Below.refl _ _).alloc (Nat.le_refl _) _) HLV4.out))
          have HO4 : Hid (OwnS w.heap.size w4 v4 (o ++ [(⟨2, 0, []⟩ : DPart)])) := Lib.hid (Row.owns (by simpa using hr4) HFA4.out)
          obtain ⟨a4, c4, e4⟩ := HO4.out.rd.isSlice
          simp only [List.length_append, List.length_singleton] at e4
          subst e4
          clear hr4 hw4 hn4 HROW4 HFF4 HLT4 HSR4 HLV4 HFA4
          by_cases h40 : o.length < 40
          · have hl40 : ¬ (40 : Int) < (o.length : Int) + 1 := by omega
            go_wp2
            go_roundg (41 - (o ++ [(⟨2, 0, []⟩ : DPart)]).length)
            case measure => simp; omega
            case rel => exact ⟨_, o ++ [(⟨2, 0, []⟩ : DPart)], L, R, rfl, rfl, by first | rfl | go_num | (congr 1; omega), by first | rfl | go_num | (congr 1; omega), by omega, by omega, by simp; omega, HO4.out, HC4.out⟩
          have hl40 : (40 : Int) < (o.length : Int) + 1 := by omega
          obtain ⟨fs5, hrow5, hff5, hlt5⟩ := HO4.out.bd.row2
          have HROW5 := Lib.hid hrow5
          have HFF5 := Lib.hid hff5
          have HLT5 := Lib.hid hlt5
          have hsr5 := src_built (w := w4) (c := [.int .i64 1, .int .i64 ((L : Nat) : Int), .slice none 0 0]) (x := (⟨1, ((L : Nat) : Int), []⟩ : DPart)) (f := []) 62 ⟨_, [], rfl, Sl.nil, rfl⟩
          have HSR5 := Lib.hid hsr5
          have HLV5 : Hid (∀ p ∈ fs5, p.1 < w4.heap.size) := Lib.hid (Live.lt (Live.append.1 hrow5.1.live).2)
          have hsz5 : w.heap.size ≤ w4.heap.size := HC4.out.2.size
          clear hrow5 hff5 hlt5 hsr5
          go_wp2_with (at_builtin; go_must (refine wpList_append_row rfl _ _ 29 rfl Tryz.underlying29 hi hz0 hz1 hz2 rfl rfl rfl (HROW5.out.below ((Below.refl _ _).alloc (Nat.le_refl _) _)) HSR5.out (fun _ h => by cases h) ?c1 ?c2 ?c3 ?_))
          case c1 => exact le_BIG (by simp; omega)
          case c2 => simp; omega
          case c3 => simp; omega
          intro v5 w5 hr5 hw5 hn5
          have HC5 : Hid (CuOut w0 bc vb bs w w5) := Lib.hid ⟨(HC4.out.1.below ((Below.refl _ _).alloc (Nat.le_refl _) _)).wr hw5 (fun p hp => by have := HROW5.out.2.1.ge p hp; have := HC4.out.1.o; omega), wr_cu (HC4.out.2.trans (Wr.of_below ((Below.refl _ _).alloc (Nat.le_refl _) _))) hw5 (fun p hp => HROW5.out.2.1.ge p hp)⟩
          have HFA5 : Hid (Fresh w.heap.size w5 fs5) := Lib.hid (hw5.fresh (Live.keep (Live.append.1 HROW5.out.1.live).2 (Live.same_below ((Below.refl _ _).alloc (Nat.le_refl _) _) HLV5.out)) (HFF5.out.belowL ((Below.refl _ _).alloc (Nat.le_refl _) _) HLV5.out))
          have HO5 : Hid (OwnS w.heap.size w5 v5 (o ++ [(⟨2, 0, []⟩ : DPart)] ++ [(⟨1, ((L : Nat) : Int), []⟩ : DPart)])) := Lib.hid (Row.owns (by simpa using hr5) HFA5.out)
          obtain ⟨a5, c5, e5⟩ := HO5.out.rd.isSlice
          simp only [List.length_append, List.length_singleton] at e5
          subst e5
          clear hr5 hw5 hn5 HROW5 HFF5 HLT5 HSR5 HLV5 HFA5
          go_wp2
          go_ret
          exact ⟨_, _, rfl, HO5.out, HC5.out⟩
        have hr2 : ¬ (R : Int) < (s.length : Int) := by omega
        have hrr : (R : Int) - (s.length : Int) = ((R - s.length : Nat) : Int) := by omega
        obtain ⟨fs4, hrow4, hff4, hlt4⟩ := HUB.out.row2
        have HROW4 := Lib.hid hrow4
        have HFF4 := Lib.hid hff4
        have HLT4 := Lib.hid hlt4
        have hsr4 := src_built (w := w3) (c := [.int .i64 2, .int .i64 0, .slice as_ s.length cs_]) (x := (⟨2, 0, s⟩ : DPart)) (f := fg) 62 ⟨_, fg, rfl, HSG.out, rfl⟩
        have HSR4 := Lib.hid hsr4
        have HLV4 : Hid (∀ p ∈ fs4, p.1 < w3.heap.size) := Lib.hid (Live.lt (Live.append.1 hrow4.1.live).2)
        have hsz4 : w.heap.size ≤ w3.heap.size := HC3.out.2.size
        clear hrow4 hff4 hlt4 hsr4
        go_wp2_with (at_builtin; go_must (refine wpList_append_row rfl _ _ 29 rfl Tryz.underlying29 hi hz0 hz1 hz2 rfl rfl rfl (HROW4.out.below ((Below.refl _ _).alloc (Nat.le_refl _) _)) HSR4.out (fun q hq hm => by have e1 := HFG.out.ge q hq; have e2 := HLT4.out q (List.mem_append_left _ hm); omega) ?c1 ?c2 ?c3 ?_))
        case c1 => exact le_BIG (by simp; omega)
        case c2 => simp; omega
        case c3 => simp; omega
        intro v4 w4 hr4 hw4 hn4
        have HC4 : Hid (CuOut w0 bc vb bs w w4) := Lib.hid ⟨(HC3.out.1.below ((Below.refl _ _).alloc (Nat.le_refl _) _)).wr hw4 (fun p hp => by have := HROW4.out.2.1.ge p hp; have := HC3.out.1.o; omega), wr_cu (HC3.out.2.trans (Wr.of_below ((Below.refl _ _).alloc (Nat.le_refl _) _))) hw4 (fun p hp => HROW4.out.2.1.ge p hp)⟩
        have HFA4 : Hid (Fresh w.heap.size w4 fs4) := Lib.hid (hw4.fresh (Live.keep (Live.append.1 HROW4.out.1.live).2 (Live.same_below ((Below.refl _ _).alloc (Nat.le_refl _) _) HLV4.out)) (HFF4.out.belowL ((Below.refl _ _).alloc (Nat.le_refl _) _) HLV4.out))
        have HO4 : Hid (OwnS w.heap.size w4 v4 (o ++ [(⟨2, 0, s⟩ : DPart)])) := Lib.hid (Row.owns hr4 (HFA4.out.join ((hw4.fresh (Live.keep HSG.out.live (Live.same_below ((Below.refl _ _).alloc (Nat.le_refl _) _) (Live.lt HSG.out.live))) (HFG.out.belowL ((Below.refl _ _).alloc (Nat.le_refl _) _) (Live.lt HSG.out.live))).mono hsz2) (fun p hp q hq e => by have e1 := HFG.out.ge q hq; have e2 := HLT4.out p (List.mem_append_right _ hp); rw [e] at e2; omega)))
        obtain ⟨a4, c4, e4⟩ := HO4.out.rd.isSlice
        simp only [List.length_append, List.length_singleton] at e4
        subst e4
        clear hr4 hw4 hn4 HROW4 HFF4 HLT4 HSR4 HLV4 HFA4
        by_cases h40 : o.length < 40
        · have hl40 : ¬ (40 : Int) < (o.length : Int) + 1 := by omega
          go_wp2
          go_roundg (41 - (o ++ [(⟨2, 0, s⟩ : DPart)]).length)
          case measure => simp; omega
          case rel => exact ⟨_, o ++ [(⟨2, 0, s⟩ : DPart)], L, (R - s.length), rfl, rfl, by first | rfl | go_num | (congr 1; omega), by first | rfl | go_num | (congr 1; omega), by omega, by omega, by simp; omega, HO4.out, HC4.out⟩
        have hl40 : (40 : Int) < (o.length : Int) + 1 := by omega
        obtain ⟨fs5, hrow5, hff5, hlt5⟩ := HO4.out.bd.row2
        have HROW5 := Lib.hid hrow5
        have HFF5 := Lib.hid hff5
        have HLT5 := Lib.hid hlt5
        have hsr5 := src_built (w := w4) (c := [.int .i64 1, .int .i64 ((L : Nat) : Int), .slice none 0 0]) (x := (⟨1, ((L : Nat) : Int), []⟩ : DPart)) (f := []) 62 ⟨_, [], rfl, Sl.nil, rfl⟩
        have HSR5 := Lib.hid hsr5
        have HLV5 : Hid (∀ p ∈ fs5, p.1 < w4.heap.size) := Lib.hid (Live.lt (Live.append.1 hrow5.1.live).2)
        have hsz5 : w.heap.size ≤ w4.heap.size := HC4.out.2.size
        clear hrow5 hff5 hlt5 hsr5
        go_wp2_with (at_builtin; go_must (refine wpList_append_row rfl _ _ 29 rfl Tryz.underlying29 hi hz0 hz1 hz2 rfl rfl rfl (HROW5.out.below ((Below.refl _ _).alloc (Nat.le_refl _) _)) HSR5.out (fun _ h => by cases h) ?c1 ?c2 ?c3 ?_))
        case c1 => exact le_BIG (by simp; omega)
        case c2 => simp; omega
        case c3 => simp; omega
        intro v5 w5 hr5 hw5 hn5
        have HC5 : Hid (CuOut w0 bc vb bs w w5) := Lib.hid ⟨(HC4.out.1.below ((Below.refl _ _).alloc (Nat.le_refl _) _)).wr hw5 (fun p hp => by have := HROW5.out.2.1.ge p hp; have := HC4.out.1.o; omega), wr_cu (HC4.out.2.trans (Wr.of_below ((Below.refl _ _).alloc (Nat.le_refl _) _))) hw5 (fun p hp => HROW5.out.2.1.ge p hp)⟩
        have HFA5 : Hid (Fresh w.heap.size w5 fs5) := Lib.hid (hw5.fresh (Live.keep (Live.append.1 HROW5.out.1.live).2 (Live.same_below ((Below.refl _ _).alloc (Nat.le_refl _) _) HLV5.out)) (HFF5.out.belowL ((Below.refl _ _).alloc (Nat.le_refl _) _) HLV5.out))
        have HO5 : Hid (OwnS w.heap.size w5 v5 (o ++ [(⟨2, 0, s⟩ : DPart)] ++ [(⟨1, ((L : Nat) : Int), []⟩ : DPart)])) := Lib.hid (Row.owns (by simpa using hr5) HFA5.out)
        obtain ⟨a5, c5, e5⟩ := HO5.out.rd.isSlice
        simp only [List.length_append, List.length_singleton] at e5
        subst e5
        clear hr5 hw5 hn5 HROW5 HFF5 HLT5 HSR5 HLV5 HFA5
        go_wp2
        go_ret
        exact ⟨_, _, rfl, HO5.out, HC5.out⟩
      · go_wp2_with fail
        refine (spec_l01Below_c w0 bc vb bs ((L : Int) + 1) _ HC2.out.1).mono ?_
        rintro e' w3 ⟨y, rfl, hy, hc3⟩
        obtain ⟨hy0, hy1⟩ := hy.1 (by omega)
        obtain ⟨N, rfl⟩ : ∃ N : Nat, y = N := ⟨y.toNat, by omega⟩
        have HU3 := Lib.hid (HU.out.cu hc3.2 hbl)
        have HC3 := Lib.hid (HC2.out.trans hc3)
        clear hy hc3
        by_cases h4 : 4 < N
        · have h42 : (4 : Int) < (N : Int) := by omega
          have hll : (L : Int) - 4 = ((L - 4 : Nat) : Int) := by omega
          obtain ⟨fs4, hrow4, hff4, hlt4⟩ := HU3.out.bd.row2
          have HROW4 := Lib.hid hrow4
          have HFF4 := Lib.hid hff4
          have HLT4 := Lib.hid hlt4
          have hsr4 := src_built (w := w3) (c := [.int .i64 3, .int .i64 ((4 : Nat) : Int), .slice none 0 0]) (x := (⟨3, ((4 : Nat) : Int), []⟩ : DPart)) (f := []) 62 ⟨_, [], rfl, Sl.nil, rfl⟩
          have HSR4 := Lib.hid hsr4
          have HLV4 : Hid (∀ p ∈ fs4, p.1 < w3.heap.size) := Lib.hid (Live.lt (Live.append.1 hrow4.1.live).2)
          have hsz4 : w.heap.size ≤ w3.heap.size := HC3.out.2.size
          clear hrow4 hff4 hlt4 hsr4
          go_wp2_with (at_builtin; go_must (refine wpList_append_row rfl _ _ 29 rfl Tryz.underlying29 hi hz0 hz1 hz2 rfl rfl rfl (HROW4.out.below ((Below.refl _ _).alloc (Nat.le_refl _) _)) HSR4.out (fun _ h => by cases h) ?c1 ?c2 ?c3 ?_))
          case c1 => exact le_BIG (by simp; omega)
          case c2 => simp; omega
          case c3 => simp; omega
          intro v4 w4 hr4 hw4 hn4
          have HC4 : Hid (CuOut w0 bc vb bs w w4) := Lib.hid ⟨(HC3.out.1.below ((Below.refl _ _).alloc (Nat.le_refl _) _)).wr hw4 (fun p hp => by have := HROW4.out.2.1.ge p hp; have := HC3.out.1.o; omega), wr_cu (HC3.out.2.trans (Wr.of_below ((Below.refl _ _).alloc (Nat.le_refl _) _))) hw4 (fun p hp => HROW4.out.2.1.ge p hp)⟩
          have HFA4 : Hid (Fresh w.heap.size w4 fs4) := Lib.hid (hw4.fresh (Live.keep (Live.append.1 HROW4.out.1.live).2 (Live.same_below ((Below.refl _ _).alloc (Nat.le_refl _) _) HLV4.out)) (HFF4.out.belowL ((Below.refl _ _).alloc (Nat.le_refl _) _) HLV4.out))
          have HO4 : Hid (OwnS w.heap.size w4 v4 (o ++ [(⟨3, ((4 : Nat) : Int), []⟩ : DPart)])) := Lib.hid (Row.owns (by simpa using hr4) HFA4.out)
          obtain ⟨a4, c4, e4⟩ := HO4.out.rd.isSlice
          simp only [List.length_append, List.length_singleton] at e4
          subst e4
          clear hr4 hw4 hn4 HROW4 HFF4 HLT4 HSR4 HLV4 HFA4
          by_cases h40 : o.length < 40
          · have hl40 : ¬ (40 : Int) < (o.length : Int) + 1 := by omega
            go_wp2
            go_roundg (41 - (o ++ [(⟨3, ((4 : Nat) : Int), []⟩ : DPart)]).length)
            case measure => simp; omega
            case rel => exact ⟨_, o ++ [(⟨3, ((4 : Nat) : Int), []⟩ : DPart)], (L - 4), R, rfl, rfl, by first | rfl | go_num | (congr 1; omega), by first | rfl | go_num | (congr 1; omega), by omega, by omega, by simp; omega, HO4.out, HC4.out⟩
          have hl40 : (40 : Int) < (o.length : Int) + 1 := by omega
          obtain ⟨fs5, hrow5, hff5, hlt5⟩ := HO4.out.bd.row2
          have HROW5 := Lib.hid hrow5
          have HFF5 := Lib.hid hff5
          have HLT5 := Lib.hid hlt5
          have hsr5 := src_built (w := w4) (c := [.int .i64 1, .int .i64 (((L - 4) : Nat) : Int), .slice none 0 0]) (x := (⟨1, (((L - 4) : Nat) : Int), []⟩ : DPart)) (f := []) 62 ⟨_, [], rfl, Sl.nil, rfl⟩
          have HSR5 := Lib.hid hsr5
          have HLV5 : Hid (∀ p ∈ fs5, p.1 < w4.heap.size) := Lib.hid (Live.lt (Live.append.1 hrow5.1.live).2)
          have hsz5 : w.heap.size ≤ w4.heap.size := HC4.out.2.size
          clear hrow5 hff5 hlt5 hsr5
          go_wp2_with (at_builtin; go_must (refine wpList_append_row rfl _ _ 29 rfl Tryz.underlying29 hi hz0 hz1 hz2 rfl rfl rfl (HROW5.out.below ((Below.refl _ _).alloc (Nat.le_refl _) _)) HSR5.out (fun _ h => by cases h) ?c1 ?c2 ?c3 ?_))
          case c1 => exact le_BIG (by simp; omega)
          case c2 => simp; omega
          case c3 => simp; omega
          intro v5 w5 hr5 hw5 hn5
          have HC5 : Hid (CuOut w0 bc vb bs w w5) := Lib.hid ⟨(HC4.out.1.below ((Below.refl _ _).alloc (Nat.le_refl _) _)).wr hw5 (fun p hp => by have := HROW5.out.2.1.ge p hp; have := HC4.out.1.o; omega), wr_cu (HC4.out.2.trans (Wr.of_below ((Below.refl _ _).alloc (Nat.le_refl _) _))) hw5 (fun p hp => HROW5.out.2.1.ge p hp)⟩
          have HFA5 : Hid (Fresh w.heap.size w5 fs5) := Lib.hid (hw5.fresh (Live.keep (Live.append.1 HROW5.out.1.live).2 (Live.same_below ((Below.refl _ _).alloc (Nat.le_refl _) _) HLV5.out)) (HFF5.out.belowL ((Below.refl _ _).alloc (Nat.le_refl _) _) HLV5.out))
          have HO5 : Hid (OwnS w.heap.size w5 v5 (o ++ [(⟨3, ((4 : Nat) : Int), []⟩ : DPart)] ++ [(⟨1, (((L - 4) : Nat) : Int), []⟩ : DPart)])) := Lib.hid (Row.owns (by simpa using hr5) HFA5.out)
          obtain ⟨a5, c5, e5⟩ := HO5.out.rd.isSlice
          simp only [List.length_append, List.length_singleton] at e5
          subst e5
          clear hr5 hw5 hn5 HROW5 HFF5 HLT5 HSR5 HLV5 HFA5
          go_wp2
          go_ret
          exact ⟨_, _, rfl, HO5.out, HC5.out⟩
        · have h42 : ¬ (4 : Int) < (N : Int) := by omega
          have hll : (L : Int) - ((N : Nat) : Int) = ((L - N : Nat) : Int) := by omega
          obtain ⟨fs4, hrow4, hff4, hlt4⟩ := HU3.out.bd.row2
          have HROW4 := Lib.hid hrow4
          have HFF4 := Lib.hid hff4
          have HLT4 := Lib.hid hlt4
          have hsr4 := src_built (w := w3) (c := [.int .i64 3, .int .i64 ((N : Nat) : Int), .slice none 0 0]) (x := (⟨3, ((N : Nat) : Int), []⟩ : DPart)) (f := []) 62 ⟨_, [], rfl, Sl.nil, rfl⟩
          have HSR4 := Lib.hid hsr4
          have HLV4 : Hid (∀ p ∈ fs4, p.1 < w3.heap.size) := Lib.hid (Live.lt (Live.append.1 hrow4.1.live).2)
          have hsz4 : w.heap.size ≤ w3.heap.size := HC3.out.2.size
          clear hrow4 hff4 hlt4 hsr4
          go_wp2_with (at_builtin; go_must (refine wpList_append_row rfl _ _ 29 rfl Tryz.underlying29 hi hz0 hz1 hz2 rfl rfl rfl (HROW4.out.below ((Below.refl _ _).alloc (Nat.le_refl _) _)) HSR4.out (fun _ h => by cases h) ?c1 ?c2 ?c3 ?_))
          case c1 => exact le_BIG (by simp; omega)
          case c2 => simp; omega
          case c3 => simp; omega
          intro v4 w4 hr4 hw4 hn4
          have HC4 : Hid (CuOut w0 bc vb bs w w4) := Lib.hid ⟨(HC3.out.1.below ((Below.refl _ _).alloc (Nat.le_refl _) _)).wr hw4 (fun p hp => by have := HROW4.out.2.1.ge p hp; have := HC3.out.1.o; omega), wr_cu (HC3.out.2.trans (Wr.of_below ((Below.refl _ _).alloc (Nat.le_refl _) _))) hw4 (fun p hp => HROW4.out.2.1.ge p hp)⟩
          have HFA4 : Hid (Fresh w.heap.size w4 fs4) := Lib.hid (hw4.fresh (Live.keep (Live.append.1 HROW4.out.1.live).2 (Live.same_below ((Below.refl _ _).alloc (Nat.le_refl _) _) HLV4.out)) (HFF4.out.belowL ((Below.refl _ _).alloc (Nat.le_refl _) _) HLV4.out))
          have HO4 : Hid (OwnS w.heap.size w4 v4 (o ++ [(⟨3, ((N : Nat) : Int), []⟩ : DPart)])) := Lib.hid (Row.owns (by simpa using hr4) HFA4.out)
          obtain ⟨a4, c4, e4⟩ := HO4.out.rd.isSlice
          simp only [List.length_append, List.length_singleton] at e4
          subst e4
          clear hr4 hw4 hn4 HROW4 HFF4 HLT4 HSR4 HLV4 HFA4
          by_cases h40 : o.length < 40
          · have hl40 : ¬ (40 : Int) < (o.length : Int) + 1 := by omega
            go_wp2
            go_roundg (41 - (o ++ [(⟨3, ((N : Nat) : Int), []⟩ : DPart)]).length)
            case measure => simp; omega
            case rel => exact ⟨_, o ++ [(⟨3, ((N : Nat) : Int), []⟩ : DPart)], (L - N), R, rfl, rfl, by first | rfl | go_num | (congr 1; omega), by first | rfl | go_num | (congr 1; omega), by omega, by omega, by simp; omega, HO4.out, HC4.out⟩
          have hl40 : (40 : Int) < (o.length : Int) + 1 := by omega
          obtain ⟨fs5, hrow5, hff5, hlt5⟩ := HO4.out.bd.row2
          have HROW5 := Lib.hid hrow5
          have HFF5 := Lib.hid hff5
          have HLT5 := Lib.hid hlt5
          have hsr5 := src_built (w := w4) (c := [.int .i64 1, .int .i64 (((L - N) : Nat) : Int), .slice none 0 0]) (x := (⟨1, (((L - N) : Nat) : Int), []⟩ : DPart)) (f := []) 62 ⟨_, [], rfl, Sl.nil, rfl⟩
          have HSR5 := Lib.hid hsr5
          have HLV5 : Hid (∀ p ∈ fs5, p.1 < w4.heap.size) := Lib.hid (Live.lt (Live.append.1 hrow5.1.live).2)
          have hsz5 : w.heap.size ≤ w4.heap.size := HC4.out.2.size
          clear hrow5 hff5 hlt5 hsr5
          go_wp2_with (at_builtin; go_must (refine wpList_append_row rfl _ _ 29 rfl Tryz.underlying29 hi hz0 hz1 hz2 rfl rfl rfl (HROW5.out.below ((Below.refl _ _).alloc (Nat.le_refl _) _)) HSR5.out (fun _ h => by cases h) ?c1 ?c2 ?c3 ?_))
          case c1 => exact le_BIG (by simp; omega)
          case c2 => simp; omega
          case c3 => simp; omega
          intro v5 w5 hr5 hw5 hn5
          have HC5 : Hid (CuOut w0 bc vb bs w w5) := Lib.hid ⟨(HC4.out.1.below ((Below.refl _ _).alloc (Nat.le_refl _) _)).wr hw5 (fun p hp => by have := HROW5.out.2.1.ge p hp; have := HC4.out.1.o; omega), wr_cu (HC4.out.2.trans (Wr.of_below ((Below.refl _ _).alloc (Nat.le_refl _) _))) hw5 (fun p hp => HROW5.out.2.1.ge p hp)⟩
          have HFA5 : Hid (Fresh w.heap.size w5 fs5) := Lib.hid (hw5.fresh (Live.keep (Live.append.1 HROW5.out.1.live).2 (Live.same_below ((Below.refl _ _).alloc (Nat.le_refl _) _) HLV5.out)) (HFF5.out.belowL ((Below.refl _ _).alloc (Nat.le_refl _) _) HLV5.out))
          have HO5 : Hid (OwnS w.heap.size w5 v5 (o ++ [(⟨3, ((N : Nat) : Int), []⟩ : DPart)] ++ [(⟨1, (((L - N) : Nat) : Int), []⟩ : DPart)])) := Lib.hid (Row.owns (by simpa using hr5) HFA5.out)
          obtain ⟨a5, c5, e5⟩ := HO5.out.rd.isSlice
          simp only [List.length_append, List.length_singleton] at e5
          subst e5
          clear hr5 hw5 hn5 HROW5 HFF5 HLT5 HSR5 HLV5 HFA5
          go_wp2
          go_ret
          exact ⟨_, _, rfl, HO5.out, HC5.out⟩
      · have hb0 : (x == 0) = false := by simp; omega
        have hb1 : (x == 1) = false := by simp; omega
        have hb2 : ¬ x = 0 := by omega
        have hb3 : ¬ x = 1 := by omega
        go_wp2_with fail
        refine (spec_l01Below_c w0 bc vb bs ((L : Int) + 1) _ HC2.out.1).mono ?_
        rintro e' w3 ⟨y, rfl, hy, hc3⟩
        obtain ⟨hy0, hy1⟩ := hy.1 (by omega)
        obtain ⟨N, rfl⟩ : ∃ N : Nat, y = N := ⟨y.toNat, by omega⟩
        have HU3 := Lib.hid (HU.out.cu hc3.2 hbl)
        have HC3 := Lib.hid (HC2.out.trans hc3)
        clear hy hc3
        have hll : (L : Int) - ((N : Nat) : Int) = ((L - N : Nat) : Int) := by omega
        obtain ⟨fs4, hrow4, hff4, hlt4⟩ := HU3.out.bd.row2
        have HROW4 := Lib.hid hrow4
        have HFF4 := Lib.hid hff4
        have HLT4 := Lib.hid hlt4
        have hsr4 := src_built (w := w3) (c := [.int .i64 1, .int .i64 ((N : Nat) : Int), .slice none 0 0]) (x := (⟨1, ((N : Nat) : Int), []⟩ : DPart)) (f := []) 62 ⟨_, [], rfl, Sl.nil, rfl⟩
        have HSR4 := Lib.hid hsr4
        have HLV4 : Hid (∀ p ∈ fs4, p.1 < w3.heap.size) := Lib.hid (Live.lt (Live.append.1 hrow4.1.live).2)
        have hsz4 : w.heap.size ≤ w3.heap.size := HC3.out.2.size
        clear hrow4 hff4 hlt4 hsr4
        go_wp2_with (at_builtin; go_must (refine wpList_append_row rfl _ _ 29 rfl Tryz.underlying29 hi hz0 hz1 hz2 rfl rfl rfl (HROW4.out.below ((Below.refl _ _).alloc (Nat.le_refl _) _)) HSR4.out (fun _ h => by cases h) ?c1 ?c2 ?c3 ?_))
        case c1 => exact le_BIG (by simp; omega)
        case c2 => simp; omega
        case c3 => simp; omega
        intro v4 w4 hr4 hw4 hn4
        have HC4 : Hid (CuOut w0 bc vb bs w w4) := Lib.hid ⟨(HC3.out.1.below ((Below.refl _ _).alloc (Nat.le_refl _) _)).wr hw4 (fun p hp => by have := HROW4.out.2.1.ge p hp; have := HC3.out.1.o; omega), wr_cu (HC3.out.2.trans (Wr.of_below ((Below.refl _ _).alloc (Nat.le_refl _) _))) hw4 (fun p hp => HROW4.out.2.1.ge p hp)⟩
        have HFA4 : Hid (Fresh w.heap.size w4 fs4) := Lib.hid (hw4.fresh (Live.keep (Live.append.1 HROW4.out.1.live).2 (Live.same_below ((Below.refl _ _).alloc (Nat.le_refl _) _) HLV4.out)) (HFF4.out.belowL ((Below.refl _ _).alloc (Nat.le_refl _) _) HLV4.out))
        have HO4 : Hid (OwnS w.heap.size w4 v4 (o ++ [(⟨1, ((N : Nat) : Int), []⟩ : DPart)])) := Lib.hid (Row.owns (by simpa using hr4) HFA4.out)
        obtain ⟨a4, c4, e4⟩ := HO4.out.rd.isSlice
        simp only [List.length_append, List.length_singleton] at e4
        subst e4
        clear hr4 hw4 hn4 HROW4 HFF4 HLT4 HSR4 HLV4 HFA4
        by_cases h40 : o.length < 40
        · have hl40 : ¬ (40 : Int) < (o.length : Int) + 1 := by omega
          go_wp2
          go_roundg (41 - (o ++ [(⟨1, ((N : Nat) : Int), []⟩ : DPart)]).length)
          case measure => simp; omega
          case rel => exact ⟨_, o ++ [(⟨1, ((N : Nat) : Int), []⟩ : DPart)], (L - N), R, rfl, rfl, by first | rfl | go_num | (congr 1; omega), by first | rfl | go_num | (congr 1; omega), by omega, by omega, by simp; omega, HO4.out, HC4.out⟩
        have hl40 : (40 : Int) < (o.length : Int) + 1 := by omega
        obtain ⟨fs5, hrow5, hff5, hlt5⟩ := HO4.out.bd.row2
        have HROW5 := Lib.hid hrow5
        have HFF5 := Lib.hid hff5
        have HLT5 := Lib.hid hlt5
        have hsr5 := src_built (w := w4) (c := [.int .i64 1, .int .i64 (((L - N) : Nat) : Int), .slice none 0 0]) (x := (⟨1, (((L - N) : Nat) : Int), []⟩ : DPart)) (f := []) 62 ⟨_, [], rfl, Sl.nil, rfl⟩
        have HSR5 := Lib.hid hsr5
        have HLV5 : Hid (∀ p ∈ fs5, p.1 < w4.heap.size) := Lib.hid (Live.lt (Live.append.1 hrow5.1.live).2)
        have hsz5 : w.heap.size ≤ w4.heap.size := HC4.out.2.size
        clear hrow5 hff5 hlt5 hsr5
        go_wp2_with (at_builtin; go_must (refine wpList_append_row rfl _ _ 29 rfl Tryz.underlying29 hi hz0 hz1 hz2 rfl rfl rfl (HROW5.out.below ((Below.refl _ _).alloc (Nat.le_refl _) _)) HSR5.out (fun _ h => by cases h) ?c1 ?c2 ?c3 ?_))
        case c1 => exact le_BIG (by simp; omega)
        case c2 => simp; omega
        case c3 => simp; omega
        intro v5 w5 hr5 hw5 hn5
        have HC5 : Hid (CuOut w0 bc vb bs w w5) := Lib.hid ⟨(HC4.out.1.below ((Below.refl _ _).alloc (Nat.le_refl _) _)).wr hw5 (fun p hp => by have := HROW5.out.2.1.ge p hp; have := HC4.out.1.o; omega), wr_cu (HC4.out.2.trans (Wr.of_below ((Below.refl _ _).alloc (Nat.le_refl _) _))) hw5 (fun p hp => HROW5.out.2.1.ge p hp)⟩
        have HFA5 : Hid (Fresh w.heap.size w5 fs5) := Lib.hid (hw5.fresh (Live.keep (Live.append.1 HROW5.out.1.live).2 (Live.same_below ((Below.refl _ _).alloc (Nat.le_refl _) _) HLV5.out)) (HFF5.out.belowL ((Below.refl _ _).alloc (Nat.le_refl _) _) HLV5.out))
        have HO5 : Hid (OwnS w.heap.size w5 v5 (o ++ [(⟨1, ((N : Nat) : Int), []⟩ : DPart)] ++ [(⟨1, (((L - N) : Nat) : Int), []⟩ : DPart)])) := Lib.hid (Row.owns (by simpa using hr5) HFA5.out)
        obtain ⟨a5, c5, e5⟩ := HO5.out.rd.isSlice
        simp only [List.length_append, List.length_singleton] at e5
        subst e5
        clear hr5 hw5 hn5 HROW5 HFF5 HLT5 HSR5 HLV5 HFA5
        go_wp2
        go_ret
        exact ⟨_, _, rfl, HO5.out, HC5.out⟩
end Go.Proofs.YtfkaabpaolelgaaGreat
