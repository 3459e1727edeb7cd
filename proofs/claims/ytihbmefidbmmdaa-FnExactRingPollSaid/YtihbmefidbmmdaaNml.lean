/- The normal form of an operation: the program's walk. -/
import Derived.Test.YtihbmefidbmmdaaNfl
import Derived.Deep.RegionWith
namespace Go.Proofs.Ytihbmefidbmmdaa
open Go.RowKit
theorem bld_new3 (w : World) (E1 E2 E3 : TypeId) (B : Nat) (hB : B ≤ w.heap.size) :
    Bld B (((w.alloc (.cells #[.slice none 0 0] E1)).alloc (.cells #[.slice none 0 0] E2)).alloc (.cells #[.int .i64 0] E3)) (w.heap.size, 0) (w.heap.size + 1, 0) (w.heap.size + 2, 0) ⟨[], [], 0⟩ (bpl (w.heap.size, 0) (w.heap.size + 1, 0) (w.heap.size + 2, 0) ++ ([] ++ [])) := by
  refine ⟨⟨.slice none 0 0, .slice none 0 0, [], [], by simp [go_sem], by simp [go_sem], by simp [go_sem], Sl.nil, Sl.nil, rfl⟩, ?_⟩
  refine ⟨by simp [bpl], fun p hp => ?_, fun p hp => ?_⟩
  · simp only [bpl, List.append_nil, List.mem_cons, List.not_mem_nil, or_false] at hp
    rcases hp with rfl | rfl | rfl <;> simp <;> omega
  · simp only [bpl, List.append_nil, List.mem_cons, List.not_mem_nil, or_false] at hp
    rcases hp with rfl | rfl | rfl <;> simp [go_sem]
theorem normal_to (o : List DPart) : normal o = (bstTo o o.length).flush.list := by unfold normal bstTo; rw [List.take_length]
theorem Bld.lt {B : Nat} {w : World} {pl pp pd : Pos} {s : Bst} {fp : List Pos} (h : Bld B w pl pp pd s fp) : ∀ p ∈ fp, p.1 < w.heap.size := by
  obtain ⟨vl, vp, fl, fq, hbl, hp, hd, sq, rfl, hfr⟩ := h.open
  intro p hp
  rcases List.mem_append.1 hp with hp | hp
  · exact Live.lt hbl.live p (List.mem_append.2 (.inl hp))
  · rcases List.mem_append.1 hp with hp | hp
    · exact Live.lt hbl.live p (List.mem_append.2 (.inr hp))
    · exact Live.lt sq.live p hp
theorem BStep.below {B : Nat} {w0 w w' : World} {pl pp pd : Pos} {s s0 : Bst} {fp : List Pos} {e : Ending} (h : BStep B w pl pp pd s fp e w') (hb : Bld B w pl pp pd s0 fp) (h0 : Below B w0 w) (hB : B ≤ w.heap.size) : Below B w0 w' := by
  obtain ⟨_, fp', _, hw, _⟩ := h
  exact h0.trans (hw.below hB hb.fr.ge)
set_option maxHeartbeats 8000000 in
set_option maxRecDepth 100000 in
theorem impl_normal_c (v : Value) (o : List DPart) (w : World) (h : RdS w v o) (hall : o.all partOk = true) (h2 : o.length ≤ 3000) : Calls Try.prog 120 #[v] w (GivesS w (normal o)) := by
  have hl := fun w1 ty => h.len Try.underlying27 w1 ty
  have ba := h.le
  obtain ⟨i0, hi, hz0, hz1, hz2⟩ := info_parts info_part
  obtain ⟨j0, hj, jz0, jz1, jz2⟩ := info_parts info_int2
  have HALL := Lib.hid hall
  have HV := Lib.hid (normal_to o)
  clear hall
  go_enter Try.func120, Try.ntmps120
  go_wp2
  go_loopw [13] (fun i wr => ∃ (k : Nat) (fp : List Pos), k ≤ o.length ∧ i = .int .i64 k ∧ Bld w.heap.size wr (w.heap.size, 0) (w.heap.size + 1, 0) (w.heap.size + 2, 0) (bstTo o k) fp ∧ Below w.heap.size w wr) (fun i _ => o.length - (intOf i).toNat)
  case atStart => exact ⟨0, _, Nat.zero_le _, rfl, bld_new3 w _ _ _ _ (Nat.le_refl _), (by repeat' (first | (with_reducible exact Below.refl _ _) | (with_reducible assumption) | (with_reducible refine Below.setCell ?_ ?_ _) | (with_reducible refine Below.alloc ?_ ?_ _) | (with_reducible refine Below.drew ?_) | (with_reducible refine belowN ?_ _) | (with_reducible refine below_after ?_ (by assumption) ?_) | omega | (simp; done) | (simp; omega)))⟩
  case round =>
    obtain ⟨k, fp, hk, rfl, hb, hbw⟩ := hrel
    have hsz := hbw.size
    have inv := bstTo_inv HALL.out k hk
    have i1 := inv.len
    have i2 := inv.put
    have i3 := inv.d0
    have i4 := inv.d1
    by_cases hlt : k < o.length
    · obtain ⟨p, hx⟩ := get_some hlt
      obtain ⟨b1, o1, cs, g1, g2, g3⟩ := (h.below hbw).idx Try.underlying27 szi_DPart k hx
      obtain ⟨v_signs, rfl, r_signs⟩ := inv_DPart g3
      have q0 := g2.zero
      have q1 := g2 1 _ rfl
      have q2 := g2 2 _ rfl
      obtain ⟨aa, ca, rfl⟩ := r_signs.isSlice
      have hst := bstTo_succ hx
      have hpo := all_at HALL.out hx
      clear hx
      rcases partOk_cases hpo with ⟨kx, n1, n2, n3⟩ | ⟨kx, n1, n2, _⟩ | ⟨kx, n1, n2, n3⟩
      · rw [kx] at q0
        by_cases hn0 : p.n = 0
        · have HS : Hid (bstTo o (k + 1) = bstTo o k) := Lib.hid (by rw [hst]; unfold Bst.step Bst.keep; rw [if_pos kx, if_pos hn0])
          have hn1 : ¬ 0 < p.n := by omega
          have hn2 : decide (0 < p.n) = false := by simpa using hn1
          have HB := Lib.hid hb
          clear hst hpo kx inv hn0 hb
          go_wp2
          go_roundw
          case rel => exact ⟨k + 1, fp, by omega, by go_num, by rw [HS.out]; exact HB.out.below (by repeat' (first | (with_reducible exact Below.refl _ _) | (with_reducible assumption) | (with_reducible refine Below.setCell ?_ ?_ _) | (with_reducible refine Below.alloc ?_ ?_ _) | (with_reducible refine Below.drew ?_) | (with_reducible refine belowN ?_ _) | (with_reducible refine below_after ?_ (by assumption) ?_) | omega | (simp; done) | (simp; omega))), (by repeat' (first | (with_reducible exact Below.refl _ _) | (with_reducible assumption) | (with_reducible refine Below.setCell ?_ ?_ _) | (with_reducible refine Below.alloc ?_ ?_ _) | (with_reducible refine Below.drew ?_) | (with_reducible refine belowN ?_ _) | (with_reducible refine below_after ?_ (by assumption) ?_) | omega | (simp; done) | (simp; omega)))⟩
          case measure => simp [intOf]; omega
        · have hn1 : 0 < p.n := by omega
          have HFL := Lib.hid inv.flushed
          have HK0 : Hid (bstTo o (k + 1) = ⟨keepOn (bstTo o k).flush.list p.n, [], 0⟩) := Lib.hid (by rw [hst]; unfold Bst.step Bst.keep; rw [if_pos kx, if_neg hn0])
          have hfl := flush_len (bstTo o k)
          have hfpl := hb.lt
          have HFP := Lib.hid hfpl
          clear hst hpo kx inv hn0 hfpl
          go_wp2_with fail
          refine (impl_flush_c w.heap.size w.heap.size (w.heap.size + 1) (w.heap.size + 2) (bstTo o k) fp _ (hb.below (by repeat' (first | (with_reducible exact Below.refl _ _) | (with_reducible assumption) | (with_reducible refine Below.setCell ?_ ?_ _) | (with_reducible refine Below.alloc ?_ ?_ _) | (with_reducible refine Below.drew ?_) | (with_reducible refine belowN ?_ _) | (with_reducible refine below_after ?_ (by assumption) ?_) | omega | (simp; done) | (simp; omega)))) (by simp; omega) (by omega) i3 (by omega)).mono ?_
          intro e w1 hstep
          have HBW1 : Hid (Below w.heap.size w w1) := Lib.hid (hstep.below (hb.below (by repeat' (first | (with_reducible exact Below.refl _ _) | (with_reducible assumption) | (with_reducible refine Below.setCell ?_ ?_ _) | (with_reducible refine Below.alloc ?_ ?_ _) | (with_reducible refine Below.drew ?_) | (with_reducible refine belowN ?_ _) | (with_reducible refine below_after ?_ (by assumption) ?_) | omega | (simp; done) | (simp; omega)))) (by repeat' (first | (with_reducible exact Below.refl _ _) | (with_reducible assumption) | (with_reducible refine Below.setCell ?_ ?_ _) | (with_reducible refine Below.alloc ?_ ?_ _) | (with_reducible refine Below.drew ?_) | (with_reducible refine belowN ?_ _) | (with_reducible refine below_after ?_ (by assumption) ?_) | omega | (simp; done) | (simp; omega))) (by simp; omega))
          obtain ⟨rfl, fp', hb', hw', hn'⟩ := hstep
          have c1 : w1.cell? ⟨wr.heap.size, 1, none⟩ = some (.int .i64 p.n) := by
            rw [hw'.cell (wr.heap.size, 1) (by simp) (fun hm => by have := HFP.out _ hm; simp at this)]
            simp
          have zb : wr.heap.size < w1.heap.size := Nat.lt_of_lt_of_le (by simp) hw'.size
          obtain ⟨L, hL⟩ : ∃ L, (bstTo o k).flush.list = L := ⟨_, rfl⟩
          have hfs : (bstTo o k).flush = ⟨L, [], 0⟩ := by rw [← hL]; rfl
          rw [hfs] at hb'
          have HBD : Hid (∀ q ∈ L, 0 ≤ q.n ∧ q.n ≤ 400 * (k : Int)) := Lib.hid (by rw [← hL]; exact HFL.out)
          have HK2 : Hid (bstTo o (k + 1) = ⟨keepOn L p.n, [], 0⟩) := Lib.hid (by rw [← hL]; exact HK0.out)
          rw [hL] at hfl
          have HB' := Lib.hid hb'
          obtain ⟨vl, vp, fl, fq, hbl, hp_, hd_, sq, rfl, hfr⟩ := hb'.open
          simp only at hbl hp_ hd_ sq
          have hw1 : w.heap.size ≤ w1.heap.size := by omega
          have hgl : w.heap.size < w1.heap.size := Live.lt hbl.live (w.heap.size, 0) (by simp [bpl])
          have c0 : w1.cell? ⟨w.heap.size, 0, none⟩ = some vl := hbl.cl
          have z0 : w1.frozen? ⟨w.heap.size, 0, none⟩ = false := hfr.free (w.heap.size, 0) (by simp [bpl])
          have hrl : RdS w1 vl L := ⟨_, hbl.sl⟩
          have HPP := Lib.hid hp_
          have HPD := Lib.hid hd_
          clear hfs hb' HK0 HFL hL hw' hn' hb hp_ hd_
          rcases List.eq_nil_or_concat L with rfl | ⟨m, q, rfl⟩
          · have HK3 : Hid (bstTo o (k + 1) = ⟨[] ++ [⟨1, p.n, []⟩], [], 0⟩) := Lib.hid (by rw [HK2.out, keepOn_nil]; rfl)
            have hlen : ∀ w2 ty, (Builtin.len_ #[27] ty #[vl]).run Try.prog w2 = .ok (.int .i64 0) w2 := fun w2 ty => hrl.len Try.underlying27 w2 ty
            obtain ⟨fs, hfe, hrow⟩ := hbl.row
            have HFE := Lib.hid hfe
            have HROW := Lib.hid hrow
            have n0 : ((w.heap.size, 0) : Pos) ∉ rowP (GoT.n DPart) vl := fun hm => (List.nodup_append.1 hfr.nodup).2.2 (w.heap.size, 0) (by simp [bpl]) (w.heap.size, 0) (by rw [hfe]; simp [show (w.heap.size, 0) ∈ rowP 3 vl from hm]) rfl
            have hW : Below w1.heap.size w1 (w1.alloc (.cells #[.int .i64 1, .int .i64 p.n, .slice none 0 0] 116)) := (Below.refl _ _).alloc (Nat.le_refl _) _
            have hsrc := Lib.hid (part_built w1 1 p.n _ [] [] 116 Sl.nil)
            clear hfe hrow
            go_wp2_with (at_builtin; refine wpList_append_row rfl _ _ 27 rfl Try.underlying27 hi hz0 hz1 hz2 rfl rfl rfl (HROW.out.below hW) hsrc.out (fun _ h => by cases h) ?c1 ?c2 ?c3 ?_)
            case c1 => exact le_BIG (by simp at hfl ⊢; try omega)
            case c2 => simp at hfl ⊢; try omega
            case c3 => simp; omega
            intro v1 w2 hr hw hn
            obtain ⟨a1, cc1, rfl⟩ := hr.rd.isSlice
            have q0 : w2.cell? ⟨w.heap.size, 0, none⟩ = some vl := cellw hW hw c0 n0
            have q1 : w2.frozen? ⟨w.heap.size, 0, none⟩ = false := (hw.frozen (w.heap.size, 0) (Nat.lt_of_lt_of_le hgl hW.size)).trans ((hW.frozen (p := ⟨w.heap.size, 0, none⟩) hgl).trans z0)
            obtain ⟨fx, b1, b2, b3⟩ := Bld.app (s := ⟨[], [], 0⟩) (x := ⟨1, p.n, []⟩) hbl HPP.out HPD.out sq hfr hW HFE.out (by simpa using hr) hw (fun p hp => (hn p.1 p.2 hp).imp id (fun h => by simpa using h))
            simp only [List.nil_append, List.length_singleton] at b1 b2
            have B1 := Lib.hid b1
            have B2 := Lib.hid (HBW1.out.trans (b2.below hw1 hfr.ge))
            clear b1 b2 b3 hr hw hn hbl sq hfr
            go_wp2
            go_roundw
            case rel => exact ⟨k + 1, _, by omega, by go_num, by rw [HK3.out]; exact B1.out, B2.out⟩
            case measure => simp [intOf]; omega
          · simp only [List.concat_eq_append] at *
            by_cases hk1 : q.kind = 1
            · obtain ⟨b, oo, g1, g2, g3, g4, g5⟩ := Bld.lastN (s := ⟨m ++ [q], [], 0⟩) (m := m) (p := q) hbl HPP.out HPD.out sq hfr rfl
              have hlen : ∀ w2 ty, (Builtin.len_ #[27] ty #[vl]).run Try.prog w2 = .ok (.int .i64 ((m.length : Int) + 1)) w2 := fun w2 ty => by
                have := hrl.len Try.underlying27 w2 ty
                simpa using this
              have hpb := HBD.out q (by simp)
              have HK3 : Hid (bstTo o (k + 1) = ⟨m ++ [⟨q.kind, q.n + p.n, q.signs⟩], [], 0⟩) := Lib.hid (by rw [HK2.out, keepOn_keep m q p.n hk1])
              have hml : m.length ≤ 1000000 := by simp at hfl; omega
              rw [hk1] at g2
              have G5 := Lib.hid (g5 (q.n + p.n))
              have HFR := Lib.hid hfr.ge
              clear hbl sq hfr g5 hk1
              have hs1 : IntKind.i64.wrap (m.length : Int) = (m.length : Int) := IntWalk.i64_in _ (by omega)
              have hs2 : IntKind.i64.wrap (q.n + p.n) = q.n + p.n := IntWalk.i64_in _ (by omega)
              go_wp2
              go_region_law (fail)
              all_goals
                clear hs1 hs2
                have B2 : Hid (Below w.heap.size w (w1.setCell ⟨b, oo + 1, none⟩ (.int .i64 (q.n + p.n))).drew) := Lib.hid (HBW1.out.trans (G5.out.2.below hw1 HFR.out)).drew
                go_wp2
                go_roundw
                case rel => exact ⟨k + 1, _, by omega, by go_num, by rw [HK3.out]; exact G5.out.1.drew, B2.out⟩
                case measure => simp [intOf]; omega
            · obtain ⟨b, oo, g1, g2, g3, g4, g5⟩ := Bld.lastN (s := ⟨m ++ [q], [], 0⟩) (m := m) (p := q) hbl HPP.out HPD.out sq hfr rfl
              have hlen : ∀ w2 ty, (Builtin.len_ #[27] ty #[vl]).run Try.prog w2 = .ok (.int .i64 ((m.length : Int) + 1)) w2 := fun w2 ty => by
                have := hrl.len Try.underlying27 w2 ty
                simpa using this
              have HK3 : Hid (bstTo o (k + 1) = ⟨m ++ [q] ++ [⟨1, p.n, []⟩], [], 0⟩) := Lib.hid (by rw [HK2.out, keepOn_other m q p.n hk1])
              have hml : m.length ≤ 1000000 := by simp at hfl; omega
              have e1 : (q.kind == 1) = false := by simpa using hk1
              clear g5 hk1 g3 g4
              obtain ⟨fs, hfe, hrow⟩ := hbl.row
              have HFE := Lib.hid hfe
              have HROW := Lib.hid hrow
              have n0 : ((w.heap.size, 0) : Pos) ∉ rowP (GoT.n DPart) vl := fun hm => (List.nodup_append.1 hfr.nodup).2.2 (w.heap.size, 0) (by simp [bpl]) (w.heap.size, 0) (by rw [hfe]; simp [show (w.heap.size, 0) ∈ rowP 3 vl from hm]) rfl
              have hW : Below w1.heap.size w1 (w1.alloc (.cells #[.int .i64 1, .int .i64 p.n, .slice none 0 0] 116)) := (Below.refl _ _).alloc (Nat.le_refl _) _
              have hsrc := Lib.hid (part_built w1 1 p.n _ [] [] 116 Sl.nil)
              clear hfe hrow
              go_wp2_with (at_builtin; refine wpList_append_row rfl _ _ 27 rfl Try.underlying27 hi hz0 hz1 hz2 rfl rfl rfl (HROW.out.below hW) hsrc.out (fun _ h => by cases h) ?c1 ?c2 ?c3 ?_)
              case c1 => exact le_BIG (by simp at hfl ⊢; try omega)
              case c2 => simp at hfl ⊢; try omega
              case c3 => simp; omega
              intro v1 w2 hr hw hn
              obtain ⟨a1, cc1, rfl⟩ := hr.rd.isSlice
              have q0 : w2.cell? ⟨w.heap.size, 0, none⟩ = some vl := cellw hW hw c0 n0
              have q1 : w2.frozen? ⟨w.heap.size, 0, none⟩ = false := (hw.frozen (w.heap.size, 0) (Nat.lt_of_lt_of_le hgl hW.size)).trans ((hW.frozen (p := ⟨w.heap.size, 0, none⟩) hgl).trans z0)
              obtain ⟨fx, b1, b2, b3⟩ := Bld.app (s := ⟨m ++ [q], [], 0⟩) (x := ⟨1, p.n, []⟩) hbl HPP.out HPD.out sq hfr hW HFE.out (by simpa using hr) hw (fun p hp => (hn p.1 p.2 hp).imp id (fun h => by simpa using h))
              simp only [List.length_append] at b1 b2
              have B1 := Lib.hid b1
              have B2 := Lib.hid (HBW1.out.trans (b2.below hw1 hfr.ge))
              clear b1 b2 b3 hr hw hn hbl sq hfr
              go_wp2
              go_roundw
              case rel => exact ⟨k + 1, _, by omega, by go_num, by rw [HK3.out]; exact B1.out, B2.out⟩
              case measure => simp [intOf]; omega
      · rw [kx] at q0
        have HS : Hid (bstTo o (k + 1) = (bstTo o k).puts p.signs) := Lib.hid (by rw [hst]; unfold Bst.step; rw [if_neg (by omega), if_pos kx])
        have hW : Below wr.heap.size wr (wr.alloc (.cells #[.int .i64 2, .int .i64 p.n, .slice aa p.signs.length ca] 116)) := (Below.refl _ _).alloc (Nat.le_refl _) _
        have hb2 := hb.below hW
        obtain ⟨vl, vp, fl, fq, hbl, hp_, hd_, sq, hfe0, hfr⟩ := hb2.open
        have hp : wr.cell? ⟨w.heap.size + 1, 0, none⟩ = some vp := by
          rw [← hW.cell (p := ⟨w.heap.size + 1, 0, none⟩) (hb.lt (w.heap.size + 1, 0) (by rw [hfe0]; simp [bpl]))]; exact hp_
        have z1 : wr.frozen? ⟨w.heap.size + 1, 0, none⟩ = false := hb.fr.free (w.heap.size + 1, 0) (by rw [hfe0]; simp [bpl])
        have hgl : w.heap.size + 1 < wr.heap.size := hb.lt (w.heap.size + 1, 0) (by rw [hfe0]; simp [bpl])
        subst hfe0
        have hfe : fq = rowP 1 vp := sq.flat (α := Int) rdInt_fp2
        have hrow : Row w.heap.size (wr.alloc (.cells #[.int .i64 2, .int .i64 p.n, .slice aa p.signs.length ca] 116)) vp (bstTo o k).put [] := by
          refine ⟨?_, ?_, fun _ h => (by cases h)⟩
          · rw [List.append_nil]; show Sl BIG _ vp _ (rowP 1 vp); rw [← hfe]; exact sq
          · have := hfr.right.right; rw [hfe] at this; exact this
        have n1_ : ((w.heap.size + 1, 0) : Pos) ∉ rowP 1 vp := fun hm => (List.nodup_append.1 hfr.nodup).2.2 (w.heap.size + 1, 0) (by simp [bpl]) (w.heap.size + 1, 0) (by rw [hfe]; simp [hm]) rfl
        have HFE := Lib.hid hfe
        have HROW := Lib.hid hrow
        have HSRC := Lib.hid (Src.ints2 (r_signs.below hW))
        have HD := Lib.hid hd_
        clear hfe hrow hd_ hp_ hb hb2 hst hpo kx inv n1
        go_wp2_with (at_builtin; refine wpList_append_row rfl _ _ 48 rfl Try.underlying48 hj jz0 jz1 jz2 rfl rfl rfl HROW.out HSRC.out (fun _ h => by cases h) ?c1 ?c2 ?c3 ?_)
        case c1 => exact le_BIG (by omega)
        case c2 => omega
        case c3 => first | omega | (simp; omega)
        intro v' w1 hr hw hn
        obtain ⟨a1, cc1, rfl⟩ := hr.rd.isSlice
        have q0' : w1.cell? ⟨w.heap.size + 1, 0, none⟩ = some vp := cellw hW hw hp n1_
        have q1' : w1.frozen? ⟨w.heap.size + 1, 0, none⟩ = false := (hw.frozen (w.heap.size + 1, 0) (by simp; omega)).trans ((hW.frozen (p := ⟨w.heap.size + 1, 0, none⟩) hgl).trans z1)
        obtain ⟨fx, x1, x2, x3⟩ := Bld.puts hbl HD.out sq hfr hr hw (fun p hp => (hn p.1 p.2 hp).imp id (fun h => by simpa using h)) HFE.out
        simp only [List.length_append] at x1 x2
        have X1 := Lib.hid x1
        have X2 := Lib.hid ((hbw.trans (hW.mono hsz)).trans (x2.below (by simp; omega) hfr.ge))
        clear hr hw hn x1 x2 x3 hbl sq hfr
        go_wp2
        go_roundw
        case rel => exact ⟨k + 1, _, by omega, by go_num, by rw [HS.out]; exact X1.out, X2.out⟩
        case measure => simp [intOf]; omega
      · rw [kx] at q0
        have HS : Hid (bstTo o (k + 1) = (bstTo o k).drops p.n) := Lib.hid (by rw [hst]; unfold Bst.step; rw [if_neg (by omega), if_neg (by omega)])
        have HD := Lib.hid (hb.dropd p.n)
        obtain ⟨vl, vp, fl, fq, hbl, hp_, hd_, sq, hfe0, hfr⟩ := hb.open
        have hd : wr.cell? ⟨w.heap.size + 2, 0, none⟩ = some (.int .i64 (bstTo o k).drop) := hd_
        have z2 : wr.frozen? ⟨w.heap.size + 2, 0, none⟩ = false := hfr.free (w.heap.size + 2, 0) (by rw [hfe0]; simp [bpl])
        have zl : w.heap.size + 2 < wr.heap.size := hb.lt (w.heap.size + 2, 0) (by rw [hfe0]; simp [bpl])
        have X2 := Lib.hid (hbw.trans (HD.out.2.below hsz hfr.ge))
        clear hp_ hd_ hb hbl sq hfr hst hpo kx inv n3
        go_wp2
        go_roundw
        case rel => exact ⟨k + 1, _, by omega, by go_num, by rw [HS.out]; exact HD.out.1.below ((Below.refl _ _).alloc (Nat.le_refl _) _), X2.out.alloc (by simp; omega) _⟩
        case measure => simp [intOf]; omega
    · obtain rfl : k = o.length := by omega
      have HB := Lib.hid hb
      go_wp2_with fail
      refine (impl_flush_c w.heap.size w.heap.size (w.heap.size + 1) (w.heap.size + 2) (bstTo o o.length) fp _ hb hsz (by omega) i3 (by omega)).mono ?_
      intro e w1 hstep
      have HBW1 : Hid (Below w.heap.size w w1) := Lib.hid (hstep.below HB.out hbw hsz)
      obtain ⟨rfl, fp', hb', hw', hn'⟩ := hstep
      obtain ⟨vl, vp, fl, fq, hbl, hp_, hd_, sq, rfl, hfr⟩ := hb'.open
      have c0 : w1.cell? ⟨w.heap.size, 0, none⟩ = some vl := hbl.cl
      have HO : Hid (OwnS w.heap.size w1 vl (bstTo o o.length).flush.list) := Lib.hid ⟨fl, hbl.sl, hbl.fr.right⟩
      clear hp_ hd_ hw' hn' hb' hb
      go_wp2
      go_ret
      rw [HV.out]
      exact ⟨_, rfl, HO.out, HBW1.out⟩
theorem impl_OpNorm_c (v : Value) (o : List DPart) (w : World) (h : RdS w v o) : Calls Try.prog 95 #[v] w (GivesS w (opNorm o)) := by
  by_cases hp : opOk o = true
  · obtain ⟨hall, h600, _, _⟩ := opOk_iff'.1 hp
    have HALL := Lib.hid hall
    have HV : Hid (opNorm o = normal o) := Lib.hid (by unfold opNorm; rw [if_pos hp])
    clear hall
    go_enter Try.func95, Try.ntmps95
    go_wp2_with fail
    refine (impl_OpOk_c _ o _ (h.below (by repeat' (first | (with_reducible exact Below.refl _ _) | (with_reducible assumption) | (with_reducible refine Below.setCell ?_ ?_ _) | (with_reducible refine Below.alloc ?_ ?_ _) | (with_reducible refine Below.drew ?_) | (with_reducible refine belowN ?_ _) | (with_reducible refine below_after ?_ (by assumption) ?_) | omega | (simp; done) | (simp; omega))))).mono ?_
    rintro e w1 ⟨rfl, hb1⟩
    have s1 := hb1.size
    (try simp at s1)
    obtain ⟨hc1, hf1⟩ := bcell hb1
    clear hc1 hf1
    go_wp2_with fail
    refine (impl_normal_c _ o _ (h.below (by repeat' (first | (with_reducible exact Below.refl _ _) | (with_reducible assumption) | (with_reducible refine Below.setCell ?_ ?_ _) | (with_reducible refine Below.alloc ?_ ?_ _) | (with_reducible refine Below.drew ?_) | (with_reducible refine belowN ?_ _) | (with_reducible refine below_after ?_ (by assumption) ?_) | omega | (simp; done) | (simp; omega)))) HALL.out (by omega)).mono ?_
    rintro e w2 ⟨v2, rfl, ho, hb2⟩
    have HO := Lib.hid (ho.mono (B' := w.heap.size) s1)
    clear ho
    go_wp2
    go_ret
    rw [HV.out]
    exact ⟨_, rfl, HO.out, (by repeat' (first | (with_reducible exact Below.refl _ _) | (with_reducible assumption) | (with_reducible refine Below.setCell ?_ ?_ _) | (with_reducible refine Below.alloc ?_ ?_ _) | (with_reducible refine Below.drew ?_) | (with_reducible refine belowN ?_ _) | (with_reducible refine below_after ?_ (by assumption) ?_) | omega | (simp; done) | (simp; omega)))⟩
  · have HV := Lib.hid (opNorm_no hp)
    have hp : opOk o = false := by simpa using hp
    go_enter Try.func95, Try.ntmps95
    go_wp2_with fail
    refine (impl_OpOk_c _ o _ (h.below (by repeat' (first | (with_reducible exact Below.refl _ _) | (with_reducible assumption) | (with_reducible refine Below.setCell ?_ ?_ _) | (with_reducible refine Below.alloc ?_ ?_ _) | (with_reducible refine Below.drew ?_) | (with_reducible refine belowN ?_ _) | (with_reducible refine below_after ?_ (by assumption) ?_) | omega | (simp; done) | (simp; omega))))).mono ?_
    rintro e w1 ⟨rfl, hb1⟩
    have s1 := hb1.size
    (try simp at s1)
    obtain ⟨hc1, hf1⟩ := bcell hb1
    go_wp2
    go_ret
    rw [HV.out]
    exact ⟨_, rfl, OwnS.nil, (by repeat' (first | (with_reducible exact Below.refl _ _) | (with_reducible assumption) | (with_reducible refine Below.setCell ?_ ?_ _) | (with_reducible refine Below.alloc ?_ ?_ _) | (with_reducible refine Below.drew ?_) | (with_reducible refine belowN ?_ _) | (with_reducible refine below_after ?_ (by assumption) ?_) | omega | (simp; done) | (simp; omega)))⟩
end Go.Proofs.Ytihbmefidbmmdaa
