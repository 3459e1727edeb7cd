/- A keep put behind a builder: the reference's walk. -/
import Derived.Test.YtihbmefidbmmdaaBop
import Derived.StillTailTactics
import Derived.IntWalk
namespace Go.Proofs.Ytihbmefidbmmdaa
open Go.RowKit
/-- a part without signs more -/
theorem Bld.app {B : Nat} {w W w1 : World} {pl pp pd : Pos} {vl vp v' : Value} {s : Bst} {fl fq fs : List Pos} {x : DPart} (h : BL B w pl pp pd vl s.list fl) (hp : w.cell? ⟨pp.1, pp.2, none⟩ = some vp) (hd : w.cell? ⟨pd.1, pd.2, none⟩ = some (.int .i64 s.drop))
    (sq : Sl BIG w vp s.put fq) (hfr : Fresh B w (bpl pl pp pd ++ (fl ++ fq))) (hb : Below w.heap.size w W) (he : fl = rowP 3 vl ++ fs) (hr : Row B w1 v' (s.list ++ [x]) (fs ++ [])) (hw : Wr (rowP 3 vl) W w1) (hn : ∀ p ∈ rowP 3 v', p ∈ rowP 3 vl ∨ W.heap.size ≤ p.1) :
    ∃ fp', Bld B (w1.setCell ⟨pl.1, pl.2, none⟩ v') pl pp pd ⟨s.list ++ [x], s.put, s.drop⟩ fp' ∧ Wr (bpl pl pp pd ++ (fl ++ fq)) w (w1.setCell ⟨pl.1, pl.2, none⟩ v') ∧ ∀ p ∈ fp', p ∈ bpl pl pp pd ++ (fl ++ fq) ∨ w.heap.size ≤ p.1 := by
  have hl : ∀ p ∈ bpl pl pp pd ++ (fl ++ fq), p.1 < w.heap.size := by
    intro p hp
    rcases List.mem_append.1 hp with hp | hp
    · exact Live.lt h.live p (List.mem_append.2 (.inl hp))
    · rcases List.mem_append.1 hp with hp | hp
      · exact Live.lt h.live p (List.mem_append.2 (.inr hp))
      · exact Live.lt sq.live p hp
  have hfx : Fresh B W (bpl pl pp pd ++ (fl ++ [])) := by rw [List.append_nil]; exact hfr.pre2.belowL hb fun p hp => hl p (mem_l hp)
  obtain ⟨fl', k1, k2, k3, k4, k5⟩ := h.app hb hfx (Live.nil _) he hr hw hn
  obtain ⟨n3, nf, dis⟩ := List.nodup_append.1 hfr.nodup
  obtain ⟨_, _, dlq⟩ := List.nodup_append.1 nf
  have hqd : ∀ p ∈ fq, p ∉ bpl pl pp pd ++ fl := by
    intro p hp hq
    rcases List.mem_append.1 hq with hq | hq
    · exact dis p hq p (by simp [hp]) rfl
    · exact dlq p hq p hp rfl
  have sq' := sq.wr2 hb k2 hqd
  have k3' : ∀ p ∈ fl', p ∈ fl ∨ w.heap.size ≤ p.1 := fun p hp => by
    rcases k3 p hp with k | k | k
    · exact .inl k
    · cases k
    · exact .inr (Nat.le_trans hb.size k)
  refine ⟨bpl pl pp pd ++ (fl' ++ fq), ⟨⟨v', vp, fl', fq, k1.cl, k4.trans hp, k5.trans hd, k1.sl, sq', rfl⟩, ?_⟩, (Wr.of_below hb).trans (k2.sub fun _ hp => mem_l hp), ?_⟩
  · have f1 := k1.fr
    have f2 : Fresh B (w1.setCell ⟨pl.1, pl.2, none⟩ v') fq := hfr.right.right.wr2 hb k2 (Live.lt sq.live)
    rw [← List.append_assoc]
    refine f1.join f2 fun p hp q hq e => ?_
    subst e
    rcases List.mem_append.1 hp with hp | hp
    · exact dis p hp p (by simp [hq]) rfl
    · rcases k3' p hp with k | k
      · exact dlq p k p hq rfl
      · have := Live.lt sq.live p hq; omega
  · intro p hp
    rcases List.mem_append.1 hp with hp | hp
    · exact .inl (List.mem_append.2 (.inl hp))
    · rcases List.mem_append.1 hp with hp | hp
      · exact (k3' p hp).imp (fun k => by simp [k]) id
      · exact .inl (by simp [hp])
/-- the last part's number may be written -/
theorem Bld.lastN {B : Nat} {w : World} {pl pp pd : Pos} {vl vp : Value} {s : Bst} {fl fq : List Pos} {m : List DPart} {p : DPart} (h : BL B w pl pp pd vl s.list fl) (hp : w.cell? ⟨pp.1, pp.2, none⟩ = some vp) (hd : w.cell? ⟨pd.1, pd.2, none⟩ = some (.int .i64 s.drop))
    (sq : Sl BIG w vp s.put fq) (hfr : Fresh B w (bpl pl pp pd ++ (fl ++ fq))) (hs : s.list = m ++ [p]) :
    ∃ b o, (∀ w1, (Instr.indexAt 27 vl (.int .i64 m.length)).run Try.prog w1 = .ok (.pointer (some ⟨b, o, none⟩)) w1) ∧ w.cell? ⟨b, o, none⟩ = some (.int .i64 p.kind) ∧ w.cell? ⟨b, o + 1, none⟩ = some (.int .i64 p.n) ∧ w.frozen? ⟨b, o + 1, none⟩ = false ∧
      ∀ n', Bld B (w.setCell ⟨b, o + 1, none⟩ (.int .i64 n')) pl pp pd ⟨m ++ [⟨p.kind, n', p.signs⟩], s.put, s.drop⟩ (bpl pl pp pd ++ (fl ++ fq)) ∧ Wr (bpl pl pp pd ++ (fl ++ fq)) w (w.setCell ⟨b, o + 1, none⟩ (.int .i64 n')) := by
  have hsl := h.sl
  rw [hs] at hsl
  obtain ⟨n3, nf, dis⟩ := List.nodup_append.1 hfr.nodup
  obtain ⟨nl, _, dlq⟩ := List.nodup_append.1 nf
  obtain ⟨b, o, cs, f, g1, g2, ⟨vs, fs, rfl, ss, rfl⟩, g4, g5, gnd, g7⟩ := hsl.lens nl Try.underlying27 szi_DPart m.length (x := p) (by simp)
  have h1 := g4 1 (by decide)
  have hm : ((b, o + 1) : Pos) ∈ bpl pl pp pd ++ (fl ++ fq) := by simp [h1.1]
  have hout : ∀ q : Pos, q ≠ (b, o + 1) → ∀ n', (w.setCell ⟨b, o + 1, none⟩ (.int .i64 n')).cell? ⟨q.1, q.2, none⟩ = w.cell? ⟨q.1, q.2, none⟩ := by
    intro q hq n'
    rw [cell_setCell, if_neg]
    rintro ⟨q1, q2⟩
    exact hq (Prod.ext q1 q2)
  have hb3 : ∀ q ∈ bpl pl pp pd, q ≠ (b, o + 1) := by
    rintro q hq rfl
    exact dis _ hq _ (by simp [h1.1]) rfl
  refine ⟨b, o, g1, g2.zero, g2 1 _ rfl, hfr.free _ hm, fun n' => ⟨⟨⟨vl, vp, fl, fq, ?_, ?_, ?_, ?_, ?_, rfl⟩, hfr.put _ _⟩, Wr.setCell w hm _⟩⟩
  · rw [hout pl (hb3 pl (by simp [bpl]))]; exact h.cl
  · rw [hout pp (hb3 pp (by simp [bpl]))]; exact hp
  · rw [hout pd (hb3 pd (by simp [bpl]))]; exact hd
  · have hset : (m ++ [p]).set m.length ⟨p.kind, n', p.signs⟩ = m ++ [⟨p.kind, n', p.signs⟩] := by simp
    rw [← hset]
    refine g7 _ _ _ (g2.put 1 (by simp) _) ⟨vs, _, rfl, ss.put h1.2 _, rfl⟩ fun q _ _ hn => hout q (hn 1 (by decide)) n'
  · refine sq.keep fun q hq => hout q ?_ n'
    rintro rfl
    exact dlq _ h1.1 _ hq rfl
theorem Bld.drew {B : Nat} {w : World} {pl pp pd : Pos} {s : Bst} {fp : List Pos} (h : Bld B w pl pp pd s fp) : Bld B w.drew pl pp pd s fp := by
  obtain ⟨⟨vl, vp, fl, fq, h1, h2, h3, h4, h5, e⟩, hf⟩ := h
  exact ⟨⟨vl, vp, fl, fq, h1, h2, h3, h4.keep fun _ _ => rfl, h5.keep fun _ _ => rfl, e⟩, hf.nodup, hf.ge, hf.free⟩
theorem Wr.drew {fp : List Pos} {a w : World} (h : Wr fp a w) : Wr fp a w.drew := ⟨h.os, h.tape, h.output, h.size, h.cell, h.frozen, h.block⟩
theorem BStep.of {B : Nat} {w w1 w' : World} {pl pp pd : Pos} {s s' : Bst} {fp f1 f2 : List Pos} (hs : s = s') (hw : Wr fp w w1) (hn : ∀ p ∈ f1, p ∈ fp ∨ w.heap.size ≤ p.1) (hb : Bld B w' pl pp pd s' f2) (hw2 : Wr f1 w1 w') (hn2 : ∀ p ∈ f2, p ∈ f1 ∨ w1.heap.size ≤ p.1) :
    BStep B w pl pp pd s fp (.returned (.tuple #[])) w' := by
  subst hs
  refine ⟨rfl, f2, hb, hw.trans2 hw2 hn, fun p hp => ?_⟩
  rcases hn2 p hp with k | k
  · exact hn p k
  · exact .inr (Nat.le_trans hw.size k)
theorem keepOn_nil (n : Int) : keepOn [] n = [⟨1, n, []⟩] := rfl
theorem keepOn_keep (m : List DPart) (p : DPart) (n : Int) (h : p.kind = 1) : keepOn (m ++ [p]) n = m ++ [⟨p.kind, p.n + n, p.signs⟩] := by simp [keepOn, h]
theorem keepOn_other (m : List DPart) (p : DPart) (n : Int) (h : ¬ p.kind = 1) : keepOn (m ++ [p]) n = m ++ [p] ++ [⟨1, n, []⟩] := by simp [keepOn, h]
theorem flush_len (s : Bst) : s.flush.list.length ≤ s.list.length + 2 := by
  unfold Bst.flush
  simp only [List.length_append]
  split <;> split <;> simp
set_option maxHeartbeats 4000000 in
set_option maxRecDepth 100000 in
theorem spec_l02Keep_c (B g : Nat) (s : Bst) (fp : List Pos) (n : Int) (w : World) (h : Bld B w (g, 0) (g, 1) (g, 2) s fp) (hB : B ≤ w.heap.size) (hl : s.list.length ≤ 900000) (hd0 : 0 ≤ s.drop) (hd1 : s.drop ≤ 1000000) (h0 : 0 ≤ n) (h1 : n ≤ 1000000)
    (hbd : ∀ p ∈ s.flush.list, 0 ≤ p.n ∧ p.n ≤ 1000000) :
    Calls Try.prog 114 #[.pointer (some ⟨g, 0, none⟩), .int .i64 n] w (BStep B w (g, 0) (g, 1) (g, 2) (s.keep n) fp) := by
  by_cases hn0 : n = 0
  · have HK : Hid (s.keep n = s) := Lib.hid (if_pos hn0)
    have e0 : (n == 0) = true := by simp [hn0]
    clear hn0
    go_enter Try.func114, Try.ntmps114
    go_wp2
    go_end0
    rw [HK.out]
    exact ⟨rfl, _, h, Wr.refl _ _, fun _ hp => .inl hp⟩
  · have HK : Hid (s.keep n = ⟨keepOn s.flush.list n, [], 0⟩) := Lib.hid (if_neg hn0)
    have e0 : (n == 0) = false := by simpa using hn0
    have HF : Hid (s.flush = ⟨s.flush.list, [], 0⟩) := Lib.hid rfl
    have hfl := flush_len s
    obtain ⟨i0, hi, hz0, hz1, hz2⟩ := info_parts info_part
    clear hn0
    go_enter Try.func114, Try.ntmps114
    go_wp2_with fail
    refine (spec_l02Flush_c B g s fp _ h hB (by omega) hd0 hd1).mono ?_
    rintro e w1 ⟨rfl, fp', hb', hw', hn'⟩
    obtain ⟨L, hL⟩ : ∃ L, s.flush.list = L := ⟨_, rfl⟩
    have hfs : s.flush = ⟨L, [], 0⟩ := by rw [HF.out, hL]
    rw [hfs] at hb'
    rw [hL] at hfl hbd
    have HK2 : Hid (s.keep n = ⟨keepOn L n, [], 0⟩) := by rw [← hL]; exact HK
    obtain ⟨vl, vp, fl, fq, hbl, hp_, hd_, sq, rfl, hfr⟩ := hb'.open
    simp only at hbl hp_ hd_ sq
    have hw1 : w.heap.size ≤ w1.heap.size := hw'.size
    have hgl : g < w1.heap.size := Live.lt hbl.live (g, 0) (by simp [bpl])
    have c0 : w1.cell? ⟨g, 0, none⟩ = some vl := hbl.cl
    have z0 : w1.frozen? ⟨g, 0, none⟩ = false := hfr.free (g, 0) (by simp [bpl])
    have hrl : RdS w1 vl L := ⟨_, hbl.sl⟩
    have HW := Lib.hid hw'
    have HN := Lib.hid hn'
    have HBD := Lib.hid hbd
    clear hfs hb' HK HF hL hw' hn' hbd h
    rcases List.eq_nil_or_concat L with rfl | ⟨m, p, rfl⟩
    · have HK3 : Hid (s.keep n = ⟨[] ++ [⟨1, n, []⟩], [], 0⟩) := Lib.hid (by rw [HK2.out, keepOn_nil]; rfl)
      have hlen : ∀ w2 ty, (Builtin.len_ #[27] ty #[vl]).run Try.prog w2 = .ok (.int .i64 0) w2 := fun w2 ty => hrl.len Try.underlying27 w2 ty
      obtain ⟨fs, hfe, hrow⟩ := hbl.row
      have HFE := Lib.hid hfe
      have HROW := Lib.hid hrow
      have n0 : ((g, 0) : Pos) ∉ rowP (GoT.n DPart) vl := fun hm => (List.nodup_append.1 hfr.nodup).2.2 (g, 0) (by simp [bpl]) (g, 0) (by rw [hfe]; simp [show (g, 0) ∈ rowP 3 vl from hm]) rfl
      have hW : Below w1.heap.size w1 (w1.alloc (.cells #[.int .i64 1, .int .i64 n, .slice none 0 0] 116)) := (Below.refl _ _).alloc (Nat.le_refl _) _
      have hsrc := Lib.hid (part_built w1 1 n _ [] [] 116 Sl.nil)
      have HPP := Lib.hid hp_
      have HPD := Lib.hid hd_
      clear hfe hrow hp_ hd_
      go_wp2_with (at_builtin; refine wpList_append_row rfl _ _ 27 rfl Try.underlying27 hi hz0 hz1 hz2 rfl rfl rfl (HROW.out.below hW) hsrc.out (fun _ h => by cases h) ?c1 ?c2 ?c3 ?_)
      case c1 => exact le_BIG (by simp at hfl ⊢; try omega)
      case c2 => simp at hfl ⊢; try omega
      case c3 => simp; omega
      intro v1 w2 hr hw hn
      obtain ⟨a1, c1, rfl⟩ := hr.rd.isSlice
      have q0 : w2.cell? ⟨g, 0, none⟩ = some vl := cellw hW hw c0 n0
      have q1 : w2.frozen? ⟨g, 0, none⟩ = false := (hw.frozen (g, 0) (Nat.lt_of_lt_of_le hgl hW.size)).trans ((hW.frozen (p := ⟨g, 0, none⟩) hgl).trans z0)
      obtain ⟨fx, b1, b2, b3⟩ := Bld.app (s := ⟨[], [], 0⟩) (x := ⟨1, n, []⟩) hbl HPP.out HPD.out sq hfr hW HFE.out (by simpa using hr) hw (fun p hp => (hn p.1 p.2 hp).imp id (fun h => by simpa using h))
      simp only [List.nil_append, List.length_singleton] at b1 b2
      have B1 := Lib.hid b1
      have B2 := Lib.hid b2
      have B3 := Lib.hid b3
      clear b1 b2 b3 hr hw hn hbl sq hfr
      go_wp2
      go_end0
      exact BStep.of HK3.out HW.out HN.out B1.out B2.out B3.out
    · simp only [List.concat_eq_append] at *
      by_cases hk : p.kind = 1
      · obtain ⟨b, o, g1, g2, g3, g4, g5⟩ := Bld.lastN (s := ⟨m ++ [p], [], 0⟩) (m := m) (p := p) hbl hp_ hd_ sq hfr rfl
        have hlen : ∀ w2 ty, (Builtin.len_ #[27] ty #[vl]).run Try.prog w2 = .ok (.int .i64 ((m.length : Int) + 1)) w2 := fun w2 ty => by
          have := hrl.len Try.underlying27 w2 ty
          simpa using this
        have hpb := HBD.out p (by simp)
        have HK3 : Hid (s.keep n = ⟨m ++ [⟨p.kind, p.n + n, p.signs⟩], [], 0⟩) := Lib.hid (by rw [HK2.out, keepOn_keep m p n hk])
        have hml : m.length ≤ 1000000 := by simp at hfl; omega
        rw [hk] at g2
        have G5 := Lib.hid (g5 (p.n + n))
        clear hbl hp_ hd_ sq hfr g5 hk
        have hs1 : IntKind.i64.wrap (m.length : Int) = (m.length : Int) := IntWalk.i64_in _ (by omega)
        have hs2 : IntKind.i64.wrap (p.n + n) = p.n + n := IntWalk.i64_in _ (by omega)
        go_wp2
        go_region_law (fail)
        all_goals
          clear hs1 hs2
          go_wp2
          go_end0
          exact BStep.of HK3.out HW.out HN.out G5.out.1.drew G5.out.2.drew (fun _ hp => .inl hp)
      · obtain ⟨b, o, g1, g2, g3, g4, g5⟩ := Bld.lastN (s := ⟨m ++ [p], [], 0⟩) (m := m) (p := p) hbl hp_ hd_ sq hfr rfl
        have hlen : ∀ w2 ty, (Builtin.len_ #[27] ty #[vl]).run Try.prog w2 = .ok (.int .i64 ((m.length : Int) + 1)) w2 := fun w2 ty => by
          have := hrl.len Try.underlying27 w2 ty
          simpa using this
        have HK3 : Hid (s.keep n = ⟨m ++ [p] ++ [⟨1, n, []⟩], [], 0⟩) := Lib.hid (by rw [HK2.out, keepOn_other m p n hk])
        have hml : m.length ≤ 1000000 := by simp at hfl; omega
        have e1 : (p.kind == 1) = false := by simpa using hk
        clear g5 hk g3 g4
        obtain ⟨fs, hfe, hrow⟩ := hbl.row
        have HFE := Lib.hid hfe
        have HROW := Lib.hid hrow
        have n0 : ((g, 0) : Pos) ∉ rowP (GoT.n DPart) vl := fun hm => (List.nodup_append.1 hfr.nodup).2.2 (g, 0) (by simp [bpl]) (g, 0) (by rw [hfe]; simp [show (g, 0) ∈ rowP 3 vl from hm]) rfl
        have hW : Below w1.heap.size w1 (w1.alloc (.cells #[.int .i64 1, .int .i64 n, .slice none 0 0] 116)) := (Below.refl _ _).alloc (Nat.le_refl _) _
        have hsrc := Lib.hid (part_built w1 1 n _ [] [] 116 Sl.nil)
        have HPP := Lib.hid hp_
        have HPD := Lib.hid hd_
        clear hfe hrow hp_ hd_
        go_wp2_with (at_builtin; refine wpList_append_row rfl _ _ 27 rfl Try.underlying27 hi hz0 hz1 hz2 rfl rfl rfl (HROW.out.below hW) hsrc.out (fun _ h => by cases h) ?c1 ?c2 ?c3 ?_)
        case c1 => exact le_BIG (by simp at hfl ⊢; try omega)
        case c2 => simp at hfl ⊢; try omega
        case c3 => simp; omega
        intro v1 w2 hr hw hn
        obtain ⟨a1, c1, rfl⟩ := hr.rd.isSlice
        have q0 : w2.cell? ⟨g, 0, none⟩ = some vl := cellw hW hw c0 n0
        have q1 : w2.frozen? ⟨g, 0, none⟩ = false := (hw.frozen (g, 0) (Nat.lt_of_lt_of_le hgl hW.size)).trans ((hW.frozen (p := ⟨g, 0, none⟩) hgl).trans z0)
        obtain ⟨fx, b1, b2, b3⟩ := Bld.app (s := ⟨m ++ [p], [], 0⟩) (x := ⟨1, n, []⟩) hbl HPP.out HPD.out sq hfr hW HFE.out (by simpa using hr) hw (fun p hp => (hn p.1 p.2 hp).imp id (fun h => by simpa using h))
        simp only [List.length_append] at b1 b2
        have B1 := Lib.hid b1
        have B2 := Lib.hid b2
        have B3 := Lib.hid b3
        clear b1 b2 b3 hr hw hn hbl sq hfr
        go_wp2
        go_end0
        exact BStep.of HK3.out HW.out HN.out B1.out B2.out B3.out
end Go.Proofs.Ytihbmefidbmmdaa
