/- The other steps of a builder: put, drop, keep, done; the reference's walks. -/
import Derived.Test.YtihbmefidbmmdaaFlu2
import Derived.BigRegion
namespace Go.Proofs.Ytihbmefidbmmdaa
open Go.RowKit
theorem info_int2 : (Try.prog.info? 3).map (fun i => (i.zero, i.size, i.bytes)) = some (some (.int .i64 0), 1, 8) := by kernel_rfl
theorem rdInt_fp2 {M : Nat} {w : World} {c : List Value} {x : Int} {f : List Pos} (h : GoT.rd M w c x f) : f = [] := h.2
theorem Src.ints2 {w : World} {v : Value} {l : List Int} (h : RdS w v l) : Src w v l [] := by
  obtain ⟨gs, ao, c, news, h1, h2, h3⟩ := h.src
  have := Els.flat (α := Int) rdInt_fp2 h2
  subst this
  exact ⟨ao, c, news, h1, h2, h3⟩
/-- signs more -/
theorem Bld.puts {B : Nat} {w w1 : World} {pl pp pd : Pos} {s : Bst} {fl fq : List Pos} {vl vp v' : Value} {l : List Int} (hbl : BL B w pl pp pd vl s.list fl) (hd : w.cell? ⟨pd.1, pd.2, none⟩ = some (.int .i64 s.drop)) (sq : Sl BIG w vp s.put fq)
    (hfr : Fresh B w (bpl pl pp pd ++ (fl ++ fq))) (hr : Row B w1 v' (s.put ++ l) []) (hw : Wr (rowP 1 vp) w w1) (hn : ∀ p ∈ rowP 1 v', p ∈ rowP 1 vp ∨ w.heap.size ≤ p.1) (he : fq = rowP 1 vp) :
    ∃ fp', Bld B (w1.setCell ⟨pp.1, pp.2, none⟩ v') pl pp pd (s.puts l) fp' ∧ Wr (bpl pl pp pd ++ (fl ++ fq)) w (w1.setCell ⟨pp.1, pp.2, none⟩ v') ∧ ∀ p ∈ fp', p ∈ bpl pl pp pd ++ (fl ++ fq) ∨ w.heap.size ≤ p.1 := by
  subst he
  have hl : ∀ p ∈ bpl pl pp pd ++ (fl ++ rowP 1 vp), p.1 < w.heap.size := by
    intro p hp
    rcases List.mem_append.1 hp with hp | hp
    · exact Live.lt hbl.live p (List.mem_append.2 (.inl hp))
    · rcases List.mem_append.1 hp with hp | hp
      · exact Live.lt hbl.live p (List.mem_append.2 (.inr hp))
      · exact Live.lt sq.live p hp
  obtain ⟨n3, nf, dis⟩ := List.nodup_append.1 hfr.nodup
  obtain ⟨nl, _, dlq⟩ := List.nodup_append.1 nf
  have e1 : pl ≠ pp := by intro e; simp only [bpl, List.nodup_cons, List.mem_cons, not_or] at n3; exact n3.1.1 e
  have e2 : pp ≠ pd := by intro e; simp only [bpl, List.nodup_cons, List.mem_cons, List.not_mem_nil, or_false, not_or] at n3; exact n3.2.1 e
  have ho : ∀ p ∈ bpl pl pp pd ++ fl, p ∉ rowP 1 vp := by
    intro p hp hq
    rcases List.mem_append.1 hp with hp | hp
    · exact dis p hp p (by simp [hq]) rfl
    · exact dlq p hp p hq rfl
  have c1 : ∀ p ∈ bpl pl pp pd ++ fl, w1.cell? ⟨p.1, p.2, none⟩ = w.cell? ⟨p.1, p.2, none⟩ := fun p hp => hw.cell p (hl p (mem_l hp)) (ho p hp)
  have ot : ∀ p : Pos, p ≠ pp → (w1.setCell ⟨pp.1, pp.2, none⟩ v').cell? ⟨p.1, p.2, none⟩ = w1.cell? ⟨p.1, p.2, none⟩ := by
    intro p hp
    rw [cell_setCell, if_neg]
    rintro ⟨q1, q2⟩
    exact hp (Prod.ext q1 q2)
  have hpr : ∀ p ∈ rowP 1 v', p ≠ pp := by
    rintro p hp rfl
    rcases hn p hp with hp | hp
    · exact ho p (by simp [bpl]) hp
    · have := hl p (by simp [bpl]); omega
  have hpl : ∀ p ∈ fl, p ≠ pp := by
    rintro p hp rfl
    exact dis p (by simp [bpl]) p (by simp [hp]) rfl
  obtain ⟨u, hu⟩ := Option.isSome_iff_exists.1 hbl.cp
  refine ⟨bpl pl pp pd ++ (fl ++ rowP 1 v'), ⟨⟨vl, v', fl, rowP 1 v', ?_, ?_, ?_, ?_, ?_, rfl⟩, ?_⟩, ?_, ?_⟩
  · rw [ot pl e1, c1 pl (by simp [bpl])]; exact hbl.cl
  · rw [cell_setCell, if_pos ⟨rfl, rfl⟩, c1 pp (by simp [bpl]), hu]; rfl
  · rw [ot pd (Ne.symm e2), c1 pd (by simp [bpl])]; exact hd
  · exact hbl.sl.keep fun p hp => (ot p (hpl p hp)).trans (c1 p (by simp [hp]))
  · have := hr.1
    rw [List.append_nil] at this
    exact this.keep fun p hp => ot p (hpr p hp)
  · refine Fresh.put ?_ _ _
    have f1 : Fresh B w1 (bpl pl pp pd ++ fl) := hfr.pre2.wr2 (Below.refl _ _) hw fun p hp => hl p (mem_l hp)
    rw [← List.append_assoc]
    refine f1.join hr.2.1 fun p hp q hq e => ?_
    subst e
    rcases hn p hq with hq | hq
    · exact ho p hp hq
    · have := hl p (mem_l hp); omega
  · exact (hw.sub fun p hp => by simp [hp]).put (by simp [bpl]) _
  · intro p hp
    rw [← List.append_assoc] at hp
    rcases List.mem_append.1 hp with hp | hp
    · exact .inl (mem_l hp)
    · exact (hn p hp).imp (fun h => by simp [h]) id
set_option maxHeartbeats 1000000 in
theorem spec_l02Put_c (B g : Nat) (s : Bst) (fp : List Pos) (v : Value) (l : List Int) (w : World) (h : Bld B w (g, 0) (g, 1) (g, 2) s fp) (hB : B ≤ w.heap.size) (hv : RdS w v l) (hl : s.put.length + l.length ≤ 1000000) :
    Calls Try.prog 115 #[.pointer (some ⟨g, 0, none⟩), v] w (BStep B w (g, 0) (g, 1) (g, 2) (s.puts l) fp) := by
  obtain ⟨i0, hi, hz0, hz1, hz2⟩ := info_parts info_int2
  obtain ⟨vl, vp, fl, fq, hbl, hp_, hd_, sq, rfl, hfr⟩ := h.open
  have hgl : g < w.heap.size := Live.lt hbl.live (g, 0) (by simp [bpl])
  have hp : w.cell? ⟨g, 1, none⟩ = some vp := hp_
  have z1 : w.frozen? ⟨g, 1, none⟩ = false := hfr.free (g, 1) (by simp [bpl])
  have hfe : fq = rowP 1 vp := sq.flat (α := Int) rdInt_fp2
  have hrow : Row B w vp s.put [] := by
    refine ⟨?_, ?_, fun _ h => (by cases h)⟩
    · rw [List.append_nil]; show Sl BIG w vp s.put (rowP 1 vp); rw [← hfe]; exact sq
    · have := hfr.right.right; rw [hfe] at this; exact this
  have n1 : ((g, 1) : Pos) ∉ rowP 1 vp := fun hm => (List.nodup_append.1 hfr.nodup).2.2 (g, 1) (by simp [bpl]) (g, 1) (by rw [hfe]; simp [hm]) rfl
  have HFE := Lib.hid hfe
  have HROW := Lib.hid hrow
  have HSRC := Lib.hid (Src.ints2 hv)
  have HD := Lib.hid hd_
  clear hfe hrow hd_ hp_ h
  go_enter Try.func115, Try.ntmps115
  go_wp2_with (at_builtin; refine wpList_append_row rfl _ _ 48 rfl Try.underlying48 hi hz0 hz1 hz2 rfl rfl rfl HROW.out HSRC.out (fun _ h => by cases h) ?c1 ?c2 ?c3 ?_)
  case c1 => exact le_BIG (by omega)
  case c2 => omega
  intro v' w1 hr hw hn
  obtain ⟨a1, c1, rfl⟩ := hr.rd.isSlice
  have q0 : w1.cell? ⟨g, 1, none⟩ = some vp := cellw (Below.refl _ _) hw hp n1
  have q1 : w1.frozen? ⟨g, 1, none⟩ = false := (hw.frozen (g, 1) hgl).trans z1
  have HX := Lib.hid (Bld.puts hbl HD.out sq hfr hr hw (fun p hp => hn p.1 p.2 hp) HFE.out)
  simp only [List.length_append] at HX
  clear hr hw hn
  go_wp2
  go_end0
  exact ⟨rfl, HX.out⟩
theorem Bld.dropd {B : Nat} {w : World} {pl pp pd : Pos} {s : Bst} {fp : List Pos} (h : Bld B w pl pp pd s fp) (n : Int) : Bld B (w.setCell ⟨pd.1, pd.2, none⟩ (.int .i64 (s.drop + n))) pl pp pd (s.drops n) fp ∧ Wr fp w (w.setCell ⟨pd.1, pd.2, none⟩ (.int .i64 (s.drop + n))) := by
  obtain ⟨⟨vl, vp, fl, fq, h1, h2, h3, h4, h5, rfl⟩, hf⟩ := h
  obtain ⟨n3, nf, dis⟩ := List.nodup_append.1 hf.nodup
  have e1 : pl ≠ pd := by intro e; simp only [bpl, List.nodup_cons, List.mem_cons, not_or] at n3; exact n3.1.2.1 e
  have e2 : pp ≠ pd := by intro e; simp only [bpl, List.nodup_cons, List.mem_cons, List.not_mem_nil, or_false, not_or] at n3; exact n3.2.1 e
  have ot : ∀ p : Pos, p ≠ pd → (w.setCell ⟨pd.1, pd.2, none⟩ (.int .i64 (s.drop + n))).cell? ⟨p.1, p.2, none⟩ = w.cell? ⟨p.1, p.2, none⟩ := by
    intro p hp
    rw [cell_setCell, if_neg]
    rintro ⟨q1, q2⟩
    exact hp (Prod.ext q1 q2)
  have hn : ∀ p ∈ fl ++ fq, p ≠ pd := by
    rintro p hp rfl
    exact dis p (by simp [bpl]) p hp rfl
  refine ⟨⟨⟨vl, vp, fl, fq, (ot pl e1).trans h1, (ot pp e2).trans h2, ?_, h4.keep fun p hp => ot p (hn p (by simp [hp])), h5.keep fun p hp => ot p (hn p (by simp [hp])), rfl⟩, hf.put _ _⟩, Wr.setCell w (by simp [bpl]) _⟩
  rw [cell_setCell, if_pos ⟨rfl, rfl⟩, h3]; rfl
theorem spec_l02Drop_c (B g : Nat) (s : Bst) (fp : List Pos) (n : Int) (w : World) (h : Bld B w (g, 0) (g, 1) (g, 2) s fp) (h0 : 0 ≤ s.drop) (h1 : s.drop ≤ 1000000) (h2 : 0 ≤ n) (h3 : n ≤ 1000000) :
    Calls Try.prog 116 #[.pointer (some ⟨g, 0, none⟩), .int .i64 n] w (BStep B w (g, 0) (g, 1) (g, 2) (s.drops n) fp) := by
  have HD := Lib.hid (h.dropd n)
  obtain ⟨vl, vp, fl, fq, hbl, hp_, hd_, sq, rfl, hfr⟩ := h.open
  have hd : w.cell? ⟨g, 2, none⟩ = some (.int .i64 s.drop) := hd_
  have z2 : w.frozen? ⟨g, 2, none⟩ = false := hfr.free (g, 2) (by simp [bpl])
  clear hp_ hd_
  go_enter Try.func116, Try.ntmps116
  go_wp2
  go_end0
  exact ⟨rfl, _, HD.out.1, HD.out.2, fun _ hp => .inl hp⟩
theorem spec_l02Done_c (B g : Nat) (s : Bst) (fp : List Pos) (w : World) (h : Bld B w (g, 0) (g, 1) (g, 2) s fp) (hB : B ≤ w.heap.size) (hl : s.list.length ≤ 1000000) (hd0 : 0 ≤ s.drop) (hd1 : s.drop ≤ 1000000) :
    Calls Try.prog 117 #[.pointer (some ⟨g, 0, none⟩)] w (fun e w' => ∃ v, e = .returned v ∧ OwnS B w' v s.flush.list ∧ Wr fp w w') := by
  go_enter Try.func117, Try.ntmps117
  go_wp2_with fail
  refine (spec_l02Flush_c B g s fp _ h hB hl hd0 hd1).mono ?_
  rintro e w1 ⟨rfl, fp', hb', hw', hn'⟩
  obtain ⟨vl, vp, fl, fq, hbl, hp_, hd_, sq, rfl, hfr⟩ := hb'.open
  have c0 : w1.cell? ⟨g, 0, none⟩ = some vl := hbl.cl
  have HO : Hid (OwnS B w1 vl s.flush.list) := Lib.hid ⟨fl, hbl.sl, hbl.fr.right⟩
  have HW := Lib.hid hw'
  clear hp_ hd_ hw' hn' hb'
  go_wp2
  go_ret
  exact ⟨_, rfl, HO.out, HW.out⟩
end Go.Proofs.Ytihbmefidbmmdaa
