/- Flushing a builder: the reference's walk. -/
import Derived.Test.YtihbmefidbmmdaaFlu
import Derived.Test.YtihbmefidbmmdaaPr2
namespace Go.Proofs.Ytihbmefidbmmdaa
open Go.RowKit
set_option maxHeartbeats 4000000 in
set_option maxRecDepth 100000 in
theorem spec_l02Flush_c (B g : Nat) (s : Bst) (fp : List Pos) (w : World) (h : Bld B w (g, 0) (g, 1) (g, 2) s fp) (hB : B ≤ w.heap.size) (hl : s.list.length ≤ 1000000) (hd0 : 0 ≤ s.drop) (hd1 : s.drop ≤ 1000000) :
    Calls Try.prog 127 #[.pointer (some ⟨g, 0, none⟩)] w (BStep B w (g, 0) (g, 1) (g, 2) s.flush fp) := by
  obtain ⟨i0, hi, hz0, hz1, hz2⟩ := info_parts info_part
  obtain ⟨vl, vp, fl, fq, hbl, hp_, hd_, sq, rfl, hfr⟩ := h.open
  have rq : RdS w vp s.put := ⟨_, sq⟩
  have hlen := fun w1 ty => rq.len Try.underlying48 w1 ty
  obtain ⟨ap, cp, rfl⟩ := rq.isSlice
  have hlb := sq.leM
  have hlw := Live.lt hbl.live
  have hgl : g < w.heap.size := hlw (g, 0) (by simp [bpl])
  have z0 : w.frozen? ⟨g, 0, none⟩ = false := hfr.free (g, 0) (by simp [bpl])
  have z1 : w.frozen? ⟨g, 1, none⟩ = false := hfr.free (g, 1) (by simp [bpl])
  have z2 : w.frozen? ⟨g, 2, none⟩ = false := hfr.free (g, 2) (by simp [bpl])
  have c0 : w.cell? ⟨g, 0, none⟩ = some vl := hbl.cl
  have hp : w.cell? ⟨g, 1, none⟩ = some (.slice ap s.put.length cp) := hp_
  have hd : w.cell? ⟨g, 2, none⟩ = some (.int .i64 s.drop) := hd_
  clear hp_ hd_
  obtain ⟨fs, hfe_, hrow⟩ := hbl.row
  have HFE := Lib.hid hfe_
  clear hfe_
  by_cases hp0 : s.put = []
  · by_cases hd2 : 0 < s.drop
    · have HF : Hid (s.flush = ⟨s.list ++ [⟨3, s.drop, []⟩], [], 0⟩) := Lib.hid (by simp [Bst.flush, hp0, hd2])
      have hln : ¬ 0 < s.put.length := by rw [hp0]; simp
      have hWA : Below w.heap.size w (w.alloc (.cells #[.int .i64 3, .int .i64 s.drop, .slice none 0 0] 116)).drew := ((Below.refl _ _).alloc (Nat.le_refl _) _).drew
      have hsrcA := Lib.hid (part_built w 3 s.drop _ [] [] 116 Sl.nil).drew
      have k1A : s.list.length + [(⟨3, s.drop, []⟩ : DPart)].length ≤ BIG := le_BIG (by simp; omega)
      have k2A : (s.list.length + [(⟨3, s.drop, []⟩ : DPart)].length) * 40 ≤ 140737488355328 := by simp; omega
      have k3A : B ≤ (w.alloc (.cells #[.int .i64 3, .int .i64 s.drop, .slice none 0 0] 116)).drew.heap.size := by simp; omega
      have K1A := Lib.hid k1A
      have K2A := Lib.hid k2A
      have K3A := Lib.hid k3A
      clear k1A k2A k3A
      have n0A : ((g, 0) : Pos) ∉ rowP (GoT.n DPart) (vl) := fun hm => (List.nodup_append.1 hfr.nodup).2.2 (g, 0) (by simp [bpl]) (g, 0) (by rw [HFE.out]; first | exact List.mem_append.2 (.inl (List.mem_append.2 (.inl hm))) | exact List.mem_append.2 (.inl hm)) rfl
      have n1A : ((g, 1) : Pos) ∉ rowP (GoT.n DPart) (vl) := fun hm => (List.nodup_append.1 hfr.nodup).2.2 (g, 1) (by simp [bpl]) (g, 1) (by rw [HFE.out]; first | exact List.mem_append.2 (.inl (List.mem_append.2 (.inl hm))) | exact List.mem_append.2 (.inl hm)) rfl
      have n2A : ((g, 2) : Pos) ∉ rowP (GoT.n DPart) (vl) := fun hm => (List.nodup_append.1 hfr.nodup).2.2 (g, 2) (by simp [bpl]) (g, 2) (by rw [HFE.out]; first | exact List.mem_append.2 (.inl (List.mem_append.2 (.inl hm))) | exact List.mem_append.2 (.inl hm)) rfl
      have hdisA : ∀ p ∈ ([] : List Pos), p ∉ rowP (GoT.n DPart) vl := fun _ h => (by cases h)
      have hfr2 : Fresh B w (bpl (g, 0) (g, 1) (g, 2) ++ (fl ++ [])) := by rw [List.append_nil]; exact hfr.pre2
      have HROWA := Lib.hid hrow
      clear hp0 h hrow hlen
      go_enter Try.func127, Try.ntmps127
      go_wp2
      go_region_law ((refine step_append_row (by rfl) (.tmp 31) (.tmp 37) 27 (by rfl) Try.underlying27 hi hz0 hz1 hz2 rfl (by rfl) (by rfl) (HROWA.out.below hWA) hsrcA.out hdisA K1A.out K2A.out K3A.out ?_; intro vA wA hrA hwA hnA; obtain ⟨aA, cA, rfl⟩ := hrA.rd.isSlice; have q0A : wA.cell? ⟨g, 0, none⟩ = some vl := cellw hWA hwA c0 n0A; have q1A : wA.frozen? ⟨g, 0, none⟩ = false := (hwA.frozen (g, 0) (Nat.lt_of_lt_of_le hgl hWA.size)).trans ((hWA.frozen (p := ⟨g, 0, none⟩) hgl).trans z0); have q2A : wA.cell? ⟨g, 1, none⟩ = some (.slice ap s.put.length cp) := cellw hWA hwA hp n1A; have q3A : wA.frozen? ⟨g, 1, none⟩ = false := (hwA.frozen (g, 1) (Nat.lt_of_lt_of_le hgl hWA.size)).trans ((hWA.frozen (p := ⟨g, 1, none⟩) hgl).trans z1); have q4A : wA.cell? ⟨g, 2, none⟩ = some (.int .i64 s.drop) := cellw hWA hwA hd n2A; have q5A : wA.frozen? ⟨g, 2, none⟩ = false := (hwA.frozen (g, 2) (Nat.lt_of_lt_of_le hgl hWA.size)).trans ((hWA.frozen (p := ⟨g, 2, none⟩) hgl).trans z2)))
      all_goals
        obtain ⟨fl', kb, kw, kn⟩ := hbl.app2 hfr2 (Live.nil _) hWA HFE.out hrA hwA hnA
        simp only [List.length_append, List.length_singleton] at kb kw
        have KB := Lib.hid kb
        have KW := Lib.hid kw
        have KN := Lib.hid kn
        clear kb kw kn hrA hwA hnA
        go_wp2
        go_end0
        exact BStep.done HF.out KB.out (KW.out.sub fun _ hp => mem_n hp) (fun p hp => (KN.out p hp).imp (fun h => by rw [List.append_nil] at h; exact List.mem_append.2 (.inl h)) id)
    · have hd3 : s.drop = 0 := by omega
      have HF : Hid (s.flush = ⟨s.list, [], 0⟩) := Lib.hid (by simp [Bst.flush, hp0, hd2])
      have hln : ¬ 0 < s.put.length := by rw [hp0]; simp
      rw [hd3] at hd
      clear hp0 hd2 hd3 h hlen
      go_enter Try.func127, Try.ntmps127
      go_wp2
      go_end0
      exact BStep.done HF.out hbl (Wr.refl _ _) (fun _ hp => .inl (List.mem_append.2 (.inl hp)))
  · have hln : 0 < s.put.length := List.length_pos_iff.2 hp0
    by_cases hd2 : 0 < s.drop
    · have HF : Hid (s.flush = ⟨s.list ++ [⟨2, 0, s.put⟩] ++ [⟨3, s.drop, []⟩], [], 0⟩) := Lib.hid (by simp [Bst.flush, hp0, hd2])
      have hWA : Below w.heap.size w (w.alloc (.cells #[.int .i64 2, .int .i64 0, .slice ap s.put.length cp] 116)).drew := ((Below.refl _ _).alloc (Nat.le_refl _) _).drew
      have hsrcA := Lib.hid (part_built w 2 0 _ s.put fq 116 sq).drew
      have k1A : s.list.length + [(⟨2, 0, s.put⟩ : DPart)].length ≤ BIG := le_BIG (by simp; omega)
      have k2A : (s.list.length + [(⟨2, 0, s.put⟩ : DPart)].length) * 40 ≤ 140737488355328 := by simp; omega
      have k3A : B ≤ (w.alloc (.cells #[.int .i64 2, .int .i64 0, .slice ap s.put.length cp] 116)).drew.heap.size := by simp; omega
      have K1A := Lib.hid k1A
      have K2A := Lib.hid k2A
      have K3A := Lib.hid k3A
      clear k1A k2A k3A
      have n0A : ((g, 0) : Pos) ∉ rowP (GoT.n DPart) (vl) := fun hm => (List.nodup_append.1 hfr.nodup).2.2 (g, 0) (by simp [bpl]) (g, 0) (by rw [HFE.out]; first | exact List.mem_append.2 (.inl (List.mem_append.2 (.inl hm))) | exact List.mem_append.2 (.inl hm)) rfl
      have n1A : ((g, 1) : Pos) ∉ rowP (GoT.n DPart) (vl) := fun hm => (List.nodup_append.1 hfr.nodup).2.2 (g, 1) (by simp [bpl]) (g, 1) (by rw [HFE.out]; first | exact List.mem_append.2 (.inl (List.mem_append.2 (.inl hm))) | exact List.mem_append.2 (.inl hm)) rfl
      have n2A : ((g, 2) : Pos) ∉ rowP (GoT.n DPart) (vl) := fun hm => (List.nodup_append.1 hfr.nodup).2.2 (g, 2) (by simp [bpl]) (g, 2) (by rw [HFE.out]; first | exact List.mem_append.2 (.inl (List.mem_append.2 (.inl hm))) | exact List.mem_append.2 (.inl hm)) rfl
      have hdisA : ∀ p ∈ fq, p ∉ rowP (GoT.n DPart) vl := fun p hp hq => (List.nodup_append.1 (List.nodup_append.1 hfr.nodup).2.1).2.2 p (by rw [HFE.out]; exact List.mem_append.2 (.inl hq)) p hp rfl
      have HROWA := Lib.hid hrow
      have hbnd : s.drop ≤ 1000000 := hd1
      clear hp0 h hrow
      go_enter Try.func127, Try.ntmps127
      go_wp2
      go_region_law ((refine step_append_row (by rfl) (.tmp 12) (.tmp 18) 27 (by rfl) Try.underlying27 hi hz0 hz1 hz2 rfl (by rfl) (by rfl) (HROWA.out.below hWA) hsrcA.out hdisA K1A.out K2A.out K3A.out ?_; intro vA wA hrA hwA hnA; obtain ⟨aA, cA, rfl⟩ := hrA.rd.isSlice; have q0A : wA.cell? ⟨g, 0, none⟩ = some vl := cellw hWA hwA c0 n0A; have q1A : wA.frozen? ⟨g, 0, none⟩ = false := (hwA.frozen (g, 0) (Nat.lt_of_lt_of_le hgl hWA.size)).trans ((hWA.frozen (p := ⟨g, 0, none⟩) hgl).trans z0); have q2A : wA.cell? ⟨g, 1, none⟩ = some (.slice ap s.put.length cp) := cellw hWA hwA hp n1A; have q3A : wA.frozen? ⟨g, 1, none⟩ = false := (hwA.frozen (g, 1) (Nat.lt_of_lt_of_le hgl hWA.size)).trans ((hWA.frozen (p := ⟨g, 1, none⟩) hgl).trans z1); have q4A : wA.cell? ⟨g, 2, none⟩ = some (.int .i64 s.drop) := cellw hWA hwA hd n2A; have q5A : wA.frozen? ⟨g, 2, none⟩ = false := (hwA.frozen (g, 2) (Nat.lt_of_lt_of_le hgl hWA.size)).trans ((hWA.frozen (p := ⟨g, 2, none⟩) hgl).trans z2)))
      all_goals
        obtain ⟨fl', kb, kw, kn⟩ := hbl.app2 hfr sq.live hWA HFE.out hrA hwA hnA
        simp only [List.length_append, List.length_singleton] at kb kw
        have hLL : (s.list ++ [(⟨2, 0, s.put⟩ : DPart)]).length ≤ 1000001 := by simp; omega
        have sBA : w.heap.size ≤ wA.heap.size := Nat.le_trans hWA.size hwA.size
        have c0B : (wA.setCell ⟨g, 0, none⟩ (.slice aA (s.list.length + 1) cA)).cell? ⟨g, 0, none⟩ = some (.slice aA (s.list.length + 1) cA) := kb.cl
        have cpB : (wA.setCell ⟨g, 0, none⟩ (.slice aA (s.list.length + 1) cA)).cell? ⟨g, 1, none⟩ = some (.slice ap s.put.length cp) := by rw [cell_setCell, if_neg (by simp)]; exact q2A
        have cdB : (wA.setCell ⟨g, 0, none⟩ (.slice aA (s.list.length + 1) cA)).cell? ⟨g, 2, none⟩ = some (.int .i64 s.drop) := by rw [cell_setCell, if_neg (by simp)]; exact q4A
        have z0B : (wA.setCell ⟨g, 0, none⟩ (.slice aA (s.list.length + 1) cA)).frozen? ⟨g, 0, none⟩ = false := by rw [World.frozen?_setCell]; exact q1A
        have z1B : (wA.setCell ⟨g, 0, none⟩ (.slice aA (s.list.length + 1) cA)).frozen? ⟨g, 1, none⟩ = false := by rw [World.frozen?_setCell]; exact q3A
        have z2B : (wA.setCell ⟨g, 0, none⟩ (.slice aA (s.list.length + 1) cA)).frozen? ⟨g, 2, none⟩ = false := by rw [World.frozen?_setCell]; exact q5A
        clear q0A q1A q2A q3A q4A q5A hrA hwA hnA n0A n1A n2A hsrcA K1A K2A K3A HROWA hdisA
        clear c0 hp hd z0 z1 z2
        generalize hw2 : wA.setCell ⟨g, 0, none⟩ (.slice aA (s.list.length + 1) cA) = w2 at kb kw c0B cpB cdB z0B z1B z2B ⊢
        have hs2 : w.heap.size ≤ w2.heap.size := by rw [← hw2]; simpa using sBA
        have hglB : g < w2.heap.size := Nat.lt_of_lt_of_le hgl hs2
        have hB2 : B ≤ w2.heap.size := Nat.le_trans hB hs2
        clear hw2
        obtain ⟨fs2, hfe2, hrow2⟩ := kb.row
        have HFE2 := Lib.hid hfe2
        have HROWB := Lib.hid hrow2
        have KB := Lib.hid kb
        have KW := Lib.hid kw
        have KN := Lib.hid kn
        have hfrB := kb.fr
        clear hfe2 hrow2 kw kn
        have hWB : Below w2.heap.size w2 (w2.alloc (.cells #[.int .i64 3, .int .i64 s.drop, .slice none 0 0] 116)).drew := ((Below.refl _ _).alloc (Nat.le_refl _) _).drew
        have hsrcB := Lib.hid (part_built w2 3 s.drop _ [] [] 116 Sl.nil).drew
        have k1B : (s.list ++ [(⟨2, 0, s.put⟩ : DPart)]).length + [(⟨3, s.drop, []⟩ : DPart)].length ≤ BIG := le_BIG (by have := hLL; simp at this ⊢; omega)
        have k2B : ((s.list ++ [(⟨2, 0, s.put⟩ : DPart)]).length + [(⟨3, s.drop, []⟩ : DPart)].length) * 40 ≤ 140737488355328 := by have := hLL; simp at this ⊢; omega
        have k3B : B ≤ (w2.alloc (.cells #[.int .i64 3, .int .i64 s.drop, .slice none 0 0] 116)).drew.heap.size := by have := hLL; simp at this ⊢; omega
        have K1B := Lib.hid k1B
        have K2B := Lib.hid k2B
        have K3B := Lib.hid k3B
        clear k1B k2B k3B
        have n0B : ((g, 0) : Pos) ∉ rowP (GoT.n DPart) (.slice aA (s.list.length + 1) cA) := fun hm => (List.nodup_append.1 hfrB.nodup).2.2 (g, 0) (by simp [bpl]) (g, 0) (by rw [HFE2.out]; first | exact List.mem_append.2 (.inl (List.mem_append.2 (.inl hm))) | exact List.mem_append.2 (.inl hm)) rfl
        have n1B : ((g, 1) : Pos) ∉ rowP (GoT.n DPart) (.slice aA (s.list.length + 1) cA) := fun hm => (List.nodup_append.1 hfrB.nodup).2.2 (g, 1) (by simp [bpl]) (g, 1) (by rw [HFE2.out]; first | exact List.mem_append.2 (.inl (List.mem_append.2 (.inl hm))) | exact List.mem_append.2 (.inl hm)) rfl
        have n2B : ((g, 2) : Pos) ∉ rowP (GoT.n DPart) (.slice aA (s.list.length + 1) cA) := fun hm => (List.nodup_append.1 hfrB.nodup).2.2 (g, 2) (by simp [bpl]) (g, 2) (by rw [HFE2.out]; first | exact List.mem_append.2 (.inl (List.mem_append.2 (.inl hm))) | exact List.mem_append.2 (.inl hm)) rfl
        have hdisB : ∀ p ∈ ([] : List Pos), p ∉ rowP (GoT.n DPart) (.slice aA (s.list.length + 1) cA) := fun _ h => (by cases h)
        have hfr2 : Fresh B w2 (bpl (g, 0) (g, 1) (g, 2) ++ (fl' ++ [])) := by rw [List.append_nil]; exact hfrB
        clear hLL kb hfrB hfr
        go_wp2
        go_region_law ((refine step_append_row (by rfl) (.tmp 31) (.tmp 37) 27 (by rfl) Try.underlying27 hi hz0 hz1 hz2 rfl (by rfl) (by rfl) (HROWB.out.below hWB) hsrcB.out hdisB K1B.out K2B.out K3B.out ?_; intro vB wB hrB hwB hnB; obtain ⟨aB, cB, rfl⟩ := hrB.rd.isSlice; have q0B : wB.cell? ⟨g, 0, none⟩ = some (.slice aA (s.list.length + 1) cA) := cellw hWB hwB c0B n0B; have q1B : wB.frozen? ⟨g, 0, none⟩ = false := (hwB.frozen (g, 0) (Nat.lt_of_lt_of_le hglB hWB.size)).trans ((hWB.frozen (p := ⟨g, 0, none⟩) hglB).trans z0B); have q2B : wB.cell? ⟨g, 1, none⟩ = some (.slice ap s.put.length cp) := cellw hWB hwB cpB n1B; have q3B : wB.frozen? ⟨g, 1, none⟩ = false := (hwB.frozen (g, 1) (Nat.lt_of_lt_of_le hglB hWB.size)).trans ((hWB.frozen (p := ⟨g, 1, none⟩) hglB).trans z1B); have q4B : wB.cell? ⟨g, 2, none⟩ = some (.int .i64 s.drop) := cellw hWB hwB cdB n2B; have q5B : wB.frozen? ⟨g, 2, none⟩ = false := (hwB.frozen (g, 2) (Nat.lt_of_lt_of_le hglB hWB.size)).trans ((hWB.frozen (p := ⟨g, 2, none⟩) hglB).trans z2B)))
        all_goals
          obtain ⟨fl2, kb, kw, kn⟩ := KB.out.app2 hfr2 (Live.nil _) hWB HFE2.out hrB hwB hnB
          simp only [List.length_append, List.length_singleton] at kb kw
          have KB2 := Lib.hid kb
          have KW2 := Lib.hid (KW.out.trans2 kw fun p hp => by
            rw [List.append_nil] at hp
            rcases List.mem_append.1 hp with hp | hp
            · exact .inl (List.mem_append.2 (.inl hp))
            · exact (KN.out p hp).imp (fun h => List.mem_append.2 (.inr h)) id)
          have KN2 : Hid (∀ p ∈ fl2, p ∈ fl ++ fq ∨ w.heap.size ≤ p.1) := Lib.hid fun p hp => by
            rcases kn p hp with k | k
            · rw [List.append_nil] at k; exact KN.out p k
            · exact .inr (Nat.le_trans hs2 k)
          clear kb kw kn hrB hwB hnB
          go_wp2
          go_end0
          exact BStep.done HF.out KB2.out KW2.out KN2.out
    · have hd3 : s.drop = 0 := by omega
      have HF : Hid (s.flush = ⟨s.list ++ [⟨2, 0, s.put⟩], [], 0⟩) := Lib.hid (by simp [Bst.flush, hp0, hd2])
      rw [hd3] at hd
      clear hd3
      have hWA : Below w.heap.size w (w.alloc (.cells #[.int .i64 2, .int .i64 0, .slice ap s.put.length cp] 116)).drew := ((Below.refl _ _).alloc (Nat.le_refl _) _).drew
      have hsrcA := Lib.hid (part_built w 2 0 _ s.put fq 116 sq).drew
      have k1A : s.list.length + [(⟨2, 0, s.put⟩ : DPart)].length ≤ BIG := le_BIG (by simp; omega)
      have k2A : (s.list.length + [(⟨2, 0, s.put⟩ : DPart)].length) * 40 ≤ 140737488355328 := by simp; omega
      have k3A : B ≤ (w.alloc (.cells #[.int .i64 2, .int .i64 0, .slice ap s.put.length cp] 116)).drew.heap.size := by simp; omega
      have K1A := Lib.hid k1A
      have K2A := Lib.hid k2A
      have K3A := Lib.hid k3A
      clear k1A k2A k3A
      have n0A : ((g, 0) : Pos) ∉ rowP (GoT.n DPart) (vl) := fun hm => (List.nodup_append.1 hfr.nodup).2.2 (g, 0) (by simp [bpl]) (g, 0) (by rw [HFE.out]; first | exact List.mem_append.2 (.inl (List.mem_append.2 (.inl hm))) | exact List.mem_append.2 (.inl hm)) rfl
      have n1A : ((g, 1) : Pos) ∉ rowP (GoT.n DPart) (vl) := fun hm => (List.nodup_append.1 hfr.nodup).2.2 (g, 1) (by simp [bpl]) (g, 1) (by rw [HFE.out]; first | exact List.mem_append.2 (.inl (List.mem_append.2 (.inl hm))) | exact List.mem_append.2 (.inl hm)) rfl
      have n2A : ((g, 2) : Pos) ∉ rowP (GoT.n DPart) (vl) := fun hm => (List.nodup_append.1 hfr.nodup).2.2 (g, 2) (by simp [bpl]) (g, 2) (by rw [HFE.out]; first | exact List.mem_append.2 (.inl (List.mem_append.2 (.inl hm))) | exact List.mem_append.2 (.inl hm)) rfl
      have hdisA : ∀ p ∈ fq, p ∉ rowP (GoT.n DPart) vl := fun p hp hq => (List.nodup_append.1 (List.nodup_append.1 hfr.nodup).2.1).2.2 p (by rw [HFE.out]; exact List.mem_append.2 (.inl hq)) p hp rfl
      have HROWA := Lib.hid hrow
      clear hp0 hd2 h hrow
      go_enter Try.func127, Try.ntmps127
      go_wp2
      go_region_law ((refine step_append_row (by rfl) (.tmp 12) (.tmp 18) 27 (by rfl) Try.underlying27 hi hz0 hz1 hz2 rfl (by rfl) (by rfl) (HROWA.out.below hWA) hsrcA.out hdisA K1A.out K2A.out K3A.out ?_; intro vA wA hrA hwA hnA; obtain ⟨aA, cA, rfl⟩ := hrA.rd.isSlice; have q0A : wA.cell? ⟨g, 0, none⟩ = some vl := cellw hWA hwA c0 n0A; have q1A : wA.frozen? ⟨g, 0, none⟩ = false := (hwA.frozen (g, 0) (Nat.lt_of_lt_of_le hgl hWA.size)).trans ((hWA.frozen (p := ⟨g, 0, none⟩) hgl).trans z0); have q2A : wA.cell? ⟨g, 1, none⟩ = some (.slice ap s.put.length cp) := cellw hWA hwA hp n1A; have q3A : wA.frozen? ⟨g, 1, none⟩ = false := (hwA.frozen (g, 1) (Nat.lt_of_lt_of_le hgl hWA.size)).trans ((hWA.frozen (p := ⟨g, 1, none⟩) hgl).trans z1); have q4A : wA.cell? ⟨g, 2, none⟩ = some (.int .i64 0) := cellw hWA hwA hd n2A; have q5A : wA.frozen? ⟨g, 2, none⟩ = false := (hwA.frozen (g, 2) (Nat.lt_of_lt_of_le hgl hWA.size)).trans ((hWA.frozen (p := ⟨g, 2, none⟩) hgl).trans z2)))
      all_goals
        obtain ⟨fl', kb, kw, kn⟩ := hbl.app2 hfr sq.live hWA HFE.out hrA hwA hnA
        simp only [List.length_append, List.length_singleton] at kb kw
        have KB := Lib.hid kb
        have KW := Lib.hid kw
        have KN := Lib.hid kn
        clear kb kw kn hrA hwA hnA
        go_wp2
        go_end0
        exact BStep.done HF.out KB.out KW.out KN.out
end Go.Proofs.Ytihbmefidbmmdaa
