/- Flushing a builder: the program's closure. -/
import Derived.Test.YtihbmefidbmmdaaNrm
namespace Go.Proofs.Ytihbmefidbmmdaa
open Go.RowKit
set_option maxHeartbeats 4000000 in
set_option maxRecDepth 100000 in
theorem impl_flush_c (B go gp gd : Nat) (s : Bst) (fp : List Pos) (w : World) (h : Bld B w (go, 0) (gp, 0) (gd, 0) s fp) (hB : B ≤ w.heap.size) (hl : s.list.length ≤ 1000000) (hd0 : 0 ≤ s.drop) (hd1 : s.drop ≤ 1000000) :
    Calls Try.prog 129 #[.pointer (some ⟨gp, 0, none⟩), .pointer (some ⟨go, 0, none⟩), .pointer (some ⟨gd, 0, none⟩)] w (BStep B w (go, 0) (gp, 0) (gd, 0) s.flush fp) := by
  obtain ⟨i0, hi, hz0, hz1, hz2⟩ := info_parts info_part
  obtain ⟨vl, vp, fl, fq, hbl, hp_, hd_, sq, rfl, hfr⟩ := h.open
  have rq : RdS w vp s.put := ⟨_, sq⟩
  have hlen := fun w1 ty => rq.len Try.underlying48 w1 ty
  obtain ⟨ap, cp, rfl⟩ := rq.isSlice
  have hlb := BIG_le sq.leM
  have hlw := Live.lt hbl.live
  have z0l : go < w.heap.size := hlw (go, 0) (by simp [bpl])
  have z1l : gp < w.heap.size := hlw (gp, 0) (by simp [bpl])
  have z2l : gd < w.heap.size := hlw (gd, 0) (by simp [bpl])
  have z0 : w.frozen? ⟨go, 0, none⟩ = false := hfr.free (go, 0) (by simp [bpl])
  have z1 : w.frozen? ⟨gp, 0, none⟩ = false := hfr.free (gp, 0) (by simp [bpl])
  have z2 : w.frozen? ⟨gd, 0, none⟩ = false := hfr.free (gd, 0) (by simp [bpl])
  have c0 : w.cell? ⟨go, 0, none⟩ = some vl := hbl.cl
  have hp : w.cell? ⟨gp, 0, none⟩ = some (.slice ap s.put.length cp) := hp_
  have hd : w.cell? ⟨gd, 0, none⟩ = some (.int .i64 s.drop) := hd_
  have npd : gp ≠ gd := fun e => by have := hfr.nodup; simp [bpl, e] at this
  have npo_ : gp ≠ go := fun e => by have := hfr.nodup; simp [bpl, e] at this
  have ndo_ : gd ≠ go := fun e => by have := hfr.nodup; simp [bpl, e] at this
  clear hp_ hd_
  obtain ⟨fs, hfe_, hrow⟩ := hbl.row
  have HFE := Lib.hid hfe_
  clear hfe_
  by_cases hp0 : s.put = []
  · by_cases hd2 : 0 < s.drop
    · have HF : Hid (s.flush = ⟨s.list ++ [⟨3, s.drop, []⟩], [], 0⟩) := Lib.hid (by simp [Bst.flush, hp0, hd2])
      have hln : ¬ 0 < s.put.length := by rw [hp0]; simp
      have hWA : Below w.heap.size w (w.alloc (.cells #[.int .i64 3, .int .i64 s.drop, .slice none 0 0] 116)) := (Below.refl _ _).alloc (Nat.le_refl _) _
      have hsrcA := Lib.hid (part_built w 3 s.drop _ [] [] 116 Sl.nil)
      have k1A : s.list.length + [(⟨3, s.drop, []⟩ : DPart)].length ≤ BIG := le_BIG (by simp; omega)
      have k2A : (s.list.length + [(⟨3, s.drop, []⟩ : DPart)].length) * 40 ≤ 140737488355328 := by simp; omega
      have k3A : B ≤ (w.alloc (.cells #[.int .i64 3, .int .i64 s.drop, .slice none 0 0] 116)).heap.size := by simp; omega
      have K1A := Lib.hid k1A
      have K2A := Lib.hid k2A
      have K3A := Lib.hid k3A
      clear k1A k2A k3A
      have n0A : ((go, 0) : Pos) ∉ rowP (GoT.n DPart) (vl) := fun hm => (List.nodup_append.1 hfr.nodup).2.2 (go, 0) (by simp [bpl]) (go, 0) (by rw [HFE.out]; first | exact List.mem_append.2 (.inl (List.mem_append.2 (.inl hm))) | exact List.mem_append.2 (.inl hm)) rfl
      have n1A : ((gp, 0) : Pos) ∉ rowP (GoT.n DPart) (vl) := fun hm => (List.nodup_append.1 hfr.nodup).2.2 (gp, 0) (by simp [bpl]) (gp, 0) (by rw [HFE.out]; first | exact List.mem_append.2 (.inl (List.mem_append.2 (.inl hm))) | exact List.mem_append.2 (.inl hm)) rfl
      have n2A : ((gd, 0) : Pos) ∉ rowP (GoT.n DPart) (vl) := fun hm => (List.nodup_append.1 hfr.nodup).2.2 (gd, 0) (by simp [bpl]) (gd, 0) (by rw [HFE.out]; first | exact List.mem_append.2 (.inl (List.mem_append.2 (.inl hm))) | exact List.mem_append.2 (.inl hm)) rfl
      have hdisA : ∀ p ∈ ([] : List Pos), p ∉ rowP (GoT.n DPart) vl := fun _ h => (by cases h)
      have hfr2 : Fresh B w (bpl (go, 0) (gp, 0) (gd, 0) ++ (fl ++ [])) := by rw [List.append_nil]; exact hfr.pre2
      have HROWA := Lib.hid hrow
      clear hp0 h hrow hlen
      go_enter Try.func129, Try.ntmps129
      go_wp2_with (at_builtin; refine wpList_append_row rfl _ _ 27 rfl Try.underlying27 hi hz0 hz1 hz2 rfl rfl rfl (HROWA.out.below hWA) hsrcA.out hdisA K1A.out K2A.out K3A.out ?_)
      intro vA wA hrA hwA hnA
      replace hnA := fun (p : Pos) (hp : p ∈ rowP 3 vA) => (hnA p.1 p.2 hp)
      obtain ⟨aA, cA, rfl⟩ := hrA.rd.isSlice
      have q0A : wA.cell? ⟨go, 0, none⟩ = some vl := cellw hWA hwA c0 n0A
      have q1A : wA.frozen? ⟨go, 0, none⟩ = false := (hwA.frozen (go, 0) (Nat.lt_of_lt_of_le z0l hWA.size)).trans ((hWA.frozen (p := ⟨go, 0, none⟩) z0l).trans z0)
      have q2A : wA.cell? ⟨gp, 0, none⟩ = some (.slice ap s.put.length cp) := cellw hWA hwA hp n1A
      have q3A : wA.frozen? ⟨gp, 0, none⟩ = false := (hwA.frozen (gp, 0) (Nat.lt_of_lt_of_le z1l hWA.size)).trans ((hWA.frozen (p := ⟨gp, 0, none⟩) z1l).trans z1)
      have q4A : wA.cell? ⟨gd, 0, none⟩ = some (.int .i64 s.drop) := cellw hWA hwA hd n2A
      have q5A : wA.frozen? ⟨gd, 0, none⟩ = false := (hwA.frozen (gd, 0) (Nat.lt_of_lt_of_le z2l hWA.size)).trans ((hWA.frozen (p := ⟨gd, 0, none⟩) z2l).trans z2)
      obtain ⟨fl', kb, kw, kn⟩ := BL.app2 (L := s.list) (x := ⟨3, s.drop, []⟩) hbl hfr2 (Live.nil _) hWA HFE.out (by simpa using hrA) hwA (fun p hp => (hnA p hp).imp id (fun h => by simpa using h))
      simp only [List.length_append, List.length_singleton] at kb kw
      have KB := Lib.hid kb
      have KW := Lib.hid kw
      have KN := Lib.hid kn
      clear kb kw kn hrA hwA hnA
      go_wp2
      go_end0
      exact BStep.done HF.out KB.out (KW.out.sub fun _ hp => mem_n hp) (fun p hp => (KN.out p hp).imp (fun h => by rw [List.append_nil] at h; exact List.mem_append.2 (.inl h)) id)
    · have hd3 : s.drop = 0 := by omega
      have HF : Hid (s.flush = ⟨s.list, [], 0⟩) := Lib.hid (by simp [Bst.flush, hp0, hd2])
      have hln : ¬ 0 < s.put.length := by rw [hp0]; simp
      rw [hd3] at hd
      clear hp0 hd2 hd3 h hlen
      go_enter Try.func129, Try.ntmps129
      go_wp2
      go_end0
      exact BStep.done HF.out hbl (Wr.refl _ _) (fun _ hp => .inl (List.mem_append.2 (.inl hp)))
  · have hln : 0 < s.put.length := List.length_pos_iff.2 hp0
    by_cases hd2 : 0 < s.drop
    · have HF : Hid (s.flush = ⟨s.list ++ [⟨2, 0, s.put⟩] ++ [⟨3, s.drop, []⟩], [], 0⟩) := Lib.hid (by simp [Bst.flush, hp0, hd2])
      have hWA : Below w.heap.size w (w.alloc (.cells #[.int .i64 2, .int .i64 0, .slice ap s.put.length cp] 116)) := (Below.refl _ _).alloc (Nat.le_refl _) _
      have hsrcA := Lib.hid (part_built w 2 0 _ s.put fq 116 sq)
      have k1A : s.list.length + [(⟨2, 0, s.put⟩ : DPart)].length ≤ BIG := le_BIG (by simp; omega)
      have k2A : (s.list.length + [(⟨2, 0, s.put⟩ : DPart)].length) * 40 ≤ 140737488355328 := by simp; omega
      have k3A : B ≤ (w.alloc (.cells #[.int .i64 2, .int .i64 0, .slice ap s.put.length cp] 116)).heap.size := by simp; omega
      have K1A := Lib.hid k1A
      have K2A := Lib.hid k2A
      have K3A := Lib.hid k3A
      clear k1A k2A k3A
      have n0A : ((go, 0) : Pos) ∉ rowP (GoT.n DPart) (vl) := fun hm => (List.nodup_append.1 hfr.nodup).2.2 (go, 0) (by simp [bpl]) (go, 0) (by rw [HFE.out]; first | exact List.mem_append.2 (.inl (List.mem_append.2 (.inl hm))) | exact List.mem_append.2 (.inl hm)) rfl
      have n1A : ((gp, 0) : Pos) ∉ rowP (GoT.n DPart) (vl) := fun hm => (List.nodup_append.1 hfr.nodup).2.2 (gp, 0) (by simp [bpl]) (gp, 0) (by rw [HFE.out]; first | exact List.mem_append.2 (.inl (List.mem_append.2 (.inl hm))) | exact List.mem_append.2 (.inl hm)) rfl
      have n2A : ((gd, 0) : Pos) ∉ rowP (GoT.n DPart) (vl) := fun hm => (List.nodup_append.1 hfr.nodup).2.2 (gd, 0) (by simp [bpl]) (gd, 0) (by rw [HFE.out]; first | exact List.mem_append.2 (.inl (List.mem_append.2 (.inl hm))) | exact List.mem_append.2 (.inl hm)) rfl
      have hdisA : ∀ p ∈ fq, p ∉ rowP (GoT.n DPart) vl := fun p hp hq => (List.nodup_append.1 (List.nodup_append.1 hfr.nodup).2.1).2.2 p (by rw [HFE.out]; exact List.mem_append.2 (.inl hq)) p hp rfl
      have HROWA := Lib.hid hrow
      clear hp0 h hrow
      go_enter Try.func129, Try.ntmps129
      go_wp2_with (at_builtin; refine wpList_append_row rfl _ _ 27 rfl Try.underlying27 hi hz0 hz1 hz2 rfl rfl rfl (HROWA.out.below hWA) hsrcA.out hdisA K1A.out K2A.out K3A.out ?_)
      intro vA wA hrA hwA hnA
      replace hnA := fun (p : Pos) (hp : p ∈ rowP 3 vA) => (hnA p.1 p.2 hp)
      obtain ⟨aA, cA, rfl⟩ := hrA.rd.isSlice
      have q0A : wA.cell? ⟨go, 0, none⟩ = some vl := cellw hWA hwA c0 n0A
      have q1A : wA.frozen? ⟨go, 0, none⟩ = false := (hwA.frozen (go, 0) (Nat.lt_of_lt_of_le z0l hWA.size)).trans ((hWA.frozen (p := ⟨go, 0, none⟩) z0l).trans z0)
      have q2A : wA.cell? ⟨gp, 0, none⟩ = some (.slice ap s.put.length cp) := cellw hWA hwA hp n1A
      have q3A : wA.frozen? ⟨gp, 0, none⟩ = false := (hwA.frozen (gp, 0) (Nat.lt_of_lt_of_le z1l hWA.size)).trans ((hWA.frozen (p := ⟨gp, 0, none⟩) z1l).trans z1)
      have q4A : wA.cell? ⟨gd, 0, none⟩ = some (.int .i64 s.drop) := cellw hWA hwA hd n2A
      have q5A : wA.frozen? ⟨gd, 0, none⟩ = false := (hwA.frozen (gd, 0) (Nat.lt_of_lt_of_le z2l hWA.size)).trans ((hWA.frozen (p := ⟨gd, 0, none⟩) z2l).trans z2)
      obtain ⟨fl', kb, kw, kn⟩ := BL.app2 (L := s.list) (x := ⟨2, 0, s.put⟩) hbl hfr sq.live hWA HFE.out (by simpa using hrA) hwA (fun p hp => (hnA p hp).imp id (fun h => by simpa using h))
      simp only [List.length_append, List.length_singleton] at kb kw
      have hLL : (s.list ++ [(⟨2, 0, s.put⟩ : DPart)]).length ≤ 1000001 := by simp; omega
      have sBA : w.heap.size ≤ wA.heap.size := Nat.le_trans hWA.size hwA.size
      have npo : gp ≠ go := fun e => by have := hfr.nodup; simp [bpl, e] at this
      have ndo : gd ≠ go := fun e => by have := hfr.nodup; simp [bpl, e] at this
      have c0B : (wA.setCell ⟨go, 0, none⟩ (.slice aA (s.list.length + 1) cA)).cell? ⟨go, 0, none⟩ = some (.slice aA (s.list.length + 1) cA) := kb.cl
      have cpB : (wA.setCell ⟨go, 0, none⟩ (.slice aA (s.list.length + 1) cA)).cell? ⟨gp, 0, none⟩ = some (.slice ap s.put.length cp) := by rw [cell_setCell, if_neg (by simp [npo])]; exact q2A
      have cdB : (wA.setCell ⟨go, 0, none⟩ (.slice aA (s.list.length + 1) cA)).cell? ⟨gd, 0, none⟩ = some (.int .i64 s.drop) := by rw [cell_setCell, if_neg (by simp [ndo])]; exact q4A
      have z0B : (wA.setCell ⟨go, 0, none⟩ (.slice aA (s.list.length + 1) cA)).frozen? ⟨go, 0, none⟩ = false := by rw [World.frozen?_setCell]; exact q1A
      have z1B : (wA.setCell ⟨go, 0, none⟩ (.slice aA (s.list.length + 1) cA)).frozen? ⟨gp, 0, none⟩ = false := by rw [World.frozen?_setCell]; exact q3A
      have z2B : (wA.setCell ⟨go, 0, none⟩ (.slice aA (s.list.length + 1) cA)).frozen? ⟨gd, 0, none⟩ = false := by rw [World.frozen?_setCell]; exact q5A
      clear hrA hwA hnA n0A n1A n2A hsrcA K1A K2A K3A HROWA hdisA
      clear c0 hp hd z0 z1 z2
      have hs2 : w.heap.size ≤ (wA.setCell ⟨go, 0, none⟩ (.slice aA (s.list.length + 1) cA)).heap.size := by simpa using sBA
      have z0Bl : go < (wA.setCell ⟨go, 0, none⟩ (.slice aA (s.list.length + 1) cA)).heap.size := Nat.lt_of_lt_of_le z0l hs2
      have z1Bl : gp < (wA.setCell ⟨go, 0, none⟩ (.slice aA (s.list.length + 1) cA)).heap.size := Nat.lt_of_lt_of_le z1l hs2
      have z2Bl : gd < (wA.setCell ⟨go, 0, none⟩ (.slice aA (s.list.length + 1) cA)).heap.size := Nat.lt_of_lt_of_le z2l hs2
      have hB2 : B ≤ (wA.setCell ⟨go, 0, none⟩ (.slice aA (s.list.length + 1) cA)).heap.size := Nat.le_trans hB hs2
      obtain ⟨fs2, hfe2, hrow2⟩ := kb.row
      have HFE2 := Lib.hid hfe2
      have HROWB := Lib.hid hrow2
      have KB := Lib.hid kb
      have KW := Lib.hid kw
      have KN := Lib.hid kn
      have hfrB := kb.fr
      clear hfe2 hrow2 kw kn
      have hWB : Below (wA.setCell ⟨go, 0, none⟩ (.slice aA (s.list.length + 1) cA)).heap.size (wA.setCell ⟨go, 0, none⟩ (.slice aA (s.list.length + 1) cA)) ((wA.setCell ⟨go, 0, none⟩ (.slice aA (s.list.length + 1) cA)).alloc (.cells #[.int .i64 3, .int .i64 s.drop, .slice none 0 0] 116)) := (Below.refl _ _).alloc (Nat.le_refl _) _
      have eB : (wA.setCell ⟨go, 0, none⟩ (.slice aA (s.list.length + 1) cA)).heap.size = wA.heap.size := by simp
      have hsrcB_ := part_built (wA.setCell ⟨go, 0, none⟩ (.slice aA (s.list.length + 1) cA)) 3 s.drop _ [] [] 116 Sl.nil
      rw [eB] at hsrcB_
      have hsrcB := Lib.hid hsrcB_
      clear eB hsrcB_
      have k1B : (s.list ++ [(⟨2, 0, s.put⟩ : DPart)]).length + [(⟨3, s.drop, []⟩ : DPart)].length ≤ BIG := le_BIG (by have := hLL; simp at this ⊢; omega)
      have k2B : ((s.list ++ [(⟨2, 0, s.put⟩ : DPart)]).length + [(⟨3, s.drop, []⟩ : DPart)].length) * 40 ≤ 140737488355328 := by have := hLL; simp at this ⊢; omega
      have k3B : B ≤ ((wA.setCell ⟨go, 0, none⟩ (.slice aA (s.list.length + 1) cA)).alloc (.cells #[.int .i64 3, .int .i64 s.drop, .slice none 0 0] 116)).heap.size := by have := hLL; simp at this ⊢; omega
      have K1B := Lib.hid k1B
      have K2B := Lib.hid k2B
      have K3B := Lib.hid k3B
      clear k1B k2B k3B
      have n0B : ((go, 0) : Pos) ∉ rowP (GoT.n DPart) (.slice aA (s.list.length + 1) cA) := fun hm => (List.nodup_append.1 hfrB.nodup).2.2 (go, 0) (by simp [bpl]) (go, 0) (by rw [HFE2.out]; first | exact List.mem_append.2 (.inl (List.mem_append.2 (.inl hm))) | exact List.mem_append.2 (.inl hm)) rfl
      have n1B : ((gp, 0) : Pos) ∉ rowP (GoT.n DPart) (.slice aA (s.list.length + 1) cA) := fun hm => (List.nodup_append.1 hfrB.nodup).2.2 (gp, 0) (by simp [bpl]) (gp, 0) (by rw [HFE2.out]; first | exact List.mem_append.2 (.inl (List.mem_append.2 (.inl hm))) | exact List.mem_append.2 (.inl hm)) rfl
      have n2B : ((gd, 0) : Pos) ∉ rowP (GoT.n DPart) (.slice aA (s.list.length + 1) cA) := fun hm => (List.nodup_append.1 hfrB.nodup).2.2 (gd, 0) (by simp [bpl]) (gd, 0) (by rw [HFE2.out]; first | exact List.mem_append.2 (.inl (List.mem_append.2 (.inl hm))) | exact List.mem_append.2 (.inl hm)) rfl
      have hdisB : ∀ p ∈ ([] : List Pos), p ∉ rowP (GoT.n DPart) (.slice aA (s.list.length + 1) cA) := fun _ h => (by cases h)
      have hfr2 : Fresh B (wA.setCell ⟨go, 0, none⟩ (.slice aA (s.list.length + 1) cA)) (bpl (go, 0) (gp, 0) (gd, 0) ++ (fl' ++ [])) := by rw [List.append_nil]; exact hfrB
      clear hLL kb hfrB hfr
      go_wp2_with (at_builtin; refine wpList_append_row rfl _ _ 27 rfl Try.underlying27 hi hz0 hz1 hz2 rfl rfl rfl (HROWB.out.below hWB) hsrcB.out hdisB K1B.out K2B.out K3B.out ?_)
      intro vB wB hrB hwB hnB
      replace hnB := fun (p : Pos) (hp : p ∈ rowP 3 vB) => (hnB p.1 p.2 hp)
      obtain ⟨aB, cB, rfl⟩ := hrB.rd.isSlice
      have q0B : wB.cell? ⟨go, 0, none⟩ = some (.slice aA (s.list.length + 1) cA) := cellw hWB hwB c0B n0B
      have q1B : wB.frozen? ⟨go, 0, none⟩ = false := (hwB.frozen (go, 0) (Nat.lt_of_lt_of_le z0Bl hWB.size)).trans ((hWB.frozen (p := ⟨go, 0, none⟩) z0Bl).trans z0B)
      have q2B : wB.cell? ⟨gp, 0, none⟩ = some (.slice ap s.put.length cp) := cellw hWB hwB cpB n1B
      have q3B : wB.frozen? ⟨gp, 0, none⟩ = false := (hwB.frozen (gp, 0) (Nat.lt_of_lt_of_le z1Bl hWB.size)).trans ((hWB.frozen (p := ⟨gp, 0, none⟩) z1Bl).trans z1B)
      have q4B : wB.cell? ⟨gd, 0, none⟩ = some (.int .i64 s.drop) := cellw hWB hwB cdB n2B
      have q5B : wB.frozen? ⟨gd, 0, none⟩ = false := (hwB.frozen (gd, 0) (Nat.lt_of_lt_of_le z2Bl hWB.size)).trans ((hWB.frozen (p := ⟨gd, 0, none⟩) z2Bl).trans z2B)
      obtain ⟨fl2, kb, kw, kn⟩ := BL.app2 (L := (s.list ++ [(⟨2, 0, s.put⟩ : DPart)])) (x := ⟨3, s.drop, []⟩) KB.out hfr2 (Live.nil _) hWB HFE2.out (by simpa using hrB) hwB (fun p hp => (hnB p hp).imp id (fun h => by simpa using h))
      simp only [List.length_append] at kb kw
      have KB2 := Lib.hid kb
      have KW2 := Lib.hid (KW.out.trans2 kw fun p hp => by
        rw [List.append_nil] at hp
        rcases List.mem_append.1 hp with hp | hp
        · exact .inl (List.mem_append.2 (.inl hp))
        · exact (KN.out p hp).imp (fun h => List.mem_append.2 (.inr h)) id)
      have KN2 : Hid (∀ p ∈ fl2, p ∈ fl ++ fq ∨ w.heap.size ≤ p.1) := Lib.hid fun p hp => by
        rcases kn p hp with k | k
        · rw [List.append_nil] at k; exact KN.out p k
        · exact .inr (Nat.le_trans hs2 k)
      clear kb kw kn hrB hwB hnB
      go_wp2
      go_end0
      exact BStep.done HF.out KB2.out KW2.out KN2.out
    · have hd3 : s.drop = 0 := by omega
      have HF : Hid (s.flush = ⟨s.list ++ [⟨2, 0, s.put⟩], [], 0⟩) := Lib.hid (by simp [Bst.flush, hp0, hd2])
      rw [hd3] at hd
      clear hd3
      have hWA : Below w.heap.size w (w.alloc (.cells #[.int .i64 2, .int .i64 0, .slice ap s.put.length cp] 116)) := (Below.refl _ _).alloc (Nat.le_refl _) _
      have hsrcA := Lib.hid (part_built w 2 0 _ s.put fq 116 sq)
      have k1A : s.list.length + [(⟨2, 0, s.put⟩ : DPart)].length ≤ BIG := le_BIG (by simp; omega)
      have k2A : (s.list.length + [(⟨2, 0, s.put⟩ : DPart)].length) * 40 ≤ 140737488355328 := by simp; omega
      have k3A : B ≤ (w.alloc (.cells #[.int .i64 2, .int .i64 0, .slice ap s.put.length cp] 116)).heap.size := by simp; omega
      have K1A := Lib.hid k1A
      have K2A := Lib.hid k2A
      have K3A := Lib.hid k3A
      clear k1A k2A k3A
      have n0A : ((go, 0) : Pos) ∉ rowP (GoT.n DPart) (vl) := fun hm => (List.nodup_append.1 hfr.nodup).2.2 (go, 0) (by simp [bpl]) (go, 0) (by rw [HFE.out]; first | exact List.mem_append.2 (.inl (List.mem_append.2 (.inl hm))) | exact List.mem_append.2 (.inl hm)) rfl
      have n1A : ((gp, 0) : Pos) ∉ rowP (GoT.n DPart) (vl) := fun hm => (List.nodup_append.1 hfr.nodup).2.2 (gp, 0) (by simp [bpl]) (gp, 0) (by rw [HFE.out]; first | exact List.mem_append.2 (.inl (List.mem_append.2 (.inl hm))) | exact List.mem_append.2 (.inl hm)) rfl
      have n2A : ((gd, 0) : Pos) ∉ rowP (GoT.n DPart) (vl) := fun hm => (List.nodup_append.1 hfr.nodup).2.2 (gd, 0) (by simp [bpl]) (gd, 0) (by rw [HFE.out]; first | exact List.mem_append.2 (.inl (List.mem_append.2 (.inl hm))) | exact List.mem_append.2 (.inl hm)) rfl
      have hdisA : ∀ p ∈ fq, p ∉ rowP (GoT.n DPart) vl := fun p hp hq => (List.nodup_append.1 (List.nodup_append.1 hfr.nodup).2.1).2.2 p (by rw [HFE.out]; exact List.mem_append.2 (.inl hq)) p hp rfl
      have HROWA := Lib.hid hrow
      clear hp0 hd2 h hrow
      go_enter Try.func129, Try.ntmps129
      go_wp2_with (at_builtin; refine wpList_append_row rfl _ _ 27 rfl Try.underlying27 hi hz0 hz1 hz2 rfl rfl rfl (HROWA.out.below hWA) hsrcA.out hdisA K1A.out K2A.out K3A.out ?_)
      intro vA wA hrA hwA hnA
      replace hnA := fun (p : Pos) (hp : p ∈ rowP 3 vA) => (hnA p.1 p.2 hp)
      obtain ⟨aA, cA, rfl⟩ := hrA.rd.isSlice
      have q0A : wA.cell? ⟨go, 0, none⟩ = some vl := cellw hWA hwA c0 n0A
      have q1A : wA.frozen? ⟨go, 0, none⟩ = false := (hwA.frozen (go, 0) (Nat.lt_of_lt_of_le z0l hWA.size)).trans ((hWA.frozen (p := ⟨go, 0, none⟩) z0l).trans z0)
      have q2A : wA.cell? ⟨gp, 0, none⟩ = some (.slice ap s.put.length cp) := cellw hWA hwA hp n1A
      have q3A : wA.frozen? ⟨gp, 0, none⟩ = false := (hwA.frozen (gp, 0) (Nat.lt_of_lt_of_le z1l hWA.size)).trans ((hWA.frozen (p := ⟨gp, 0, none⟩) z1l).trans z1)
      have q4A : wA.cell? ⟨gd, 0, none⟩ = some (.int .i64 0) := cellw hWA hwA hd n2A
      have q5A : wA.frozen? ⟨gd, 0, none⟩ = false := (hwA.frozen (gd, 0) (Nat.lt_of_lt_of_le z2l hWA.size)).trans ((hWA.frozen (p := ⟨gd, 0, none⟩) z2l).trans z2)
      obtain ⟨fl', kb, kw, kn⟩ := BL.app2 (L := s.list) (x := ⟨2, 0, s.put⟩) hbl hfr sq.live hWA HFE.out (by simpa using hrA) hwA (fun p hp => (hnA p hp).imp id (fun h => by simpa using h))
      simp only [List.length_append, List.length_singleton] at kb kw
      have KB := Lib.hid kb
      have KW := Lib.hid kw
      have KN := Lib.hid kn
      clear kb kw kn hrA hwA hnA
      go_wp2
      go_end0
      exact BStep.done HF.out KB.out KW.out KN.out
end Go.Proofs.Ytihbmefidbmmdaa
