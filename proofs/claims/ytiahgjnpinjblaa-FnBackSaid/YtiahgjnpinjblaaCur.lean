/- The reference's cursors: the next part's kind, what is left of it, what is taken. -/
import Derived.Test.YtiahgjnpinjblaaCst
import Derived.Test.YtiahgjnpinjblaaRo
import Derived.Deep.LoopGhost
import Derived.BigQuiet
namespace Go.Proofs.Ytiahgjnpinjblaa
open Go.RowKit

set_option maxHeartbeats 2000000 in
set_option maxRecDepth 100000 in
theorem spec_l04Kind_c (w0 : World) (b : Nat) (v : Value) (o : List DPart) (k d : Nat) (w : World) (hX : Bx w b [v, .int .i64 k, .int .i64 d]) (h : RdS w0 v o) (hb0 : w0.heap.size ≤ b) (hbw : Below w0.heap.size w0 w) (hall : o.all partOk = true) (hc : Cok o k d) (hlen : o.length ≤ 600) :
    Calls Try.prog 96 #[.pointer (some ⟨b, 0, none⟩)] w (fun e w' => ∃ k' d' : Nat, e = .returned (.int .i64 (hd (skip (curRem o k d))).kind) ∧ Bx w' b [v, .int .i64 k', .int .i64 d'] ∧ Cok o k' d' ∧ curRem o k' d' = skip (curRem o k d) ∧ Wr (own b 0 3) w w' ∧ (skip (curRem o k d) = curRem o k d → k' = k ∧ d' = d ∧ Below w.heap.size w w')) := by
  have HALL := Lib.hid hall
  have HR := Lib.hid h
  have HX := Lib.hid hX
  obtain ⟨zl0, _⟩ := hX.o3
  have HBW := Lib.hid hbw
  have HC := Lib.hid hc
  clear hall h hX hbw hc
  go_enter Try.func96, Try.ntmps96
  go_wp2_with fail
  go_loopg [] (o.length - k) (fun n wr => ∃ k' d' : Nat, n = o.length - k' ∧ Cok o k' d' ∧ skip (curRem o k' d') = skip (curRem o k d) ∧ Bx wr b [v, .int .i64 k', .int .i64 d'] ∧ Wr (own b 0 3) w wr ∧ ((k' = k ∧ d' = d ∧ Below w.heap.size w wr) ∨ skip (curRem o k d) ≠ curRem o k d))
  case atStart => exact ⟨k, d, rfl, HC.out, rfl, HX.out, Wr.refl _ _, .inl ⟨rfl, rfl, Below.refl _ _⟩⟩
  case round =>
    obtain ⟨k', d', rfl, hc', hsk, hx, hw, hst⟩ := hrel
    have HST := Lib.hid hst
    clear hst
    have HW := Lib.hid hw
    have HSK := Lib.hid hsk
    have HC' := Lib.hid hc'
    have hbr : Below w0.heap.size w0 wr := HBW.out.trans (hw.below HBW.out.size fun p hp => by have := own_blk hp; omega)
    obtain ⟨zl, c0, c1, c2, g0, g1, g2⟩ := hx.q3
    have rr := HR.out.below hbr
    have hl := fun w1 ty => rr.len Try.underlying32 w1 ty
    have hle := hc'.le
    clear hw hsk hc' hx hbr
    by_cases hk : k' < o.length
    · obtain ⟨q, hq⟩ := get_some hk
      obtain ⟨b1, o1, cs, i1, i2, i3⟩ := rr.idx Try.underlying32 szi_DPart k' hq
      obtain ⟨vg, rfl, r_signs⟩ := inv_DPart i3
      have e0 := i2.zero
      have e1 : wr.cell? ⟨b1, o1 + 1, none⟩ = some _ := i2 1 _ rfl
      have e2 : wr.cell? ⟨b1, o1 + 2, none⟩ = some _ := i2 2 _ rfl
      have l1 : b1 < wr.heap.size := World.block_lt_of_cell? (w := wr) (a := ⟨b1, o1, none⟩) e0
      have HRS := Lib.hid r_signs
      clear i2 i3 r_signs
      have hpo := all_at HALL.out hq
      have hsz := szOf_nsz hpo
      have hdn := HC'.out.dn q hq
      have hn2 := nsz_le hpo
      have HQ := Lib.hid hq
      have HPO := Lib.hid hpo
      have HSZ := Lib.hid hsz
      clear hq hpo hsz
      by_cases hdd : d' = nsz q
      · have hde : ((d' : Int) == szOf q) = true := by rw [HSZ.out, hdd]; simp
        have hke : (k' : Int) < (o.length : Int) := by omega
        go_wp2_with fail
        obtain ⟨X, hX, F, hF, hFs⟩ := fam_of wr
        obtain ⟨fc0, fc1, fc2⟩ := mx3 hF zl c0 c1 c2
        have fe0 : ∀ x, (F x).cell? ⟨b1, o1, none⟩ = some (.int .i64 q.kind) := fun x => ((hF x).cell (p := ⟨b1, o1, none⟩) l1).trans e0
        obtain ⟨fe1, fe2⟩ := mx2 hF l1 e1 e2
        have HF := Lib.hid hF
        have HFs := Lib.hid hFs
        clear hF hFs
        have HS := Lib.hid (fun (W' : World) (hb : Below wr.heap.size wr W') => (by have := spec_l04Size_c q vg _ (HRS.out.below hb); exact this : Calls Try.prog 101 #[.agg #[.int .i64 q.kind, .int .i64 q.n, vg]] W' (Tells W' (.int .i64 (szOf q)))))
        refine wp_region_fam (F := F) (by kernel_rfl) (by kernel_rfl) (HFs.out _ (Below.refl _ _).drew) ?_
        repeat (go_big_quiet_step ((go_at_call 101; (with_reducible exact Calls.fam_tells HF.out HFs.out (HS.out _ (HF.out _))))))
        refine wpQuiet_nil ?_
        intro x
        obtain ⟨w1, hwx⟩ : ∃ wx : World, F x = wx := ⟨_, rfl⟩
        have B1 : Below wr.heap.size wr w1 := by rw [← hwx]; exact HF.out x
        rw [hwx]
        clear hwx fc0 fc1 fc2 fe0 fe1 fe2 HF HFs
        have s1 := B1.size
        replace c0 : w1.cell? ⟨b, 0, none⟩ = some (v) := (B1.cell (p := ⟨b, 0, none⟩) zl).trans c0
        replace c1 : w1.cell? ⟨b, 1, none⟩ = some (.int .i64 k') := (B1.cell (p := ⟨b, 1, none⟩) zl).trans c1
        replace c2 : w1.cell? ⟨b, 2, none⟩ = some (.int .i64 d') := (B1.cell (p := ⟨b, 2, none⟩) zl).trans c2
        replace e0 : w1.cell? ⟨b1, o1, none⟩ = some (.int .i64 q.kind) := (B1.cell (p := ⟨b1, o1, none⟩) l1).trans e0
        replace e1 : w1.cell? ⟨b1, o1 + 1, none⟩ = some (.int .i64 q.n) := (B1.cell (p := ⟨b1, o1 + 1, none⟩) l1).trans e1
        replace e2 : w1.cell? ⟨b1, o1 + 2, none⟩ = some (vg) := (B1.cell (p := ⟨b1, o1 + 2, none⟩) l1).trans e2
        replace g0 : w1.frozen? ⟨b, 0, none⟩ = false := (B1.frozen (p := ⟨b, 0, none⟩) zl).trans g0
        replace g1 : w1.frozen? ⟨b, 1, none⟩ = false := (B1.frozen (p := ⟨b, 1, none⟩) zl).trans g1
        replace g2 : w1.frozen? ⟨b, 2, none⟩ = false := (B1.frozen (p := ⟨b, 2, none⟩) zl).trans g2
        replace l1 := Nat.lt_of_lt_of_le l1 s1
        replace zl := Nat.lt_of_lt_of_le zl s1
        go_wp2
        go_roundg (o.length - (k' + 1))
        case measure => omega
        case rel =>
          refine ⟨k' + 1, 0, rfl, Cok.zero (by omega), ?_, ?_, ?_, .inr ?_⟩
          rotate_right
          · rcases HST.out with ⟨rfl, rfl, _⟩ | hs
            · rw [curRem_some HQ.out]
              exact skip_ne (by have := nsz_cutR HPO.out (Nat.le_of_eq hdd); omega)
            · exact hs
          · rw [← HSK.out, cur_next HQ.out HPO.out hdd]
          · have hx1 : Bx w1 b [v, .int .i64 k', .int .i64 d'] := ⟨zl, fun j u hj => by
              match j, hj with
              | 0, hj => simp at hj; subst hj; exact ⟨c0, g0⟩
              | 1, hj => simp at hj; subst hj; exact ⟨c1, g1⟩
              | 2, hj => simp at hj; subst hj; exact ⟨c2, g2⟩⟩
            exact (hx1.set 1 (.int .i64 ((k' + 1 : Nat) : Int))).set 2 (.int .i64 ((0 : Nat) : Int))
          · exact ((HW.out.trans (Wr.of_below B1)).put (b := b) (o := 1) (mem_own.2 ⟨rfl, by simp, by simp⟩) _).put (b := b) (o := 2) (mem_own.2 ⟨rfl, by simp, by simp⟩) _
      · have hdl : d' < nsz q := by omega
        have hde : ((d' : Int) == szOf q) = false := by rw [HSZ.out]; simp; omega
        have hke : ((k' : Int) == (o.length : Int)) = false := by simp; omega
        have hki : (k' : Int) < (o.length : Int) := by omega
        have HV : Hid ((hd (skip (curRem o k d))).kind = q.kind) := Lib.hid (by rw [← HSK.out, cur_stay HQ.out HPO.out hdl, curRem_some HQ.out]; show (cutR q d').kind = _; unfold cutR; split <;> rfl)
        go_wp2_with fail
        obtain ⟨X, hX, F, hF, hFs⟩ := fam_of wr
        obtain ⟨fc0, fc1, fc2⟩ := mx3 hF zl c0 c1 c2
        have fe0 : ∀ x, (F x).cell? ⟨b1, o1, none⟩ = some (.int .i64 q.kind) := fun x => ((hF x).cell (p := ⟨b1, o1, none⟩) l1).trans e0
        obtain ⟨fe1, fe2⟩ := mx2 hF l1 e1 e2
        have HF := Lib.hid hF
        have HFs := Lib.hid hFs
        clear hF hFs
        have HS := Lib.hid (fun (W' : World) (hb : Below wr.heap.size wr W') => (by have := spec_l04Size_c q vg _ (HRS.out.below hb); exact this : Calls Try.prog 101 #[.agg #[.int .i64 q.kind, .int .i64 q.n, vg]] W' (Tells W' (.int .i64 (szOf q)))))
        refine wp_region_fam (F := F) (by kernel_rfl) (by kernel_rfl) (HFs.out _ (Below.refl _ _).drew) ?_
        repeat (go_big_quiet_step ((go_at_call 101; (with_reducible exact Calls.fam_tells HF.out HFs.out (HS.out _ (HF.out _))))))
        refine wpQuiet_nil ?_
        intro x
        obtain ⟨w1, hwx⟩ : ∃ wx : World, F x = wx := ⟨_, rfl⟩
        have B1 : Below wr.heap.size wr w1 := by rw [← hwx]; exact HF.out x
        rw [hwx]
        clear hwx fc0 fc1 fc2 fe0 fe1 fe2 HF HFs
        have s1 := B1.size
        replace c0 : w1.cell? ⟨b, 0, none⟩ = some (v) := (B1.cell (p := ⟨b, 0, none⟩) zl).trans c0
        replace c1 : w1.cell? ⟨b, 1, none⟩ = some (.int .i64 k') := (B1.cell (p := ⟨b, 1, none⟩) zl).trans c1
        replace c2 : w1.cell? ⟨b, 2, none⟩ = some (.int .i64 d') := (B1.cell (p := ⟨b, 2, none⟩) zl).trans c2
        replace e0 : w1.cell? ⟨b1, o1, none⟩ = some (.int .i64 q.kind) := (B1.cell (p := ⟨b1, o1, none⟩) l1).trans e0
        replace e1 : w1.cell? ⟨b1, o1 + 1, none⟩ = some (.int .i64 q.n) := (B1.cell (p := ⟨b1, o1 + 1, none⟩) l1).trans e1
        replace e2 : w1.cell? ⟨b1, o1 + 2, none⟩ = some (vg) := (B1.cell (p := ⟨b1, o1 + 2, none⟩) l1).trans e2
        replace g0 : w1.frozen? ⟨b, 0, none⟩ = false := (B1.frozen (p := ⟨b, 0, none⟩) zl).trans g0
        replace g1 : w1.frozen? ⟨b, 1, none⟩ = false := (B1.frozen (p := ⟨b, 1, none⟩) zl).trans g1
        replace g2 : w1.frozen? ⟨b, 2, none⟩ = false := (B1.frozen (p := ⟨b, 2, none⟩) zl).trans g2
        replace l1 := Nat.lt_of_lt_of_le l1 s1
        replace zl := Nat.lt_of_lt_of_le zl s1
        go_wp2_with fail
        obtain ⟨X, hX, F, hF, hFs⟩ := fam_of w1
        obtain ⟨fc0, fc1, fc2⟩ := mx3 hF zl c0 c1 c2
        have fe0 : ∀ x, (F x).cell? ⟨b1, o1, none⟩ = some (.int .i64 q.kind) := fun x => ((hF x).cell (p := ⟨b1, o1, none⟩) l1).trans e0
        obtain ⟨fe1, fe2⟩ := mx2 hF l1 e1 e2
        have HF := Lib.hid hF
        have HFs := Lib.hid hFs
        clear hF hFs
        refine wp_region_fam (F := F) (by kernel_rfl) (by kernel_rfl) (HFs.out _ (Below.refl _ _).drew) ?_
        repeat (go_big_quiet_step (fail))
        refine wpQuiet_nil ?_
        intro x
        obtain ⟨w2, hwx⟩ : ∃ wx : World, F x = wx := ⟨_, rfl⟩
        have B2 : Below w1.heap.size w1 w2 := by rw [← hwx]; exact HF.out x
        rw [hwx]
        clear hwx fc0 fc1 fc2 fe0 fe1 fe2 HF HFs
        have s2 := B2.size
        replace c0 : w2.cell? ⟨b, 0, none⟩ = some (v) := (B2.cell (p := ⟨b, 0, none⟩) zl).trans c0
        replace c1 : w2.cell? ⟨b, 1, none⟩ = some (.int .i64 k') := (B2.cell (p := ⟨b, 1, none⟩) zl).trans c1
        replace c2 : w2.cell? ⟨b, 2, none⟩ = some (.int .i64 d') := (B2.cell (p := ⟨b, 2, none⟩) zl).trans c2
        replace e0 : w2.cell? ⟨b1, o1, none⟩ = some (.int .i64 q.kind) := (B2.cell (p := ⟨b1, o1, none⟩) l1).trans e0
        replace e1 : w2.cell? ⟨b1, o1 + 1, none⟩ = some (.int .i64 q.n) := (B2.cell (p := ⟨b1, o1 + 1, none⟩) l1).trans e1
        replace e2 : w2.cell? ⟨b1, o1 + 2, none⟩ = some (vg) := (B2.cell (p := ⟨b1, o1 + 2, none⟩) l1).trans e2
        replace g0 : w2.frozen? ⟨b, 0, none⟩ = false := (B2.frozen (p := ⟨b, 0, none⟩) zl).trans g0
        replace g1 : w2.frozen? ⟨b, 1, none⟩ = false := (B2.frozen (p := ⟨b, 1, none⟩) zl).trans g1
        replace g2 : w2.frozen? ⟨b, 2, none⟩ = false := (B2.frozen (p := ⟨b, 2, none⟩) zl).trans g2
        replace l1 := Nat.lt_of_lt_of_le l1 s2
        replace zl := Nat.lt_of_lt_of_le zl s2
        go_wp2_with fail
        obtain ⟨X, hX, F, hF, hFs⟩ := fam_of w2
        obtain ⟨fc0, fc1, fc2⟩ := mx3 hF zl c0 c1 c2
        have fe0 : ∀ x, (F x).cell? ⟨b1, o1, none⟩ = some (.int .i64 q.kind) := fun x => ((hF x).cell (p := ⟨b1, o1, none⟩) l1).trans e0
        obtain ⟨fe1, fe2⟩ := mx2 hF l1 e1 e2
        have HF := Lib.hid hF
        have HFs := Lib.hid hFs
        clear hF hFs
        refine wp_region_fam (F := F) (by kernel_rfl) (by kernel_rfl) (HFs.out _ (Below.refl _ _).drew) ?_
        repeat (go_big_quiet_step (fail))
        refine wpQuiet_nil ?_
        intro x
        obtain ⟨w3, hwx⟩ : ∃ wx : World, F x = wx := ⟨_, rfl⟩
        have B3 : Below w2.heap.size w2 w3 := by rw [← hwx]; exact HF.out x
        rw [hwx]
        clear hwx fc0 fc1 fc2 fe0 fe1 fe2 HF HFs
        have s3 := B3.size
        replace c0 : w3.cell? ⟨b, 0, none⟩ = some (v) := (B3.cell (p := ⟨b, 0, none⟩) zl).trans c0
        replace c1 : w3.cell? ⟨b, 1, none⟩ = some (.int .i64 k') := (B3.cell (p := ⟨b, 1, none⟩) zl).trans c1
        replace c2 : w3.cell? ⟨b, 2, none⟩ = some (.int .i64 d') := (B3.cell (p := ⟨b, 2, none⟩) zl).trans c2
        replace e0 : w3.cell? ⟨b1, o1, none⟩ = some (.int .i64 q.kind) := (B3.cell (p := ⟨b1, o1, none⟩) l1).trans e0
        replace e1 : w3.cell? ⟨b1, o1 + 1, none⟩ = some (.int .i64 q.n) := (B3.cell (p := ⟨b1, o1 + 1, none⟩) l1).trans e1
        replace e2 : w3.cell? ⟨b1, o1 + 2, none⟩ = some (vg) := (B3.cell (p := ⟨b1, o1 + 2, none⟩) l1).trans e2
        replace g0 : w3.frozen? ⟨b, 0, none⟩ = false := (B3.frozen (p := ⟨b, 0, none⟩) zl).trans g0
        replace g1 : w3.frozen? ⟨b, 1, none⟩ = false := (B3.frozen (p := ⟨b, 1, none⟩) zl).trans g1
        replace g2 : w3.frozen? ⟨b, 2, none⟩ = false := (B3.frozen (p := ⟨b, 2, none⟩) zl).trans g2
        replace l1 := Nat.lt_of_lt_of_le l1 s3
        replace zl := Nat.lt_of_lt_of_le zl s3
        go_wp2
        go_ret
        refine ⟨k', d', ret_int (by rw [HV.out]), ⟨zl, fun j u hj => by
              match j, hj with
              | 0, hj => simp at hj; subst hj; exact ⟨c0, g0⟩
              | 1, hj => simp at hj; subst hj; exact ⟨c1, g1⟩
              | 2, hj => simp at hj; subst hj; exact ⟨c2, g2⟩⟩, HC'.out, ?_, ((HW.out.trans (Wr.of_below B1)).trans (Wr.of_below B2)).trans (Wr.of_below B3), fun hs => ?_⟩
        rotate_left
        · rcases HST.out with ⟨rfl, rfl, b0⟩ | hs2
          · have := b0.size
            exact ⟨rfl, rfl, ((b0.trans (B1.mono (by omega))).trans (B2.mono (by omega))).trans (B3.mono (by omega))⟩
          · exact absurd hs hs2
        rw [← HSK.out, cur_stay HQ.out HPO.out hdl]
    · have hke : ((k' : Int) == (o.length : Int)) = true := by simp; omega
      have hki : ¬ (k' : Int) < (o.length : Int) := by omega
      have HV : Hid ((hd (skip (curRem o k d))).kind = 0) := Lib.hid (by rw [← HSK.out, cur_atEnd (by omega)]; rfl)
      go_wp2_with fail
      obtain ⟨X, hX, F, hF, hFs⟩ := fam_of wr
      obtain ⟨fc0, fc1, fc2⟩ := mx3 hF zl c0 c1 c2
      have HF := Lib.hid hF
      have HFs := Lib.hid hFs
      clear hF hFs
      refine wp_region_fam (F := F) (by kernel_rfl) (by kernel_rfl) (HFs.out _ (Below.refl _ _).drew) ?_
      repeat (go_big_quiet_step (fail))
      refine wpQuiet_nil ?_
      intro x
      obtain ⟨w1, hwx⟩ : ∃ wx : World, F x = wx := ⟨_, rfl⟩
      have B1 : Below wr.heap.size wr w1 := by rw [← hwx]; exact HF.out x
      rw [hwx]
      clear hwx fc0 fc1 fc2 HF HFs
      have s1 := B1.size
      replace c0 : w1.cell? ⟨b, 0, none⟩ = some (v) := (B1.cell (p := ⟨b, 0, none⟩) zl).trans c0
      replace c1 : w1.cell? ⟨b, 1, none⟩ = some (.int .i64 k') := (B1.cell (p := ⟨b, 1, none⟩) zl).trans c1
      replace c2 : w1.cell? ⟨b, 2, none⟩ = some (.int .i64 d') := (B1.cell (p := ⟨b, 2, none⟩) zl).trans c2
      replace g0 : w1.frozen? ⟨b, 0, none⟩ = false := (B1.frozen (p := ⟨b, 0, none⟩) zl).trans g0
      replace g1 : w1.frozen? ⟨b, 1, none⟩ = false := (B1.frozen (p := ⟨b, 1, none⟩) zl).trans g1
      replace g2 : w1.frozen? ⟨b, 2, none⟩ = false := (B1.frozen (p := ⟨b, 2, none⟩) zl).trans g2
      replace zl := Nat.lt_of_lt_of_le zl s1
      go_wp2_with fail
      obtain ⟨X, hX, F, hF, hFs⟩ := fam_of w1
      obtain ⟨fc0, fc1, fc2⟩ := mx3 hF zl c0 c1 c2
      have HF := Lib.hid hF
      have HFs := Lib.hid hFs
      clear hF hFs
      refine wp_region_fam (F := F) (by kernel_rfl) (by kernel_rfl) (HFs.out _ (Below.refl _ _).drew) ?_
      repeat (go_big_quiet_step (fail))
      refine wpQuiet_nil ?_
      intro x
      obtain ⟨w2, hwx⟩ : ∃ wx : World, F x = wx := ⟨_, rfl⟩
      have B2 : Below w1.heap.size w1 w2 := by rw [← hwx]; exact HF.out x
      rw [hwx]
      clear hwx fc0 fc1 fc2 HF HFs
      have s2 := B2.size
      replace c0 : w2.cell? ⟨b, 0, none⟩ = some (v) := (B2.cell (p := ⟨b, 0, none⟩) zl).trans c0
      replace c1 : w2.cell? ⟨b, 1, none⟩ = some (.int .i64 k') := (B2.cell (p := ⟨b, 1, none⟩) zl).trans c1
      replace c2 : w2.cell? ⟨b, 2, none⟩ = some (.int .i64 d') := (B2.cell (p := ⟨b, 2, none⟩) zl).trans c2
      replace g0 : w2.frozen? ⟨b, 0, none⟩ = false := (B2.frozen (p := ⟨b, 0, none⟩) zl).trans g0
      replace g1 : w2.frozen? ⟨b, 1, none⟩ = false := (B2.frozen (p := ⟨b, 1, none⟩) zl).trans g1
      replace g2 : w2.frozen? ⟨b, 2, none⟩ = false := (B2.frozen (p := ⟨b, 2, none⟩) zl).trans g2
      replace zl := Nat.lt_of_lt_of_le zl s2
      go_wp2
      go_ret
      refine ⟨k', d', ret_int (by rw [HV.out]), ⟨zl, fun j u hj => by
              match j, hj with
              | 0, hj => simp at hj; subst hj; exact ⟨c0, g0⟩
              | 1, hj => simp at hj; subst hj; exact ⟨c1, g1⟩
              | 2, hj => simp at hj; subst hj; exact ⟨c2, g2⟩⟩, HC'.out, ?_, (HW.out.trans (Wr.of_below B1)).trans (Wr.of_below B2), fun hs => ?_⟩
      rotate_left
      · rcases HST.out with ⟨rfl, rfl, b0⟩ | hs2
        · have := b0.size
          exact ⟨rfl, rfl, (b0.trans (B1.mono (by omega))).trans (B2.mono (by omega))⟩
        · exact absurd hs hs2
      rw [← HSK.out, cur_atEnd (by omega), curRem_end (by omega)]
set_option maxHeartbeats 2000000 in
set_option maxRecDepth 100000 in
theorem spec_l04Left_c (w0 : World) (b : Nat) (v : Value) (o : List DPart) (k d : Nat) (p : DPart) (l : List DPart) (w : World) (hX : Bx w b [v, .int .i64 k, .int .i64 d]) (h : RdS w0 v o) (hbw : Below w0.heap.size w0 w) (hall : o.all partOk = true) (hc : Cok o k d) (hcur : curRem o k d = p :: l) : Calls Try.prog 97 #[.pointer (some ⟨b, 0, none⟩)] w (Tells w (.int .i64 (nsz p))) := by
  obtain ⟨q, hq, hpo, hsz, hn2, hdn, hnp, hkp, _, hput⟩ := cur_left hall hc hcur
  obtain ⟨zl, c0, c1, c2, g0, g1, g2⟩ := hX.q3
  have rr := h.below hbw
  have HX := Lib.hid hX
  have HNP := Lib.hid hnp
  have HPUT := Lib.hid hput
  obtain ⟨b1, o1, cs, i1, i2, i3⟩ := rr.idx Try.underlying32 szi_DPart k hq
  obtain ⟨vg, rfl, r_signs⟩ := inv_DPart i3
  have e0 := i2.zero
  have e1 : w.cell? ⟨b1, o1 + 1, none⟩ = some _ := i2 1 _ rfl
  have e2 : w.cell? ⟨b1, o1 + 2, none⟩ = some _ := i2 2 _ rfl
  have l1 : b1 < w.heap.size := World.block_lt_of_cell? (w := w) (a := ⟨b1, o1, none⟩) e0
  have HRS := Lib.hid r_signs
  clear i2 i3 r_signs
  clear hall hc hX h hbw hput hcur hkp hpo hnp
  go_enter Try.func97, Try.ntmps97
  go_wp2_with fail
  obtain ⟨X, hX, F, hF, hFs⟩ := fam_of w
  obtain ⟨fc0, fc1, fc2⟩ := mx3 hF zl c0 c1 c2
  have fe0 : ∀ x, (F x).cell? ⟨b1, o1, none⟩ = some (.int .i64 q.kind) := fun x => ((hF x).cell (p := ⟨b1, o1, none⟩) l1).trans e0
  obtain ⟨fe1, fe2⟩ := mx2 hF l1 e1 e2
  have HF := Lib.hid hF
  have HFs := Lib.hid hFs
  clear hF hFs
  have HS := Lib.hid (fun (W' : World) (hb : Below w.heap.size w W') => (by have := spec_l04Size_c q vg _ (HRS.out.below hb); rw [hsz] at this; exact this : Calls Try.prog 101 #[.agg #[.int .i64 q.kind, .int .i64 q.n, vg]] W' (Tells W' (.int .i64 (nsz q)))))
  refine wp_region_fam (F := F) (by kernel_rfl) (by kernel_rfl) (HFs.out _ (Below.refl _ _).drew) ?_
  repeat (go_big_quiet_step ((go_at_call 101; (with_reducible exact Calls.fam_tells HF.out HFs.out (HS.out _ (HF.out _))))))
  refine wpQuiet_nil ?_
  intro x
  obtain ⟨w1, hwx⟩ : ∃ wx : World, F x = wx := ⟨_, rfl⟩
  have B1 : Below w.heap.size w w1 := by rw [← hwx]; exact HF.out x
  rw [hwx]
  clear hwx fc0 fc1 fc2 fe0 fe1 fe2 HF HFs
  clear hsz
  go_wp2
  go_ret
  exact ⟨ret_int (by have := HNP.out; omega), B1⟩
set_option maxHeartbeats 2000000 in
set_option maxRecDepth 100000 in
theorem spec_l04Take_c (w0 : World) (b : Nat) (v : Value) (o : List DPart) (k d : Nat) (p : DPart) (l : List DPart) (w : World) (hX : Bx w b [v, .int .i64 k, .int .i64 d]) (h : RdS w0 v o) (hb0 : w0.heap.size ≤ b) (hbw : Below w0.heap.size w0 w) (hall : o.all partOk = true) (hc : Cok o k d) (hcur : curRem o k d = p :: l) (k2 : p.kind = 2) : Calls Try.prog 98 #[.pointer (some ⟨b, 0, none⟩), .int .i64 (nsz p)] w (fun e w' => ∃ vs, e = .returned vs ∧ RdS w' vs p.signs ∧ Bx w' b [v, .int .i64 k, .int .i64 ((d + nsz p : Nat) : Int)] ∧ Wr (own b 0 3) w w') := by
  obtain ⟨q, hq, hpo, hsz, hn2, hdn, hnp, hkp, _, hput⟩ := cur_left hall hc hcur
  obtain ⟨zl, c0, c1, c2, g0, g1, g2⟩ := hX.q3
  have rr := h.below hbw
  have HX := Lib.hid hX
  have HNP := Lib.hid hnp
  have HPUT := Lib.hid hput
  have hkq : q.kind = 2 := by omega
  obtain ⟨hps, hql⟩ := hput hkq
  obtain ⟨b1, o1, cs, i1, i2, i3⟩ := h.idx Try.underlying32 szi_DPart k hq
  obtain ⟨vg, rfl, r_signs⟩ := inv_DPart i3
  have e0 := i2.zero
  have e1 : w0.cell? ⟨b1, o1 + 1, none⟩ = some _ := i2 1 _ rfl
  have e2 : w0.cell? ⟨b1, o1 + 2, none⟩ = some _ := i2 2 _ rfl
  have l1 : b1 < w0.heap.size := World.block_lt_of_cell? (w := w0) (a := ⟨b1, o1, none⟩) e0
  have HRS := Lib.hid r_signs
  clear i2 i3 r_signs
  replace e0 : w.cell? ⟨b1, o1, none⟩ = some _ := (hbw.cell (p := ⟨b1, o1, none⟩) l1).trans e0
  replace e1 : w.cell? ⟨b1, o1 + 1, none⟩ = some _ := (hbw.cell (p := ⟨b1, o1 + 1, none⟩) l1).trans e1
  replace e2 : w.cell? ⟨b1, o1 + 2, none⟩ = some _ := (hbw.cell (p := ⟨b1, o1 + 2, none⟩) l1).trans e2
  replace l1 := Nat.lt_of_lt_of_le l1 hbw.size
  have HBW := Lib.hid hbw
  obtain ⟨vs, hcut, hvs⟩ := HRS.out.cut Try.underlying23 (E := 3) (fun _ => by kernel_rfl) (lo := d) (hi := d + nsz p) (by omega) (by omega)
  have HVS : Hid (RdS w0 vs p.signs) := Lib.hid (by rw [hps]; have e : d + nsz p = q.signs.length := (by omega); rw [e, List.take_length] at hvs; exact hvs)
  rw [Int.natCast_add] at hcut
  have hpb : nsz p ≤ 200 := by omega
  have hdb : d ≤ 200 := by omega
  clear hall hc hX h hbw rr hput hcur hkp hpo hsz hps hvs hql hkq k2 hnp
  go_enter Try.func98, Try.ntmps98
  go_wp2_with fail
  obtain ⟨X, hX, F, hF, hFs⟩ := fam_of w
  obtain ⟨fc0, fc1, fc2⟩ := mx3 hF zl c0 c1 c2
  have fe0 : ∀ x, (F x).cell? ⟨b1, o1, none⟩ = some (.int .i64 q.kind) := fun x => ((hF x).cell (p := ⟨b1, o1, none⟩) l1).trans e0
  obtain ⟨fe1, fe2⟩ := mx2 hF l1 e1 e2
  have HF := Lib.hid hF
  have HFs := Lib.hid hFs
  clear hF hFs
  refine wp_region_fam (F := F) (by kernel_rfl) (by kernel_rfl) (HFs.out _ (Below.refl _ _).drew) ?_
  repeat (go_big_quiet_step (fail))
  refine wpQuiet_nil ?_
  intro x
  obtain ⟨w1, hwx⟩ : ∃ wx : World, F x = wx := ⟨_, rfl⟩
  have B1 : Below w.heap.size w w1 := by rw [← hwx]; exact HF.out x
  rw [hwx]
  clear hwx fc0 fc1 fc2 fe0 fe1 fe2 HF HFs
  have s1 := B1.size
  replace c0 : w1.cell? ⟨b, 0, none⟩ = some (v) := (B1.cell (p := ⟨b, 0, none⟩) zl).trans c0
  replace c1 : w1.cell? ⟨b, 1, none⟩ = some (.int .i64 k) := (B1.cell (p := ⟨b, 1, none⟩) zl).trans c1
  replace c2 : w1.cell? ⟨b, 2, none⟩ = some (.int .i64 d) := (B1.cell (p := ⟨b, 2, none⟩) zl).trans c2
  replace e0 : w1.cell? ⟨b1, o1, none⟩ = some (.int .i64 q.kind) := (B1.cell (p := ⟨b1, o1, none⟩) l1).trans e0
  replace e1 : w1.cell? ⟨b1, o1 + 1, none⟩ = some (.int .i64 q.n) := (B1.cell (p := ⟨b1, o1 + 1, none⟩) l1).trans e1
  replace e2 : w1.cell? ⟨b1, o1 + 2, none⟩ = some (vg) := (B1.cell (p := ⟨b1, o1 + 2, none⟩) l1).trans e2
  replace g0 : w1.frozen? ⟨b, 0, none⟩ = false := (B1.frozen (p := ⟨b, 0, none⟩) zl).trans g0
  replace g1 : w1.frozen? ⟨b, 1, none⟩ = false := (B1.frozen (p := ⟨b, 1, none⟩) zl).trans g1
  replace g2 : w1.frozen? ⟨b, 2, none⟩ = false := (B1.frozen (p := ⟨b, 2, none⟩) zl).trans g2
  replace l1 := Nat.lt_of_lt_of_le l1 s1
  replace zl := Nat.lt_of_lt_of_le zl s1
  go_wp2
  go_ret
  have hx1 : Bx w1 b [v, .int .i64 k, .int .i64 d] := ⟨zl, fun j u hj => by
    match j, hj with
    | 0, hj => simp at hj; subst hj; exact ⟨c0, g0⟩
    | 1, hj => simp at hj; subst hj; exact ⟨c1, g1⟩
    | 2, hj => simp at hj; subst hj; exact ⟨c2, g2⟩⟩
  refine ⟨vs, rfl, HVS.out.below ((HBW.out.trans (B1.mono HBW.out.size)).setCell (p := ⟨b, 2, none⟩) hb0 _), ?_, (Wr.of_below B1).put (b := b) (o := 2) (mem_own.2 ⟨rfl, by simp, by simp⟩) _⟩
  have := hx1.set 2 (.int .i64 ((d + nsz p : Nat) : Int))
  rw [Int.natCast_add] at this ⊢
  exact this
end Go.Proofs.Ytiahgjnpinjblaa
