/- Taking an operation back: both walks. -/
import Derived.Test.YtbpbeomngflkfaaGreatIvp
namespace Go.Proofs.YtbpbeomngflkfaaGreat
open Go.RowKit
set_option maxHeartbeats 4000000 in
set_option maxRecDepth 100000 in
theorem spec_Invert_c (vo vt : Value) (o : List DPart) (t : List Int) (w : World) (ho : RdS w vo o) (ht : RdS w vt t) : Calls Tryz.prog 89 #[vo, vt] w (OutCo w (invert o t)) := by
  go_enter Tryz.func89, Tryz.ntmps89
  go_wp2_with fail
  refine (spec_l03Fits_c o t _ _ _ ho ht).mono ?_
  rintro e' w1 ⟨rfl, hb1⟩
  by_cases hf : fits o t = true
  rotate_left
  · have hf : fits o t = false := by simpa using hf
    have HV := Lib.hid (invert_no hf)
    rw [hf]
    go_wp2
    exact bodyPost_ret (v := .tuple #[.slice none 0 0, .bool false]) (by simp [results, Tryz.results89, go_sem, *]) rfl (OutCo.no HV.out hb1)
  rw [hf]
  have HV := Lib.hid (invert_yes hf)
  have hff := hf
  simp only [fits, Bool.and_eq_true, decide_eq_true_eq] at hff
  obtain ⟨⟨h1, ht0⟩, h2⟩ := hff
  obtain ⟨n1, n2, n3, _⟩ := opNorm_ok h1
  obtain ⟨N, hN⟩ : ∃ N, opNorm o = N := ⟨_, rfl⟩
  rw [hN] at n1 n2 n3
  obtain ⟨hall, h600, h200, h300⟩ := opOk_iff.1 n1
  have hfr : sumBut 2 N = t.length := by rw [n2, ← opFrom_of h1]; exact h2
  have htl : t.length ≤ 200 := (textOk_iff.1 ht0).1
  have HNO := Lib.hid n1
  have HN := Lib.hid hN
  have HALL := Lib.hid hall
  have HFR := Lib.hid hfr
  have HTO := Lib.hid (textOk_iff.1 ht0).2
  have s1 := hb1.size
  clear hf h1 ht0 h2 n1 n2 n3 hall hfr h200 h300
  go_wp2_with fail
  refine (spec_OpNorm_c vo o _ (ho.below (hb1.alloc s1 _))).mono ?_
  rintro e' w2 ⟨v2, rfl, ho2, hb2⟩
  rw [hN] at ho2
  obtain ⟨fN, hsN, hfN⟩ := ho2
  obtain ⟨aN, cN, rfl⟩ := hsN.isS
  have HIS0 := Lib.hid (IS.new hb1 hb2 hsN hfN)
  have hlN := fun w1 ty => (show RdS w2 (.slice aN N.length cN) N from ⟨_, hsN⟩).len Tryz.underlying37 w1 ty
  clear hsN hfN hb2 hb1 hN
  go_wp2_with fail
  go_loopw [7, 19] (fun at_ i wr => ∃ k : Nat, k ≤ N.length ∧ i = .int .i64 k ∧ at_ = .int .i64 (invF t (N.take k)).2 ∧ IS w w1.heap.size (.slice aN N.length cN) N fN wr (bstOf (invF t (N.take k)).1)) (fun _ i _ => N.length - (intOf i).toNat)
  case atStart => exact ⟨0, Nat.zero_le _, rfl, rfl, HIS0.out⟩
  case round =>
    obtain ⟨k, hk, rfl, rfl, his⟩ := hrel
    clear HIS0
    by_cases hlt : k < N.length
    · obtain ⟨p, hp⟩ := get_some hlt
      have hpo := all_at HALL.out hp
      have hst := invF_snoc (t := t) hp
      have hfit := fun h => invF_fits (t := t) HALL.out HFR.out hp h
      have hok := (invF_ok HALL.out HTO.out HFR.out k hk).1
      have hln := invF_len t (o := N) k hk
      obtain ⟨X, a, hXa⟩ : ∃ X a, invF t (N.take k) = (X, a) := ⟨_, _, rfl⟩
      rw [hXa] at hst hfit hok hln his
      rw [hXa]
      simp only at hst hfit hok hln his ⊢
      obtain ⟨b1, o1, cs, g1, g2, g3⟩ := (show RdS wr (.slice aN N.length cN) N from ⟨_, his.n⟩).idx Tryz.underlying37 szi_DPart k hp
      obtain ⟨v_signs, rfl, r_signs⟩ := inv_DPart g3
      have q0 := g2.zero
      have q1 := g2 1 _ rfl
      have q2 := g2 2 _ rfl
      obtain ⟨aa, ca, rfl⟩ := r_signs.isSlice
      obtain ⟨fx, hbld, hfx, hstep⟩ := his.step
      obtain ⟨i1, i2, i3, i4, i5⟩ := bstOf_inv hok
      have HIV := Lib.hid (bstOf_inv hok)
      have hB0 := his.o2
      have HBEL := Lib.hid his.bel
      have HBLD := Lib.hid hbld
      have HFX := Lib.hid hfx
      have HSTEP := Lib.hid hstep
      have hl2 : (k : Int) < (N.length : Int) := by omega
      clear hbld hfx hstep his hXa hp g2 g3 r_signs hok i5
      rcases partOk_cases hpo with ⟨kx, n1, n2, n3⟩ | ⟨kx, n1, n2, _⟩ | ⟨kx, n1, n2, n3⟩
      · obtain ⟨n, hn⟩ : ∃ n : Nat, p.n = n := ⟨p.n.toNat, by omega⟩
        have han := hfit (by omega)
        simp only [invStep, kx, hn, if_true, Int.toNat_natCast] at hst han
        have HST := Lib.hid hst
        have HKX := Lib.hid kx
        have HPN := Lib.hid hn
        rw [kx] at q0
        rw [hn] at q1
        have b2 : n ≤ 200 := by omega
        clear hst hfit hpo kx n1 n2 n3 hn
        go_wp2_with fail
        refine (spec_l02Keep_c w1.heap.size w1.heap.size (bstOf X) fx (n : Int) _ (HBLD.out.below ((Below.refl _ _).alloc (Nat.le_refl _) _)) (by simp; omega) (by omega) i3 (by omega) (by omega) (by omega) (fun q hq => by have := HIV.out.flushed q hq; omega)).mono ?_
        rintro e' w3 hb3
        obtain ⟨rfl, his3, hw3⟩ := HSTEP.out _ ((Below.refl _ _).alloc (Nat.le_refl _) _) _ _ _ hb3
        have HIS3 := Lib.hid his3
        have hx := (Bx.new (w := wr) (c := #[.int .i64 1, .int .i64 n, .slice aa p.signs.length ca]) (t := 86) rfl).wr hw3 (fun q hq => by have := HFX.out q hq; omega)
        obtain ⟨z3, c30, c31, c32⟩ := hx.o3
        clear hb3 his3 hw3 hx
        go_wp2
        go_roundw
        case rel => exact ⟨k + 1, by omega, by go_num, by rw [HST.out]; go_num, by rw [HST.out, bstOf_snoc, step_keep _ HKX.out, HPN.out]; exact HIS3.out⟩
        case measure => simp [intOf]; omega
      · simp only [invStep, kx, if_true] at hst
        rw [if_neg (by decide)] at hst
        have HST := Lib.hid hst
        rw [kx] at q0
        clear hst hfit hpo kx n1
        go_wp2_with fail
        refine (spec_l02Drop_c w1.heap.size w1.heap.size (bstOf X) fx (p.signs.length : Int) _ (HBLD.out.below ((Below.refl _ _).alloc (Nat.le_refl _) _)) i3 (by omega) (by omega) (by omega)).mono ?_
        rintro e' w3 hb3
        obtain ⟨rfl, his3, hw3⟩ := HSTEP.out _ ((Below.refl _ _).alloc (Nat.le_refl _) _) _ _ _ hb3
        have HIS3 := Lib.hid his3
        clear hb3 his3 hw3
        go_wp2
        go_roundw
        case rel => exact ⟨k + 1, by omega, by go_num, by rw [HST.out], by rw [HST.out, bstOf_snoc, step_dropI]; exact HIS3.out⟩
        case measure => simp [intOf]; omega
      · obtain ⟨n, hn⟩ : ∃ n : Nat, p.n = n := ⟨p.n.toNat, by omega⟩
        have han := hfit (by omega)
        simp only [invStep, kx, hn, Int.toNat_natCast] at hst han
        rw [if_neg (by decide), if_neg (by decide)] at hst
        have HST := Lib.hid hst
        rw [kx] at q0
        rw [hn] at q1
        have b2 : n ≤ 200 := by omega
        obtain ⟨vc, hcut, hcr⟩ := (ht.below HBEL.out).cut Tryz.underlying22 sz_int (lo := a) (hi := a + n) (by omega) han
        simp only [Int.natCast_add] at hcut
        have HCR := Lib.hid hcr
        have HCL : Hid (((t.take (a + n)).drop a).length = n) := Lib.hid (by simp; omega)
        clear hst hfit hpo kx n1 n2 n3 hn hcr
        go_wp2_with fail
        refine (spec_l02Put_c w1.heap.size w1.heap.size (bstOf X) fx vc ((t.take (a + n)).drop a) _ (HBLD.out.below ((Below.refl _ _).alloc (Nat.le_refl _) _)) (by simp; omega) (HCR.out.below ((Below.refl _ _).alloc (Nat.le_refl _) _)) (by rw [HCL.out]; omega)).mono ?_
        rintro e' w3 hb3
        obtain ⟨rfl, his3, hw3⟩ := HSTEP.out _ ((Below.refl _ _).alloc (Nat.le_refl _) _) _ _ _ hb3
        have HIS3 := Lib.hid his3
        have hx := (Bx.new (w := wr) (c := #[.int .i64 3, .int .i64 n, .slice aa p.signs.length ca]) (t := 86) rfl).wr hw3 (fun q hq => by have := HFX.out q hq; omega)
        obtain ⟨z3, c30, c31, c32⟩ := hx.o3
        clear hb3 his3 hw3 hx
        go_wp2
        go_roundw
        case rel => exact ⟨k + 1, by omega, by go_num, by rw [HST.out]; go_num, by rw [HST.out, bstOf_snoc, step_putI]; exact HIS3.out⟩
        case measure => simp [intOf]; omega
    · have hkl : k = N.length := by omega
      have hl2 : ¬ (k : Int) < (N.length : Int) := by omega
      have hok := (invF_ok HALL.out HTO.out HFR.out k hk).1
      have hln := invF_len t (o := N) k hk
      have HXX : Hid (invert o t = some (normal (invF t (N.take k)).1)) := Lib.hid (by rw [HV.out, HN.out, hkl, List.take_length])
      obtain ⟨i1, i2, i3, i4, i5⟩ := bstOf_inv hok
      obtain ⟨fx, hbld, hfx, hstep⟩ := his.step
      have hB0 := his.o2
      have hO1 := his.o1
      have HBEL := Lib.hid his.bel
      have HBLD := Lib.hid hbld
      clear hbld hfx hstep his hok i5 hkl
      go_wp2_with fail
      refine (spec_l02Done2_c w1.heap.size w1.heap.size (bstOf (invF t (N.take k)).1) fx _ HBLD.out (by omega) (by omega) i3 (by omega)).mono ?_
      rintro e' w3 ⟨vu, fu, rfl, su, ku, nu, wu⟩
      have HB3 : Hid (Below w.heap.size w w3) := Lib.hid (HBEL.out.trans (wu.below HBEL.out.size fun p hp => by have := HBLD.out.fr.ge p hp; omega))
      have HU : Hid (OwnS w.heap.size w3 vu (normal (invF t (N.take k)).1)) := Lib.hid ⟨fu, by rw [bstOf_normal] at su; exact su, ku.mono hO1⟩
      clear su ku nu wu
      go_wp2
      exact bodyPost_ret (v := .tuple #[vu, .bool true]) (by simp [results, Tryz.results89, go_sem, *]) rfl (OutCo.yes HXX.out HU.out HB3.out)
set_option maxHeartbeats 4000000 in
set_option maxRecDepth 100000 in
theorem impl_Invert_c (vo vt : Value) (o : List DPart) (t : List Int) (w : World) (ho : RdS w vo o) (ht : RdS w vt t) : Calls Tryz.prog 90 #[vo, vt] w (OutCo w (invert o t)) := by
  obtain ⟨i0, hi, hz0, hz1, hz2⟩ := info_parts info_part
  go_enter Tryz.func90, Tryz.ntmps90
  go_wp2_with fail
  refine (impl_Apply_c o t _ _ _ ho ht).mono ?_
  rintro e' w1 ⟨va, fa, rfl, sa, ka, hb1⟩
  rw [fits_app]
  obtain ⟨aa0, ca0, rfl⟩ := sa.isS
  clear sa ka
  by_cases hf : fits o t = true
  rotate_left
  · have hf : fits o t = false := by simpa using hf
    have HV := Lib.hid (invert_no hf)
    rw [hf]
    go_wp2
    exact bodyPost_ret (v := .tuple #[.slice none 0 0, .bool false]) (by simp [results, Tryz.results90, go_sem, *]) rfl (OutCo.no HV.out hb1)
  rw [hf]
  have HV := Lib.hid (invert_yes hf)
  have hff := hf
  simp only [fits, Bool.and_eq_true, decide_eq_true_eq] at hff
  obtain ⟨⟨h1, ht0⟩, h2⟩ := hff
  obtain ⟨n1, n2, n3, _⟩ := opNorm_ok h1
  obtain ⟨N, hN⟩ : ∃ N, opNorm o = N := ⟨_, rfl⟩
  rw [hN] at n1 n2 n3
  obtain ⟨hall, h600, h200, h300⟩ := opOk_iff.1 n1
  have hfr : sumBut 2 N = t.length := by rw [n2, ← opFrom_of h1]; exact h2
  have htl : t.length ≤ 200 := (textOk_iff.1 ht0).1
  have HNO := Lib.hid n1
  have HN := Lib.hid hN
  have HALL := Lib.hid hall
  have HFR := Lib.hid hfr
  have HTO := Lib.hid (textOk_iff.1 ht0).2
  have s1 := hb1.size
  clear hf h1 ht0 h2 n1 n2 n3 hall hfr h200 h300
  go_wp2_with fail
  refine (impl_OpNorm_c vo o _ (ho.below hb1)).mono ?_
  rintro e' W ⟨v2, rfl, ho2, hb2⟩
  rw [hN] at ho2
  obtain ⟨fN, hsN, hfN⟩ := ho2
  obtain ⟨aN, cN, rfl⟩ := hsN.isS
  have HRN : Hid (RdS W (.slice aN N.length cN) N) := Lib.hid ⟨_, hsN⟩
  have HBW : Hid (Below w.heap.size w W) := Lib.hid (hb1.trans (hb2.mono s1))
  have hlN := fun w1 ty => HRN.out.len Tryz.underlying37 w1 ty
  have sW := HBW.out.size
  clear hsN hfN hb2 hb1 hN s1
  go_wp2_with fail
  go_loopw [8, 9, 23] (fun u at_ i wr => ∃ (k : Nat) (u' : Value) (fs : List Pos), u' = u ∧ k ≤ N.length ∧ i = .int .i64 k ∧ at_ = .int .i64 (invF t (N.take k)).2 ∧ Row W.heap.size wr u' (invF t (N.take k)).1 fs ∧ (∀ q ∈ fs, q.1 < W.heap.size) ∧ Below W.heap.size W wr) (fun _ _ i _ => N.length - (intOf i).toNat)
  case atStart => exact ⟨0, _, [], rfl, Nat.zero_le _, rfl, rfl, Row.empty _ _ _, (fun _ h => by cases h), Below.refl _ _⟩
  case round =>
    obtain ⟨k, u, fs, rfl, hk, rfl, rfl, hrow, hfs, hbw⟩ := hrel
    have hsz := hbw.size
    by_cases hlt : k < N.length
    · obtain ⟨p, hp⟩ := get_some hlt
      have hpo := all_at HALL.out hp
      have hst := invF_snoc (t := t) hp
      have hfit := fun h => invF_fits (t := t) HALL.out HFR.out hp h
      have hok := (invF_ok HALL.out HTO.out HFR.out k hk).1
      have hln := invF_len t (o := N) k hk
      obtain ⟨X, a, hXa⟩ : ∃ X a, invF t (N.take k) = (X, a) := ⟨_, _, rfl⟩
      rw [hXa] at hst hfit hok hln hrow
      rw [hXa]
      simp only at hst hfit hok hln hrow ⊢
      obtain ⟨b1, o1, cs, g1, g2, g3⟩ := HRN.out.idx Tryz.underlying37 szi_DPart k hp
      obtain ⟨v_signs, rfl, fg, hsg⟩ := inv_DPart g3
      have l1 : b1 < W.heap.size := World.block_lt_of_cell? (w := W) (a := ⟨b1, o1, none⟩) g2.zero
      have q0 : wr.cell? ⟨b1, o1, none⟩ = some _ := (hbw.cell (p := ⟨b1, o1, none⟩) l1).trans g2.zero
      have q1 : wr.cell? ⟨b1, o1 + 1, none⟩ = some _ := (hbw.cell (p := ⟨b1, o1 + 1, none⟩) l1).trans (g2 1 _ rfl)
      have q2 : wr.cell? ⟨b1, o1 + 2, none⟩ = some _ := (hbw.cell (p := ⟨b1, o1 + 2, none⟩) l1).trans (g2 2 _ rfl)
      obtain ⟨aa, ca, rfl⟩ := hsg.isS
      have HSG := Lib.hid hsg
      have HFG := Lib.hid (Live.lt hsg.live)
      have HROW := Lib.hid hrow
      have HFS := Lib.hid hfs
      have HBWR := Lib.hid hbw
      have HRL : Hid (∀ q ∈ rowP (GoT.n DPart) u, q.1 < wr.heap.size) := Lib.hid (Live.lt (Live.append.1 hrow.1.live).1)
      have hl2 : (k : Int) < (N.length : Int) := by omega
      clear hXa hp g2 g3 hsg hrow hfs hbw hok
      rcases partOk_cases hpo with ⟨kx, n1, n2, n3⟩ | ⟨kx, n1, n2, _⟩ | ⟨kx, n1, n2, n3⟩
      · obtain ⟨n, hn⟩ : ∃ n : Nat, p.n = n := ⟨p.n.toNat, by omega⟩
        have han := hfit (by omega)
        simp only [invStep, kx, hn, if_true, Int.toNat_natCast] at hst han
        have HST := Lib.hid hst
        have b2 : n ≤ 200 := by omega
        have hrd : GoT.rd BIG (wr.alloc (.cells #[.int .i64 p.kind, .int .i64 p.n, .slice aa p.signs.length ca] 86)) [.int .i64 p.kind, .int .i64 p.n, .slice aa p.signs.length ca] p fg := ⟨_, fg, rfl, HSG.out.belowW (HBWR.out.alloc hsz _), rfl⟩
        rw [kx, hn] at hrd
        have HRD := Lib.hid hrd
        rw [kx] at q0
        rw [hn] at q1
        clear hst hfit hpo kx n1 n2 n3 hn hrd
        have hsr := src_built (w := (wr.alloc (.cells #[.int .i64 1, .int .i64 n, .slice aa p.signs.length ca] 86))) (c := [.int .i64 1, .int .i64 n, .slice aa p.signs.length ca]) (x := p) 86 HRD.out
        have esr : (wr.alloc (.cells #[.int .i64 1, .int .i64 n, .slice aa p.signs.length ca] 86)).heap.size = wr.heap.size + 1 := by simp
        rw [esr] at hsr
        have HSRC := Lib.hid hsr
        clear hsr esr
        go_wp2_with (at_builtin; go_must (refine wpList_append_row rfl _ _ 37 rfl Tryz.underlying37 hi hz0 hz1 hz2 rfl rfl rfl ((HROW.out.below ((Below.refl _ _).alloc (Nat.le_refl _) _)).below ((Below.refl _ _).alloc (Nat.le_refl _) _)) HSRC.out (fun q hq hm => by have e1 := HROW.out.2.1.ge q hm; have e2 := HFG.out q hq; omega) ?c1 ?c2 ?c3 ?_))
        case c1 => exact le_BIG (by simp; omega)
        case c2 => simp; omega
        case c3 => simp; omega
        intro v' w3 hr hw hn3
        have HR3 := Lib.hid hr
        have HF3 : Hid (∀ q ∈ fs ++ fg, q.1 < W.heap.size) := Lib.hid (fun q hq => (List.mem_append.1 hq).elim (HFS.out q) (HFG.out q))
        have HB3 : Hid (Below W.heap.size W w3) := Lib.hid (((HBWR.out.alloc hsz _).alloc (by simp; omega) _).trans (hw.below (by simp; omega) (fun q hq => HROW.out.2.1.ge q hq)))
        have hx := ((Bx.new (w := wr) (c := #[.int .i64 1, .int .i64 n, .slice aa p.signs.length ca]) (t := 86) rfl).alloc _).wr hw (fun q hq => by have := HRL.out q hq; omega)
        obtain ⟨z3, c30, c31, c32⟩ := hx.o3
        clear hr hw hn3 hx
        go_wp2
        go_roundw
        case rel => exact ⟨k + 1, _, fs ++ fg, rfl, by omega, by go_num, by rw [HST.out]; go_num, by rw [HST.out]; exact HR3.out, HF3.out, HB3.out⟩
        case measure => simp [intOf]; omega
      · simp only [invStep, kx, if_true] at hst
        rw [if_neg (by decide)] at hst
        have HST := Lib.hid hst
        have hrd : GoT.rd BIG (wr.alloc (.cells #[.int .i64 2, .int .i64 p.n, .slice aa p.signs.length ca] 86)) [.int .i64 3, .int .i64 p.signs.length, .slice none 0 0] (⟨3, p.signs.length, []⟩ : DPart) [] := ⟨_, [], rfl, Sl.nil, rfl⟩
        have HRD := Lib.hid hrd
        rw [kx] at q0
        clear hst hfit hpo kx n1 hrd
        have hsr := src_built (w := (wr.alloc (.cells #[.int .i64 2, .int .i64 p.n, .slice aa p.signs.length ca] 86))) (c := [.int .i64 3, .int .i64 p.signs.length, .slice none 0 0]) (x := (⟨3, p.signs.length, []⟩ : DPart)) 86 HRD.out
        have esr : (wr.alloc (.cells #[.int .i64 2, .int .i64 p.n, .slice aa p.signs.length ca] 86)).heap.size = wr.heap.size + 1 := by simp
        rw [esr] at hsr
        have HSRC := Lib.hid hsr
        clear hsr esr
        go_wp2_with (at_builtin; go_must (refine wpList_append_row rfl _ _ 37 rfl Tryz.underlying37 hi hz0 hz1 hz2 rfl rfl rfl ((HROW.out.below ((Below.refl _ _).alloc (Nat.le_refl _) _)).below ((Below.refl _ _).alloc (Nat.le_refl _) _)) HSRC.out (fun _ h => by cases h) ?c1 ?c2 ?c3 ?_))
        case c1 => exact le_BIG (by simp; omega)
        case c2 => simp; omega
        case c3 => simp; omega
        intro v' w3 hr hw hn3
        have HR3 := Lib.hid hr
        have HF3 := HFS
        have HB3 : Hid (Below W.heap.size W w3) := Lib.hid (((HBWR.out.alloc hsz _).alloc (by simp; omega) _).trans (hw.below (by simp; omega) (fun q hq => HROW.out.2.1.ge q hq)))
        have hx := ((Bx.new (w := wr) (c := #[.int .i64 2, .int .i64 p.n, .slice aa p.signs.length ca]) (t := 86) rfl).alloc _).wr hw (fun q hq => by have := HRL.out q hq; omega)
        obtain ⟨z3, c30, c31, c32⟩ := hx.o3
        clear hr hw hn3 hx
        go_wp2
        go_roundw
        case rel => exact ⟨k + 1, _, fs, rfl, by omega, by go_num, by rw [HST.out], by rw [HST.out]; exact HR3.out, HF3.out, HB3.out⟩
        case measure => simp [intOf]; omega
      · obtain ⟨n, hn⟩ : ∃ n : Nat, p.n = n := ⟨p.n.toNat, by omega⟩
        have han := hfit (by omega)
        simp only [invStep, kx, hn, Int.toNat_natCast] at hst han
        rw [if_neg (by decide), if_neg (by decide)] at hst
        have HST := Lib.hid hst
        rw [kx] at q0
        rw [hn] at q1
        have b2 : n ≤ 200 := by omega
        obtain ⟨vc, hcut, fc, hcr⟩ := (ht.below HBW.out).cut Tryz.underlying22 sz_int (lo := a) (hi := a + n) (by omega) han
        simp only [Int.natCast_add] at hcut
        have HCL : Hid (((t.take (a + n)).drop a).length = n) := Lib.hid (by simp; omega)
        have HFC := Lib.hid (Live.lt hcr.live)
        obtain ⟨S, hS⟩ : ∃ S, (t.take (a + n)).drop a = S := ⟨_, rfl⟩
        rw [hS] at hcr hst HCL
        obtain ⟨ac, cc, rfl⟩ := hcr.isS
        replace HST := Lib.hid hst
        have hrd : GoT.rd BIG (wr.alloc (.cells #[.int .i64 3, .int .i64 n, .slice aa p.signs.length ca] 86)) [.int .i64 2, .int .i64 0, .slice ac S.length cc] (⟨2, 0, S⟩ : DPart) fc := ⟨_, fc, rfl, hcr.belowW (HBWR.out.alloc hsz _), rfl⟩
        have HRD := Lib.hid hrd
        clear hst hfit hpo kx n1 n2 n3 hn hcr hrd hS
        have hsr := src_built (w := (wr.alloc (.cells #[.int .i64 3, .int .i64 n, .slice aa p.signs.length ca] 86))) (c := [.int .i64 2, .int .i64 0, .slice ac S.length cc]) (x := (⟨2, 0, S⟩ : DPart)) 86 HRD.out
        have esr : (wr.alloc (.cells #[.int .i64 3, .int .i64 n, .slice aa p.signs.length ca] 86)).heap.size = wr.heap.size + 1 := by simp
        rw [esr] at hsr
        have HSRC := Lib.hid hsr
        clear hsr esr
        go_wp2_with (at_builtin; go_must (refine wpList_append_row rfl _ _ 37 rfl Tryz.underlying37 hi hz0 hz1 hz2 rfl rfl rfl ((HROW.out.below ((Below.refl _ _).alloc (Nat.le_refl _) _)).below ((Below.refl _ _).alloc (Nat.le_refl _) _)) HSRC.out (fun q hq hm => by have e1 := HROW.out.2.1.ge q hm; have e2 := HFC.out q hq; omega) ?c1 ?c2 ?c3 ?_))
        case c1 => exact le_BIG (by simp; omega)
        case c2 => simp; omega
        case c3 => simp; omega
        intro v' w3 hr hw hn3
        have HR3 := Lib.hid hr
        have HF3 : Hid (∀ q ∈ fs ++ fc, q.1 < W.heap.size) := Lib.hid (fun q hq => (List.mem_append.1 hq).elim (HFS.out q) (HFC.out q))
        have HB3 : Hid (Below W.heap.size W w3) := Lib.hid (((HBWR.out.alloc hsz _).alloc (by simp; omega) _).trans (hw.below (by simp; omega) (fun q hq => HROW.out.2.1.ge q hq)))
        have hx := ((Bx.new (w := wr) (c := #[.int .i64 3, .int .i64 n, .slice aa p.signs.length ca]) (t := 86) rfl).alloc _).wr hw (fun q hq => by have := HRL.out q hq; omega)
        obtain ⟨z3, c30, c31, c32⟩ := hx.o3
        clear hr hw hn3 hx
        go_wp2
        go_roundw
        case rel => exact ⟨k + 1, _, fs ++ fc, rfl, by omega, by go_num, by rw [HST.out]; go_num, by rw [HST.out]; exact HR3.out, HF3.out, HB3.out⟩
        case measure => simp [intOf]; omega
    · have hkl : k = N.length := by omega
      have hl2 : ¬ (k : Int) < (N.length : Int) := by omega
      have HXX : Hid (invert o t = some (opNorm (invF t (N.take k)).1)) := Lib.hid (by
        rw [HV.out, HN.out, hkl, List.take_length]
        exact congrArg some (if_pos (invF_all HNO.out HTO.out HFR.out)).symm)
      have HRX : Hid (RdS wr u (invF t (N.take k)).1) := Lib.hid hrow.rd
      have HB0 := Lib.hid (HBW.out.trans (hbw.mono sW))
      clear hrow hfs hbw hkl
      go_wp2_with fail
      refine (impl_OpNorm_c u _ _ HRX.out).mono ?_
      rintro e' w3 ⟨vu, rfl, hu, hb3⟩
      have s3 := HB0.out.size
      have HB3 := Lib.hid (HB0.out.trans (hb3.mono s3))
      have HU := Lib.hid (hu.mono s3)
      clear hu hb3
      go_wp2
      exact bodyPost_ret (v := .tuple #[vu, .bool true]) (by simp [results, Tryz.results90, go_sem, *]) rfl (OutCo.yes HXX.out HU.out HB3.out)
end Go.Proofs.YtbpbeomngflkfaaGreat
