/- Comparisons: they decide whether two data are alike. -/
import Derived.Test.YtfbkhaaijbhadaaCmp4
import Derived.Deep.RegionHeld3
import Derived.StillTailTactics
namespace Go.Proofs.Ytfbkhaaijbhadaa
open Go.RowKit

set_option maxHeartbeats 4000000 in
set_option maxRecDepth 100000 in
theorem spec_DocSame_c (x y : DDoc) (v_text u_text : Value) (v_list u_list : Value) (v_seen u_seen : Value) (w : World) (h_text : RdS w v_text x.text) (k_text : RdS w u_text y.text) (h_list : RdS w v_list x.list) (k_list : RdS w u_list y.list) (h_seen : RdS w v_seen x.seen) (k_seen : RdS w u_seen y.seen) :
    Calls Try.prog 140 #[.agg #[.string x.name, .int .i64 x.from_, v_text, v_list, v_seen], .agg #[.string y.name, .int .i64 y.from_, u_text, u_list, u_seen]] w (Tells w (.bool (decide (x = y)))) := by
  have hlv_list := fun w1 ty => h_list.len Try.underlying38 w1 ty
  have hlu_list := fun w1 ty => k_list.len Try.underlying38 w1 ty
  have bv_list := h_list.le
  have bu_list := k_list.le
  have hlv_seen := fun w1 ty => h_seen.len Try.underlying165 w1 ty
  have hlu_seen := fun w1 ty => k_seen.len Try.underlying165 w1 ty
  have bv_seen := h_seen.le
  have bu_seen := k_seen.le
  by_cases e_name : x.name = y.name
  · have E_name := Lib.hid e_name
    have E2_name : (x.name.toList == y.name.toList) = true := str_t e_name
    clear e_name
    by_cases e_from_ : x.from_ = y.from_
    · have E_from_ := Lib.hid e_from_
      have E2_from_ : (x.from_ != y.from_) = false := by rw [e_from_]; simp
      clear e_from_
      by_cases e_text : x.text = y.text
      · have E_text := Lib.hid e_text
        clear e_text
        by_cases e_len : x.list.length = y.list.length
        · have E_len_list := Lib.hid e_len
          rw [← e_len] at hlu_list
          clear e_len
          by_cases e_len : x.seen.length = y.seen.length
          · have E_len_seen := Lib.hid e_len
            rw [← e_len] at hlu_seen
            clear e_len
            go_enter Try.func140, Try.ntmps140
            go_wp2_with fail
            refine (spec_SignsSame_c _ _ _ _ _ (h_text.below (by repeat' (first | (with_reducible exact Below.refl _ _) | (with_reducible assumption) | (with_reducible refine Below.setCell ?_ ?_ _) | (with_reducible refine Below.alloc ?_ ?_ _) | (with_reducible refine Below.drew ?_) | (with_reducible refine belowN ?_ _) | (with_reducible refine below_after ?_ (by assumption) ?_) | omega | (simp; done) | (simp; omega)))) (k_text.below (by repeat' (first | (with_reducible exact Below.refl _ _) | (with_reducible assumption) | (with_reducible refine Below.setCell ?_ ?_ _) | (with_reducible refine Below.alloc ?_ ?_ _) | (with_reducible refine Below.drew ?_) | (with_reducible refine belowN ?_ _) | (with_reducible refine below_after ?_ (by assumption) ?_) | omega | (simp; done) | (simp; omega))))).mono ?_
            rintro e w1 ⟨rfl, hb1⟩
            have s1 : w.heap.size + 2 ≤ w1.heap.size := (by have := hb1.size; (try simp at this); omega)
            obtain ⟨hc1, hf1⟩ := bcell hb1
            have z1_0 : w.heap.size < w1.heap.size := (by omega)
            have z1_1 : w.heap.size + 1 < w1.heap.size := (by omega)
            rw [dec_t E_text.out]
            go_wp2
            go_loopw [50] (fun i wr => ∃ k : Nat, k ≤ x.list.length ∧ i = .int .i64 k ∧ (∀ j < k, x.list[j]? = y.list[j]?) ∧ Below (w.heap.size + 2) ((w.alloc (.cells #[.string x.name, .int .i64 x.from_, v_text, v_list, v_seen] 167)).alloc (.cells #[.string y.name, .int .i64 y.from_, u_text, u_list, u_seen] 167)) wr) (fun i _ => x.list.length - (intOf i).toNat)
            case atStart => exact ⟨0, Nat.zero_le _, rfl, fun _ h => absurd h (Nat.not_lt_zero _), (by repeat' (first | (with_reducible exact Below.refl _ _) | (with_reducible assumption) | (with_reducible refine Below.setCell ?_ ?_ _) | (with_reducible refine Below.alloc ?_ ?_ _) | (with_reducible refine Below.drew ?_) | (with_reducible refine belowN ?_ _) | (with_reducible refine below_after ?_ (by assumption) ?_) | omega | (simp; done) | (simp; omega)))⟩
            case round =>
              obtain ⟨k, hk, rfl, hj, hbw⟩ := hrel
              have hsz := hbw.size
              simp only [World.size_alloc] at hsz
              have hbw0 : Below w.heap.size w wr := (((Below.refl _ _).alloc (Nat.le_refl _) _).alloc (by simp) _).trans (hbw.mono (by omega))
              have HJ := Lib.hid hj; clear hj
              have qb : wr.cell? ⟨w.heap.size + 1, 3, none⟩ = some u_list := by rw [hbw.cell (Nat.lt_succ_self _)]; simp
              by_cases hlt : k < x.list.length
              · obtain ⟨p, hx⟩ := get_some hlt
                obtain ⟨q, hy⟩ := get_some (l := y.list) (k := k) (by rw [← E_len_list.out]; exact hlt)
                obtain ⟨b1, o1, cs, h1, h2, h3⟩ := (h_list.below hbw0).idx Try.underlying38 szi_DEntry k hx
                obtain ⟨v_o, rfl, r_o⟩ := inv_DEntry h3
                obtain ⟨b2, o2, cs, g1, g2, g3⟩ := (k_list.below hbw0).idx Try.underlying38 szi_DEntry k hy
                obtain ⟨u_o, rfl, t_o⟩ := inv_DEntry g3
                have qq0 := h2.zero
                have qq1 := h2 1 _ rfl
                have qq2 := h2 2 _ rfl
                have pp0 := g2.zero
                have pp1 := g2 1 _ rfl
                have pp2 := g2 2 _ rfl
                have l1 : b1 < wr.heap.size := World.block_lt_of_cell? (w := wr) (a := ⟨b1, o1, none⟩) qq0
                have l2 : b2 < wr.heap.size := World.block_lt_of_cell? (w := wr) (a := ⟨b2, o2, none⟩) pp0
                obtain ⟨aa_o, ca_o, rfl⟩ := r_o.isSlice
                obtain ⟨ab_o, cb_o, rfl⟩ := t_o.isSlice
                have z1 : w.heap.size + 1 < wr.heap.size := by omega
                have HX := Lib.hid hx; clear hx
                have HY := Lib.hid hy; clear hy
                by_cases hxy : p = q
                · subst hxy
                  go_wp2_with fail
                  obtain ⟨W1, hW1⟩ : ∃ W1, W1 = wr.alloc (.cells #[.int .i64 p.client, .int .i64 p.seq, .slice aa_o p.o.length ca_o] 29) := ⟨_, rfl⟩
                  have hbx : Below wr.heap.size wr W1 := by rw [hW1]; exact (Below.refl _ _).alloc (Nat.le_refl _) _
                  have hsx := hbx.size
                  have xx0 : W1.cell? ⟨wr.heap.size, 0, none⟩ = some (.int .i64 p.client) := by rw [hW1]; simp
                  have xx1 : W1.cell? ⟨wr.heap.size, 1, none⟩ = some (.int .i64 p.seq) := by rw [hW1]; simp
                  have xx2 : W1.cell? ⟨wr.heap.size, 2, none⟩ = some (.slice aa_o p.o.length ca_o) := by rw [hW1]; simp
                  have qbx : W1.cell? ⟨w.heap.size + 1, 3, none⟩ = some u_list := (hbx.cell (p := ⟨w.heap.size + 1, 3, none⟩) z1).trans qb
                  have px0 := (hbx.cell (p := ⟨b2, o2, none⟩) l2).trans pp0
                  have px1 := (hbx.cell (p := ⟨b2, o2 + 1, none⟩) l2).trans pp1
                  have px2 := (hbx.cell (p := ⟨b2, o2 + 2, none⟩) l2).trans pp2
                  rw [← hW1]
                  clear hW1
                  go_still_tail 6, (by kernel_rfl)
                  go_wp2_with fail
                  refine (spec_EntrySame_c p p _ _ _ (r_o.below (by repeat' (first | (with_reducible exact Below.refl _ _) | (with_reducible assumption) | (with_reducible refine Below.setCell ?_ ?_ _) | (with_reducible refine Below.alloc ?_ ?_ _) | (with_reducible refine Below.drew ?_) | (with_reducible refine belowN ?_ _) | (with_reducible refine below_after ?_ (by assumption) ?_) | omega | (simp; done) | (simp; omega)))) (t_o.below (by repeat' (first | (with_reducible exact Below.refl _ _) | (with_reducible assumption) | (with_reducible refine Below.setCell ?_ ?_ _) | (with_reducible refine Below.alloc ?_ ?_ _) | (with_reducible refine Below.drew ?_) | (with_reducible refine belowN ?_ _) | (with_reducible refine below_after ?_ (by assumption) ?_) | omega | (simp; done) | (simp; omega))))).mono ?_
                  rintro e w9 ⟨rfl, hb9⟩
                  rw [dec_t rfl]
                  go_wp2
                  go_roundw
                  case rel => exact ⟨k + 1, by omega, by go_num, at_step HX.out HY.out HJ.out, (by repeat' (first | (with_reducible exact Below.refl _ _) | (with_reducible assumption) | (with_reducible refine Below.setCell ?_ ?_ _) | (with_reducible refine Below.alloc ?_ ?_ _) | (with_reducible refine Below.drew ?_) | (with_reducible refine belowN ?_ _) | (with_reducible refine below_after ?_ (by assumption) ?_) | omega | (simp; done) | (simp; omega)))⟩
                  case measure => simp [intOf]; omega
                · have HN : Hid (decide (x = y) = false) := dec_f (fun h => ne_at HX.out HY.out hxy (by rw [h]))
                  go_wp2_with fail
                  obtain ⟨W1, hW1⟩ : ∃ W1, W1 = wr.alloc (.cells #[.int .i64 p.client, .int .i64 p.seq, .slice aa_o p.o.length ca_o] 29) := ⟨_, rfl⟩
                  have hbx : Below wr.heap.size wr W1 := by rw [hW1]; exact (Below.refl _ _).alloc (Nat.le_refl _) _
                  have hsx := hbx.size
                  have xx0 : W1.cell? ⟨wr.heap.size, 0, none⟩ = some (.int .i64 p.client) := by rw [hW1]; simp
                  have xx1 : W1.cell? ⟨wr.heap.size, 1, none⟩ = some (.int .i64 p.seq) := by rw [hW1]; simp
                  have xx2 : W1.cell? ⟨wr.heap.size, 2, none⟩ = some (.slice aa_o p.o.length ca_o) := by rw [hW1]; simp
                  have qbx : W1.cell? ⟨w.heap.size + 1, 3, none⟩ = some u_list := (hbx.cell (p := ⟨w.heap.size + 1, 3, none⟩) z1).trans qb
                  have px0 := (hbx.cell (p := ⟨b2, o2, none⟩) l2).trans pp0
                  have px1 := (hbx.cell (p := ⟨b2, o2 + 1, none⟩) l2).trans pp1
                  have px2 := (hbx.cell (p := ⟨b2, o2 + 2, none⟩) l2).trans pp2
                  rw [← hW1]
                  clear hW1
                  go_still_tail 6, (by kernel_rfl)
                  go_wp2_with fail
                  refine (spec_EntrySame_c p q _ _ _ (r_o.below (by repeat' (first | (with_reducible exact Below.refl _ _) | (with_reducible assumption) | (with_reducible refine Below.setCell ?_ ?_ _) | (with_reducible refine Below.alloc ?_ ?_ _) | (with_reducible refine Below.drew ?_) | (with_reducible refine belowN ?_ _) | (with_reducible refine below_after ?_ (by assumption) ?_) | omega | (simp; done) | (simp; omega)))) (t_o.below (by repeat' (first | (with_reducible exact Below.refl _ _) | (with_reducible assumption) | (with_reducible refine Below.setCell ?_ ?_ _) | (with_reducible refine Below.alloc ?_ ?_ _) | (with_reducible refine Below.drew ?_) | (with_reducible refine belowN ?_ _) | (with_reducible refine below_after ?_ (by assumption) ?_) | omega | (simp; done) | (simp; omega))))).mono ?_
                  rintro e w9 ⟨rfl, hb9⟩
                  rw [dec_f hxy]
                  go_wp2
                  go_ret
                  exact ⟨ret_bool HN.out.symm, (by repeat' (first | (with_reducible exact Below.refl _ _) | (with_reducible assumption) | (with_reducible refine Below.setCell ?_ ?_ _) | (with_reducible refine Below.alloc ?_ ?_ _) | (with_reducible refine Below.drew ?_) | (with_reducible refine belowN ?_ _) | (with_reducible refine below_after ?_ (by assumption) ?_) | omega | (simp; done) | (simp; omega)))⟩
              · skip
                have E_list : Hid (x.list = y.list) := Lib.hid (list_eq_of_take E_len_list.out fun j hj => HJ.out j (by omega))
                have qn : wr.cell? ⟨w.heap.size, 4, none⟩ = some v_seen := by rw [hbw.cell (by simp; try omega)]; simp
                obtain ⟨wP, hwP⟩ : ∃ wP, wP = wr := ⟨_, rfl⟩
                subst hwP
                clear HJ qb
                go_wp2
                clear hk hlt
                go_loopw [67] (fun i wr => ∃ k : Nat, k ≤ x.seen.length ∧ i = .int .i64 k ∧ (∀ j < k, x.seen[j]? = y.seen[j]?) ∧ Below (w.heap.size + 2) ((w.alloc (.cells #[.string x.name, .int .i64 x.from_, v_text, v_list, v_seen] 167)).alloc (.cells #[.string y.name, .int .i64 y.from_, u_text, u_list, u_seen] 167)) wr) (fun i _ => x.seen.length - (intOf i).toNat)
                case atStart => exact ⟨0, Nat.zero_le _, rfl, fun _ h => absurd h (Nat.not_lt_zero _), hbw⟩
                case round =>
                  obtain ⟨k, hk, rfl, hj, hbw⟩ := hrel
                  have hsz := hbw.size
                  simp only [World.size_alloc] at hsz
                  have hbw0 : Below w.heap.size w wr := (((Below.refl _ _).alloc (Nat.le_refl _) _).alloc (by simp) _).trans (hbw.mono (by omega))
                  have HJ := Lib.hid hj; clear hj
                  have qb : wr.cell? ⟨w.heap.size + 1, 4, none⟩ = some u_seen := by rw [hbw.cell (Nat.lt_succ_self _)]; simp
                  by_cases hlt : k < x.seen.length
                  · obtain ⟨p, hx⟩ := get_some hlt
                    obtain ⟨q, hy⟩ := get_some (l := y.seen) (k := k) (by rw [← E_len_seen.out]; exact hlt)
                    obtain ⟨b1, o1, cs, h1, h2, h3⟩ := (h_seen.below hbw0).idx Try.underlying165 szi_DSeen k hx
                    obtain rfl := inv_DSeen h3
                    obtain ⟨b2, o2, cs, g1, g2, g3⟩ := (k_seen.below hbw0).idx Try.underlying165 szi_DSeen k hy
                    obtain rfl := inv_DSeen g3
                    have qq0 := h2.zero
                    have qq1 := h2 1 _ rfl
                    have qq2 := h2 2 _ rfl
                    have pp0 := g2.zero
                    have pp1 := g2 1 _ rfl
                    have pp2 := g2 2 _ rfl
                    have l1 : b1 < wr.heap.size := World.block_lt_of_cell? (w := wr) (a := ⟨b1, o1, none⟩) qq0
                    have l2 : b2 < wr.heap.size := World.block_lt_of_cell? (w := wr) (a := ⟨b2, o2, none⟩) pp0
                    have z1 : w.heap.size + 1 < wr.heap.size := by omega
                    have HX := Lib.hid hx; clear hx
                    have HY := Lib.hid hy; clear hy
                    by_cases hxy : p = q
                    · subst hxy
                      go_wp2_with fail
                      obtain ⟨W1, hW1⟩ : ∃ W1, W1 = wr.alloc (.cells #[.int .i64 p.client, .int .i64 p.seq, .int .i64 p.rev] 195) := ⟨_, rfl⟩
                      have hbx : Below wr.heap.size wr W1 := by rw [hW1]; exact (Below.refl _ _).alloc (Nat.le_refl _) _
                      have hsx := hbx.size
                      have xx0 : W1.cell? ⟨wr.heap.size, 0, none⟩ = some (.int .i64 p.client) := by rw [hW1]; simp
                      have xx1 : W1.cell? ⟨wr.heap.size, 1, none⟩ = some (.int .i64 p.seq) := by rw [hW1]; simp
                      have xx2 : W1.cell? ⟨wr.heap.size, 2, none⟩ = some (.int .i64 p.rev) := by rw [hW1]; simp
                      have qbx : W1.cell? ⟨w.heap.size + 1, 4, none⟩ = some u_seen := (hbx.cell (p := ⟨w.heap.size + 1, 4, none⟩) z1).trans qb
                      have px0 := (hbx.cell (p := ⟨b2, o2, none⟩) l2).trans pp0
                      have px1 := (hbx.cell (p := ⟨b2, o2 + 1, none⟩) l2).trans pp1
                      have px2 := (hbx.cell (p := ⟨b2, o2 + 2, none⟩) l2).trans pp2
                      rw [← hW1]
                      clear hW1
                      go_quiet (fail)
                      go_wp2
                      go_roundw
                      case rel => exact ⟨k + 1, by omega, by go_num, at_step HX.out HY.out HJ.out, (by repeat' (first | (with_reducible exact Below.refl _ _) | (with_reducible assumption) | (with_reducible refine Below.setCell ?_ ?_ _) | (with_reducible refine Below.alloc ?_ ?_ _) | (with_reducible refine Below.drew ?_) | (with_reducible refine belowN ?_ _) | (with_reducible refine below_after ?_ (by assumption) ?_) | omega | (simp; done) | (simp; omega)))⟩
                      case measure => simp [intOf]; omega
                    · have HN : Hid (decide (x = y) = false) := dec_f (fun h => ne_at HX.out HY.out hxy (by rw [h]))
                      by_cases e0 : p.client = q.client
                      · by_cases e1 : p.seq = q.seq
                        · have f0 : (p.client == q.client) = true := by simpa using e0
                          have f1 : (p.seq == q.seq) = true := by simpa using e1
                          have e2 : ¬ p.rev = q.rev := fun e2 => hxy (by cases p; cases q; simp_all)
                          have f2 : (p.rev == q.rev) = false := by simpa using e2
                          clear hxy e0 e1 e2
                          go_wp2_with fail
                          obtain ⟨W1, hW1⟩ : ∃ W1, W1 = wr.alloc (.cells #[.int .i64 p.client, .int .i64 p.seq, .int .i64 p.rev] 195) := ⟨_, rfl⟩
                          have hbx : Below wr.heap.size wr W1 := by rw [hW1]; exact (Below.refl _ _).alloc (Nat.le_refl _) _
                          have hsx := hbx.size
                          have xx0 : W1.cell? ⟨wr.heap.size, 0, none⟩ = some (.int .i64 p.client) := by rw [hW1]; simp
                          have xx1 : W1.cell? ⟨wr.heap.size, 1, none⟩ = some (.int .i64 p.seq) := by rw [hW1]; simp
                          have xx2 : W1.cell? ⟨wr.heap.size, 2, none⟩ = some (.int .i64 p.rev) := by rw [hW1]; simp
                          have qbx : W1.cell? ⟨w.heap.size + 1, 4, none⟩ = some u_seen := (hbx.cell (p := ⟨w.heap.size + 1, 4, none⟩) z1).trans qb
                          have px0 := (hbx.cell (p := ⟨b2, o2, none⟩) l2).trans pp0
                          have px1 := (hbx.cell (p := ⟨b2, o2 + 1, none⟩) l2).trans pp1
                          have px2 := (hbx.cell (p := ⟨b2, o2 + 2, none⟩) l2).trans pp2
                          rw [← hW1]
                          clear hW1
                          go_quiet (fail)
                          go_wp2
                          go_ret
                          exact ⟨ret_bool HN.out.symm, (by repeat' (first | (with_reducible exact Below.refl _ _) | (with_reducible assumption) | (with_reducible refine Below.setCell ?_ ?_ _) | (with_reducible refine Below.alloc ?_ ?_ _) | (with_reducible refine Below.drew ?_) | (with_reducible refine belowN ?_ _) | (with_reducible refine below_after ?_ (by assumption) ?_) | omega | (simp; done) | (simp; omega)))⟩
                        · have f0 : (p.client == q.client) = true := by simpa using e0
                          have f1 : (p.seq == q.seq) = false := by simpa using e1
                          clear hxy e0 e1
                          go_wp2_with fail
                          obtain ⟨W1, hW1⟩ : ∃ W1, W1 = wr.alloc (.cells #[.int .i64 p.client, .int .i64 p.seq, .int .i64 p.rev] 195) := ⟨_, rfl⟩
                          have hbx : Below wr.heap.size wr W1 := by rw [hW1]; exact (Below.refl _ _).alloc (Nat.le_refl _) _
                          have hsx := hbx.size
                          have xx0 : W1.cell? ⟨wr.heap.size, 0, none⟩ = some (.int .i64 p.client) := by rw [hW1]; simp
                          have xx1 : W1.cell? ⟨wr.heap.size, 1, none⟩ = some (.int .i64 p.seq) := by rw [hW1]; simp
                          have xx2 : W1.cell? ⟨wr.heap.size, 2, none⟩ = some (.int .i64 p.rev) := by rw [hW1]; simp
                          have qbx : W1.cell? ⟨w.heap.size + 1, 4, none⟩ = some u_seen := (hbx.cell (p := ⟨w.heap.size + 1, 4, none⟩) z1).trans qb
                          have px0 := (hbx.cell (p := ⟨b2, o2, none⟩) l2).trans pp0
                          have px1 := (hbx.cell (p := ⟨b2, o2 + 1, none⟩) l2).trans pp1
                          have px2 := (hbx.cell (p := ⟨b2, o2 + 2, none⟩) l2).trans pp2
                          rw [← hW1]
                          clear hW1
                          go_quiet (fail)
                          go_wp2
                          go_ret
                          exact ⟨ret_bool HN.out.symm, (by repeat' (first | (with_reducible exact Below.refl _ _) | (with_reducible assumption) | (with_reducible refine Below.setCell ?_ ?_ _) | (with_reducible refine Below.alloc ?_ ?_ _) | (with_reducible refine Below.drew ?_) | (with_reducible refine belowN ?_ _) | (with_reducible refine below_after ?_ (by assumption) ?_) | omega | (simp; done) | (simp; omega)))⟩
                      · have f0 : (p.client == q.client) = false := by simpa using e0
                        clear hxy e0
                        go_wp2_with fail
                        obtain ⟨W1, hW1⟩ : ∃ W1, W1 = wr.alloc (.cells #[.int .i64 p.client, .int .i64 p.seq, .int .i64 p.rev] 195) := ⟨_, rfl⟩
                        have hbx : Below wr.heap.size wr W1 := by rw [hW1]; exact (Below.refl _ _).alloc (Nat.le_refl _) _
                        have hsx := hbx.size
                        have xx0 : W1.cell? ⟨wr.heap.size, 0, none⟩ = some (.int .i64 p.client) := by rw [hW1]; simp
                        have xx1 : W1.cell? ⟨wr.heap.size, 1, none⟩ = some (.int .i64 p.seq) := by rw [hW1]; simp
                        have xx2 : W1.cell? ⟨wr.heap.size, 2, none⟩ = some (.int .i64 p.rev) := by rw [hW1]; simp
                        have qbx : W1.cell? ⟨w.heap.size + 1, 4, none⟩ = some u_seen := (hbx.cell (p := ⟨w.heap.size + 1, 4, none⟩) z1).trans qb
                        have px0 := (hbx.cell (p := ⟨b2, o2, none⟩) l2).trans pp0
                        have px1 := (hbx.cell (p := ⟨b2, o2 + 1, none⟩) l2).trans pp1
                        have px2 := (hbx.cell (p := ⟨b2, o2 + 2, none⟩) l2).trans pp2
                        rw [← hW1]
                        clear hW1
                        go_quiet (fail)
                        go_wp2
                        go_ret
                        exact ⟨ret_bool HN.out.symm, (by repeat' (first | (with_reducible exact Below.refl _ _) | (with_reducible assumption) | (with_reducible refine Below.setCell ?_ ?_ _) | (with_reducible refine Below.alloc ?_ ?_ _) | (with_reducible refine Below.drew ?_) | (with_reducible refine belowN ?_ _) | (with_reducible refine below_after ?_ (by assumption) ?_) | omega | (simp; done) | (simp; omega)))⟩
                  · skip
                    go_wp2
                    go_ret
                    have hll := list_eq_of_take E_len_seen.out fun j hj => HJ.out j (by omega)
                    have HE : x = y := by
                      have e_name := E_name.out
                      have e_from_ := E_from_.out
                      have e_text := E_text.out
                      have e_list := E_list.out
                      cases x; cases y; simp_all
                    exact ⟨ret_bool (dec_t HE).symm, hbw0⟩
          · rw [dec_f (fun h => e_len (by rw [h]))]
            go_enter Try.func140, Try.ntmps140
            go_wp2_with fail
            refine (spec_SignsSame_c _ _ _ _ _ (h_text.below (by repeat' (first | (with_reducible exact Below.refl _ _) | (with_reducible assumption) | (with_reducible refine Below.setCell ?_ ?_ _) | (with_reducible refine Below.alloc ?_ ?_ _) | (with_reducible refine Below.drew ?_) | (with_reducible refine belowN ?_ _) | (with_reducible refine below_after ?_ (by assumption) ?_) | omega | (simp; done) | (simp; omega)))) (k_text.below (by repeat' (first | (with_reducible exact Below.refl _ _) | (with_reducible assumption) | (with_reducible refine Below.setCell ?_ ?_ _) | (with_reducible refine Below.alloc ?_ ?_ _) | (with_reducible refine Below.drew ?_) | (with_reducible refine belowN ?_ _) | (with_reducible refine below_after ?_ (by assumption) ?_) | omega | (simp; done) | (simp; omega))))).mono ?_
            rintro e w1 ⟨rfl, hb1⟩
            have s1 : w.heap.size + 2 ≤ w1.heap.size := (by have := hb1.size; (try simp at this); omega)
            obtain ⟨hc1, hf1⟩ := bcell hb1
            have z1_0 : w.heap.size < w1.heap.size := (by omega)
            have z1_1 : w.heap.size + 1 < w1.heap.size := (by omega)
            rw [dec_t E_text.out]
            go_wp2
            go_ret
            exact ⟨rfl, (by repeat' (first | (with_reducible exact Below.refl _ _) | (with_reducible assumption) | (with_reducible refine Below.setCell ?_ ?_ _) | (with_reducible refine Below.alloc ?_ ?_ _) | (with_reducible refine Below.drew ?_) | (with_reducible refine belowN ?_ _) | (with_reducible refine below_after ?_ (by assumption) ?_) | omega | (simp; done) | (simp; omega)))⟩
        · rw [dec_f (fun h => e_len (by rw [h]))]
          go_enter Try.func140, Try.ntmps140
          go_wp2_with fail
          refine (spec_SignsSame_c _ _ _ _ _ (h_text.below (by repeat' (first | (with_reducible exact Below.refl _ _) | (with_reducible assumption) | (with_reducible refine Below.setCell ?_ ?_ _) | (with_reducible refine Below.alloc ?_ ?_ _) | (with_reducible refine Below.drew ?_) | (with_reducible refine belowN ?_ _) | (with_reducible refine below_after ?_ (by assumption) ?_) | omega | (simp; done) | (simp; omega)))) (k_text.below (by repeat' (first | (with_reducible exact Below.refl _ _) | (with_reducible assumption) | (with_reducible refine Below.setCell ?_ ?_ _) | (with_reducible refine Below.alloc ?_ ?_ _) | (with_reducible refine Below.drew ?_) | (with_reducible refine belowN ?_ _) | (with_reducible refine below_after ?_ (by assumption) ?_) | omega | (simp; done) | (simp; omega))))).mono ?_
          rintro e w1 ⟨rfl, hb1⟩
          have s1 : w.heap.size + 2 ≤ w1.heap.size := (by have := hb1.size; (try simp at this); omega)
          obtain ⟨hc1, hf1⟩ := bcell hb1
          have z1_0 : w.heap.size < w1.heap.size := (by omega)
          have z1_1 : w.heap.size + 1 < w1.heap.size := (by omega)
          rw [dec_t E_text.out]
          go_wp2
          go_ret
          exact ⟨rfl, (by repeat' (first | (with_reducible exact Below.refl _ _) | (with_reducible assumption) | (with_reducible refine Below.setCell ?_ ?_ _) | (with_reducible refine Below.alloc ?_ ?_ _) | (with_reducible refine Below.drew ?_) | (with_reducible refine belowN ?_ _) | (with_reducible refine below_after ?_ (by assumption) ?_) | omega | (simp; done) | (simp; omega)))⟩
      · rw [dec_f (fun h => e_text (by rw [h]))]
        go_enter Try.func140, Try.ntmps140
        go_wp2_with fail
        refine (spec_SignsSame_c _ _ _ _ _ (h_text.below (by repeat' (first | (with_reducible exact Below.refl _ _) | (with_reducible assumption) | (with_reducible refine Below.setCell ?_ ?_ _) | (with_reducible refine Below.alloc ?_ ?_ _) | (with_reducible refine Below.drew ?_) | (with_reducible refine belowN ?_ _) | (with_reducible refine below_after ?_ (by assumption) ?_) | omega | (simp; done) | (simp; omega)))) (k_text.below (by repeat' (first | (with_reducible exact Below.refl _ _) | (with_reducible assumption) | (with_reducible refine Below.setCell ?_ ?_ _) | (with_reducible refine Below.alloc ?_ ?_ _) | (with_reducible refine Below.drew ?_) | (with_reducible refine belowN ?_ _) | (with_reducible refine below_after ?_ (by assumption) ?_) | omega | (simp; done) | (simp; omega))))).mono ?_
        rintro e w1 ⟨rfl, hb1⟩
        have s1 : w.heap.size + 2 ≤ w1.heap.size := (by have := hb1.size; (try simp at this); omega)
        obtain ⟨hc1, hf1⟩ := bcell hb1
        have z1_0 : w.heap.size < w1.heap.size := (by omega)
        have z1_1 : w.heap.size + 1 < w1.heap.size := (by omega)
        rw [dec_f e_text]
        go_wp2
        go_ret
        exact ⟨rfl, (by repeat' (first | (with_reducible exact Below.refl _ _) | (with_reducible assumption) | (with_reducible refine Below.setCell ?_ ?_ _) | (with_reducible refine Below.alloc ?_ ?_ _) | (with_reducible refine Below.drew ?_) | (with_reducible refine belowN ?_ _) | (with_reducible refine below_after ?_ (by assumption) ?_) | omega | (simp; done) | (simp; omega)))⟩
    · rw [dec_f (fun h => e_from_ (by rw [h]))]
      have E2_from_ : (x.from_ != y.from_) = true := by simpa using e_from_
      clear e_from_
      go_enter Try.func140, Try.ntmps140
      go_wp2
      go_ret
      exact ⟨rfl, (by repeat' (first | (with_reducible exact Below.refl _ _) | (with_reducible assumption) | (with_reducible refine Below.setCell ?_ ?_ _) | (with_reducible refine Below.alloc ?_ ?_ _) | (with_reducible refine Below.drew ?_) | (with_reducible refine belowN ?_ _) | (with_reducible refine below_after ?_ (by assumption) ?_) | omega | (simp; done) | (simp; omega)))⟩
  · rw [dec_f (fun h => e_name (by rw [h]))]
    have E2_name : (x.name.toList == y.name.toList) = false := str_f e_name
    clear e_name
    go_enter Try.func140, Try.ntmps140
    go_wp2
    go_ret
    exact ⟨rfl, (by repeat' (first | (with_reducible exact Below.refl _ _) | (with_reducible assumption) | (with_reducible refine Below.setCell ?_ ?_ _) | (with_reducible refine Below.alloc ?_ ?_ _) | (with_reducible refine Below.drew ?_) | (with_reducible refine belowN ?_ _) | (with_reducible refine below_after ?_ (by assumption) ?_) | omega | (simp; done) | (simp; omega)))⟩

end Go.Proofs.Ytfbkhaaijbhadaa
