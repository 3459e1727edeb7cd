/- Comparisons: they decide whether two data are alike. -/
import Derived.Test.YtfbkhaaijbhadaaCmp7
import Derived.Deep.RegionHeld3
import Derived.StillTailTactics
namespace Go.Proofs.Ytfbkhaaijbhadaa
open Go.RowKit

set_option maxHeartbeats 4000000 in
set_option maxRecDepth 100000 in
theorem spec_WorldSame_c (x y : DWorld) (v_h_docs u_h_docs : Value) (v_h_subs u_h_subs : Value) (v_locks u_locks : Value) (v_queues u_queues : Value) (v_tasks u_tasks : Value) (w : World) (h_h_docs : RdS w v_h_docs x.h.docs) (k_h_docs : RdS w u_h_docs y.h.docs) (h_h_subs : RdS w v_h_subs x.h.subs) (k_h_subs : RdS w u_h_subs y.h.subs) (h_locks : RdS w v_locks x.locks) (k_locks : RdS w u_locks y.locks) (h_queues : RdS w v_queues x.queues) (k_queues : RdS w u_queues y.queues) (h_tasks : RdS w v_tasks x.tasks) (k_tasks : RdS w u_tasks y.tasks) :
    Calls Try.prog 47 #[.agg #[.bool x.h.shut, v_h_docs, v_h_subs, .int .i64 x.h.last, v_locks, v_queues, v_tasks, .int .i64 x.step], .agg #[.bool y.h.shut, u_h_docs, u_h_subs, .int .i64 y.h.last, u_locks, u_queues, u_tasks, .int .i64 y.step]] w (Tells w (.bool (decide (x = y)))) := by
  have hlv_queues := fun w1 ty => h_queues.len Try.underlying89 w1 ty
  have hlu_queues := fun w1 ty => k_queues.len Try.underlying89 w1 ty
  have bv_queues := h_queues.le
  have bu_queues := k_queues.le
  have hlv_tasks := fun w1 ty => h_tasks.len Try.underlying90 w1 ty
  have hlu_tasks := fun w1 ty => k_tasks.len Try.underlying90 w1 ty
  have bv_tasks := h_tasks.le
  have bu_tasks := k_tasks.le
  by_cases e_h : x.h = y.h
  · have E_h := Lib.hid e_h
    clear e_h
    by_cases e_step : x.step = y.step
    · have E_step := Lib.hid e_step
      have E2_step : (x.step != y.step) = false := by rw [e_step]; simp
      clear e_step
      by_cases e_locks : x.locks = y.locks
      · have E_locks := Lib.hid e_locks
        clear e_locks
        by_cases e_len : x.queues.length = y.queues.length
        · have E_len_queues := Lib.hid e_len
          rw [← e_len] at hlu_queues
          clear e_len
          by_cases e_len : x.tasks.length = y.tasks.length
          · have E_len_tasks := Lib.hid e_len
            rw [← e_len] at hlu_tasks
            clear e_len
            go_enter Try.func47, Try.ntmps47
            go_wp2_with fail
            refine (spec_HubSame_c x.h y.h _ _ _ _ _ (h_h_docs.below (by repeat' (first | (with_reducible exact Below.refl _ _) | (with_reducible assumption) | (with_reducible refine Below.setCell ?_ ?_ _) | (with_reducible refine Below.alloc ?_ ?_ _) | (with_reducible refine Below.drew ?_) | (with_reducible refine belowN ?_ _) | (with_reducible refine below_after ?_ (by assumption) ?_) | omega | (simp; done) | (simp; omega)))) (k_h_docs.below (by repeat' (first | (with_reducible exact Below.refl _ _) | (with_reducible assumption) | (with_reducible refine Below.setCell ?_ ?_ _) | (with_reducible refine Below.alloc ?_ ?_ _) | (with_reducible refine Below.drew ?_) | (with_reducible refine belowN ?_ _) | (with_reducible refine below_after ?_ (by assumption) ?_) | omega | (simp; done) | (simp; omega)))) (h_h_subs.below (by repeat' (first | (with_reducible exact Below.refl _ _) | (with_reducible assumption) | (with_reducible refine Below.setCell ?_ ?_ _) | (with_reducible refine Below.alloc ?_ ?_ _) | (with_reducible refine Below.drew ?_) | (with_reducible refine belowN ?_ _) | (with_reducible refine below_after ?_ (by assumption) ?_) | omega | (simp; done) | (simp; omega)))) (k_h_subs.below (by repeat' (first | (with_reducible exact Below.refl _ _) | (with_reducible assumption) | (with_reducible refine Below.setCell ?_ ?_ _) | (with_reducible refine Below.alloc ?_ ?_ _) | (with_reducible refine Below.drew ?_) | (with_reducible refine belowN ?_ _) | (with_reducible refine below_after ?_ (by assumption) ?_) | omega | (simp; done) | (simp; omega))))).mono ?_
            rintro e w1 ⟨rfl, hb1⟩
            have s1 : w.heap.size + 2 ≤ w1.heap.size := (by have := hb1.size; (try simp at this); omega)
            obtain ⟨hc1, hf1⟩ := bcell hb1
            have z1_0 : w.heap.size < w1.heap.size := (by omega)
            have z1_1 : w.heap.size + 1 < w1.heap.size := (by omega)
            rw [dec_t E_h.out]
            go_wp2_with fail
            refine (spec_SignsSame_c _ _ _ _ _ (h_locks.below (by repeat' (first | (with_reducible exact Below.refl _ _) | (with_reducible assumption) | (with_reducible refine Below.setCell ?_ ?_ _) | (with_reducible refine Below.alloc ?_ ?_ _) | (with_reducible refine Below.drew ?_) | (with_reducible refine belowN ?_ _) | (with_reducible refine below_after ?_ (by assumption) ?_) | omega | (simp; done) | (simp; omega)))) (k_locks.below (by repeat' (first | (with_reducible exact Below.refl _ _) | (with_reducible assumption) | (with_reducible refine Below.setCell ?_ ?_ _) | (with_reducible refine Below.alloc ?_ ?_ _) | (with_reducible refine Below.drew ?_) | (with_reducible refine belowN ?_ _) | (with_reducible refine below_after ?_ (by assumption) ?_) | omega | (simp; done) | (simp; omega))))).mono ?_
            rintro e w2 ⟨rfl, hb2⟩
            have s2 : w1.heap.size ≤ w2.heap.size := (by have := hb2.size; (try simp at this); omega)
            obtain ⟨hc2, hf2⟩ := bcell hb2
            have z2_0 : w.heap.size < w2.heap.size := (by omega)
            have z2_1 : w.heap.size + 1 < w2.heap.size := (by omega)
            rw [dec_t E_locks.out]
            go_wp2
            go_loopw [51] (fun i wr => ∃ k : Nat, k ≤ x.queues.length ∧ i = .int .i64 k ∧ (∀ j < k, x.queues[j]? = y.queues[j]?) ∧ Below (w.heap.size + 2) ((w.alloc (.cells #[.bool x.h.shut, v_h_docs, v_h_subs, .int .i64 x.h.last, v_locks, v_queues, v_tasks, .int .i64 x.step] 92)).alloc (.cells #[.bool y.h.shut, u_h_docs, u_h_subs, .int .i64 y.h.last, u_locks, u_queues, u_tasks, .int .i64 y.step] 92)) wr) (fun i _ => x.queues.length - (intOf i).toNat)
            case atStart => exact ⟨0, Nat.zero_le _, rfl, fun _ h => absurd h (Nat.not_lt_zero _), (by repeat' (first | (with_reducible exact Below.refl _ _) | (with_reducible assumption) | (with_reducible refine Below.setCell ?_ ?_ _) | (with_reducible refine Below.alloc ?_ ?_ _) | (with_reducible refine Below.drew ?_) | (with_reducible refine belowN ?_ _) | (with_reducible refine below_after ?_ (by assumption) ?_) | omega | (simp; done) | (simp; omega)))⟩
            case round =>
              obtain ⟨k, hk, rfl, hj, hbw⟩ := hrel
              have hsz := hbw.size
              simp only [World.size_alloc] at hsz
              have hbw0 : Below w.heap.size w wr := (((Below.refl _ _).alloc (Nat.le_refl _) _).alloc (by simp) _).trans (hbw.mono (by omega))
              have HJ := Lib.hid hj; clear hj
              have qb : wr.cell? ⟨w.heap.size + 1, 5, none⟩ = some u_queues := by rw [hbw.cell (Nat.lt_succ_self _)]; simp
              by_cases hlt : k < x.queues.length
              · obtain ⟨p, hx⟩ := get_some hlt
                obtain ⟨q, hy⟩ := get_some (l := y.queues) (k := k) (by rw [← E_len_queues.out]; exact hlt)
                obtain ⟨b1, o1, cs, h1, h2, h3⟩ := (h_queues.below hbw0).idx Try.underlying89 szi_DQueue k hx
                obtain ⟨v_list, rfl, _, r_list⟩ := inv_DQueue h3
                obtain ⟨b2, o2, cs, g1, g2, g3⟩ := (k_queues.below hbw0).idx Try.underlying89 szi_DQueue k hy
                obtain ⟨u_list, rfl, _, t_list⟩ := inv_DQueue g3
                have qq0 := h2.zero
                have qq1 := h2 1 _ rfl
                have pp0 := g2.zero
                have pp1 := g2 1 _ rfl
                have l1 : b1 < wr.heap.size := World.block_lt_of_cell? (w := wr) (a := ⟨b1, o1, none⟩) qq0
                have l2 : b2 < wr.heap.size := World.block_lt_of_cell? (w := wr) (a := ⟨b2, o2, none⟩) pp0
                obtain ⟨aa_list, ca_list, rfl⟩ := r_list.isSlice
                obtain ⟨ab_list, cb_list, rfl⟩ := t_list.isSlice
                have z1 : w.heap.size + 1 < wr.heap.size := by omega
                have HX := Lib.hid hx; clear hx
                have HY := Lib.hid hy; clear hy
                by_cases hxy : p = q
                · subst hxy
                  have k1 : (p.doc.toList == p.doc.toList) = true := str_t rfl
                  go_wp2_with fail
                  obtain ⟨W1, hW1⟩ : ∃ W1, W1 = wr.alloc (.cells #[.string p.doc, .slice aa_list p.list.length ca_list] 135) := ⟨_, rfl⟩
                  have hbx : Below wr.heap.size wr W1 := by rw [hW1]; exact (Below.refl _ _).alloc (Nat.le_refl _) _
                  have hsx := hbx.size
                  have xx0 : W1.cell? ⟨wr.heap.size, 0, none⟩ = some (.string p.doc) := by rw [hW1]; simp
                  have xx1 : W1.cell? ⟨wr.heap.size, 1, none⟩ = some (.slice aa_list p.list.length ca_list) := by rw [hW1]; simp
                  have qbx : W1.cell? ⟨w.heap.size + 1, 5, none⟩ = some u_queues := (hbx.cell (p := ⟨w.heap.size + 1, 5, none⟩) z1).trans qb
                  have px0 := (hbx.cell (p := ⟨b2, o2, none⟩) l2).trans pp0
                  have px1 := (hbx.cell (p := ⟨b2, o2 + 1, none⟩) l2).trans pp1
                  rw [← hW1]
                  clear hW1
                  go_quiet ((go_at_call 97; exact Calls.quiet_of (spec_SignsSame_qt _ _ p.list _ (r_list.below (by repeat' (first | (with_reducible exact Below.refl _ _) | (with_reducible assumption) | (with_reducible refine Below.setCell ?_ ?_ _) | (with_reducible refine Below.alloc ?_ ?_ _) | (with_reducible refine Below.drew ?_) | (with_reducible refine belowN ?_ _) | (with_reducible refine below_after ?_ (by assumption) ?_) | omega | (simp; done) | (simp; omega)))) (t_list.below (by repeat' (first | (with_reducible exact Below.refl _ _) | (with_reducible assumption) | (with_reducible refine Below.setCell ?_ ?_ _) | (with_reducible refine Below.alloc ?_ ?_ _) | (with_reducible refine Below.drew ?_) | (with_reducible refine belowN ?_ _) | (with_reducible refine below_after ?_ (by assumption) ?_) | omega | (simp; done) | (simp; omega)))))))
                  go_wp2
                  go_roundw
                  case rel => exact ⟨k + 1, by omega, by go_num, at_step HX.out HY.out HJ.out, (by repeat' (first | (with_reducible exact Below.refl _ _) | (with_reducible assumption) | (with_reducible refine Below.setCell ?_ ?_ _) | (with_reducible refine Below.alloc ?_ ?_ _) | (with_reducible refine Below.drew ?_) | (with_reducible refine belowN ?_ _) | (with_reducible refine below_after ?_ (by assumption) ?_) | omega | (simp; done) | (simp; omega)))⟩
                  case measure => simp [intOf]; omega
                · have HN : Hid (decide (x = y) = false) := dec_f (fun h => ne_at HX.out HY.out hxy (by rw [h]))
                  by_cases e2 : p.doc = q.doc
                  · have e3 : ¬ p.list = q.list := fun e3 => hxy (by cases p; cases q; simp_all)
                    have k1 : (p.doc.toList == q.doc.toList) = true := str_t e2
                    have K3 := Lib.hid e3
                    clear e2 hxy e3
                    go_wp2_with fail
                    obtain ⟨W1, hW1⟩ : ∃ W1, W1 = wr.alloc (.cells #[.string p.doc, .slice aa_list p.list.length ca_list] 135) := ⟨_, rfl⟩
                    have hbx : Below wr.heap.size wr W1 := by rw [hW1]; exact (Below.refl _ _).alloc (Nat.le_refl _) _
                    have hsx := hbx.size
                    have xx0 : W1.cell? ⟨wr.heap.size, 0, none⟩ = some (.string p.doc) := by rw [hW1]; simp
                    have xx1 : W1.cell? ⟨wr.heap.size, 1, none⟩ = some (.slice aa_list p.list.length ca_list) := by rw [hW1]; simp
                    have qbx : W1.cell? ⟨w.heap.size + 1, 5, none⟩ = some u_queues := (hbx.cell (p := ⟨w.heap.size + 1, 5, none⟩) z1).trans qb
                    have px0 := (hbx.cell (p := ⟨b2, o2, none⟩) l2).trans pp0
                    have px1 := (hbx.cell (p := ⟨b2, o2 + 1, none⟩) l2).trans pp1
                    rw [← hW1]
                    clear hW1
                    go_quiet ((go_at_call 97; exact Calls.quiet_of (spec_SignsSame_qf _ _ p.list q.list K3.out _ (r_list.below (by repeat' (first | (with_reducible exact Below.refl _ _) | (with_reducible assumption) | (with_reducible refine Below.setCell ?_ ?_ _) | (with_reducible refine Below.alloc ?_ ?_ _) | (with_reducible refine Below.drew ?_) | (with_reducible refine belowN ?_ _) | (with_reducible refine below_after ?_ (by assumption) ?_) | omega | (simp; done) | (simp; omega)))) (t_list.below (by repeat' (first | (with_reducible exact Below.refl _ _) | (with_reducible assumption) | (with_reducible refine Below.setCell ?_ ?_ _) | (with_reducible refine Below.alloc ?_ ?_ _) | (with_reducible refine Below.drew ?_) | (with_reducible refine belowN ?_ _) | (with_reducible refine below_after ?_ (by assumption) ?_) | omega | (simp; done) | (simp; omega)))))))
                    go_wp2
                    go_ret
                    exact ⟨ret_bool HN.out.symm, (by repeat' (first | (with_reducible exact Below.refl _ _) | (with_reducible assumption) | (with_reducible refine Below.setCell ?_ ?_ _) | (with_reducible refine Below.alloc ?_ ?_ _) | (with_reducible refine Below.drew ?_) | (with_reducible refine belowN ?_ _) | (with_reducible refine below_after ?_ (by assumption) ?_) | omega | (simp; done) | (simp; omega)))⟩
                  · have k1 : (p.doc.toList == q.doc.toList) = false := str_f e2
                    clear e2 hxy
                    go_wp2_with fail
                    obtain ⟨W1, hW1⟩ : ∃ W1, W1 = wr.alloc (.cells #[.string p.doc, .slice aa_list p.list.length ca_list] 135) := ⟨_, rfl⟩
                    have hbx : Below wr.heap.size wr W1 := by rw [hW1]; exact (Below.refl _ _).alloc (Nat.le_refl _) _
                    have hsx := hbx.size
                    have xx0 : W1.cell? ⟨wr.heap.size, 0, none⟩ = some (.string p.doc) := by rw [hW1]; simp
                    have xx1 : W1.cell? ⟨wr.heap.size, 1, none⟩ = some (.slice aa_list p.list.length ca_list) := by rw [hW1]; simp
                    have qbx : W1.cell? ⟨w.heap.size + 1, 5, none⟩ = some u_queues := (hbx.cell (p := ⟨w.heap.size + 1, 5, none⟩) z1).trans qb
                    have px0 := (hbx.cell (p := ⟨b2, o2, none⟩) l2).trans pp0
                    have px1 := (hbx.cell (p := ⟨b2, o2 + 1, none⟩) l2).trans pp1
                    rw [← hW1]
                    clear hW1
                    go_quiet (fail)
                    go_wp2
                    go_ret
                    exact ⟨ret_bool HN.out.symm, (by repeat' (first | (with_reducible exact Below.refl _ _) | (with_reducible assumption) | (with_reducible refine Below.setCell ?_ ?_ _) | (with_reducible refine Below.alloc ?_ ?_ _) | (with_reducible refine Below.drew ?_) | (with_reducible refine belowN ?_ _) | (with_reducible refine below_after ?_ (by assumption) ?_) | omega | (simp; done) | (simp; omega)))⟩
              · skip
                have E_queues : Hid (x.queues = y.queues) := Lib.hid (list_eq_of_take E_len_queues.out fun j hj => HJ.out j (by omega))
                have qn : wr.cell? ⟨w.heap.size, 6, none⟩ = some v_tasks := by rw [hbw.cell (by simp; try omega)]; simp
                obtain ⟨wP, hwP⟩ : ∃ wP, wP = wr := ⟨_, rfl⟩
                subst hwP
                clear HJ qb
                go_wp2
                clear hk hlt
                go_loopw [81] (fun i wr => ∃ k : Nat, k ≤ x.tasks.length ∧ i = .int .i64 k ∧ (∀ j < k, x.tasks[j]? = y.tasks[j]?) ∧ Below (w.heap.size + 2) ((w.alloc (.cells #[.bool x.h.shut, v_h_docs, v_h_subs, .int .i64 x.h.last, v_locks, v_queues, v_tasks, .int .i64 x.step] 92)).alloc (.cells #[.bool y.h.shut, u_h_docs, u_h_subs, .int .i64 y.h.last, u_locks, u_queues, u_tasks, .int .i64 y.step] 92)) wr) (fun i _ => x.tasks.length - (intOf i).toNat)
                case atStart => exact ⟨0, Nat.zero_le _, rfl, fun _ h => absurd h (Nat.not_lt_zero _), hbw⟩
                case round =>
                  obtain ⟨k, hk, rfl, hj, hbw⟩ := hrel
                  have hsz := hbw.size
                  simp only [World.size_alloc] at hsz
                  have hbw0 : Below w.heap.size w wr := (((Below.refl _ _).alloc (Nat.le_refl _) _).alloc (by simp) _).trans (hbw.mono (by omega))
                  have HJ := Lib.hid hj; clear hj
                  have qb : wr.cell? ⟨w.heap.size + 1, 6, none⟩ = some u_tasks := by rw [hbw.cell (Nat.lt_succ_self _)]; simp
                  by_cases hlt : k < x.tasks.length
                  · obtain ⟨p, hx⟩ := get_some hlt
                    obtain ⟨q, hy⟩ := get_some (l := y.tasks) (k := k) (by rw [← E_len_tasks.out]; exact hlt)
                    obtain ⟨b1, o1, cs, h1, h2, h3⟩ := (h_tasks.below hbw0).idx Try.underlying90 szi_DTask k hx
                    obtain ⟨v_c_o, v_c_text, v_a_text, v_a_list, rfl, _, r_c_o, r_c_text, r_a_text, r_a_list⟩ := inv_DTask h3
                    obtain ⟨b2, o2, cs, g1, g2, g3⟩ := (k_tasks.below hbw0).idx Try.underlying90 szi_DTask k hy
                    obtain ⟨u_c_o, u_c_text, u_a_text, u_a_list, rfl, _, t_c_o, t_c_text, t_a_text, t_a_list⟩ := inv_DTask g3
                    have qq0 := h2.zero
                    have qq1 := h2 1 _ rfl
                    have qq2 := h2 2 _ rfl
                    have qq3 := h2 3 _ rfl
                    have qq4 := h2 4 _ rfl
                    have qq5 := h2 5 _ rfl
                    have qq6 := h2 6 _ rfl
                    have qq7 := h2 7 _ rfl
                    have qq8 := h2 8 _ rfl
                    have qq9 := h2 9 _ rfl
                    have qq10 := h2 10 _ rfl
                    have qq11 := h2 11 _ rfl
                    have qq12 := h2 12 _ rfl
                    have qq13 := h2 13 _ rfl
                    have qq14 := h2 14 _ rfl
                    have pp0 := g2.zero
                    have pp1 := g2 1 _ rfl
                    have pp2 := g2 2 _ rfl
                    have pp3 := g2 3 _ rfl
                    have pp4 := g2 4 _ rfl
                    have pp5 := g2 5 _ rfl
                    have pp6 := g2 6 _ rfl
                    have pp7 := g2 7 _ rfl
                    have pp8 := g2 8 _ rfl
                    have pp9 := g2 9 _ rfl
                    have pp10 := g2 10 _ rfl
                    have pp11 := g2 11 _ rfl
                    have pp12 := g2 12 _ rfl
                    have pp13 := g2 13 _ rfl
                    have pp14 := g2 14 _ rfl
                    have l1 : b1 < wr.heap.size := World.block_lt_of_cell? (w := wr) (a := ⟨b1, o1, none⟩) qq0
                    have l2 : b2 < wr.heap.size := World.block_lt_of_cell? (w := wr) (a := ⟨b2, o2, none⟩) pp0
                    obtain ⟨aa_c_o, ca_c_o, rfl⟩ := r_c_o.isSlice
                    obtain ⟨ab_c_o, cb_c_o, rfl⟩ := t_c_o.isSlice
                    obtain ⟨aa_c_text, ca_c_text, rfl⟩ := r_c_text.isSlice
                    obtain ⟨ab_c_text, cb_c_text, rfl⟩ := t_c_text.isSlice
                    obtain ⟨aa_a_text, ca_a_text, rfl⟩ := r_a_text.isSlice
                    obtain ⟨ab_a_text, cb_a_text, rfl⟩ := t_a_text.isSlice
                    obtain ⟨aa_a_list, ca_a_list, rfl⟩ := r_a_list.isSlice
                    obtain ⟨ab_a_list, cb_a_list, rfl⟩ := t_a_list.isSlice
                    have z1 : w.heap.size + 1 < wr.heap.size := by omega
                    have HX := Lib.hid hx; clear hx
                    have HY := Lib.hid hy; clear hy
                    by_cases hxy : p = q
                    · subst hxy
                      go_wp2_with fail
                      obtain ⟨W1, hW1⟩ : ∃ W1, W1 = wr.alloc (.cells #[.int .i64 p.c.kind, .string p.c.doc, .int .i64 p.c.client, .int .i64 p.c.seq, .int .i64 p.c.n, .slice aa_c_o p.c.o.length ca_c_o, .slice aa_c_text p.c.text.length ca_c_text, .int .i64 p.pc, .int .i64 p.inv, .int .i64 p.lin, .int .i64 p.res, .int .i64 p.a.code, .int .i64 p.a.rev, .slice aa_a_text p.a.text.length ca_a_text, .slice aa_a_list p.a.list.length ca_a_list] 62) := ⟨_, rfl⟩
                      have hbx : Below wr.heap.size wr W1 := by rw [hW1]; exact (Below.refl _ _).alloc (Nat.le_refl _) _
                      have hsx := hbx.size
                      have xx0 : W1.cell? ⟨wr.heap.size, 0, none⟩ = some (.int .i64 p.c.kind) := by rw [hW1]; simp
                      have xx1 : W1.cell? ⟨wr.heap.size, 1, none⟩ = some (.string p.c.doc) := by rw [hW1]; simp
                      have xx2 : W1.cell? ⟨wr.heap.size, 2, none⟩ = some (.int .i64 p.c.client) := by rw [hW1]; simp
                      have xx3 : W1.cell? ⟨wr.heap.size, 3, none⟩ = some (.int .i64 p.c.seq) := by rw [hW1]; simp
                      have xx4 : W1.cell? ⟨wr.heap.size, 4, none⟩ = some (.int .i64 p.c.n) := by rw [hW1]; simp
                      have xx5 : W1.cell? ⟨wr.heap.size, 5, none⟩ = some (.slice aa_c_o p.c.o.length ca_c_o) := by rw [hW1]; simp
                      have xx6 : W1.cell? ⟨wr.heap.size, 6, none⟩ = some (.slice aa_c_text p.c.text.length ca_c_text) := by rw [hW1]; simp
                      have xx7 : W1.cell? ⟨wr.heap.size, 7, none⟩ = some (.int .i64 p.pc) := by rw [hW1]; simp
                      have xx8 : W1.cell? ⟨wr.heap.size, 8, none⟩ = some (.int .i64 p.inv) := by rw [hW1]; simp
                      have xx9 : W1.cell? ⟨wr.heap.size, 9, none⟩ = some (.int .i64 p.lin) := by rw [hW1]; simp
                      have xx10 : W1.cell? ⟨wr.heap.size, 10, none⟩ = some (.int .i64 p.res) := by rw [hW1]; simp
                      have xx11 : W1.cell? ⟨wr.heap.size, 11, none⟩ = some (.int .i64 p.a.code) := by rw [hW1]; simp
                      have xx12 : W1.cell? ⟨wr.heap.size, 12, none⟩ = some (.int .i64 p.a.rev) := by rw [hW1]; simp
                      have xx13 : W1.cell? ⟨wr.heap.size, 13, none⟩ = some (.slice aa_a_text p.a.text.length ca_a_text) := by rw [hW1]; simp
                      have xx14 : W1.cell? ⟨wr.heap.size, 14, none⟩ = some (.slice aa_a_list p.a.list.length ca_a_list) := by rw [hW1]; simp
                      have qbx : W1.cell? ⟨w.heap.size + 1, 6, none⟩ = some u_tasks := (hbx.cell (p := ⟨w.heap.size + 1, 6, none⟩) z1).trans qb
                      have px0 := (hbx.cell (p := ⟨b2, o2, none⟩) l2).trans pp0
                      have px1 := (hbx.cell (p := ⟨b2, o2 + 1, none⟩) l2).trans pp1
                      have px2 := (hbx.cell (p := ⟨b2, o2 + 2, none⟩) l2).trans pp2
                      have px3 := (hbx.cell (p := ⟨b2, o2 + 3, none⟩) l2).trans pp3
                      have px4 := (hbx.cell (p := ⟨b2, o2 + 4, none⟩) l2).trans pp4
                      have px5 := (hbx.cell (p := ⟨b2, o2 + 5, none⟩) l2).trans pp5
                      have px6 := (hbx.cell (p := ⟨b2, o2 + 6, none⟩) l2).trans pp6
                      have px7 := (hbx.cell (p := ⟨b2, o2 + 7, none⟩) l2).trans pp7
                      have px8 := (hbx.cell (p := ⟨b2, o2 + 8, none⟩) l2).trans pp8
                      have px9 := (hbx.cell (p := ⟨b2, o2 + 9, none⟩) l2).trans pp9
                      have px10 := (hbx.cell (p := ⟨b2, o2 + 10, none⟩) l2).trans pp10
                      have px11 := (hbx.cell (p := ⟨b2, o2 + 11, none⟩) l2).trans pp11
                      have px12 := (hbx.cell (p := ⟨b2, o2 + 12, none⟩) l2).trans pp12
                      have px13 := (hbx.cell (p := ⟨b2, o2 + 13, none⟩) l2).trans pp13
                      have px14 := (hbx.cell (p := ⟨b2, o2 + 14, none⟩) l2).trans pp14
                      rw [← hW1]
                      clear hW1
                      go_still_tail 6, (by kernel_rfl)
                      go_wp2_with fail
                      refine (l14Same_c p p _ _ _ _ _ _ _ _ _ (r_c_o.below (by repeat' (first | (with_reducible exact Below.refl _ _) | (with_reducible assumption) | (with_reducible refine Below.setCell ?_ ?_ _) | (with_reducible refine Below.alloc ?_ ?_ _) | (with_reducible refine Below.drew ?_) | (with_reducible refine belowN ?_ _) | (with_reducible refine below_after ?_ (by assumption) ?_) | omega | (simp; done) | (simp; omega)))) (t_c_o.below (by repeat' (first | (with_reducible exact Below.refl _ _) | (with_reducible assumption) | (with_reducible refine Below.setCell ?_ ?_ _) | (with_reducible refine Below.alloc ?_ ?_ _) | (with_reducible refine Below.drew ?_) | (with_reducible refine belowN ?_ _) | (with_reducible refine below_after ?_ (by assumption) ?_) | omega | (simp; done) | (simp; omega)))) (r_c_text.below (by repeat' (first | (with_reducible exact Below.refl _ _) | (with_reducible assumption) | (with_reducible refine Below.setCell ?_ ?_ _) | (with_reducible refine Below.alloc ?_ ?_ _) | (with_reducible refine Below.drew ?_) | (with_reducible refine belowN ?_ _) | (with_reducible refine below_after ?_ (by assumption) ?_) | omega | (simp; done) | (simp; omega)))) (t_c_text.below (by repeat' (first | (with_reducible exact Below.refl _ _) | (with_reducible assumption) | (with_reducible refine Below.setCell ?_ ?_ _) | (with_reducible refine Below.alloc ?_ ?_ _) | (with_reducible refine Below.drew ?_) | (with_reducible refine belowN ?_ _) | (with_reducible refine below_after ?_ (by assumption) ?_) | omega | (simp; done) | (simp; omega)))) (r_a_text.below (by repeat' (first | (with_reducible exact Below.refl _ _) | (with_reducible assumption) | (with_reducible refine Below.setCell ?_ ?_ _) | (with_reducible refine Below.alloc ?_ ?_ _) | (with_reducible refine Below.drew ?_) | (with_reducible refine belowN ?_ _) | (with_reducible refine below_after ?_ (by assumption) ?_) | omega | (simp; done) | (simp; omega)))) (t_a_text.below (by repeat' (first | (with_reducible exact Below.refl _ _) | (with_reducible assumption) | (with_reducible refine Below.setCell ?_ ?_ _) | (with_reducible refine Below.alloc ?_ ?_ _) | (with_reducible refine Below.drew ?_) | (with_reducible refine belowN ?_ _) | (with_reducible refine below_after ?_ (by assumption) ?_) | omega | (simp; done) | (simp; omega)))) (r_a_list.below (by repeat' (first | (with_reducible exact Below.refl _ _) | (with_reducible assumption) | (with_reducible refine Below.setCell ?_ ?_ _) | (with_reducible refine Below.alloc ?_ ?_ _) | (with_reducible refine Below.drew ?_) | (with_reducible refine belowN ?_ _) | (with_reducible refine below_after ?_ (by assumption) ?_) | omega | (simp; done) | (simp; omega)))) (t_a_list.below (by repeat' (first | (with_reducible exact Below.refl _ _) | (with_reducible assumption) | (with_reducible refine Below.setCell ?_ ?_ _) | (with_reducible refine Below.alloc ?_ ?_ _) | (with_reducible refine Below.drew ?_) | (with_reducible refine belowN ?_ _) | (with_reducible refine below_after ?_ (by assumption) ?_) | omega | (simp; done) | (simp; omega))))).mono ?_
                      rintro e w9 ⟨rfl, hb9⟩
                      rw [dec_t rfl]
                      go_wp2
                      go_roundw
                      case rel => exact ⟨k + 1, by omega, by go_num, at_step HX.out HY.out HJ.out, (by repeat' (first | (with_reducible exact Below.refl _ _) | (with_reducible assumption) | (with_reducible refine Below.setCell ?_ ?_ _) | (with_reducible refine Below.alloc ?_ ?_ _) | (with_reducible refine Below.drew ?_) | (with_reducible refine belowN ?_ _) | (with_reducible refine below_after ?_ (by assumption) ?_) | omega | (simp; done) | (simp; omega)))⟩
                      case measure => simp [intOf]; omega
                    · have HN : Hid (decide (x = y) = false) := dec_f (fun h => ne_at HX.out HY.out hxy (by rw [h]))
                      go_wp2_with fail
                      obtain ⟨W1, hW1⟩ : ∃ W1, W1 = wr.alloc (.cells #[.int .i64 p.c.kind, .string p.c.doc, .int .i64 p.c.client, .int .i64 p.c.seq, .int .i64 p.c.n, .slice aa_c_o p.c.o.length ca_c_o, .slice aa_c_text p.c.text.length ca_c_text, .int .i64 p.pc, .int .i64 p.inv, .int .i64 p.lin, .int .i64 p.res, .int .i64 p.a.code, .int .i64 p.a.rev, .slice aa_a_text p.a.text.length ca_a_text, .slice aa_a_list p.a.list.length ca_a_list] 62) := ⟨_, rfl⟩
                      have hbx : Below wr.heap.size wr W1 := by rw [hW1]; exact (Below.refl _ _).alloc (Nat.le_refl _) _
                      have hsx := hbx.size
                      have xx0 : W1.cell? ⟨wr.heap.size, 0, none⟩ = some (.int .i64 p.c.kind) := by rw [hW1]; simp
                      have xx1 : W1.cell? ⟨wr.heap.size, 1, none⟩ = some (.string p.c.doc) := by rw [hW1]; simp
                      have xx2 : W1.cell? ⟨wr.heap.size, 2, none⟩ = some (.int .i64 p.c.client) := by rw [hW1]; simp
                      have xx3 : W1.cell? ⟨wr.heap.size, 3, none⟩ = some (.int .i64 p.c.seq) := by rw [hW1]; simp
                      have xx4 : W1.cell? ⟨wr.heap.size, 4, none⟩ = some (.int .i64 p.c.n) := by rw [hW1]; simp
                      have xx5 : W1.cell? ⟨wr.heap.size, 5, none⟩ = some (.slice aa_c_o p.c.o.length ca_c_o) := by rw [hW1]; simp
                      have xx6 : W1.cell? ⟨wr.heap.size, 6, none⟩ = some (.slice aa_c_text p.c.text.length ca_c_text) := by rw [hW1]; simp
                      have xx7 : W1.cell? ⟨wr.heap.size, 7, none⟩ = some (.int .i64 p.pc) := by rw [hW1]; simp
                      have xx8 : W1.cell? ⟨wr.heap.size, 8, none⟩ = some (.int .i64 p.inv) := by rw [hW1]; simp
                      have xx9 : W1.cell? ⟨wr.heap.size, 9, none⟩ = some (.int .i64 p.lin) := by rw [hW1]; simp
                      have xx10 : W1.cell? ⟨wr.heap.size, 10, none⟩ = some (.int .i64 p.res) := by rw [hW1]; simp
                      have xx11 : W1.cell? ⟨wr.heap.size, 11, none⟩ = some (.int .i64 p.a.code) := by rw [hW1]; simp
                      have xx12 : W1.cell? ⟨wr.heap.size, 12, none⟩ = some (.int .i64 p.a.rev) := by rw [hW1]; simp
                      have xx13 : W1.cell? ⟨wr.heap.size, 13, none⟩ = some (.slice aa_a_text p.a.text.length ca_a_text) := by rw [hW1]; simp
                      have xx14 : W1.cell? ⟨wr.heap.size, 14, none⟩ = some (.slice aa_a_list p.a.list.length ca_a_list) := by rw [hW1]; simp
                      have qbx : W1.cell? ⟨w.heap.size + 1, 6, none⟩ = some u_tasks := (hbx.cell (p := ⟨w.heap.size + 1, 6, none⟩) z1).trans qb
                      have px0 := (hbx.cell (p := ⟨b2, o2, none⟩) l2).trans pp0
                      have px1 := (hbx.cell (p := ⟨b2, o2 + 1, none⟩) l2).trans pp1
                      have px2 := (hbx.cell (p := ⟨b2, o2 + 2, none⟩) l2).trans pp2
                      have px3 := (hbx.cell (p := ⟨b2, o2 + 3, none⟩) l2).trans pp3
                      have px4 := (hbx.cell (p := ⟨b2, o2 + 4, none⟩) l2).trans pp4
                      have px5 := (hbx.cell (p := ⟨b2, o2 + 5, none⟩) l2).trans pp5
                      have px6 := (hbx.cell (p := ⟨b2, o2 + 6, none⟩) l2).trans pp6
                      have px7 := (hbx.cell (p := ⟨b2, o2 + 7, none⟩) l2).trans pp7
                      have px8 := (hbx.cell (p := ⟨b2, o2 + 8, none⟩) l2).trans pp8
                      have px9 := (hbx.cell (p := ⟨b2, o2 + 9, none⟩) l2).trans pp9
                      have px10 := (hbx.cell (p := ⟨b2, o2 + 10, none⟩) l2).trans pp10
                      have px11 := (hbx.cell (p := ⟨b2, o2 + 11, none⟩) l2).trans pp11
                      have px12 := (hbx.cell (p := ⟨b2, o2 + 12, none⟩) l2).trans pp12
                      have px13 := (hbx.cell (p := ⟨b2, o2 + 13, none⟩) l2).trans pp13
                      have px14 := (hbx.cell (p := ⟨b2, o2 + 14, none⟩) l2).trans pp14
                      rw [← hW1]
                      clear hW1
                      go_still_tail 6, (by kernel_rfl)
                      go_wp2_with fail
                      refine (l14Same_c p q _ _ _ _ _ _ _ _ _ (r_c_o.below (by repeat' (first | (with_reducible exact Below.refl _ _) | (with_reducible assumption) | (with_reducible refine Below.setCell ?_ ?_ _) | (with_reducible refine Below.alloc ?_ ?_ _) | (with_reducible refine Below.drew ?_) | (with_reducible refine belowN ?_ _) | (with_reducible refine below_after ?_ (by assumption) ?_) | omega | (simp; done) | (simp; omega)))) (t_c_o.below (by repeat' (first | (with_reducible exact Below.refl _ _) | (with_reducible assumption) | (with_reducible refine Below.setCell ?_ ?_ _) | (with_reducible refine Below.alloc ?_ ?_ _) | (with_reducible refine Below.drew ?_) | (with_reducible refine belowN ?_ _) | (with_reducible refine below_after ?_ (by assumption) ?_) | omega | (simp; done) | (simp; omega)))) (r_c_text.below (by repeat' (first | (with_reducible exact Below.refl _ _) | (with_reducible assumption) | (with_reducible refine Below.setCell ?_ ?_ _) | (with_reducible refine Below.alloc ?_ ?_ _) | (with_reducible refine Below.drew ?_) | (with_reducible refine belowN ?_ _) | (with_reducible refine below_after ?_ (by assumption) ?_) | omega | (simp; done) | (simp; omega)))) (t_c_text.below (by repeat' (first | (with_reducible exact Below.refl _ _) | (with_reducible assumption) | (with_reducible refine Below.setCell ?_ ?_ _) | (with_reducible refine Below.alloc ?_ ?_ _) | (with_reducible refine Below.drew ?_) | (with_reducible refine belowN ?_ _) | (with_reducible refine below_after ?_ (by assumption) ?_) | omega | (simp; done) | (simp; omega)))) (r_a_text.below (by repeat' (first | (with_reducible exact Below.refl _ _) | (with_reducible assumption) | (with_reducible refine Below.setCell ?_ ?_ _) | (with_reducible refine Below.alloc ?_ ?_ _) | (with_reducible refine Below.drew ?_) | (with_reducible refine belowN ?_ _) | (with_reducible refine below_after ?_ (by assumption) ?_) | omega | (simp; done) | (simp; omega)))) (t_a_text.below (by repeat' (first | (with_reducible exact Below.refl _ _) | (with_reducible assumption) | (with_reducible refine Below.setCell ?_ ?_ _) | (with_reducible refine Below.alloc ?_ ?_ _) | (with_reducible refine Below.drew ?_) | (with_reducible refine belowN ?_ _) | (with_reducible refine below_after ?_ (by assumption) ?_) | omega | (simp; done) | (simp; omega)))) (r_a_list.below (by repeat' (first | (with_reducible exact Below.refl _ _) | (with_reducible assumption) | (with_reducible refine Below.setCell ?_ ?_ _) | (with_reducible refine Below.alloc ?_ ?_ _) | (with_reducible refine Below.drew ?_) | (with_reducible refine belowN ?_ _) | (with_reducible refine below_after ?_ (by assumption) ?_) | omega | (simp; done) | (simp; omega)))) (t_a_list.below (by repeat' (first | (with_reducible exact Below.refl _ _) | (with_reducible assumption) | (with_reducible refine Below.setCell ?_ ?_ _) | (with_reducible refine Below.alloc ?_ ?_ _) | (with_reducible refine Below.drew ?_) | (with_reducible refine belowN ?_ _) | (with_reducible refine below_after ?_ (by assumption) ?_) | omega | (simp; done) | (simp; omega))))).mono ?_
                      rintro e w9 ⟨rfl, hb9⟩
                      rw [dec_f hxy]
                      go_wp2
                      go_ret
                      exact ⟨ret_bool HN.out.symm, (by repeat' (first | (with_reducible exact Below.refl _ _) | (with_reducible assumption) | (with_reducible refine Below.setCell ?_ ?_ _) | (with_reducible refine Below.alloc ?_ ?_ _) | (with_reducible refine Below.drew ?_) | (with_reducible refine belowN ?_ _) | (with_reducible refine below_after ?_ (by assumption) ?_) | omega | (simp; done) | (simp; omega)))⟩
                  · skip
                    go_wp2
                    go_ret
                    have hll := list_eq_of_take E_len_tasks.out fun j hj => HJ.out j (by omega)
                    have HE : x = y := by
                      have e_h := E_h.out
                      have e_step := E_step.out
                      have e_locks := E_locks.out
                      have e_queues := E_queues.out
                      cases x; cases y; simp_all
                    exact ⟨ret_bool (dec_t HE).symm, hbw0⟩
          · rw [dec_f (fun h => e_len (by rw [h]))]
            go_enter Try.func47, Try.ntmps47
            go_wp2_with fail
            refine (spec_HubSame_c x.h y.h _ _ _ _ _ (h_h_docs.below (by repeat' (first | (with_reducible exact Below.refl _ _) | (with_reducible assumption) | (with_reducible refine Below.setCell ?_ ?_ _) | (with_reducible refine Below.alloc ?_ ?_ _) | (with_reducible refine Below.drew ?_) | (with_reducible refine belowN ?_ _) | (with_reducible refine below_after ?_ (by assumption) ?_) | omega | (simp; done) | (simp; omega)))) (k_h_docs.below (by repeat' (first | (with_reducible exact Below.refl _ _) | (with_reducible assumption) | (with_reducible refine Below.setCell ?_ ?_ _) | (with_reducible refine Below.alloc ?_ ?_ _) | (with_reducible refine Below.drew ?_) | (with_reducible refine belowN ?_ _) | (with_reducible refine below_after ?_ (by assumption) ?_) | omega | (simp; done) | (simp; omega)))) (h_h_subs.below (by repeat' (first | (with_reducible exact Below.refl _ _) | (with_reducible assumption) | (with_reducible refine Below.setCell ?_ ?_ _) | (with_reducible refine Below.alloc ?_ ?_ _) | (with_reducible refine Below.drew ?_) | (with_reducible refine belowN ?_ _) | (with_reducible refine below_after ?_ (by assumption) ?_) | omega | (simp; done) | (simp; omega)))) (k_h_subs.below (by repeat' (first | (with_reducible exact Below.refl _ _) | (with_reducible assumption) | (with_reducible refine Below.setCell ?_ ?_ _) | (with_reducible refine Below.alloc ?_ ?_ _) | (with_reducible refine Below.drew ?_) | (with_reducible refine belowN ?_ _) | (with_reducible refine below_after ?_ (by assumption) ?_) | omega | (simp; done) | (simp; omega))))).mono ?_
            rintro e w1 ⟨rfl, hb1⟩
            have s1 : w.heap.size + 2 ≤ w1.heap.size := (by have := hb1.size; (try simp at this); omega)
            obtain ⟨hc1, hf1⟩ := bcell hb1
            have z1_0 : w.heap.size < w1.heap.size := (by omega)
            have z1_1 : w.heap.size + 1 < w1.heap.size := (by omega)
            rw [dec_t E_h.out]
            go_wp2_with fail
            refine (spec_SignsSame_c _ _ _ _ _ (h_locks.below (by repeat' (first | (with_reducible exact Below.refl _ _) | (with_reducible assumption) | (with_reducible refine Below.setCell ?_ ?_ _) | (with_reducible refine Below.alloc ?_ ?_ _) | (with_reducible refine Below.drew ?_) | (with_reducible refine belowN ?_ _) | (with_reducible refine below_after ?_ (by assumption) ?_) | omega | (simp; done) | (simp; omega)))) (k_locks.below (by repeat' (first | (with_reducible exact Below.refl _ _) | (with_reducible assumption) | (with_reducible refine Below.setCell ?_ ?_ _) | (with_reducible refine Below.alloc ?_ ?_ _) | (with_reducible refine Below.drew ?_) | (with_reducible refine belowN ?_ _) | (with_reducible refine below_after ?_ (by assumption) ?_) | omega | (simp; done) | (simp; omega))))).mono ?_
            rintro e w2 ⟨rfl, hb2⟩
            have s2 : w1.heap.size ≤ w2.heap.size := (by have := hb2.size; (try simp at this); omega)
            obtain ⟨hc2, hf2⟩ := bcell hb2
            have z2_0 : w.heap.size < w2.heap.size := (by omega)
            have z2_1 : w.heap.size + 1 < w2.heap.size := (by omega)
            rw [dec_t E_locks.out]
            go_wp2
            go_ret
            exact ⟨rfl, (by repeat' (first | (with_reducible exact Below.refl _ _) | (with_reducible assumption) | (with_reducible refine Below.setCell ?_ ?_ _) | (with_reducible refine Below.alloc ?_ ?_ _) | (with_reducible refine Below.drew ?_) | (with_reducible refine belowN ?_ _) | (with_reducible refine below_after ?_ (by assumption) ?_) | omega | (simp; done) | (simp; omega)))⟩
        · rw [dec_f (fun h => e_len (by rw [h]))]
          go_enter Try.func47, Try.ntmps47
          go_wp2_with fail
          refine (spec_HubSame_c x.h y.h _ _ _ _ _ (h_h_docs.below (by repeat' (first | (with_reducible exact Below.refl _ _) | (with_reducible assumption) | (with_reducible refine Below.setCell ?_ ?_ _) | (with_reducible refine Below.alloc ?_ ?_ _) | (with_reducible refine Below.drew ?_) | (with_reducible refine belowN ?_ _) | (with_reducible refine below_after ?_ (by assumption) ?_) | omega | (simp; done) | (simp; omega)))) (k_h_docs.below (by repeat' (first | (with_reducible exact Below.refl _ _) | (with_reducible assumption) | (with_reducible refine Below.setCell ?_ ?_ _) | (with_reducible refine Below.alloc ?_ ?_ _) | (with_reducible refine Below.drew ?_) | (with_reducible refine belowN ?_ _) | (with_reducible refine below_after ?_ (by assumption) ?_) | omega | (simp; done) | (simp; omega)))) (h_h_subs.below (by repeat' (first | (with_reducible exact Below.refl _ _) | (with_reducible assumption) | (with_reducible refine Below.setCell ?_ ?_ _) | (with_reducible refine Below.alloc ?_ ?_ _) | (with_reducible refine Below.drew ?_) | (with_reducible refine belowN ?_ _) | (with_reducible refine below_after ?_ (by assumption) ?_) | omega | (simp; done) | (simp; omega)))) (k_h_subs.below (by repeat' (first | (with_reducible exact Below.refl _ _) | (with_reducible assumption) | (with_reducible refine Below.setCell ?_ ?_ _) | (with_reducible refine Below.alloc ?_ ?_ _) | (with_reducible refine Below.drew ?_) | (with_reducible refine belowN ?_ _) | (with_reducible refine below_after ?_ (by assumption) ?_) | omega | (simp; done) | (simp; omega))))).mono ?_
          rintro e w1 ⟨rfl, hb1⟩
          have s1 : w.heap.size + 2 ≤ w1.heap.size := (by have := hb1.size; (try simp at this); omega)
          obtain ⟨hc1, hf1⟩ := bcell hb1
          have z1_0 : w.heap.size < w1.heap.size := (by omega)
          have z1_1 : w.heap.size + 1 < w1.heap.size := (by omega)
          rw [dec_t E_h.out]
          go_wp2_with fail
          refine (spec_SignsSame_c _ _ _ _ _ (h_locks.below (by repeat' (first | (with_reducible exact Below.refl _ _) | (with_reducible assumption) | (with_reducible refine Below.setCell ?_ ?_ _) | (with_reducible refine Below.alloc ?_ ?_ _) | (with_reducible refine Below.drew ?_) | (with_reducible refine belowN ?_ _) | (with_reducible refine below_after ?_ (by assumption) ?_) | omega | (simp; done) | (simp; omega)))) (k_locks.below (by repeat' (first | (with_reducible exact Below.refl _ _) | (with_reducible assumption) | (with_reducible refine Below.setCell ?_ ?_ _) | (with_reducible refine Below.alloc ?_ ?_ _) | (with_reducible refine Below.drew ?_) | (with_reducible refine belowN ?_ _) | (with_reducible refine below_after ?_ (by assumption) ?_) | omega | (simp; done) | (simp; omega))))).mono ?_
          rintro e w2 ⟨rfl, hb2⟩
          have s2 : w1.heap.size ≤ w2.heap.size := (by have := hb2.size; (try simp at this); omega)
          obtain ⟨hc2, hf2⟩ := bcell hb2
          have z2_0 : w.heap.size < w2.heap.size := (by omega)
          have z2_1 : w.heap.size + 1 < w2.heap.size := (by omega)
          rw [dec_t E_locks.out]
          go_wp2
          go_ret
          exact ⟨rfl, (by repeat' (first | (with_reducible exact Below.refl _ _) | (with_reducible assumption) | (with_reducible refine Below.setCell ?_ ?_ _) | (with_reducible refine Below.alloc ?_ ?_ _) | (with_reducible refine Below.drew ?_) | (with_reducible refine belowN ?_ _) | (with_reducible refine below_after ?_ (by assumption) ?_) | omega | (simp; done) | (simp; omega)))⟩
      · rw [dec_f (fun h => e_locks (by rw [h]))]
        go_enter Try.func47, Try.ntmps47
        go_wp2_with fail
        refine (spec_HubSame_c x.h y.h _ _ _ _ _ (h_h_docs.below (by repeat' (first | (with_reducible exact Below.refl _ _) | (with_reducible assumption) | (with_reducible refine Below.setCell ?_ ?_ _) | (with_reducible refine Below.alloc ?_ ?_ _) | (with_reducible refine Below.drew ?_) | (with_reducible refine belowN ?_ _) | (with_reducible refine below_after ?_ (by assumption) ?_) | omega | (simp; done) | (simp; omega)))) (k_h_docs.below (by repeat' (first | (with_reducible exact Below.refl _ _) | (with_reducible assumption) | (with_reducible refine Below.setCell ?_ ?_ _) | (with_reducible refine Below.alloc ?_ ?_ _) | (with_reducible refine Below.drew ?_) | (with_reducible refine belowN ?_ _) | (with_reducible refine below_after ?_ (by assumption) ?_) | omega | (simp; done) | (simp; omega)))) (h_h_subs.below (by repeat' (first | (with_reducible exact Below.refl _ _) | (with_reducible assumption) | (with_reducible refine Below.setCell ?_ ?_ _) | (with_reducible refine Below.alloc ?_ ?_ _) | (with_reducible refine Below.drew ?_) | (with_reducible refine belowN ?_ _) | (with_reducible refine below_after ?_ (by assumption) ?_) | omega | (simp; done) | (simp; omega)))) (k_h_subs.below (by repeat' (first | (with_reducible exact Below.refl _ _) | (with_reducible assumption) | (with_reducible refine Below.setCell ?_ ?_ _) | (with_reducible refine Below.alloc ?_ ?_ _) | (with_reducible refine Below.drew ?_) | (with_reducible refine belowN ?_ _) | (with_reducible refine below_after ?_ (by assumption) ?_) | omega | (simp; done) | (simp; omega))))).mono ?_
        rintro e w1 ⟨rfl, hb1⟩
        have s1 : w.heap.size + 2 ≤ w1.heap.size := (by have := hb1.size; (try simp at this); omega)
        obtain ⟨hc1, hf1⟩ := bcell hb1
        have z1_0 : w.heap.size < w1.heap.size := (by omega)
        have z1_1 : w.heap.size + 1 < w1.heap.size := (by omega)
        rw [dec_t E_h.out]
        go_wp2_with fail
        refine (spec_SignsSame_c _ _ _ _ _ (h_locks.below (by repeat' (first | (with_reducible exact Below.refl _ _) | (with_reducible assumption) | (with_reducible refine Below.setCell ?_ ?_ _) | (with_reducible refine Below.alloc ?_ ?_ _) | (with_reducible refine Below.drew ?_) | (with_reducible refine belowN ?_ _) | (with_reducible refine below_after ?_ (by assumption) ?_) | omega | (simp; done) | (simp; omega)))) (k_locks.below (by repeat' (first | (with_reducible exact Below.refl _ _) | (with_reducible assumption) | (with_reducible refine Below.setCell ?_ ?_ _) | (with_reducible refine Below.alloc ?_ ?_ _) | (with_reducible refine Below.drew ?_) | (with_reducible refine belowN ?_ _) | (with_reducible refine below_after ?_ (by assumption) ?_) | omega | (simp; done) | (simp; omega))))).mono ?_
        rintro e w2 ⟨rfl, hb2⟩
        have s2 : w1.heap.size ≤ w2.heap.size := (by have := hb2.size; (try simp at this); omega)
        obtain ⟨hc2, hf2⟩ := bcell hb2
        have z2_0 : w.heap.size < w2.heap.size := (by omega)
        have z2_1 : w.heap.size + 1 < w2.heap.size := (by omega)
        rw [dec_f e_locks]
        go_wp2
        go_ret
        exact ⟨rfl, (by repeat' (first | (with_reducible exact Below.refl _ _) | (with_reducible assumption) | (with_reducible refine Below.setCell ?_ ?_ _) | (with_reducible refine Below.alloc ?_ ?_ _) | (with_reducible refine Below.drew ?_) | (with_reducible refine belowN ?_ _) | (with_reducible refine below_after ?_ (by assumption) ?_) | omega | (simp; done) | (simp; omega)))⟩
    · rw [dec_f (fun h => e_step (by rw [h]))]
      have E2_step : (x.step != y.step) = true := by simpa using e_step
      clear e_step
      go_enter Try.func47, Try.ntmps47
      go_wp2_with fail
      refine (spec_HubSame_c x.h y.h _ _ _ _ _ (h_h_docs.below (by repeat' (first | (with_reducible exact Below.refl _ _) | (with_reducible assumption) | (with_reducible refine Below.setCell ?_ ?_ _) | (with_reducible refine Below.alloc ?_ ?_ _) | (with_reducible refine Below.drew ?_) | (with_reducible refine belowN ?_ _) | (with_reducible refine below_after ?_ (by assumption) ?_) | omega | (simp; done) | (simp; omega)))) (k_h_docs.below (by repeat' (first | (with_reducible exact Below.refl _ _) | (with_reducible assumption) | (with_reducible refine Below.setCell ?_ ?_ _) | (with_reducible refine Below.alloc ?_ ?_ _) | (with_reducible refine Below.drew ?_) | (with_reducible refine belowN ?_ _) | (with_reducible refine below_after ?_ (by assumption) ?_) | omega | (simp; done) | (simp; omega)))) (h_h_subs.below (by repeat' (first | (with_reducible exact Below.refl _ _) | (with_reducible assumption) | (with_reducible refine Below.setCell ?_ ?_ _) | (with_reducible refine Below.alloc ?_ ?_ _) | (with_reducible refine Below.drew ?_) | (with_reducible refine belowN ?_ _) | (with_reducible refine below_after ?_ (by assumption) ?_) | omega | (simp; done) | (simp; omega)))) (k_h_subs.below (by repeat' (first | (with_reducible exact Below.refl _ _) | (with_reducible assumption) | (with_reducible refine Below.setCell ?_ ?_ _) | (with_reducible refine Below.alloc ?_ ?_ _) | (with_reducible refine Below.drew ?_) | (with_reducible refine belowN ?_ _) | (with_reducible refine below_after ?_ (by assumption) ?_) | omega | (simp; done) | (simp; omega))))).mono ?_
      rintro e w1 ⟨rfl, hb1⟩
      have s1 : w.heap.size + 2 ≤ w1.heap.size := (by have := hb1.size; (try simp at this); omega)
      obtain ⟨hc1, hf1⟩ := bcell hb1
      have z1_0 : w.heap.size < w1.heap.size := (by omega)
      have z1_1 : w.heap.size + 1 < w1.heap.size := (by omega)
      rw [dec_t E_h.out]
      go_wp2
      go_ret
      exact ⟨rfl, (by repeat' (first | (with_reducible exact Below.refl _ _) | (with_reducible assumption) | (with_reducible refine Below.setCell ?_ ?_ _) | (with_reducible refine Below.alloc ?_ ?_ _) | (with_reducible refine Below.drew ?_) | (with_reducible refine belowN ?_ _) | (with_reducible refine below_after ?_ (by assumption) ?_) | omega | (simp; done) | (simp; omega)))⟩
  · rw [dec_f (fun h => e_h (by rw [h]))]
    go_enter Try.func47, Try.ntmps47
    go_wp2_with fail
    refine (spec_HubSame_c x.h y.h _ _ _ _ _ (h_h_docs.below (by repeat' (first | (with_reducible exact Below.refl _ _) | (with_reducible assumption) | (with_reducible refine Below.setCell ?_ ?_ _) | (with_reducible refine Below.alloc ?_ ?_ _) | (with_reducible refine Below.drew ?_) | (with_reducible refine belowN ?_ _) | (with_reducible refine below_after ?_ (by assumption) ?_) | omega | (simp; done) | (simp; omega)))) (k_h_docs.below (by repeat' (first | (with_reducible exact Below.refl _ _) | (with_reducible assumption) | (with_reducible refine Below.setCell ?_ ?_ _) | (with_reducible refine Below.alloc ?_ ?_ _) | (with_reducible refine Below.drew ?_) | (with_reducible refine belowN ?_ _) | (with_reducible refine below_after ?_ (by assumption) ?_) | omega | (simp; done) | (simp; omega)))) (h_h_subs.below (by repeat' (first | (with_reducible exact Below.refl _ _) | (with_reducible assumption) | (with_reducible refine Below.setCell ?_ ?_ _) | (with_reducible refine Below.alloc ?_ ?_ _) | (with_reducible refine Below.drew ?_) | (with_reducible refine belowN ?_ _) | (with_reducible refine below_after ?_ (by assumption) ?_) | omega | (simp; done) | (simp; omega)))) (k_h_subs.below (by repeat' (first | (with_reducible exact Below.refl _ _) | (with_reducible assumption) | (with_reducible refine Below.setCell ?_ ?_ _) | (with_reducible refine Below.alloc ?_ ?_ _) | (with_reducible refine Below.drew ?_) | (with_reducible refine belowN ?_ _) | (with_reducible refine below_after ?_ (by assumption) ?_) | omega | (simp; done) | (simp; omega))))).mono ?_
    rintro e w1 ⟨rfl, hb1⟩
    have s1 : w.heap.size + 2 ≤ w1.heap.size := (by have := hb1.size; (try simp at this); omega)
    obtain ⟨hc1, hf1⟩ := bcell hb1
    have z1_0 : w.heap.size < w1.heap.size := (by omega)
    have z1_1 : w.heap.size + 1 < w1.heap.size := (by omega)
    rw [dec_f e_h]
    go_wp2
    go_ret
    exact ⟨rfl, (by repeat' (first | (with_reducible exact Below.refl _ _) | (with_reducible assumption) | (with_reducible refine Below.setCell ?_ ?_ _) | (with_reducible refine Below.alloc ?_ ?_ _) | (with_reducible refine Below.drew ?_) | (with_reducible refine belowN ?_ _) | (with_reducible refine below_after ?_ (by assumption) ?_) | omega | (simp; done) | (simp; omega)))⟩

end Go.Proofs.Ytfbkhaaijbhadaa
