/- Comparisons: they decide whether two data are alike. -/
import Derived.Test.YtfbkhaaijbhadaaCmp5
import Derived.Test.YtfbkhaaijbhadaaEq3
import Derived.Deep.RegionHeld3
import Derived.StillTailTactics
namespace Go.Proofs.Ytfbkhaaijbhadaa
open Go.RowKit

set_option maxHeartbeats 1000000 in
set_option maxRecDepth 100000 in
theorem EqualFunc_Doc_c (va vb : Value) (a b : List DDoc) (w : World) (ha : RdS w va a) (hb : RdS w vb b) :
    Calls Try.prog 143 #[va, vb, .func (.func 144) #[] #[]] w (Tells w (.bool (decide (a = b)))) := by
  have hla := fun w1 ty => ha.len Try.underlying85 w1 ty
  have hlb := fun w1 ty => hb.len Try.underlying85 w1 ty
  have ba := ha.le
  have bb := hb.le
  by_cases hl : a.length = b.length
  · have HL := Lib.hid hl
    rw [← hl] at hlb bb
    clear hl
    go_enter Try.func143, Try.ntmps143
    go_wp2
    go_loopw [17] (fun i wr => ∃ k : Nat, k ≤ a.length ∧ i = .int .i64 k ∧ (∀ j < k, a[j]? = b[j]?) ∧ Below w.heap.size w wr) (fun i _ => a.length - (intOf i).toNat)
    case atStart => exact ⟨0, Nat.zero_le _, rfl, fun _ h => absurd h (Nat.not_lt_zero _), Below.refl _ _⟩
    case round =>
      obtain ⟨k, hk, rfl, hj, hbw⟩ := hrel
      have hsz := hbw.size
      have HJ := Lib.hid hj; clear hj
      by_cases hlt : k < a.length
      · obtain ⟨x, hx⟩ := get_some hlt
        obtain ⟨y, hy⟩ := get_some (l := b) (k := k) (by rw [← HL.out]; exact hlt)
        obtain ⟨b1, o1, cs, h1, h2, h3⟩ := (ha.below hbw).idx Try.underlying85 szi_DDoc k hx
        obtain ⟨v_text, v_list, v_seen, rfl, _, r_text, r_list, r_seen⟩ := inv_DDoc h3
        obtain ⟨b2, o2, cs, g1, g2, g3⟩ := (hb.below hbw).idx Try.underlying85 szi_DDoc k hy
        obtain ⟨u_text, u_list, u_seen, rfl, _, t_text, t_list, t_seen⟩ := inv_DDoc g3
        have q0 := h2.zero
        have q1 := h2 1 _ rfl
        have q2 := h2 2 _ rfl
        have q3 := h2 3 _ rfl
        have q4 := h2 4 _ rfl
        have p0 := g2.zero
        have p1 := g2 1 _ rfl
        have p2 := g2 2 _ rfl
        have p3 := g2 3 _ rfl
        have p4 := g2 4 _ rfl
        have l1 : b1 < wr.heap.size := World.block_lt_of_cell? (w := wr) (a := ⟨b1, o1, none⟩) q0
        have l2 : b2 < wr.heap.size := World.block_lt_of_cell? (w := wr) (a := ⟨b2, o2, none⟩) p0
        obtain ⟨aa_text, ca_text, rfl⟩ := r_text.isSlice
        obtain ⟨ab_text, cb_text, rfl⟩ := t_text.isSlice
        obtain ⟨aa_list, ca_list, rfl⟩ := r_list.isSlice
        obtain ⟨ab_list, cb_list, rfl⟩ := t_list.isSlice
        obtain ⟨aa_seen, ca_seen, rfl⟩ := r_seen.isSlice
        obtain ⟨ab_seen, cb_seen, rfl⟩ := t_seen.isSlice
        have HX := Lib.hid hx; clear hx
        have HY := Lib.hid hy; clear hy
        by_cases hxy : x = y
        · subst hxy
          go_wp2_with fail
          refine (impl_DocSame_c x x _ _ _ _ _ _ _ (r_text.below (by repeat' (first | (with_reducible exact Below.refl _ _) | (with_reducible assumption) | (with_reducible refine Below.setCell ?_ ?_ _) | (with_reducible refine Below.alloc ?_ ?_ _) | (with_reducible refine Below.drew ?_) | (with_reducible refine belowN ?_ _) | (with_reducible refine below_after ?_ (by assumption) ?_) | omega | (simp; done) | (simp; omega)))) (t_text.below (by repeat' (first | (with_reducible exact Below.refl _ _) | (with_reducible assumption) | (with_reducible refine Below.setCell ?_ ?_ _) | (with_reducible refine Below.alloc ?_ ?_ _) | (with_reducible refine Below.drew ?_) | (with_reducible refine belowN ?_ _) | (with_reducible refine below_after ?_ (by assumption) ?_) | omega | (simp; done) | (simp; omega)))) (r_list.below (by repeat' (first | (with_reducible exact Below.refl _ _) | (with_reducible assumption) | (with_reducible refine Below.setCell ?_ ?_ _) | (with_reducible refine Below.alloc ?_ ?_ _) | (with_reducible refine Below.drew ?_) | (with_reducible refine belowN ?_ _) | (with_reducible refine below_after ?_ (by assumption) ?_) | omega | (simp; done) | (simp; omega)))) (t_list.below (by repeat' (first | (with_reducible exact Below.refl _ _) | (with_reducible assumption) | (with_reducible refine Below.setCell ?_ ?_ _) | (with_reducible refine Below.alloc ?_ ?_ _) | (with_reducible refine Below.drew ?_) | (with_reducible refine belowN ?_ _) | (with_reducible refine below_after ?_ (by assumption) ?_) | omega | (simp; done) | (simp; omega)))) (r_seen.below (by repeat' (first | (with_reducible exact Below.refl _ _) | (with_reducible assumption) | (with_reducible refine Below.setCell ?_ ?_ _) | (with_reducible refine Below.alloc ?_ ?_ _) | (with_reducible refine Below.drew ?_) | (with_reducible refine belowN ?_ _) | (with_reducible refine below_after ?_ (by assumption) ?_) | omega | (simp; done) | (simp; omega)))) (t_seen.below (by repeat' (first | (with_reducible exact Below.refl _ _) | (with_reducible assumption) | (with_reducible refine Below.setCell ?_ ?_ _) | (with_reducible refine Below.alloc ?_ ?_ _) | (with_reducible refine Below.drew ?_) | (with_reducible refine belowN ?_ _) | (with_reducible refine below_after ?_ (by assumption) ?_) | omega | (simp; done) | (simp; omega))))).mono ?_
          rintro e w2 ⟨rfl, hb2⟩
          rw [dec_t rfl]
          go_wp2
          go_roundw
          case rel => exact ⟨k + 1, by omega, by go_num, at_step HX.out HY.out HJ.out, (by repeat' (first | (with_reducible exact Below.refl _ _) | (with_reducible assumption) | (with_reducible refine Below.setCell ?_ ?_ _) | (with_reducible refine Below.alloc ?_ ?_ _) | (with_reducible refine Below.drew ?_) | (with_reducible refine belowN ?_ _) | (with_reducible refine below_after ?_ (by assumption) ?_) | omega | (simp; done) | (simp; omega)))⟩
          case measure => simp [intOf]; omega
        · have HN : Hid (decide (a = b) = false) := dec_f (ne_at HX.out HY.out hxy)
          go_wp2_with fail
          refine (impl_DocSame_c x y _ _ _ _ _ _ _ (r_text.below (by repeat' (first | (with_reducible exact Below.refl _ _) | (with_reducible assumption) | (with_reducible refine Below.setCell ?_ ?_ _) | (with_reducible refine Below.alloc ?_ ?_ _) | (with_reducible refine Below.drew ?_) | (with_reducible refine belowN ?_ _) | (with_reducible refine below_after ?_ (by assumption) ?_) | omega | (simp; done) | (simp; omega)))) (t_text.below (by repeat' (first | (with_reducible exact Below.refl _ _) | (with_reducible assumption) | (with_reducible refine Below.setCell ?_ ?_ _) | (with_reducible refine Below.alloc ?_ ?_ _) | (with_reducible refine Below.drew ?_) | (with_reducible refine belowN ?_ _) | (with_reducible refine below_after ?_ (by assumption) ?_) | omega | (simp; done) | (simp; omega)))) (r_list.below (by repeat' (first | (with_reducible exact Below.refl _ _) | (with_reducible assumption) | (with_reducible refine Below.setCell ?_ ?_ _) | (with_reducible refine Below.alloc ?_ ?_ _) | (with_reducible refine Below.drew ?_) | (with_reducible refine belowN ?_ _) | (with_reducible refine below_after ?_ (by assumption) ?_) | omega | (simp; done) | (simp; omega)))) (t_list.below (by repeat' (first | (with_reducible exact Below.refl _ _) | (with_reducible assumption) | (with_reducible refine Below.setCell ?_ ?_ _) | (with_reducible refine Below.alloc ?_ ?_ _) | (with_reducible refine Below.drew ?_) | (with_reducible refine belowN ?_ _) | (with_reducible refine below_after ?_ (by assumption) ?_) | omega | (simp; done) | (simp; omega)))) (r_seen.below (by repeat' (first | (with_reducible exact Below.refl _ _) | (with_reducible assumption) | (with_reducible refine Below.setCell ?_ ?_ _) | (with_reducible refine Below.alloc ?_ ?_ _) | (with_reducible refine Below.drew ?_) | (with_reducible refine belowN ?_ _) | (with_reducible refine below_after ?_ (by assumption) ?_) | omega | (simp; done) | (simp; omega)))) (t_seen.below (by repeat' (first | (with_reducible exact Below.refl _ _) | (with_reducible assumption) | (with_reducible refine Below.setCell ?_ ?_ _) | (with_reducible refine Below.alloc ?_ ?_ _) | (with_reducible refine Below.drew ?_) | (with_reducible refine belowN ?_ _) | (with_reducible refine below_after ?_ (by assumption) ?_) | omega | (simp; done) | (simp; omega))))).mono ?_
          rintro e w2 ⟨rfl, hb2⟩
          rw [dec_f hxy]
          go_wp2
          go_ret
          exact ⟨ret_bool HN.out.symm, (by repeat' (first | (with_reducible exact Below.refl _ _) | (with_reducible assumption) | (with_reducible refine Below.setCell ?_ ?_ _) | (with_reducible refine Below.alloc ?_ ?_ _) | (with_reducible refine Below.drew ?_) | (with_reducible refine belowN ?_ _) | (with_reducible refine below_after ?_ (by assumption) ?_) | omega | (simp; done) | (simp; omega)))⟩
      · go_wp2
        go_ret
        exact ⟨ret_bool (dec_t (list_eq_of_take HL.out fun j hj => HJ.out j (by omega))).symm, hbw⟩
  · rw [dec_f (fun e => hl (by rw [e]))]
    go_enter Try.func143, Try.ntmps143
    go_wp2
    go_ret
    exact ⟨rfl, Below.refl _ _⟩

set_option maxHeartbeats 1000000 in
theorem sameSub_c (x y : DSub) (v_r_list u_r_list : Value) (w : World) (h_r_list : RdS w v_r_list x.r.list) (k_r_list : RdS w u_r_list y.r.list) :
    Calls Try.prog 146 #[.agg #[.int .i64 x.id, .string x.doc, .int .i64 x.r.cap, .int .i64 x.r.next, .bool x.r.out, v_r_list], .agg #[.int .i64 y.id, .string y.doc, .int .i64 y.r.cap, .int .i64 y.r.next, .bool y.r.out, u_r_list]] w (Tells w (.bool (decide (x = y)))) := by
  by_cases e_id : x.id = y.id
  · have E_id := Lib.hid e_id
    have E2_id : (x.id == y.id) = true := by rw [e_id]; simp
    clear e_id
    by_cases e_doc : x.doc = y.doc
    · have E_doc := Lib.hid e_doc
      have E2_doc : (x.doc.toList == y.doc.toList) = true := str_t e_doc
      clear e_doc
      by_cases e_r : x.r = y.r
      · have E_r := Lib.hid e_r
        clear e_r
        have HE : Hid (x = y) := by
          have e_id := E_id.out
          have e_doc := E_doc.out
          have e_r := E_r.out
          show x = y
          cases x; cases y; simp_all
        rw [dec_t HE.out]
        go_enter Try.func146, Try.ntmps146
        go_wp2_with fail
        refine (impl_RingSame_c x.r y.r _ _ _ (h_r_list.below (by repeat' (first | (with_reducible exact Below.refl _ _) | (with_reducible assumption) | (with_reducible refine Below.setCell ?_ ?_ _) | (with_reducible refine Below.alloc ?_ ?_ _) | (with_reducible refine Below.drew ?_) | (with_reducible refine belowN ?_ _) | (with_reducible refine below_after ?_ (by assumption) ?_) | omega | (simp; done) | (simp; omega)))) (k_r_list.below (by repeat' (first | (with_reducible exact Below.refl _ _) | (with_reducible assumption) | (with_reducible refine Below.setCell ?_ ?_ _) | (with_reducible refine Below.alloc ?_ ?_ _) | (with_reducible refine Below.drew ?_) | (with_reducible refine belowN ?_ _) | (with_reducible refine below_after ?_ (by assumption) ?_) | omega | (simp; done) | (simp; omega))))).mono ?_
        rintro e w1 ⟨rfl, hb1⟩
        have s1 : w.heap.size + 2 ≤ w1.heap.size := (by have := hb1.size; (try simp at this); omega)
        obtain ⟨hc1, hf1⟩ := bcell hb1
        have z1_0 : w.heap.size < w1.heap.size := (by omega)
        have z1_1 : w.heap.size + 1 < w1.heap.size := (by omega)
        rw [dec_t E_r.out]
        go_wp2
        go_ret
        exact ⟨rfl, (by repeat' (first | (with_reducible exact Below.refl _ _) | (with_reducible assumption) | (with_reducible refine Below.setCell ?_ ?_ _) | (with_reducible refine Below.alloc ?_ ?_ _) | (with_reducible refine Below.drew ?_) | (with_reducible refine belowN ?_ _) | (with_reducible refine below_after ?_ (by assumption) ?_) | omega | (simp; done) | (simp; omega)))⟩
      · rw [dec_f (fun h => e_r (by rw [h]))]
        go_enter Try.func146, Try.ntmps146
        go_wp2_with fail
        refine (impl_RingSame_c x.r y.r _ _ _ (h_r_list.below (by repeat' (first | (with_reducible exact Below.refl _ _) | (with_reducible assumption) | (with_reducible refine Below.setCell ?_ ?_ _) | (with_reducible refine Below.alloc ?_ ?_ _) | (with_reducible refine Below.drew ?_) | (with_reducible refine belowN ?_ _) | (with_reducible refine below_after ?_ (by assumption) ?_) | omega | (simp; done) | (simp; omega)))) (k_r_list.below (by repeat' (first | (with_reducible exact Below.refl _ _) | (with_reducible assumption) | (with_reducible refine Below.setCell ?_ ?_ _) | (with_reducible refine Below.alloc ?_ ?_ _) | (with_reducible refine Below.drew ?_) | (with_reducible refine belowN ?_ _) | (with_reducible refine below_after ?_ (by assumption) ?_) | omega | (simp; done) | (simp; omega))))).mono ?_
        rintro e w1 ⟨rfl, hb1⟩
        have s1 : w.heap.size + 2 ≤ w1.heap.size := (by have := hb1.size; (try simp at this); omega)
        obtain ⟨hc1, hf1⟩ := bcell hb1
        have z1_0 : w.heap.size < w1.heap.size := (by omega)
        have z1_1 : w.heap.size + 1 < w1.heap.size := (by omega)
        rw [dec_f e_r]
        go_wp2
        go_ret
        exact ⟨rfl, (by repeat' (first | (with_reducible exact Below.refl _ _) | (with_reducible assumption) | (with_reducible refine Below.setCell ?_ ?_ _) | (with_reducible refine Below.alloc ?_ ?_ _) | (with_reducible refine Below.drew ?_) | (with_reducible refine belowN ?_ _) | (with_reducible refine below_after ?_ (by assumption) ?_) | omega | (simp; done) | (simp; omega)))⟩
    · rw [dec_f (fun h => e_doc (by rw [h]))]
      have E2_doc : (x.doc.toList == y.doc.toList) = false := str_f e_doc
      clear e_doc
      go_enter Try.func146, Try.ntmps146
      go_wp2
      go_ret
      exact ⟨rfl, (by repeat' (first | (with_reducible exact Below.refl _ _) | (with_reducible assumption) | (with_reducible refine Below.setCell ?_ ?_ _) | (with_reducible refine Below.alloc ?_ ?_ _) | (with_reducible refine Below.drew ?_) | (with_reducible refine belowN ?_ _) | (with_reducible refine below_after ?_ (by assumption) ?_) | omega | (simp; done) | (simp; omega)))⟩
  · rw [dec_f (fun h => e_id (by rw [h]))]
    have E2_id : (x.id == y.id) = false := by simpa using e_id
    clear e_id
    go_enter Try.func146, Try.ntmps146
    go_wp2
    go_ret
    exact ⟨rfl, (by repeat' (first | (with_reducible exact Below.refl _ _) | (with_reducible assumption) | (with_reducible refine Below.setCell ?_ ?_ _) | (with_reducible refine Below.alloc ?_ ?_ _) | (with_reducible refine Below.drew ?_) | (with_reducible refine belowN ?_ _) | (with_reducible refine below_after ?_ (by assumption) ?_) | omega | (simp; done) | (simp; omega)))⟩

set_option maxHeartbeats 1000000 in
set_option maxRecDepth 100000 in
theorem EqualFunc_Sub_c (va vb : Value) (a b : List DSub) (w : World) (ha : RdS w va a) (hb : RdS w vb b) :
    Calls Try.prog 145 #[va, vb, .func (.func 146) #[] #[]] w (Tells w (.bool (decide (a = b)))) := by
  have hla := fun w1 ty => ha.len Try.underlying86 w1 ty
  have hlb := fun w1 ty => hb.len Try.underlying86 w1 ty
  have ba := ha.le
  have bb := hb.le
  by_cases hl : a.length = b.length
  · have HL := Lib.hid hl
    rw [← hl] at hlb bb
    clear hl
    go_enter Try.func145, Try.ntmps145
    go_wp2
    go_loopw [17] (fun i wr => ∃ k : Nat, k ≤ a.length ∧ i = .int .i64 k ∧ (∀ j < k, a[j]? = b[j]?) ∧ Below w.heap.size w wr) (fun i _ => a.length - (intOf i).toNat)
    case atStart => exact ⟨0, Nat.zero_le _, rfl, fun _ h => absurd h (Nat.not_lt_zero _), Below.refl _ _⟩
    case round =>
      obtain ⟨k, hk, rfl, hj, hbw⟩ := hrel
      have hsz := hbw.size
      have HJ := Lib.hid hj; clear hj
      by_cases hlt : k < a.length
      · obtain ⟨x, hx⟩ := get_some hlt
        obtain ⟨y, hy⟩ := get_some (l := b) (k := k) (by rw [← HL.out]; exact hlt)
        obtain ⟨b1, o1, cs, h1, h2, h3⟩ := (ha.below hbw).idx Try.underlying86 szi_DSub k hx
        obtain ⟨v_r_list, rfl, _, r_r_list⟩ := inv_DSub h3
        obtain ⟨b2, o2, cs, g1, g2, g3⟩ := (hb.below hbw).idx Try.underlying86 szi_DSub k hy
        obtain ⟨u_r_list, rfl, _, t_r_list⟩ := inv_DSub g3
        have q0 := h2.zero
        have q1 := h2 1 _ rfl
        have q2 := h2 2 _ rfl
        have q3 := h2 3 _ rfl
        have q4 := h2 4 _ rfl
        have q5 := h2 5 _ rfl
        have p0 := g2.zero
        have p1 := g2 1 _ rfl
        have p2 := g2 2 _ rfl
        have p3 := g2 3 _ rfl
        have p4 := g2 4 _ rfl
        have p5 := g2 5 _ rfl
        have l1 : b1 < wr.heap.size := World.block_lt_of_cell? (w := wr) (a := ⟨b1, o1, none⟩) q0
        have l2 : b2 < wr.heap.size := World.block_lt_of_cell? (w := wr) (a := ⟨b2, o2, none⟩) p0
        obtain ⟨aa_r_list, ca_r_list, rfl⟩ := r_r_list.isSlice
        obtain ⟨ab_r_list, cb_r_list, rfl⟩ := t_r_list.isSlice
        have HX := Lib.hid hx; clear hx
        have HY := Lib.hid hy; clear hy
        by_cases hxy : x = y
        · subst hxy
          go_wp2_with fail
          refine (sameSub_c x x _ _ _ (r_r_list.below (by repeat' (first | (with_reducible exact Below.refl _ _) | (with_reducible assumption) | (with_reducible refine Below.setCell ?_ ?_ _) | (with_reducible refine Below.alloc ?_ ?_ _) | (with_reducible refine Below.drew ?_) | (with_reducible refine belowN ?_ _) | (with_reducible refine below_after ?_ (by assumption) ?_) | omega | (simp; done) | (simp; omega)))) (t_r_list.below (by repeat' (first | (with_reducible exact Below.refl _ _) | (with_reducible assumption) | (with_reducible refine Below.setCell ?_ ?_ _) | (with_reducible refine Below.alloc ?_ ?_ _) | (with_reducible refine Below.drew ?_) | (with_reducible refine belowN ?_ _) | (with_reducible refine below_after ?_ (by assumption) ?_) | omega | (simp; done) | (simp; omega))))).mono ?_
          rintro e w2 ⟨rfl, hb2⟩
          rw [dec_t rfl]
          go_wp2
          go_roundw
          case rel => exact ⟨k + 1, by omega, by go_num, at_step HX.out HY.out HJ.out, (by repeat' (first | (with_reducible exact Below.refl _ _) | (with_reducible assumption) | (with_reducible refine Below.setCell ?_ ?_ _) | (with_reducible refine Below.alloc ?_ ?_ _) | (with_reducible refine Below.drew ?_) | (with_reducible refine belowN ?_ _) | (with_reducible refine below_after ?_ (by assumption) ?_) | omega | (simp; done) | (simp; omega)))⟩
          case measure => simp [intOf]; omega
        · have HN : Hid (decide (a = b) = false) := dec_f (ne_at HX.out HY.out hxy)
          go_wp2_with fail
          refine (sameSub_c x y _ _ _ (r_r_list.below (by repeat' (first | (with_reducible exact Below.refl _ _) | (with_reducible assumption) | (with_reducible refine Below.setCell ?_ ?_ _) | (with_reducible refine Below.alloc ?_ ?_ _) | (with_reducible refine Below.drew ?_) | (with_reducible refine belowN ?_ _) | (with_reducible refine below_after ?_ (by assumption) ?_) | omega | (simp; done) | (simp; omega)))) (t_r_list.below (by repeat' (first | (with_reducible exact Below.refl _ _) | (with_reducible assumption) | (with_reducible refine Below.setCell ?_ ?_ _) | (with_reducible refine Below.alloc ?_ ?_ _) | (with_reducible refine Below.drew ?_) | (with_reducible refine belowN ?_ _) | (with_reducible refine below_after ?_ (by assumption) ?_) | omega | (simp; done) | (simp; omega))))).mono ?_
          rintro e w2 ⟨rfl, hb2⟩
          rw [dec_f hxy]
          go_wp2
          go_ret
          exact ⟨ret_bool HN.out.symm, (by repeat' (first | (with_reducible exact Below.refl _ _) | (with_reducible assumption) | (with_reducible refine Below.setCell ?_ ?_ _) | (with_reducible refine Below.alloc ?_ ?_ _) | (with_reducible refine Below.drew ?_) | (with_reducible refine belowN ?_ _) | (with_reducible refine below_after ?_ (by assumption) ?_) | omega | (simp; done) | (simp; omega)))⟩
      · go_wp2
        go_ret
        exact ⟨ret_bool (dec_t (list_eq_of_take HL.out fun j hj => HJ.out j (by omega))).symm, hbw⟩
  · rw [dec_f (fun e => hl (by rw [e]))]
    go_enter Try.func145, Try.ntmps145
    go_wp2
    go_ret
    exact ⟨rfl, Below.refl _ _⟩

set_option maxHeartbeats 1000000 in
theorem impl_HubSame_c (x y : DHub) (v_docs u_docs : Value) (v_subs u_subs : Value) (w : World) (h_docs : RdS w v_docs x.docs) (k_docs : RdS w u_docs y.docs) (h_subs : RdS w v_subs x.subs) (k_subs : RdS w u_subs y.subs) :
    Calls Try.prog 99 #[.agg #[.bool x.shut, v_docs, v_subs, .int .i64 x.last], .agg #[.bool y.shut, u_docs, u_subs, .int .i64 y.last]] w (Tells w (.bool (decide (x = y)))) := by
  by_cases e_shut : x.shut = y.shut
  · have E_shut := Lib.hid e_shut
    have E2_shut : (x.shut == y.shut) = true := by rw [e_shut]; simp
    clear e_shut
    by_cases e_last : x.last = y.last
    · have E_last := Lib.hid e_last
      have E2_last : (x.last == y.last) = true := by rw [e_last]; simp
      clear e_last
      by_cases e_docs : x.docs = y.docs
      · have E_docs := Lib.hid e_docs
        clear e_docs
        by_cases e_subs : x.subs = y.subs
        · have E_subs := Lib.hid e_subs
          clear e_subs
          have HE : Hid (x = y) := by
            have e_shut := E_shut.out
            have e_last := E_last.out
            have e_docs := E_docs.out
            have e_subs := E_subs.out
            show x = y
            cases x; cases y; simp_all
          rw [dec_t HE.out]
          go_enter Try.func99, Try.ntmps99
          go_wp2_with fail
          refine (EqualFunc_Doc_c _ _ _ _ _ (h_docs.below (by repeat' (first | (with_reducible exact Below.refl _ _) | (with_reducible assumption) | (with_reducible refine Below.setCell ?_ ?_ _) | (with_reducible refine Below.alloc ?_ ?_ _) | (with_reducible refine Below.drew ?_) | (with_reducible refine belowN ?_ _) | (with_reducible refine below_after ?_ (by assumption) ?_) | omega | (simp; done) | (simp; omega)))) (k_docs.below (by repeat' (first | (with_reducible exact Below.refl _ _) | (with_reducible assumption) | (with_reducible refine Below.setCell ?_ ?_ _) | (with_reducible refine Below.alloc ?_ ?_ _) | (with_reducible refine Below.drew ?_) | (with_reducible refine belowN ?_ _) | (with_reducible refine below_after ?_ (by assumption) ?_) | omega | (simp; done) | (simp; omega))))).mono ?_
          rintro e w1 ⟨rfl, hb1⟩
          have s1 : w.heap.size + 2 ≤ w1.heap.size := (by have := hb1.size; (try simp at this); omega)
          obtain ⟨hc1, hf1⟩ := bcell hb1
          have z1_0 : w.heap.size < w1.heap.size := (by omega)
          have z1_1 : w.heap.size + 1 < w1.heap.size := (by omega)
          rw [dec_t E_docs.out]
          go_wp2_with fail
          refine (EqualFunc_Sub_c _ _ _ _ _ (h_subs.below (by repeat' (first | (with_reducible exact Below.refl _ _) | (with_reducible assumption) | (with_reducible refine Below.setCell ?_ ?_ _) | (with_reducible refine Below.alloc ?_ ?_ _) | (with_reducible refine Below.drew ?_) | (with_reducible refine belowN ?_ _) | (with_reducible refine below_after ?_ (by assumption) ?_) | omega | (simp; done) | (simp; omega)))) (k_subs.below (by repeat' (first | (with_reducible exact Below.refl _ _) | (with_reducible assumption) | (with_reducible refine Below.setCell ?_ ?_ _) | (with_reducible refine Below.alloc ?_ ?_ _) | (with_reducible refine Below.drew ?_) | (with_reducible refine belowN ?_ _) | (with_reducible refine below_after ?_ (by assumption) ?_) | omega | (simp; done) | (simp; omega))))).mono ?_
          rintro e w2 ⟨rfl, hb2⟩
          have s2 : w1.heap.size ≤ w2.heap.size := (by have := hb2.size; (try simp at this); omega)
          obtain ⟨hc2, hf2⟩ := bcell hb2
          have z2_0 : w.heap.size < w2.heap.size := (by omega)
          have z2_1 : w.heap.size + 1 < w2.heap.size := (by omega)
          rw [dec_t E_subs.out]
          go_wp2
          go_ret
          exact ⟨rfl, (by repeat' (first | (with_reducible exact Below.refl _ _) | (with_reducible assumption) | (with_reducible refine Below.setCell ?_ ?_ _) | (with_reducible refine Below.alloc ?_ ?_ _) | (with_reducible refine Below.drew ?_) | (with_reducible refine belowN ?_ _) | (with_reducible refine below_after ?_ (by assumption) ?_) | omega | (simp; done) | (simp; omega)))⟩
        · rw [dec_f (fun h => e_subs (by rw [h]))]
          go_enter Try.func99, Try.ntmps99
          go_wp2_with fail
          refine (EqualFunc_Doc_c _ _ _ _ _ (h_docs.below (by repeat' (first | (with_reducible exact Below.refl _ _) | (with_reducible assumption) | (with_reducible refine Below.setCell ?_ ?_ _) | (with_reducible refine Below.alloc ?_ ?_ _) | (with_reducible refine Below.drew ?_) | (with_reducible refine belowN ?_ _) | (with_reducible refine below_after ?_ (by assumption) ?_) | omega | (simp; done) | (simp; omega)))) (k_docs.below (by repeat' (first | (with_reducible exact Below.refl _ _) | (with_reducible assumption) | (with_reducible refine Below.setCell ?_ ?_ _) | (with_reducible refine Below.alloc ?_ ?_ _) | (with_reducible refine Below.drew ?_) | (with_reducible refine belowN ?_ _) | (with_reducible refine below_after ?_ (by assumption) ?_) | omega | (simp; done) | (simp; omega))))).mono ?_
          rintro e w1 ⟨rfl, hb1⟩
          have s1 : w.heap.size + 2 ≤ w1.heap.size := (by have := hb1.size; (try simp at this); omega)
          obtain ⟨hc1, hf1⟩ := bcell hb1
          have z1_0 : w.heap.size < w1.heap.size := (by omega)
          have z1_1 : w.heap.size + 1 < w1.heap.size := (by omega)
          rw [dec_t E_docs.out]
          go_wp2_with fail
          refine (EqualFunc_Sub_c _ _ _ _ _ (h_subs.below (by repeat' (first | (with_reducible exact Below.refl _ _) | (with_reducible assumption) | (with_reducible refine Below.setCell ?_ ?_ _) | (with_reducible refine Below.alloc ?_ ?_ _) | (with_reducible refine Below.drew ?_) | (with_reducible refine belowN ?_ _) | (with_reducible refine below_after ?_ (by assumption) ?_) | omega | (simp; done) | (simp; omega)))) (k_subs.below (by repeat' (first | (with_reducible exact Below.refl _ _) | (with_reducible assumption) | (with_reducible refine Below.setCell ?_ ?_ _) | (with_reducible refine Below.alloc ?_ ?_ _) | (with_reducible refine Below.drew ?_) | (with_reducible refine belowN ?_ _) | (with_reducible refine below_after ?_ (by assumption) ?_) | omega | (simp; done) | (simp; omega))))).mono ?_
          rintro e w2 ⟨rfl, hb2⟩
          have s2 : w1.heap.size ≤ w2.heap.size := (by have := hb2.size; (try simp at this); omega)
          obtain ⟨hc2, hf2⟩ := bcell hb2
          have z2_0 : w.heap.size < w2.heap.size := (by omega)
          have z2_1 : w.heap.size + 1 < w2.heap.size := (by omega)
          rw [dec_f e_subs]
          go_wp2
          go_ret
          exact ⟨rfl, (by repeat' (first | (with_reducible exact Below.refl _ _) | (with_reducible assumption) | (with_reducible refine Below.setCell ?_ ?_ _) | (with_reducible refine Below.alloc ?_ ?_ _) | (with_reducible refine Below.drew ?_) | (with_reducible refine belowN ?_ _) | (with_reducible refine below_after ?_ (by assumption) ?_) | omega | (simp; done) | (simp; omega)))⟩
      · rw [dec_f (fun h => e_docs (by rw [h]))]
        go_enter Try.func99, Try.ntmps99
        go_wp2_with fail
        refine (EqualFunc_Doc_c _ _ _ _ _ (h_docs.below (by repeat' (first | (with_reducible exact Below.refl _ _) | (with_reducible assumption) | (with_reducible refine Below.setCell ?_ ?_ _) | (with_reducible refine Below.alloc ?_ ?_ _) | (with_reducible refine Below.drew ?_) | (with_reducible refine belowN ?_ _) | (with_reducible refine below_after ?_ (by assumption) ?_) | omega | (simp; done) | (simp; omega)))) (k_docs.below (by repeat' (first | (with_reducible exact Below.refl _ _) | (with_reducible assumption) | (with_reducible refine Below.setCell ?_ ?_ _) | (with_reducible refine Below.alloc ?_ ?_ _) | (with_reducible refine Below.drew ?_) | (with_reducible refine belowN ?_ _) | (with_reducible refine below_after ?_ (by assumption) ?_) | omega | (simp; done) | (simp; omega))))).mono ?_
        rintro e w1 ⟨rfl, hb1⟩
        have s1 : w.heap.size + 2 ≤ w1.heap.size := (by have := hb1.size; (try simp at this); omega)
        obtain ⟨hc1, hf1⟩ := bcell hb1
        have z1_0 : w.heap.size < w1.heap.size := (by omega)
        have z1_1 : w.heap.size + 1 < w1.heap.size := (by omega)
        rw [dec_f e_docs]
        go_wp2
        go_ret
        exact ⟨rfl, (by repeat' (first | (with_reducible exact Below.refl _ _) | (with_reducible assumption) | (with_reducible refine Below.setCell ?_ ?_ _) | (with_reducible refine Below.alloc ?_ ?_ _) | (with_reducible refine Below.drew ?_) | (with_reducible refine belowN ?_ _) | (with_reducible refine below_after ?_ (by assumption) ?_) | omega | (simp; done) | (simp; omega)))⟩
    · rw [dec_f (fun h => e_last (by rw [h]))]
      have E2_last : (x.last == y.last) = false := by simpa using e_last
      clear e_last
      go_enter Try.func99, Try.ntmps99
      go_wp2
      go_ret
      exact ⟨rfl, (by repeat' (first | (with_reducible exact Below.refl _ _) | (with_reducible assumption) | (with_reducible refine Below.setCell ?_ ?_ _) | (with_reducible refine Below.alloc ?_ ?_ _) | (with_reducible refine Below.drew ?_) | (with_reducible refine belowN ?_ _) | (with_reducible refine below_after ?_ (by assumption) ?_) | omega | (simp; done) | (simp; omega)))⟩
  · rw [dec_f (fun h => e_shut (by rw [h]))]
    have E2_shut : (x.shut == y.shut) = false := by simpa using e_shut
    clear e_shut
    go_enter Try.func99, Try.ntmps99
    go_wp2
    go_ret
    exact ⟨rfl, (by repeat' (first | (with_reducible exact Below.refl _ _) | (with_reducible assumption) | (with_reducible refine Below.setCell ?_ ?_ _) | (with_reducible refine Below.alloc ?_ ?_ _) | (with_reducible refine Below.drew ?_) | (with_reducible refine belowN ?_ _) | (with_reducible refine below_after ?_ (by assumption) ?_) | omega | (simp; done) | (simp; omega)))⟩

set_option maxHeartbeats 4000000 in
set_option maxRecDepth 100000 in
theorem spec_HubSame_c (x y : DHub) (v_docs u_docs : Value) (v_subs u_subs : Value) (w : World) (h_docs : RdS w v_docs x.docs) (k_docs : RdS w u_docs y.docs) (h_subs : RdS w v_subs x.subs) (k_subs : RdS w u_subs y.subs) :
    Calls Try.prog 96 #[.agg #[.bool x.shut, v_docs, v_subs, .int .i64 x.last], .agg #[.bool y.shut, u_docs, u_subs, .int .i64 y.last]] w (Tells w (.bool (decide (x = y)))) := by
  have hlv_docs := fun w1 ty => h_docs.len Try.underlying85 w1 ty
  have hlu_docs := fun w1 ty => k_docs.len Try.underlying85 w1 ty
  have bv_docs := h_docs.le
  have bu_docs := k_docs.le
  have hlv_subs := fun w1 ty => h_subs.len Try.underlying86 w1 ty
  have hlu_subs := fun w1 ty => k_subs.len Try.underlying86 w1 ty
  have bv_subs := h_subs.le
  have bu_subs := k_subs.le
  by_cases e_shut : x.shut = y.shut
  · have E_shut := Lib.hid e_shut
    rw [e_shut]
    clear e_shut
    by_cases e_last : x.last = y.last
    · have E_last := Lib.hid e_last
      have E2_last : (x.last != y.last) = false := by rw [e_last]; simp
      clear e_last
      by_cases e_len : x.docs.length = y.docs.length
      · have E_len_docs := Lib.hid e_len
        rw [← e_len] at hlu_docs
        clear e_len
        by_cases e_len : x.subs.length = y.subs.length
        · have E_len_subs := Lib.hid e_len
          rw [← e_len] at hlu_subs
          clear e_len
          go_enter Try.func96, Try.ntmps96
          go_wp2
          go_loopw [43] (fun i wr => ∃ k : Nat, k ≤ x.docs.length ∧ i = .int .i64 k ∧ (∀ j < k, x.docs[j]? = y.docs[j]?) ∧ Below (w.heap.size + 2) ((w.alloc (.cells #[.bool y.shut, v_docs, v_subs, .int .i64 x.last] 88)).alloc (.cells #[.bool y.shut, u_docs, u_subs, .int .i64 y.last] 88)) wr) (fun i _ => x.docs.length - (intOf i).toNat)
          case atStart => exact ⟨0, Nat.zero_le _, rfl, fun _ h => absurd h (Nat.not_lt_zero _), (by repeat' (first | (with_reducible exact Below.refl _ _) | (with_reducible assumption) | (with_reducible refine Below.setCell ?_ ?_ _) | (with_reducible refine Below.alloc ?_ ?_ _) | (with_reducible refine Below.drew ?_) | (with_reducible refine belowN ?_ _) | (with_reducible refine below_after ?_ (by assumption) ?_) | omega | (simp; done) | (simp; omega)))⟩
          case round =>
            obtain ⟨k, hk, rfl, hj, hbw⟩ := hrel
            have hsz := hbw.size
            simp only [World.size_alloc] at hsz
            have hbw0 : Below w.heap.size w wr := (((Below.refl _ _).alloc (Nat.le_refl _) _).alloc (by simp) _).trans (hbw.mono (by omega))
            have HJ := Lib.hid hj; clear hj
            have qb : wr.cell? ⟨w.heap.size + 1, 1, none⟩ = some u_docs := by rw [hbw.cell (Nat.lt_succ_self _)]; simp
            by_cases hlt : k < x.docs.length
            · obtain ⟨p, hx⟩ := get_some hlt
              obtain ⟨q, hy⟩ := get_some (l := y.docs) (k := k) (by rw [← E_len_docs.out]; exact hlt)
              obtain ⟨b1, o1, cs, h1, h2, h3⟩ := (h_docs.below hbw0).idx Try.underlying85 szi_DDoc k hx
              obtain ⟨v_text, v_list, v_seen, rfl, _, r_text, r_list, r_seen⟩ := inv_DDoc h3
              obtain ⟨b2, o2, cs, g1, g2, g3⟩ := (k_docs.below hbw0).idx Try.underlying85 szi_DDoc k hy
              obtain ⟨u_text, u_list, u_seen, rfl, _, t_text, t_list, t_seen⟩ := inv_DDoc g3
              have qq0 := h2.zero
              have qq1 := h2 1 _ rfl
              have qq2 := h2 2 _ rfl
              have qq3 := h2 3 _ rfl
              have qq4 := h2 4 _ rfl
              have pp0 := g2.zero
              have pp1 := g2 1 _ rfl
              have pp2 := g2 2 _ rfl
              have pp3 := g2 3 _ rfl
              have pp4 := g2 4 _ rfl
              have l1 : b1 < wr.heap.size := World.block_lt_of_cell? (w := wr) (a := ⟨b1, o1, none⟩) qq0
              have l2 : b2 < wr.heap.size := World.block_lt_of_cell? (w := wr) (a := ⟨b2, o2, none⟩) pp0
              obtain ⟨aa_text, ca_text, rfl⟩ := r_text.isSlice
              obtain ⟨ab_text, cb_text, rfl⟩ := t_text.isSlice
              obtain ⟨aa_list, ca_list, rfl⟩ := r_list.isSlice
              obtain ⟨ab_list, cb_list, rfl⟩ := t_list.isSlice
              obtain ⟨aa_seen, ca_seen, rfl⟩ := r_seen.isSlice
              obtain ⟨ab_seen, cb_seen, rfl⟩ := t_seen.isSlice
              have z1 : w.heap.size + 1 < wr.heap.size := by omega
              have HX := Lib.hid hx; clear hx
              have HY := Lib.hid hy; clear hy
              by_cases hxy : p = q
              · subst hxy
                go_wp2_with fail
                obtain ⟨W1, hW1⟩ : ∃ W1, W1 = wr.alloc (.cells #[.string p.name, .int .i64 p.from_, .slice aa_text p.text.length ca_text, .slice aa_list p.list.length ca_list, .slice aa_seen p.seen.length ca_seen] 167) := ⟨_, rfl⟩
                have hbx : Below wr.heap.size wr W1 := by rw [hW1]; exact (Below.refl _ _).alloc (Nat.le_refl _) _
                have hsx := hbx.size
                have xx0 : W1.cell? ⟨wr.heap.size, 0, none⟩ = some (.string p.name) := by rw [hW1]; simp
                have xx1 : W1.cell? ⟨wr.heap.size, 1, none⟩ = some (.int .i64 p.from_) := by rw [hW1]; simp
                have xx2 : W1.cell? ⟨wr.heap.size, 2, none⟩ = some (.slice aa_text p.text.length ca_text) := by rw [hW1]; simp
                have xx3 : W1.cell? ⟨wr.heap.size, 3, none⟩ = some (.slice aa_list p.list.length ca_list) := by rw [hW1]; simp
                have xx4 : W1.cell? ⟨wr.heap.size, 4, none⟩ = some (.slice aa_seen p.seen.length ca_seen) := by rw [hW1]; simp
                have qbx : W1.cell? ⟨w.heap.size + 1, 1, none⟩ = some u_docs := (hbx.cell (p := ⟨w.heap.size + 1, 1, none⟩) z1).trans qb
                have px0 := (hbx.cell (p := ⟨b2, o2, none⟩) l2).trans pp0
                have px1 := (hbx.cell (p := ⟨b2, o2 + 1, none⟩) l2).trans pp1
                have px2 := (hbx.cell (p := ⟨b2, o2 + 2, none⟩) l2).trans pp2
                have px3 := (hbx.cell (p := ⟨b2, o2 + 3, none⟩) l2).trans pp3
                have px4 := (hbx.cell (p := ⟨b2, o2 + 4, none⟩) l2).trans pp4
                rw [← hW1]
                clear hW1
                go_still_tail 6, (by kernel_rfl)
                go_wp2_with fail
                refine (spec_DocSame_c p p _ _ _ _ _ _ _ (r_text.below (by repeat' (first | (with_reducible exact Below.refl _ _) | (with_reducible assumption) | (with_reducible refine Below.setCell ?_ ?_ _) | (with_reducible refine Below.alloc ?_ ?_ _) | (with_reducible refine Below.drew ?_) | (with_reducible refine belowN ?_ _) | (with_reducible refine below_after ?_ (by assumption) ?_) | omega | (simp; done) | (simp; omega)))) (t_text.below (by repeat' (first | (with_reducible exact Below.refl _ _) | (with_reducible assumption) | (with_reducible refine Below.setCell ?_ ?_ _) | (with_reducible refine Below.alloc ?_ ?_ _) | (with_reducible refine Below.drew ?_) | (with_reducible refine belowN ?_ _) | (with_reducible refine below_after ?_ (by assumption) ?_) | omega | (simp; done) | (simp; omega)))) (r_list.below (by repeat' (first | (with_reducible exact Below.refl _ _) | (with_reducible assumption) | (with_reducible refine Below.setCell ?_ ?_ _) | (with_reducible refine Below.alloc ?_ ?_ _) | (with_reducible refine Below.drew ?_) | (with_reducible refine belowN ?_ _) | (with_reducible refine below_after ?_ (by assumption) ?_) | omega | (simp; done) | (simp; omega)))) (t_list.below (by repeat' (first | (with_reducible exact Below.refl _ _) | (with_reducible assumption) | (with_reducible refine Below.setCell ?_ ?_ _) | (with_reducible refine Below.alloc ?_ ?_ _) | (with_reducible refine Below.drew ?_) | (with_reducible refine belowN ?_ _) | (with_reducible refine below_after ?_ (by assumption) ?_) | omega | (simp; done) | (simp; omega)))) (r_seen.below (by repeat' (first | (with_reducible exact Below.refl _ _) | (with_reducible assumption) | (with_reducible refine Below.setCell ?_ ?_ _) | (with_reducible refine Below.alloc ?_ ?_ _) | (with_reducible refine Below.drew ?_) | (with_reducible refine belowN ?_ _) | (with_reducible refine below_after ?_ (by assumption) ?_) | omega | (simp; done) | (simp; omega)))) (t_seen.below (by repeat' (first | (with_reducible exact Below.refl _ _) | (with_reducible assumption) | (with_reducible refine Below.setCell ?_ ?_ _) | (with_reducible refine Below.alloc ?_ ?_ _) | (with_reducible refine Below.drew ?_) | (with_reducible refine belowN ?_ _) | (with_reducible refine below_after ?_ (by assumption) ?_) | omega | (simp; done) | (simp; omega))))).mono ?_
                rintro e w9 ⟨rfl, hb9⟩
                rw [dec_t rfl]
                go_wp2
                go_roundw
                case rel => exact ⟨k + 1, by omega, by go_num, at_step HX.out HY.out HJ.out, (by repeat' (first | (with_reducible exact Below.refl _ _) | (with_reducible assumption) | (with_reducible refine Below.setCell ?_ ?_ _) | (with_reducible refine Below.alloc ?_ ?_ _) | (with_reducible refine Below.drew ?_) | (with_reducible refine belowN ?_ _) | (with_reducible refine below_after ?_ (by assumption) ?_) | omega | (simp; done) | (simp; omega)))⟩
                case measure => simp [intOf]; omega
              · have HN : Hid (decide (x = y) = false) := dec_f (fun h => ne_at HX.out HY.out hxy (by rw [h]))
                go_wp2_with fail
                obtain ⟨W1, hW1⟩ : ∃ W1, W1 = wr.alloc (.cells #[.string p.name, .int .i64 p.from_, .slice aa_text p.text.length ca_text, .slice aa_list p.list.length ca_list, .slice aa_seen p.seen.length ca_seen] 167) := ⟨_, rfl⟩
                have hbx : Below wr.heap.size wr W1 := by rw [hW1]; exact (Below.refl _ _).alloc (Nat.le_refl _) _
                have hsx := hbx.size
                have xx0 : W1.cell? ⟨wr.heap.size, 0, none⟩ = some (.string p.name) := by rw [hW1]; simp
                have xx1 : W1.cell? ⟨wr.heap.size, 1, none⟩ = some (.int .i64 p.from_) := by rw [hW1]; simp
                have xx2 : W1.cell? ⟨wr.heap.size, 2, none⟩ = some (.slice aa_text p.text.length ca_text) := by rw [hW1]; simp
                have xx3 : W1.cell? ⟨wr.heap.size, 3, none⟩ = some (.slice aa_list p.list.length ca_list) := by rw [hW1]; simp
                have xx4 : W1.cell? ⟨wr.heap.size, 4, none⟩ = some (.slice aa_seen p.seen.length ca_seen) := by rw [hW1]; simp
                have qbx : W1.cell? ⟨w.heap.size + 1, 1, none⟩ = some u_docs := (hbx.cell (p := ⟨w.heap.size + 1, 1, none⟩) z1).trans qb
                have px0 := (hbx.cell (p := ⟨b2, o2, none⟩) l2).trans pp0
                have px1 := (hbx.cell (p := ⟨b2, o2 + 1, none⟩) l2).trans pp1
                have px2 := (hbx.cell (p := ⟨b2, o2 + 2, none⟩) l2).trans pp2
                have px3 := (hbx.cell (p := ⟨b2, o2 + 3, none⟩) l2).trans pp3
                have px4 := (hbx.cell (p := ⟨b2, o2 + 4, none⟩) l2).trans pp4
                rw [← hW1]
                clear hW1
                go_still_tail 6, (by kernel_rfl)
                go_wp2_with fail
                refine (spec_DocSame_c p q _ _ _ _ _ _ _ (r_text.below (by repeat' (first | (with_reducible exact Below.refl _ _) | (with_reducible assumption) | (with_reducible refine Below.setCell ?_ ?_ _) | (with_reducible refine Below.alloc ?_ ?_ _) | (with_reducible refine Below.drew ?_) | (with_reducible refine belowN ?_ _) | (with_reducible refine below_after ?_ (by assumption) ?_) | omega | (simp; done) | (simp; omega)))) (t_text.below (by repeat' (first | (with_reducible exact Below.refl _ _) | (with_reducible assumption) | (with_reducible refine Below.setCell ?_ ?_ _) | (with_reducible refine Below.alloc ?_ ?_ _) | (with_reducible refine Below.drew ?_) | (with_reducible refine belowN ?_ _) | (with_reducible refine below_after ?_ (by assumption) ?_) | omega | (simp; done) | (simp; omega)))) (r_list.below (by repeat' (first | (with_reducible exact Below.refl _ _) | (with_reducible assumption) | (with_reducible refine Below.setCell ?_ ?_ _) | (with_reducible refine Below.alloc ?_ ?_ _) | (with_reducible refine Below.drew ?_) | (with_reducible refine belowN ?_ _) | (with_reducible refine below_after ?_ (by assumption) ?_) | omega | (simp; done) | (simp; omega)))) (t_list.below (by repeat' (first | (with_reducible exact Below.refl _ _) | (with_reducible assumption) | (with_reducible refine Below.setCell ?_ ?_ _) | (with_reducible refine Below.alloc ?_ ?_ _) | (with_reducible refine Below.drew ?_) | (with_reducible refine belowN ?_ _) | (with_reducible refine below_after ?_ (by assumption) ?_) | omega | (simp; done) | (simp; omega)))) (r_seen.below (by repeat' (first | (with_reducible exact Below.refl _ _) | (with_reducible assumption) | (with_reducible refine Below.setCell ?_ ?_ _) | (with_reducible refine Below.alloc ?_ ?_ _) | (with_reducible refine Below.drew ?_) | (with_reducible refine belowN ?_ _) | (with_reducible refine below_after ?_ (by assumption) ?_) | omega | (simp; done) | (simp; omega)))) (t_seen.below (by repeat' (first | (with_reducible exact Below.refl _ _) | (with_reducible assumption) | (with_reducible refine Below.setCell ?_ ?_ _) | (with_reducible refine Below.alloc ?_ ?_ _) | (with_reducible refine Below.drew ?_) | (with_reducible refine belowN ?_ _) | (with_reducible refine below_after ?_ (by assumption) ?_) | omega | (simp; done) | (simp; omega))))).mono ?_
                rintro e w9 ⟨rfl, hb9⟩
                rw [dec_f hxy]
                go_wp2
                go_ret
                exact ⟨ret_bool HN.out.symm, (by repeat' (first | (with_reducible exact Below.refl _ _) | (with_reducible assumption) | (with_reducible refine Below.setCell ?_ ?_ _) | (with_reducible refine Below.alloc ?_ ?_ _) | (with_reducible refine Below.drew ?_) | (with_reducible refine belowN ?_ _) | (with_reducible refine below_after ?_ (by assumption) ?_) | omega | (simp; done) | (simp; omega)))⟩
            · skip
              have E_docs : Hid (x.docs = y.docs) := Lib.hid (list_eq_of_take E_len_docs.out fun j hj => HJ.out j (by omega))
              have qn : wr.cell? ⟨w.heap.size, 2, none⟩ = some v_subs := by rw [hbw.cell (by simp; try omega)]; simp
              obtain ⟨wP, hwP⟩ : ∃ wP, wP = wr := ⟨_, rfl⟩
              subst hwP
              clear HJ qb
              go_wp2
              clear hk hlt
              go_loopw [60] (fun i wr => ∃ k : Nat, k ≤ x.subs.length ∧ i = .int .i64 k ∧ (∀ j < k, x.subs[j]? = y.subs[j]?) ∧ Below (w.heap.size + 2) ((w.alloc (.cells #[.bool y.shut, v_docs, v_subs, .int .i64 x.last] 88)).alloc (.cells #[.bool y.shut, u_docs, u_subs, .int .i64 y.last] 88)) wr) (fun i _ => x.subs.length - (intOf i).toNat)
              case atStart => exact ⟨0, Nat.zero_le _, rfl, fun _ h => absurd h (Nat.not_lt_zero _), hbw⟩
              case round =>
                obtain ⟨k, hk, rfl, hj, hbw⟩ := hrel
                have hsz := hbw.size
                simp only [World.size_alloc] at hsz
                have hbw0 : Below w.heap.size w wr := (((Below.refl _ _).alloc (Nat.le_refl _) _).alloc (by simp) _).trans (hbw.mono (by omega))
                have HJ := Lib.hid hj; clear hj
                have qb : wr.cell? ⟨w.heap.size + 1, 2, none⟩ = some u_subs := by rw [hbw.cell (Nat.lt_succ_self _)]; simp
                by_cases hlt : k < x.subs.length
                · obtain ⟨p, hx⟩ := get_some hlt
                  obtain ⟨q, hy⟩ := get_some (l := y.subs) (k := k) (by rw [← E_len_subs.out]; exact hlt)
                  obtain ⟨b1, o1, cs, h1, h2, h3⟩ := (h_subs.below hbw0).idx Try.underlying86 szi_DSub k hx
                  obtain ⟨v_r_list, rfl, _, r_r_list⟩ := inv_DSub h3
                  obtain ⟨b2, o2, cs, g1, g2, g3⟩ := (k_subs.below hbw0).idx Try.underlying86 szi_DSub k hy
                  obtain ⟨u_r_list, rfl, _, t_r_list⟩ := inv_DSub g3
                  have qq0 := h2.zero
                  have qq1 := h2 1 _ rfl
                  have qq2 := h2 2 _ rfl
                  have qq3 := h2 3 _ rfl
                  have qq4 := h2 4 _ rfl
                  have qq5 := h2 5 _ rfl
                  have pp0 := g2.zero
                  have pp1 := g2 1 _ rfl
                  have pp2 := g2 2 _ rfl
                  have pp3 := g2 3 _ rfl
                  have pp4 := g2 4 _ rfl
                  have pp5 := g2 5 _ rfl
                  have l1 : b1 < wr.heap.size := World.block_lt_of_cell? (w := wr) (a := ⟨b1, o1, none⟩) qq0
                  have l2 : b2 < wr.heap.size := World.block_lt_of_cell? (w := wr) (a := ⟨b2, o2, none⟩) pp0
                  obtain ⟨aa_r_list, ca_r_list, rfl⟩ := r_r_list.isSlice
                  obtain ⟨ab_r_list, cb_r_list, rfl⟩ := t_r_list.isSlice
                  have z1 : w.heap.size + 1 < wr.heap.size := by omega
                  have HX := Lib.hid hx; clear hx
                  have HY := Lib.hid hy; clear hy
                  by_cases hxy : p = q
                  · subst hxy
                    have k1 : (p.id != p.id) = false := by simp
                    have k2 : (p.doc.toList == p.doc.toList) = true := str_t rfl
                    go_wp2_with fail
                    refine (spec_RingSame_c p.r p.r _ _ _ (r_r_list.below (by repeat' (first | (with_reducible exact Below.refl _ _) | (with_reducible assumption) | (with_reducible refine Below.setCell ?_ ?_ _) | (with_reducible refine Below.alloc ?_ ?_ _) | (with_reducible refine Below.drew ?_) | (with_reducible refine belowN ?_ _) | (with_reducible refine below_after ?_ (by assumption) ?_) | omega | (simp; done) | (simp; omega)))) (t_r_list.below (by repeat' (first | (with_reducible exact Below.refl _ _) | (with_reducible assumption) | (with_reducible refine Below.setCell ?_ ?_ _) | (with_reducible refine Below.alloc ?_ ?_ _) | (with_reducible refine Below.drew ?_) | (with_reducible refine belowN ?_ _) | (with_reducible refine below_after ?_ (by assumption) ?_) | omega | (simp; done) | (simp; omega))))).mono ?_
                    rintro e w9 ⟨rfl, hb9⟩
                    rw [dec_t rfl]
                    go_wp2
                    go_roundw
                    case rel => exact ⟨k + 1, by omega, by go_num, at_step HX.out HY.out HJ.out, (by repeat' (first | (with_reducible exact Below.refl _ _) | (with_reducible assumption) | (with_reducible refine Below.setCell ?_ ?_ _) | (with_reducible refine Below.alloc ?_ ?_ _) | (with_reducible refine Below.drew ?_) | (with_reducible refine belowN ?_ _) | (with_reducible refine below_after ?_ (by assumption) ?_) | omega | (simp; done) | (simp; omega)))⟩
                    case measure => simp [intOf]; omega
                  · have HN : Hid (decide (x = y) = false) := dec_f (fun h => ne_at HX.out HY.out hxy (by rw [h]))
                    by_cases e1 : p.id = q.id
                    · by_cases e2 : p.doc = q.doc
                      · have e3 : ¬ p.r = q.r := fun e3 => hxy (by cases p; cases q; simp_all)
                        have k1 : (p.id != q.id) = false := by simp [e1]
                        have k2 : (p.doc.toList == q.doc.toList) = true := str_t e2
                        clear e1 e2 hxy
                        go_wp2_with fail
                        refine (spec_RingSame_c p.r q.r _ _ _ (r_r_list.below (by repeat' (first | (with_reducible exact Below.refl _ _) | (with_reducible assumption) | (with_reducible refine Below.setCell ?_ ?_ _) | (with_reducible refine Below.alloc ?_ ?_ _) | (with_reducible refine Below.drew ?_) | (with_reducible refine belowN ?_ _) | (with_reducible refine below_after ?_ (by assumption) ?_) | omega | (simp; done) | (simp; omega)))) (t_r_list.below (by repeat' (first | (with_reducible exact Below.refl _ _) | (with_reducible assumption) | (with_reducible refine Below.setCell ?_ ?_ _) | (with_reducible refine Below.alloc ?_ ?_ _) | (with_reducible refine Below.drew ?_) | (with_reducible refine belowN ?_ _) | (with_reducible refine below_after ?_ (by assumption) ?_) | omega | (simp; done) | (simp; omega))))).mono ?_
                        rintro e w9 ⟨rfl, hb9⟩
                        rw [dec_f e3]
                        clear e3
                        go_wp2
                        go_ret
                        exact ⟨ret_bool HN.out.symm, (by repeat' (first | (with_reducible exact Below.refl _ _) | (with_reducible assumption) | (with_reducible refine Below.setCell ?_ ?_ _) | (with_reducible refine Below.alloc ?_ ?_ _) | (with_reducible refine Below.drew ?_) | (with_reducible refine belowN ?_ _) | (with_reducible refine below_after ?_ (by assumption) ?_) | omega | (simp; done) | (simp; omega)))⟩
                      · have k1 : (p.id != q.id) = false := by simp [e1]
                        have k2 : (p.doc.toList == q.doc.toList) = false := str_f e2
                        clear e1 e2 hxy
                        go_wp2
                        go_ret
                        exact ⟨ret_bool HN.out.symm, (by repeat' (first | (with_reducible exact Below.refl _ _) | (with_reducible assumption) | (with_reducible refine Below.setCell ?_ ?_ _) | (with_reducible refine Below.alloc ?_ ?_ _) | (with_reducible refine Below.drew ?_) | (with_reducible refine belowN ?_ _) | (with_reducible refine below_after ?_ (by assumption) ?_) | omega | (simp; done) | (simp; omega)))⟩
                    · have k1 : (p.id != q.id) = true := by simpa using e1
                      clear e1 hxy
                      go_wp2
                      go_ret
                      exact ⟨ret_bool HN.out.symm, (by repeat' (first | (with_reducible exact Below.refl _ _) | (with_reducible assumption) | (with_reducible refine Below.setCell ?_ ?_ _) | (with_reducible refine Below.alloc ?_ ?_ _) | (with_reducible refine Below.drew ?_) | (with_reducible refine belowN ?_ _) | (with_reducible refine below_after ?_ (by assumption) ?_) | omega | (simp; done) | (simp; omega)))⟩
                · skip
                  go_wp2
                  go_ret
                  have hll := list_eq_of_take E_len_subs.out fun j hj => HJ.out j (by omega)
                  have HE : x = y := by
                    have e_shut := E_shut.out
                    have e_last := E_last.out
                    have e_docs := E_docs.out
                    cases x; cases y; simp_all
                  exact ⟨ret_bool (dec_t HE).symm, hbw0⟩
        · rw [dec_f (fun h => e_len (by rw [h]))]
          go_enter Try.func96, Try.ntmps96
          go_wp2
          go_ret
          exact ⟨rfl, (by repeat' (first | (with_reducible exact Below.refl _ _) | (with_reducible assumption) | (with_reducible refine Below.setCell ?_ ?_ _) | (with_reducible refine Below.alloc ?_ ?_ _) | (with_reducible refine Below.drew ?_) | (with_reducible refine belowN ?_ _) | (with_reducible refine below_after ?_ (by assumption) ?_) | omega | (simp; done) | (simp; omega)))⟩
      · rw [dec_f (fun h => e_len (by rw [h]))]
        go_enter Try.func96, Try.ntmps96
        go_wp2
        go_ret
        exact ⟨rfl, (by repeat' (first | (with_reducible exact Below.refl _ _) | (with_reducible assumption) | (with_reducible refine Below.setCell ?_ ?_ _) | (with_reducible refine Below.alloc ?_ ?_ _) | (with_reducible refine Below.drew ?_) | (with_reducible refine belowN ?_ _) | (with_reducible refine below_after ?_ (by assumption) ?_) | omega | (simp; done) | (simp; omega)))⟩
    · rw [dec_f (fun h => e_last (by rw [h]))]
      have E2_last : (x.last != y.last) = true := by simpa using e_last
      clear e_last
      go_enter Try.func96, Try.ntmps96
      go_wp2
      go_ret
      exact ⟨rfl, (by repeat' (first | (with_reducible exact Below.refl _ _) | (with_reducible assumption) | (with_reducible refine Below.setCell ?_ ?_ _) | (with_reducible refine Below.alloc ?_ ?_ _) | (with_reducible refine Below.drew ?_) | (with_reducible refine belowN ?_ _) | (with_reducible refine below_after ?_ (by assumption) ?_) | omega | (simp; done) | (simp; omega)))⟩
  · rw [dec_f (fun h => e_shut (by rw [h]))]
    have E2_shut : (x.shut == y.shut) = false := by simpa using e_shut
    clear e_shut
    go_enter Try.func96, Try.ntmps96
    go_wp2
    go_ret
    exact ⟨rfl, (by repeat' (first | (with_reducible exact Below.refl _ _) | (with_reducible assumption) | (with_reducible refine Below.setCell ?_ ?_ _) | (with_reducible refine Below.alloc ?_ ?_ _) | (with_reducible refine Below.drew ?_) | (with_reducible refine belowN ?_ _) | (with_reducible refine below_after ?_ (by assumption) ?_) | omega | (simp; done) | (simp; omega)))⟩

end Go.Proofs.Ytfbkhaaijbhadaa
