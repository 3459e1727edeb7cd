/- Comparisons: they decide whether two data are alike. -/
import Derived.Test.YtfkaabpaolelgaaGreatCm
import Derived.Deep.RegionHeld3
import Derived.StillTailTactics
namespace Go.Proofs.YtfkaabpaolelgaaGreat
open Go.RowKit

set_option maxHeartbeats 1000000 in
set_option maxRecDepth 100000 in
theorem Equal_Seen_c (va vb : Value) (a b : List DSeen) (w : World) (ha : RdS w va a) (hb : RdS w vb b) :
    Calls Tryz.prog 43 #[va, vb] w (Tells w (.bool (decide (a = b)))) := by
  have hla := fun w1 ty => ha.len Tryz.underlying25 w1 ty
  have hlb := fun w1 ty => hb.len Tryz.underlying25 w1 ty
  have ba := ha.le
  have bb := hb.le
  by_cases hl : a.length = b.length
  · have HL := Lib.hid hl
    rw [← hl] at hlb bb
    clear hl
    go_enter Tryz.func43, Tryz.ntmps43
    go_wp2
    go_loopw [13] (fun i wr => ∃ k : Nat, k ≤ a.length ∧ i = .int .i64 k ∧ (∀ j < k, a[j]? = b[j]?) ∧ Below w.heap.size w wr) (fun i _ => a.length - (intOf i).toNat)
    case atStart => exact ⟨0, Nat.zero_le _, rfl, fun _ h => absurd h (Nat.not_lt_zero _), Below.refl _ _⟩
    case round =>
      obtain ⟨k, hk, rfl, hj, hbw⟩ := hrel
      have hsz := hbw.size
      have HJ := Lib.hid hj; clear hj
      by_cases hlt : k < a.length
      · obtain ⟨x, hx⟩ := get_some hlt
        obtain ⟨y, hy⟩ := get_some (l := b) (k := k) (by rw [← HL.out]; exact hlt)
        obtain ⟨b1, o1, cs, h1, h2, h3⟩ := (ha.below hbw).idx Tryz.underlying25 szi_DSeen k hx
        obtain rfl := inv_DSeen h3
        obtain ⟨b2, o2, cs, g1, g2, g3⟩ := (hb.below hbw).idx Tryz.underlying25 szi_DSeen k hy
        obtain rfl := inv_DSeen g3
        have q0 := h2.zero
        have q1 := h2 1 _ rfl
        have q2 := h2 2 _ rfl
        have p0 := g2.zero
        have p1 := g2 1 _ rfl
        have p2 := g2 2 _ rfl
        have l1 : b1 < wr.heap.size := World.block_lt_of_cell? (w := wr) (a := ⟨b1, o1, none⟩) q0
        have l2 : b2 < wr.heap.size := World.block_lt_of_cell? (w := wr) (a := ⟨b2, o2, none⟩) p0
        have HX := Lib.hid hx; clear hx
        have HY := Lib.hid hy; clear hy
        by_cases hxy : x = y
        · subst hxy
          go_wp2
          go_quiet (fail)
          go_wp2
          go_roundw
          case rel => exact ⟨k + 1, by omega, by go_num, at_step HX.out HY.out HJ.out, blw⟩
          case measure => simp [intOf]; omega
        · have HN : Hid (decide (a = b) = false) := dec_f (ne_at HX.out HY.out hxy)
          by_cases e1 : x.client = y.client
          · by_cases e2 : x.seq = y.seq
            · have e3 : ¬ x.rev = y.rev := fun e3 => hxy (by cases x; cases y; simp_all)
              have f1 : (x.client == y.client) = true := by simpa using e1
              have f2 : (x.seq == y.seq) = true := by simpa using e2
              have f3 : (x.rev == y.rev) = false := by simpa using e3
              go_wp2
              go_quiet (fail)
              go_wp2
              go_ret
              exact ⟨ret_bool HN.out.symm, blw⟩
            · have f1 : (x.client == y.client) = true := by simpa using e1
              have f2 : (x.seq == y.seq) = false := by simpa using e2
              go_wp2
              go_quiet (fail)
              go_wp2
              go_ret
              exact ⟨ret_bool HN.out.symm, blw⟩
          · have f1 : (x.client == y.client) = false := by simpa using e1
            go_wp2
            go_quiet (fail)
            go_wp2
            go_ret
            exact ⟨ret_bool HN.out.symm, blw⟩
      · go_wp2
        go_ret
        exact ⟨ret_bool (dec_t (list_eq_of_take HL.out fun j hj => HJ.out j (by omega))).symm, hbw⟩
  · rw [dec_f (fun e => hl (by rw [e]))]
    go_enter Tryz.func43, Tryz.ntmps43
    go_wp2
    go_ret
    exact ⟨rfl, Below.refl _ _⟩

set_option maxHeartbeats 1000000 in
theorem impl_DocSame_c (x y : DDoc) (v_text u_text : Value) (v_list u_list : Value) (v_seen u_seen : Value) (w : World) (h_text : RdS w v_text x.text) (k_text : RdS w u_text y.text) (h_list : RdS w v_list x.list) (k_list : RdS w u_list y.list) (h_seen : RdS w v_seen x.seen) (k_seen : RdS w u_seen y.seen) :
    Calls Tryz.prog 17 #[.agg #[.string x.name, .int .i64 x.from_, v_text, v_list, v_seen], .agg #[.string y.name, .int .i64 y.from_, u_text, u_list, u_seen]] w (Tells w (.bool (decide (x = y)))) := by
  by_cases e_name : x.name = y.name
  · have E_name := Lib.hid e_name
    have E2_name : (x.name.toList == y.name.toList) = true := str_t e_name
    clear e_name
    by_cases e_from_ : x.from_ = y.from_
    · have E_from_ := Lib.hid e_from_
      have E2_from_ : (x.from_ == y.from_) = true := by rw [e_from_]; simp
      clear e_from_
      by_cases e_text : x.text = y.text
      · have E_text := Lib.hid e_text
        clear e_text
        by_cases e_list : x.list = y.list
        · have E_list := Lib.hid e_list
          clear e_list
          by_cases e_seen : x.seen = y.seen
          · have E_seen := Lib.hid e_seen
            clear e_seen
            have HE : Hid (x = y) := by
              have e_name := E_name.out
              have e_from_ := E_from_.out
              have e_text := E_text.out
              have e_list := E_list.out
              have e_seen := E_seen.out
              show x = y
              cases x; cases y; simp_all
            rw [dec_t HE.out]
            go_enter Tryz.func17, Tryz.ntmps17
            go_wp2_with fail
            refine (Equal_int_c _ _ _ _ _ (h_text.below blw) (k_text.below blw)).mono ?_
            rintro e w1 ⟨rfl, hb1⟩
            have s1 : w.heap.size + 2 ≤ w1.heap.size := (by have := hb1.size; (try simp at this); omega)
            obtain ⟨hc1, hf1⟩ := bcell hb1
            have z1_0 : w.heap.size < w1.heap.size := (by omega)
            have z1_1 : w.heap.size + 1 < w1.heap.size := (by omega)
            rw [dec_t E_text.out]
            go_wp2_with fail
            refine (EqualFunc_Entry_c _ _ _ _ _ (h_list.below blw) (k_list.below blw)).mono ?_
            rintro e w2 ⟨rfl, hb2⟩
            have s2 : w1.heap.size ≤ w2.heap.size := (by have := hb2.size; (try simp at this); omega)
            obtain ⟨hc2, hf2⟩ := bcell hb2
            have z2_0 : w.heap.size < w2.heap.size := (by omega)
            have z2_1 : w.heap.size + 1 < w2.heap.size := (by omega)
            rw [dec_t E_list.out]
            go_wp2_with fail
            refine (Equal_Seen_c _ _ _ _ _ (h_seen.below blw) (k_seen.below blw)).mono ?_
            rintro e w3 ⟨rfl, hb3⟩
            have s3 : w2.heap.size ≤ w3.heap.size := (by have := hb3.size; (try simp at this); omega)
            obtain ⟨hc3, hf3⟩ := bcell hb3
            have z3_0 : w.heap.size < w3.heap.size := (by omega)
            have z3_1 : w.heap.size + 1 < w3.heap.size := (by omega)
            rw [dec_t E_seen.out]
            go_wp2
            go_ret
            exact ⟨rfl, blw⟩
          · rw [dec_f (fun h => e_seen (by rw [h]))]
            go_enter Tryz.func17, Tryz.ntmps17
            go_wp2_with fail
            refine (Equal_int_c _ _ _ _ _ (h_text.below blw) (k_text.below blw)).mono ?_
            rintro e w1 ⟨rfl, hb1⟩
            have s1 : w.heap.size + 2 ≤ w1.heap.size := (by have := hb1.size; (try simp at this); omega)
            obtain ⟨hc1, hf1⟩ := bcell hb1
            have z1_0 : w.heap.size < w1.heap.size := (by omega)
            have z1_1 : w.heap.size + 1 < w1.heap.size := (by omega)
            rw [dec_t E_text.out]
            go_wp2_with fail
            refine (EqualFunc_Entry_c _ _ _ _ _ (h_list.below blw) (k_list.below blw)).mono ?_
            rintro e w2 ⟨rfl, hb2⟩
            have s2 : w1.heap.size ≤ w2.heap.size := (by have := hb2.size; (try simp at this); omega)
            obtain ⟨hc2, hf2⟩ := bcell hb2
            have z2_0 : w.heap.size < w2.heap.size := (by omega)
            have z2_1 : w.heap.size + 1 < w2.heap.size := (by omega)
            rw [dec_t E_list.out]
            go_wp2_with fail
            refine (Equal_Seen_c _ _ _ _ _ (h_seen.below blw) (k_seen.below blw)).mono ?_
            rintro e w3 ⟨rfl, hb3⟩
            have s3 : w2.heap.size ≤ w3.heap.size := (by have := hb3.size; (try simp at this); omega)
            obtain ⟨hc3, hf3⟩ := bcell hb3
            have z3_0 : w.heap.size < w3.heap.size := (by omega)
            have z3_1 : w.heap.size + 1 < w3.heap.size := (by omega)
            rw [dec_f e_seen]
            go_wp2
            go_ret
            exact ⟨rfl, blw⟩
        · rw [dec_f (fun h => e_list (by rw [h]))]
          go_enter Tryz.func17, Tryz.ntmps17
          go_wp2_with fail
          refine (Equal_int_c _ _ _ _ _ (h_text.below blw) (k_text.below blw)).mono ?_
          rintro e w1 ⟨rfl, hb1⟩
          have s1 : w.heap.size + 2 ≤ w1.heap.size := (by have := hb1.size; (try simp at this); omega)
          obtain ⟨hc1, hf1⟩ := bcell hb1
          have z1_0 : w.heap.size < w1.heap.size := (by omega)
          have z1_1 : w.heap.size + 1 < w1.heap.size := (by omega)
          rw [dec_t E_text.out]
          go_wp2_with fail
          refine (EqualFunc_Entry_c _ _ _ _ _ (h_list.below blw) (k_list.below blw)).mono ?_
          rintro e w2 ⟨rfl, hb2⟩
          have s2 : w1.heap.size ≤ w2.heap.size := (by have := hb2.size; (try simp at this); omega)
          obtain ⟨hc2, hf2⟩ := bcell hb2
          have z2_0 : w.heap.size < w2.heap.size := (by omega)
          have z2_1 : w.heap.size + 1 < w2.heap.size := (by omega)
          rw [dec_f e_list]
          go_wp2
          go_ret
          exact ⟨rfl, blw⟩
      · rw [dec_f (fun h => e_text (by rw [h]))]
        go_enter Tryz.func17, Tryz.ntmps17
        go_wp2_with fail
        refine (Equal_int_c _ _ _ _ _ (h_text.below blw) (k_text.below blw)).mono ?_
        rintro e w1 ⟨rfl, hb1⟩
        have s1 : w.heap.size + 2 ≤ w1.heap.size := (by have := hb1.size; (try simp at this); omega)
        obtain ⟨hc1, hf1⟩ := bcell hb1
        have z1_0 : w.heap.size < w1.heap.size := (by omega)
        have z1_1 : w.heap.size + 1 < w1.heap.size := (by omega)
        rw [dec_f e_text]
        go_wp2
        go_ret
        exact ⟨rfl, blw⟩
    · rw [dec_f (fun h => e_from_ (by rw [h]))]
      have E2_from_ : (x.from_ == y.from_) = false := by simpa using e_from_
      clear e_from_
      go_enter Tryz.func17, Tryz.ntmps17
      go_wp2
      go_ret
      exact ⟨rfl, blw⟩
  · rw [dec_f (fun h => e_name (by rw [h]))]
    have E2_name : (x.name.toList == y.name.toList) = false := str_f e_name
    clear e_name
    go_enter Tryz.func17, Tryz.ntmps17
    go_wp2
    go_ret
    exact ⟨rfl, blw⟩

end Go.Proofs.YtfkaabpaolelgaaGreat
