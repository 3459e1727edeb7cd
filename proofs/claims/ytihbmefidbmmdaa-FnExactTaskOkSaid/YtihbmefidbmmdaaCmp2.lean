/- Comparisons: they decide whether two data are alike. -/
import Derived.Test.YtihbmefidbmmdaaCmp1
import Derived.Deep.RegionHeld3
import Derived.StillTailTactics
namespace Go.Proofs.Ytihbmefidbmmdaa
open Go.RowKit

theorem impl_OpSame_c (va vb : Value) (a b : List DPart) (w : World) (ha : RdS w va a) (hb : RdS w vb b) :
    Calls Try.prog 77 #[va, vb] w (Tells w (.bool (decide (a = b)))) := by
  go_enter Try.func77, Try.ntmps77
  go_wp2_with fail
  refine (EqualFunc_Part_c _ _ a b _ ha hb).mono ?_
  rintro e w1 ⟨rfl, hb1⟩
  go_wp2
  go_ret
  exact ⟨rfl, hb1⟩

set_option maxHeartbeats 1000000 in
theorem spec_EntrySame_c (x y : DEntry) (v_o u_o : Value) (w : World) (h_o : RdS w v_o x.o) (k_o : RdS w u_o y.o) :
    Calls Try.prog 98 #[.agg #[.int .i64 x.client, .int .i64 x.seq, v_o], .agg #[.int .i64 y.client, .int .i64 y.seq, u_o]] w (Tells w (.bool (decide (x = y)))) := by
  by_cases e_client : x.client = y.client
  · have E_client := Lib.hid e_client
    have E2_client : (x.client == y.client) = true := by rw [e_client]; simp
    clear e_client
    by_cases e_seq : x.seq = y.seq
    · have E_seq := Lib.hid e_seq
      have E2_seq : (x.seq == y.seq) = true := by rw [e_seq]; simp
      clear e_seq
      by_cases e_o : x.o = y.o
      · have E_o := Lib.hid e_o
        clear e_o
        have HE : Hid (x = y) := by
          have e_client := E_client.out
          have e_seq := E_seq.out
          have e_o := E_o.out
          show x = y
          cases x; cases y; simp_all
        rw [dec_t HE.out]
        go_enter Try.func98, Try.ntmps98
        go_wp2_with fail
        refine (spec_OpSame_c _ _ _ _ _ (h_o.below (by repeat' (first | (with_reducible exact Below.refl _ _) | (with_reducible assumption) | (with_reducible refine Below.setCell ?_ ?_ _) | (with_reducible refine Below.alloc ?_ ?_ _) | (with_reducible refine Below.drew ?_) | (with_reducible refine belowN ?_ _) | (with_reducible refine below_after ?_ (by assumption) ?_) | omega | (simp; done) | (simp; omega)))) (k_o.below (by repeat' (first | (with_reducible exact Below.refl _ _) | (with_reducible assumption) | (with_reducible refine Below.setCell ?_ ?_ _) | (with_reducible refine Below.alloc ?_ ?_ _) | (with_reducible refine Below.drew ?_) | (with_reducible refine belowN ?_ _) | (with_reducible refine below_after ?_ (by assumption) ?_) | omega | (simp; done) | (simp; omega))))).mono ?_
        rintro e w1 ⟨rfl, hb1⟩
        have s1 : w.heap.size + 2 ≤ w1.heap.size := (by have := hb1.size; (try simp at this); omega)
        obtain ⟨hc1, hf1⟩ := bcell hb1
        have z1_0 : w.heap.size < w1.heap.size := (by omega)
        have z1_1 : w.heap.size + 1 < w1.heap.size := (by omega)
        rw [dec_t E_o.out]
        go_wp2
        go_ret
        exact ⟨rfl, (by repeat' (first | (with_reducible exact Below.refl _ _) | (with_reducible assumption) | (with_reducible refine Below.setCell ?_ ?_ _) | (with_reducible refine Below.alloc ?_ ?_ _) | (with_reducible refine Below.drew ?_) | (with_reducible refine belowN ?_ _) | (with_reducible refine below_after ?_ (by assumption) ?_) | omega | (simp; done) | (simp; omega)))⟩
      · rw [dec_f (fun h => e_o (by rw [h]))]
        go_enter Try.func98, Try.ntmps98
        go_wp2_with fail
        refine (spec_OpSame_c _ _ _ _ _ (h_o.below (by repeat' (first | (with_reducible exact Below.refl _ _) | (with_reducible assumption) | (with_reducible refine Below.setCell ?_ ?_ _) | (with_reducible refine Below.alloc ?_ ?_ _) | (with_reducible refine Below.drew ?_) | (with_reducible refine belowN ?_ _) | (with_reducible refine below_after ?_ (by assumption) ?_) | omega | (simp; done) | (simp; omega)))) (k_o.below (by repeat' (first | (with_reducible exact Below.refl _ _) | (with_reducible assumption) | (with_reducible refine Below.setCell ?_ ?_ _) | (with_reducible refine Below.alloc ?_ ?_ _) | (with_reducible refine Below.drew ?_) | (with_reducible refine belowN ?_ _) | (with_reducible refine below_after ?_ (by assumption) ?_) | omega | (simp; done) | (simp; omega))))).mono ?_
        rintro e w1 ⟨rfl, hb1⟩
        have s1 : w.heap.size + 2 ≤ w1.heap.size := (by have := hb1.size; (try simp at this); omega)
        obtain ⟨hc1, hf1⟩ := bcell hb1
        have z1_0 : w.heap.size < w1.heap.size := (by omega)
        have z1_1 : w.heap.size + 1 < w1.heap.size := (by omega)
        rw [dec_f e_o]
        go_wp2
        go_ret
        exact ⟨rfl, (by repeat' (first | (with_reducible exact Below.refl _ _) | (with_reducible assumption) | (with_reducible refine Below.setCell ?_ ?_ _) | (with_reducible refine Below.alloc ?_ ?_ _) | (with_reducible refine Below.drew ?_) | (with_reducible refine belowN ?_ _) | (with_reducible refine below_after ?_ (by assumption) ?_) | omega | (simp; done) | (simp; omega)))⟩
    · rw [dec_f (fun h => e_seq (by rw [h]))]
      have E2_seq : (x.seq == y.seq) = false := by simpa using e_seq
      clear e_seq
      go_enter Try.func98, Try.ntmps98
      go_wp2
      go_ret
      exact ⟨rfl, (by repeat' (first | (with_reducible exact Below.refl _ _) | (with_reducible assumption) | (with_reducible refine Below.setCell ?_ ?_ _) | (with_reducible refine Below.alloc ?_ ?_ _) | (with_reducible refine Below.drew ?_) | (with_reducible refine belowN ?_ _) | (with_reducible refine below_after ?_ (by assumption) ?_) | omega | (simp; done) | (simp; omega)))⟩
  · rw [dec_f (fun h => e_client (by rw [h]))]
    have E2_client : (x.client == y.client) = false := by simpa using e_client
    clear e_client
    go_enter Try.func98, Try.ntmps98
    go_wp2
    go_ret
    exact ⟨rfl, (by repeat' (first | (with_reducible exact Below.refl _ _) | (with_reducible assumption) | (with_reducible refine Below.setCell ?_ ?_ _) | (with_reducible refine Below.alloc ?_ ?_ _) | (with_reducible refine Below.drew ?_) | (with_reducible refine belowN ?_ _) | (with_reducible refine below_after ?_ (by assumption) ?_) | omega | (simp; done) | (simp; omega)))⟩


set_option maxHeartbeats 1000000 in
theorem EntrySame_c (x y : DEntry) (v_o u_o : Value) (w : World) (h_o : RdS w v_o x.o) (k_o : RdS w u_o y.o) :
    Calls Try.prog 44 #[.agg #[.int .i64 x.client, .int .i64 x.seq, v_o], .agg #[.int .i64 y.client, .int .i64 y.seq, u_o]] w (Tells w (.bool (decide (x = y)))) := by
  by_cases e_client : x.client = y.client
  · have E_client := Lib.hid e_client
    have E2_client : (x.client == y.client) = true := by rw [e_client]; simp
    clear e_client
    by_cases e_seq : x.seq = y.seq
    · have E_seq := Lib.hid e_seq
      have E2_seq : (x.seq == y.seq) = true := by rw [e_seq]; simp
      clear e_seq
      by_cases e_o : x.o = y.o
      · have E_o := Lib.hid e_o
        clear e_o
        have HE : Hid (x = y) := by
          have e_client := E_client.out
          have e_seq := E_seq.out
          have e_o := E_o.out
          show x = y
          cases x; cases y; simp_all
        rw [dec_t HE.out]
        go_enter Try.func44, Try.ntmps44
        go_wp2_with fail
        refine (impl_OpSame_c _ _ _ _ _ (h_o.below (by repeat' (first | (with_reducible exact Below.refl _ _) | (with_reducible assumption) | (with_reducible refine Below.setCell ?_ ?_ _) | (with_reducible refine Below.alloc ?_ ?_ _) | (with_reducible refine Below.drew ?_) | (with_reducible refine belowN ?_ _) | (with_reducible refine below_after ?_ (by assumption) ?_) | omega | (simp; done) | (simp; omega)))) (k_o.below (by repeat' (first | (with_reducible exact Below.refl _ _) | (with_reducible assumption) | (with_reducible refine Below.setCell ?_ ?_ _) | (with_reducible refine Below.alloc ?_ ?_ _) | (with_reducible refine Below.drew ?_) | (with_reducible refine belowN ?_ _) | (with_reducible refine below_after ?_ (by assumption) ?_) | omega | (simp; done) | (simp; omega))))).mono ?_
        rintro e w1 ⟨rfl, hb1⟩
        have s1 : w.heap.size + 2 ≤ w1.heap.size := (by have := hb1.size; (try simp at this); omega)
        obtain ⟨hc1, hf1⟩ := bcell hb1
        have z1_0 : w.heap.size < w1.heap.size := (by omega)
        have z1_1 : w.heap.size + 1 < w1.heap.size := (by omega)
        rw [dec_t E_o.out]
        go_wp2
        go_ret
        exact ⟨rfl, (by repeat' (first | (with_reducible exact Below.refl _ _) | (with_reducible assumption) | (with_reducible refine Below.setCell ?_ ?_ _) | (with_reducible refine Below.alloc ?_ ?_ _) | (with_reducible refine Below.drew ?_) | (with_reducible refine belowN ?_ _) | (with_reducible refine below_after ?_ (by assumption) ?_) | omega | (simp; done) | (simp; omega)))⟩
      · rw [dec_f (fun h => e_o (by rw [h]))]
        go_enter Try.func44, Try.ntmps44
        go_wp2_with fail
        refine (impl_OpSame_c _ _ _ _ _ (h_o.below (by repeat' (first | (with_reducible exact Below.refl _ _) | (with_reducible assumption) | (with_reducible refine Below.setCell ?_ ?_ _) | (with_reducible refine Below.alloc ?_ ?_ _) | (with_reducible refine Below.drew ?_) | (with_reducible refine belowN ?_ _) | (with_reducible refine below_after ?_ (by assumption) ?_) | omega | (simp; done) | (simp; omega)))) (k_o.below (by repeat' (first | (with_reducible exact Below.refl _ _) | (with_reducible assumption) | (with_reducible refine Below.setCell ?_ ?_ _) | (with_reducible refine Below.alloc ?_ ?_ _) | (with_reducible refine Below.drew ?_) | (with_reducible refine belowN ?_ _) | (with_reducible refine below_after ?_ (by assumption) ?_) | omega | (simp; done) | (simp; omega))))).mono ?_
        rintro e w1 ⟨rfl, hb1⟩
        have s1 : w.heap.size + 2 ≤ w1.heap.size := (by have := hb1.size; (try simp at this); omega)
        obtain ⟨hc1, hf1⟩ := bcell hb1
        have z1_0 : w.heap.size < w1.heap.size := (by omega)
        have z1_1 : w.heap.size + 1 < w1.heap.size := (by omega)
        rw [dec_f e_o]
        go_wp2
        go_ret
        exact ⟨rfl, (by repeat' (first | (with_reducible exact Below.refl _ _) | (with_reducible assumption) | (with_reducible refine Below.setCell ?_ ?_ _) | (with_reducible refine Below.alloc ?_ ?_ _) | (with_reducible refine Below.drew ?_) | (with_reducible refine belowN ?_ _) | (with_reducible refine below_after ?_ (by assumption) ?_) | omega | (simp; done) | (simp; omega)))⟩
    · rw [dec_f (fun h => e_seq (by rw [h]))]
      have E2_seq : (x.seq == y.seq) = false := by simpa using e_seq
      clear e_seq
      go_enter Try.func44, Try.ntmps44
      go_wp2
      go_ret
      exact ⟨rfl, (by repeat' (first | (with_reducible exact Below.refl _ _) | (with_reducible assumption) | (with_reducible refine Below.setCell ?_ ?_ _) | (with_reducible refine Below.alloc ?_ ?_ _) | (with_reducible refine Below.drew ?_) | (with_reducible refine belowN ?_ _) | (with_reducible refine below_after ?_ (by assumption) ?_) | omega | (simp; done) | (simp; omega)))⟩
  · rw [dec_f (fun h => e_client (by rw [h]))]
    have E2_client : (x.client == y.client) = false := by simpa using e_client
    clear e_client
    go_enter Try.func44, Try.ntmps44
    go_wp2
    go_ret
    exact ⟨rfl, (by repeat' (first | (with_reducible exact Below.refl _ _) | (with_reducible assumption) | (with_reducible refine Below.setCell ?_ ?_ _) | (with_reducible refine Below.alloc ?_ ?_ _) | (with_reducible refine Below.drew ?_) | (with_reducible refine belowN ?_ _) | (with_reducible refine below_after ?_ (by assumption) ?_) | omega | (simp; done) | (simp; omega)))⟩

set_option maxHeartbeats 1000000 in
theorem impl_CallSame_c (x y : DCall) (v_o u_o : Value) (v_text u_text : Value) (w : World) (h_o : RdS w v_o x.o) (k_o : RdS w u_o y.o) (h_text : RdS w v_text x.text) (k_text : RdS w u_text y.text) :
    Calls Try.prog 86 #[.agg #[.int .i64 x.kind, .string x.doc, .int .i64 x.client, .int .i64 x.seq, .int .i64 x.n, v_o, v_text], .agg #[.int .i64 y.kind, .string y.doc, .int .i64 y.client, .int .i64 y.seq, .int .i64 y.n, u_o, u_text]] w (Tells w (.bool (decide (x = y)))) := by
  by_cases e_kind : x.kind = y.kind
  · have E_kind := Lib.hid e_kind
    have E2_kind : (x.kind == y.kind) = true := by rw [e_kind]; simp
    clear e_kind
    by_cases e_doc : x.doc = y.doc
    · have E_doc := Lib.hid e_doc
      have E2_doc : (x.doc.toList == y.doc.toList) = true := str_t e_doc
      clear e_doc
      by_cases e_client : x.client = y.client
      · have E_client := Lib.hid e_client
        have E2_client : (x.client == y.client) = true := by rw [e_client]; simp
        clear e_client
        by_cases e_seq : x.seq = y.seq
        · have E_seq := Lib.hid e_seq
          have E2_seq : (x.seq == y.seq) = true := by rw [e_seq]; simp
          clear e_seq
          by_cases e_n : x.n = y.n
          · have E_n := Lib.hid e_n
            have E2_n : (x.n == y.n) = true := by rw [e_n]; simp
            clear e_n
            by_cases e_o : x.o = y.o
            · have E_o := Lib.hid e_o
              clear e_o
              by_cases e_text : x.text = y.text
              · have E_text := Lib.hid e_text
                clear e_text
                have HE : Hid (x = y) := by
                  have e_kind := E_kind.out
                  have e_doc := E_doc.out
                  have e_client := E_client.out
                  have e_seq := E_seq.out
                  have e_n := E_n.out
                  have e_o := E_o.out
                  have e_text := E_text.out
                  show x = y
                  cases x; cases y; simp_all
                rw [dec_t HE.out]
                go_enter Try.func86, Try.ntmps86
                go_wp2_with fail
                refine (impl_OpSame_c _ _ _ _ _ (h_o.below (by repeat' (first | (with_reducible exact Below.refl _ _) | (with_reducible assumption) | (with_reducible refine Below.setCell ?_ ?_ _) | (with_reducible refine Below.alloc ?_ ?_ _) | (with_reducible refine Below.drew ?_) | (with_reducible refine belowN ?_ _) | (with_reducible refine below_after ?_ (by assumption) ?_) | omega | (simp; done) | (simp; omega)))) (k_o.below (by repeat' (first | (with_reducible exact Below.refl _ _) | (with_reducible assumption) | (with_reducible refine Below.setCell ?_ ?_ _) | (with_reducible refine Below.alloc ?_ ?_ _) | (with_reducible refine Below.drew ?_) | (with_reducible refine belowN ?_ _) | (with_reducible refine below_after ?_ (by assumption) ?_) | omega | (simp; done) | (simp; omega))))).mono ?_
                rintro e w1 ⟨rfl, hb1⟩
                have s1 : w.heap.size + 2 ≤ w1.heap.size := (by have := hb1.size; (try simp at this); omega)
                obtain ⟨hc1, hf1⟩ := bcell hb1
                have z1_0 : w.heap.size < w1.heap.size := (by omega)
                have z1_1 : w.heap.size + 1 < w1.heap.size := (by omega)
                rw [dec_t E_o.out]
                go_wp2_with fail
                refine (Equal_int_c _ _ _ _ _ (h_text.below (by repeat' (first | (with_reducible exact Below.refl _ _) | (with_reducible assumption) | (with_reducible refine Below.setCell ?_ ?_ _) | (with_reducible refine Below.alloc ?_ ?_ _) | (with_reducible refine Below.drew ?_) | (with_reducible refine belowN ?_ _) | (with_reducible refine below_after ?_ (by assumption) ?_) | omega | (simp; done) | (simp; omega)))) (k_text.below (by repeat' (first | (with_reducible exact Below.refl _ _) | (with_reducible assumption) | (with_reducible refine Below.setCell ?_ ?_ _) | (with_reducible refine Below.alloc ?_ ?_ _) | (with_reducible refine Below.drew ?_) | (with_reducible refine belowN ?_ _) | (with_reducible refine below_after ?_ (by assumption) ?_) | omega | (simp; done) | (simp; omega))))).mono ?_
                rintro e w2 ⟨rfl, hb2⟩
                have s2 : w1.heap.size ≤ w2.heap.size := (by have := hb2.size; (try simp at this); omega)
                obtain ⟨hc2, hf2⟩ := bcell hb2
                have z2_0 : w.heap.size < w2.heap.size := (by omega)
                have z2_1 : w.heap.size + 1 < w2.heap.size := (by omega)
                rw [dec_t E_text.out]
                go_wp2
                go_ret
                exact ⟨rfl, (by repeat' (first | (with_reducible exact Below.refl _ _) | (with_reducible assumption) | (with_reducible refine Below.setCell ?_ ?_ _) | (with_reducible refine Below.alloc ?_ ?_ _) | (with_reducible refine Below.drew ?_) | (with_reducible refine belowN ?_ _) | (with_reducible refine below_after ?_ (by assumption) ?_) | omega | (simp; done) | (simp; omega)))⟩
              · rw [dec_f (fun h => e_text (by rw [h]))]
                go_enter Try.func86, Try.ntmps86
                go_wp2_with fail
                refine (impl_OpSame_c _ _ _ _ _ (h_o.below (by repeat' (first | (with_reducible exact Below.refl _ _) | (with_reducible assumption) | (with_reducible refine Below.setCell ?_ ?_ _) | (with_reducible refine Below.alloc ?_ ?_ _) | (with_reducible refine Below.drew ?_) | (with_reducible refine belowN ?_ _) | (with_reducible refine below_after ?_ (by assumption) ?_) | omega | (simp; done) | (simp; omega)))) (k_o.below (by repeat' (first | (with_reducible exact Below.refl _ _) | (with_reducible assumption) | (with_reducible refine Below.setCell ?_ ?_ _) | (with_reducible refine Below.alloc ?_ ?_ _) | (with_reducible refine Below.drew ?_) | (with_reducible refine belowN ?_ _) | (with_reducible refine below_after ?_ (by assumption) ?_) | omega | (simp; done) | (simp; omega))))).mono ?_
                rintro e w1 ⟨rfl, hb1⟩
                have s1 : w.heap.size + 2 ≤ w1.heap.size := (by have := hb1.size; (try simp at this); omega)
                obtain ⟨hc1, hf1⟩ := bcell hb1
                have z1_0 : w.heap.size < w1.heap.size := (by omega)
                have z1_1 : w.heap.size + 1 < w1.heap.size := (by omega)
                rw [dec_t E_o.out]
                go_wp2_with fail
                refine (Equal_int_c _ _ _ _ _ (h_text.below (by repeat' (first | (with_reducible exact Below.refl _ _) | (with_reducible assumption) | (with_reducible refine Below.setCell ?_ ?_ _) | (with_reducible refine Below.alloc ?_ ?_ _) | (with_reducible refine Below.drew ?_) | (with_reducible refine belowN ?_ _) | (with_reducible refine below_after ?_ (by assumption) ?_) | omega | (simp; done) | (simp; omega)))) (k_text.below (by repeat' (first | (with_reducible exact Below.refl _ _) | (with_reducible assumption) | (with_reducible refine Below.setCell ?_ ?_ _) | (with_reducible refine Below.alloc ?_ ?_ _) | (with_reducible refine Below.drew ?_) | (with_reducible refine belowN ?_ _) | (with_reducible refine below_after ?_ (by assumption) ?_) | omega | (simp; done) | (simp; omega))))).mono ?_
                rintro e w2 ⟨rfl, hb2⟩
                have s2 : w1.heap.size ≤ w2.heap.size := (by have := hb2.size; (try simp at this); omega)
                obtain ⟨hc2, hf2⟩ := bcell hb2
                have z2_0 : w.heap.size < w2.heap.size := (by omega)
                have z2_1 : w.heap.size + 1 < w2.heap.size := (by omega)
                rw [dec_f e_text]
                go_wp2
                go_ret
                exact ⟨rfl, (by repeat' (first | (with_reducible exact Below.refl _ _) | (with_reducible assumption) | (with_reducible refine Below.setCell ?_ ?_ _) | (with_reducible refine Below.alloc ?_ ?_ _) | (with_reducible refine Below.drew ?_) | (with_reducible refine belowN ?_ _) | (with_reducible refine below_after ?_ (by assumption) ?_) | omega | (simp; done) | (simp; omega)))⟩
            · rw [dec_f (fun h => e_o (by rw [h]))]
              go_enter Try.func86, Try.ntmps86
              go_wp2_with fail
              refine (impl_OpSame_c _ _ _ _ _ (h_o.below (by repeat' (first | (with_reducible exact Below.refl _ _) | (with_reducible assumption) | (with_reducible refine Below.setCell ?_ ?_ _) | (with_reducible refine Below.alloc ?_ ?_ _) | (with_reducible refine Below.drew ?_) | (with_reducible refine belowN ?_ _) | (with_reducible refine below_after ?_ (by assumption) ?_) | omega | (simp; done) | (simp; omega)))) (k_o.below (by repeat' (first | (with_reducible exact Below.refl _ _) | (with_reducible assumption) | (with_reducible refine Below.setCell ?_ ?_ _) | (with_reducible refine Below.alloc ?_ ?_ _) | (with_reducible refine Below.drew ?_) | (with_reducible refine belowN ?_ _) | (with_reducible refine below_after ?_ (by assumption) ?_) | omega | (simp; done) | (simp; omega))))).mono ?_
              rintro e w1 ⟨rfl, hb1⟩
              have s1 : w.heap.size + 2 ≤ w1.heap.size := (by have := hb1.size; (try simp at this); omega)
              obtain ⟨hc1, hf1⟩ := bcell hb1
              have z1_0 : w.heap.size < w1.heap.size := (by omega)
              have z1_1 : w.heap.size + 1 < w1.heap.size := (by omega)
              rw [dec_f e_o]
              go_wp2
              go_ret
              exact ⟨rfl, (by repeat' (first | (with_reducible exact Below.refl _ _) | (with_reducible assumption) | (with_reducible refine Below.setCell ?_ ?_ _) | (with_reducible refine Below.alloc ?_ ?_ _) | (with_reducible refine Below.drew ?_) | (with_reducible refine belowN ?_ _) | (with_reducible refine below_after ?_ (by assumption) ?_) | omega | (simp; done) | (simp; omega)))⟩
          · rw [dec_f (fun h => e_n (by rw [h]))]
            have E2_n : (x.n == y.n) = false := by simpa using e_n
            clear e_n
            go_enter Try.func86, Try.ntmps86
            go_wp2
            go_ret
            exact ⟨rfl, (by repeat' (first | (with_reducible exact Below.refl _ _) | (with_reducible assumption) | (with_reducible refine Below.setCell ?_ ?_ _) | (with_reducible refine Below.alloc ?_ ?_ _) | (with_reducible refine Below.drew ?_) | (with_reducible refine belowN ?_ _) | (with_reducible refine below_after ?_ (by assumption) ?_) | omega | (simp; done) | (simp; omega)))⟩
        · rw [dec_f (fun h => e_seq (by rw [h]))]
          have E2_seq : (x.seq == y.seq) = false := by simpa using e_seq
          clear e_seq
          go_enter Try.func86, Try.ntmps86
          go_wp2
          go_ret
          exact ⟨rfl, (by repeat' (first | (with_reducible exact Below.refl _ _) | (with_reducible assumption) | (with_reducible refine Below.setCell ?_ ?_ _) | (with_reducible refine Below.alloc ?_ ?_ _) | (with_reducible refine Below.drew ?_) | (with_reducible refine belowN ?_ _) | (with_reducible refine below_after ?_ (by assumption) ?_) | omega | (simp; done) | (simp; omega)))⟩
      · rw [dec_f (fun h => e_client (by rw [h]))]
        have E2_client : (x.client == y.client) = false := by simpa using e_client
        clear e_client
        go_enter Try.func86, Try.ntmps86
        go_wp2
        go_ret
        exact ⟨rfl, (by repeat' (first | (with_reducible exact Below.refl _ _) | (with_reducible assumption) | (with_reducible refine Below.setCell ?_ ?_ _) | (with_reducible refine Below.alloc ?_ ?_ _) | (with_reducible refine Below.drew ?_) | (with_reducible refine belowN ?_ _) | (with_reducible refine below_after ?_ (by assumption) ?_) | omega | (simp; done) | (simp; omega)))⟩
    · rw [dec_f (fun h => e_doc (by rw [h]))]
      have E2_doc : (x.doc.toList == y.doc.toList) = false := str_f e_doc
      clear e_doc
      go_enter Try.func86, Try.ntmps86
      go_wp2
      go_ret
      exact ⟨rfl, (by repeat' (first | (with_reducible exact Below.refl _ _) | (with_reducible assumption) | (with_reducible refine Below.setCell ?_ ?_ _) | (with_reducible refine Below.alloc ?_ ?_ _) | (with_reducible refine Below.drew ?_) | (with_reducible refine belowN ?_ _) | (with_reducible refine below_after ?_ (by assumption) ?_) | omega | (simp; done) | (simp; omega)))⟩
  · rw [dec_f (fun h => e_kind (by rw [h]))]
    have E2_kind : (x.kind == y.kind) = false := by simpa using e_kind
    clear e_kind
    go_enter Try.func86, Try.ntmps86
    go_wp2
    go_ret
    exact ⟨rfl, (by repeat' (first | (with_reducible exact Below.refl _ _) | (with_reducible assumption) | (with_reducible refine Below.setCell ?_ ?_ _) | (with_reducible refine Below.alloc ?_ ?_ _) | (with_reducible refine Below.drew ?_) | (with_reducible refine belowN ?_ _) | (with_reducible refine below_after ?_ (by assumption) ?_) | omega | (simp; done) | (simp; omega)))⟩

set_option maxHeartbeats 1000000 in
set_option maxRecDepth 100000 in
theorem EqualFunc_Entry_c (va vb : Value) (a b : List DEntry) (w : World) (ha : RdS w va a) (hb : RdS w vb b) :
    Calls Try.prog 78 #[va, vb, .func (.func 44) #[] #[]] w (Tells w (.bool (decide (a = b)))) := by
  have hla := fun w1 ty => ha.len Try.underlying38 w1 ty
  have hlb := fun w1 ty => hb.len Try.underlying38 w1 ty
  have ba := ha.le
  have bb := hb.le
  by_cases hl : a.length = b.length
  · have HL := Lib.hid hl
    rw [← hl] at hlb bb
    clear hl
    go_enter Try.func78, Try.ntmps78
    go_wp2
    go_loopw [17] (fun i wr => ∃ k : Nat, k ≤ a.length ∧ i = .int .i64 k ∧ (∀ j < k, a[j]? = b[j]?) ∧ Below w.heap.size w wr) (fun i _ => a.length - (intOf i).toNat)
    case atStart => exact ⟨0, Nat.zero_le _, rfl, fun _ h => absurd h (Nat.not_lt_zero _), Below.refl _ _⟩
    case round =>
      obtain ⟨k, hk, rfl, hj, hbw⟩ := hrel
      have hsz := hbw.size
      have HJ := Lib.hid hj; clear hj
      by_cases hlt : k < a.length
      · obtain ⟨x, hx⟩ := get_some hlt
        obtain ⟨y, hy⟩ := get_some (l := b) (k := k) (by rw [← HL.out]; exact hlt)
        obtain ⟨b1, o1, cs, h1, h2, h3⟩ := (ha.below hbw).idx Try.underlying38 szi_DEntry k hx
        obtain ⟨v_o, rfl, r_o⟩ := inv_DEntry h3
        obtain ⟨b2, o2, cs, g1, g2, g3⟩ := (hb.below hbw).idx Try.underlying38 szi_DEntry k hy
        obtain ⟨u_o, rfl, t_o⟩ := inv_DEntry g3
        have q0 := h2.zero
        have q1 := h2 1 _ rfl
        have q2 := h2 2 _ rfl
        have p0 := g2.zero
        have p1 := g2 1 _ rfl
        have p2 := g2 2 _ rfl
        have l1 : b1 < wr.heap.size := World.block_lt_of_cell? (w := wr) (a := ⟨b1, o1, none⟩) q0
        have l2 : b2 < wr.heap.size := World.block_lt_of_cell? (w := wr) (a := ⟨b2, o2, none⟩) p0
        obtain ⟨aa_o, ca_o, rfl⟩ := r_o.isSlice
        obtain ⟨ab_o, cb_o, rfl⟩ := t_o.isSlice
        have HX := Lib.hid hx; clear hx
        have HY := Lib.hid hy; clear hy
        by_cases hxy : x = y
        · subst hxy
          go_wp2_with fail
          refine (EntrySame_c x x _ _ _ (r_o.below (by repeat' (first | (with_reducible exact Below.refl _ _) | (with_reducible assumption) | (with_reducible refine Below.setCell ?_ ?_ _) | (with_reducible refine Below.alloc ?_ ?_ _) | (with_reducible refine Below.drew ?_) | (with_reducible refine belowN ?_ _) | (with_reducible refine below_after ?_ (by assumption) ?_) | omega | (simp; done) | (simp; omega)))) (t_o.below (by repeat' (first | (with_reducible exact Below.refl _ _) | (with_reducible assumption) | (with_reducible refine Below.setCell ?_ ?_ _) | (with_reducible refine Below.alloc ?_ ?_ _) | (with_reducible refine Below.drew ?_) | (with_reducible refine belowN ?_ _) | (with_reducible refine below_after ?_ (by assumption) ?_) | omega | (simp; done) | (simp; omega))))).mono ?_
          rintro e w2 ⟨rfl, hb2⟩
          rw [dec_t rfl]
          go_wp2
          go_roundw
          case rel => exact ⟨k + 1, by omega, by go_num, at_step HX.out HY.out HJ.out, (by repeat' (first | (with_reducible exact Below.refl _ _) | (with_reducible assumption) | (with_reducible refine Below.setCell ?_ ?_ _) | (with_reducible refine Below.alloc ?_ ?_ _) | (with_reducible refine Below.drew ?_) | (with_reducible refine belowN ?_ _) | (with_reducible refine below_after ?_ (by assumption) ?_) | omega | (simp; done) | (simp; omega)))⟩
          case measure => simp [intOf]; omega
        · have HN : Hid (decide (a = b) = false) := dec_f (ne_at HX.out HY.out hxy)
          go_wp2_with fail
          refine (EntrySame_c x y _ _ _ (r_o.below (by repeat' (first | (with_reducible exact Below.refl _ _) | (with_reducible assumption) | (with_reducible refine Below.setCell ?_ ?_ _) | (with_reducible refine Below.alloc ?_ ?_ _) | (with_reducible refine Below.drew ?_) | (with_reducible refine belowN ?_ _) | (with_reducible refine below_after ?_ (by assumption) ?_) | omega | (simp; done) | (simp; omega)))) (t_o.below (by repeat' (first | (with_reducible exact Below.refl _ _) | (with_reducible assumption) | (with_reducible refine Below.setCell ?_ ?_ _) | (with_reducible refine Below.alloc ?_ ?_ _) | (with_reducible refine Below.drew ?_) | (with_reducible refine belowN ?_ _) | (with_reducible refine below_after ?_ (by assumption) ?_) | omega | (simp; done) | (simp; omega))))).mono ?_
          rintro e w2 ⟨rfl, hb2⟩
          rw [dec_f hxy]
          go_wp2
          go_ret
          exact ⟨ret_bool HN.out.symm, (by repeat' (first | (with_reducible exact Below.refl _ _) | (with_reducible assumption) | (with_reducible refine Below.setCell ?_ ?_ _) | (with_reducible refine Below.alloc ?_ ?_ _) | (with_reducible refine Below.drew ?_) | (with_reducible refine belowN ?_ _) | (with_reducible refine below_after ?_ (by assumption) ?_) | omega | (simp; done) | (simp; omega)))⟩
      · go_wp2
        go_ret
        exact ⟨ret_bool (dec_t (list_eq_of_take HL.out fun j hj => HJ.out j (by omega))).symm, hbw⟩
  · rw [dec_f (fun e => hl (by rw [e]))]
    go_enter Try.func78, Try.ntmps78
    go_wp2
    go_ret
    exact ⟨rfl, Below.refl _ _⟩

end Go.Proofs.Ytihbmefidbmmdaa
