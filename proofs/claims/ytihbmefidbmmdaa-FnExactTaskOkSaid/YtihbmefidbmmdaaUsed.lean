/- A call with the fields alone that its kind uses: what the program makes of it. -/
import Derived.Test.YtihbmefidbmmdaaCall1
import Derived.ChangeAlike
namespace Go.Proofs.Ytihbmefidbmmdaa
open Go.RowKit
def OutUsed (w : World) (c : DCall) (e : Ending) (w' : World) : Prop :=
  ∃ vo vt, e = .returned (.agg #[.int .i64 c.kind, .string c.doc, .int .i64 c.client, .int .i64 c.seq, .int .i64 c.n, vo, vt]) ∧ RdS w' vo c.o ∧ RdS w' vt c.text ∧ Below w.heap.size w w'
set_option maxHeartbeats 4000000 in
set_option maxRecDepth 100000 in
theorem impl_used_1 (doc : ByteArray) (client seq n : Int) (po : List DPart) (text : List Int) (v_o v_text : Value) (w : World) (h_o : RdS w v_o po) (h_text : RdS w v_text text) :
    Calls Try.prog 87 #[.agg #[.int .i64 1, .string doc, .int .i64 client, .int .i64 seq, .int .i64 n, v_o, v_text]] w (OutUsed w (usedD ⟨1, doc, client, seq, n, po, text⟩)) := by
  have hon : onDoc 1 = true := by decide
  have HU : Hid (usedD ⟨1, doc, client, seq, n, po, text⟩ = ⟨1, doc, 0, 0, 0, [], text⟩) := Lib.hid (by simp [usedD, hon])
  rw [HU.out]
  clear HU
  obtain ⟨ao, co, rfl⟩ := h_o.isSlice
  obtain ⟨at_, ct, rfl⟩ := h_text.isSlice
  go_enter Try.func87, Try.ntmps87
  go_wp2_with fail
  refine (impl_OnDoc_c 1 _).mono ?_
  rintro e w1 ⟨rfl, hb1⟩
  have hB : Below (w.heap.size + 3) (((w.alloc (.cells #[.int .i64 1, .string doc, .int .i64 client, .int .i64 seq, .int .i64 n, .slice ao po.length co, .slice at_ text.length ct] 58)).alloc (.cells #[.int .i64 0, .string ⟨#[]⟩, .int .i64 0, .int .i64 0, .int .i64 0, .slice none 0 0, .slice none 0 0] 58)).alloc (.cells #[.int .i64 1, .string ⟨#[]⟩, .int .i64 0, .int .i64 0, .int .i64 0, .slice none 0 0, .slice none 0 0] 58)) w1 := (by repeat' (first | (with_reducible exact Below.refl _ _) | (with_reducible assumption) | (with_reducible refine Below.setCell ?_ ?_ _) | (with_reducible refine Below.alloc ?_ ?_ _) | (with_reducible refine Below.drew ?_) | (with_reducible refine belowN ?_ _) | (with_reducible refine below_after ?_ (by assumption) ?_) | omega | (simp; done) | (simp; omega)))
  have s1 : w.heap.size + 3 ≤ w1.heap.size := (by have := hb1.size; (try simp at this); omega)
  have hbw : Below w.heap.size w w1 := (by repeat' (first | (with_reducible exact Below.refl _ _) | (with_reducible assumption) | (with_reducible refine Below.setCell ?_ ?_ _) | (with_reducible refine Below.alloc ?_ ?_ _) | (with_reducible refine Below.drew ?_) | (with_reducible refine belowN ?_ _) | (with_reducible refine below_after ?_ (by assumption) ?_) | omega | (simp; done) | (simp; omega)))
  have k0_0 : w1.cell? ⟨w.heap.size, 0, none⟩ = some (.int .i64 1) := (hB.cell (p := ⟨w.heap.size, 0, none⟩) (by simp)).trans (by simp [go_sem])
  have k0_1 : w1.cell? ⟨w.heap.size, 1, none⟩ = some (.string doc) := (hB.cell (p := ⟨w.heap.size, 1, none⟩) (by simp)).trans (by simp [go_sem])
  have k0_2 : w1.cell? ⟨w.heap.size, 2, none⟩ = some (.int .i64 client) := (hB.cell (p := ⟨w.heap.size, 2, none⟩) (by simp)).trans (by simp [go_sem])
  have k0_3 : w1.cell? ⟨w.heap.size, 3, none⟩ = some (.int .i64 seq) := (hB.cell (p := ⟨w.heap.size, 3, none⟩) (by simp)).trans (by simp [go_sem])
  have k0_4 : w1.cell? ⟨w.heap.size, 4, none⟩ = some (.int .i64 n) := (hB.cell (p := ⟨w.heap.size, 4, none⟩) (by simp)).trans (by simp [go_sem])
  have k0_5 : w1.cell? ⟨w.heap.size, 5, none⟩ = some (.slice ao po.length co) := (hB.cell (p := ⟨w.heap.size, 5, none⟩) (by simp)).trans (by simp [go_sem])
  have k0_6 : w1.cell? ⟨w.heap.size, 6, none⟩ = some (.slice at_ text.length ct) := (hB.cell (p := ⟨w.heap.size, 6, none⟩) (by simp)).trans (by simp [go_sem])
  have z0 : w.heap.size < w1.heap.size := by omega
  have k1_0 : w1.cell? ⟨w.heap.size + 1, 0, none⟩ = some (.int .i64 0) := (hB.cell (p := ⟨w.heap.size + 1, 0, none⟩) (by simp)).trans (by simp [go_sem])
  have f1_0 : w1.frozen? ⟨w.heap.size + 1, 0, none⟩ = false := (hB.frozen (p := ⟨w.heap.size + 1, 0, none⟩) (by simp)).trans (by simp [go_sem])
  have k1_1 : w1.cell? ⟨w.heap.size + 1, 1, none⟩ = some (.string ⟨#[]⟩) := (hB.cell (p := ⟨w.heap.size + 1, 1, none⟩) (by simp)).trans (by simp [go_sem])
  have f1_1 : w1.frozen? ⟨w.heap.size + 1, 1, none⟩ = false := (hB.frozen (p := ⟨w.heap.size + 1, 1, none⟩) (by simp)).trans (by simp [go_sem])
  have k1_2 : w1.cell? ⟨w.heap.size + 1, 2, none⟩ = some (.int .i64 0) := (hB.cell (p := ⟨w.heap.size + 1, 2, none⟩) (by simp)).trans (by simp [go_sem])
  have f1_2 : w1.frozen? ⟨w.heap.size + 1, 2, none⟩ = false := (hB.frozen (p := ⟨w.heap.size + 1, 2, none⟩) (by simp)).trans (by simp [go_sem])
  have k1_3 : w1.cell? ⟨w.heap.size + 1, 3, none⟩ = some (.int .i64 0) := (hB.cell (p := ⟨w.heap.size + 1, 3, none⟩) (by simp)).trans (by simp [go_sem])
  have f1_3 : w1.frozen? ⟨w.heap.size + 1, 3, none⟩ = false := (hB.frozen (p := ⟨w.heap.size + 1, 3, none⟩) (by simp)).trans (by simp [go_sem])
  have k1_4 : w1.cell? ⟨w.heap.size + 1, 4, none⟩ = some (.int .i64 0) := (hB.cell (p := ⟨w.heap.size + 1, 4, none⟩) (by simp)).trans (by simp [go_sem])
  have f1_4 : w1.frozen? ⟨w.heap.size + 1, 4, none⟩ = false := (hB.frozen (p := ⟨w.heap.size + 1, 4, none⟩) (by simp)).trans (by simp [go_sem])
  have k1_5 : w1.cell? ⟨w.heap.size + 1, 5, none⟩ = some (.slice none 0 0) := (hB.cell (p := ⟨w.heap.size + 1, 5, none⟩) (by simp)).trans (by simp [go_sem])
  have f1_5 : w1.frozen? ⟨w.heap.size + 1, 5, none⟩ = false := (hB.frozen (p := ⟨w.heap.size + 1, 5, none⟩) (by simp)).trans (by simp [go_sem])
  have k1_6 : w1.cell? ⟨w.heap.size + 1, 6, none⟩ = some (.slice none 0 0) := (hB.cell (p := ⟨w.heap.size + 1, 6, none⟩) (by simp)).trans (by simp [go_sem])
  have f1_6 : w1.frozen? ⟨w.heap.size + 1, 6, none⟩ = false := (hB.frozen (p := ⟨w.heap.size + 1, 6, none⟩) (by simp)).trans (by simp [go_sem])
  have z1 : w.heap.size + 1 < w1.heap.size := by omega
  have k2_0 : w1.cell? ⟨w.heap.size + 2, 0, none⟩ = some (.int .i64 1) := (hB.cell (p := ⟨w.heap.size + 2, 0, none⟩) (by simp)).trans (by simp [go_sem])
  have f2_0 : w1.frozen? ⟨w.heap.size + 2, 0, none⟩ = false := (hB.frozen (p := ⟨w.heap.size + 2, 0, none⟩) (by simp)).trans (by simp [go_sem])
  have k2_1 : w1.cell? ⟨w.heap.size + 2, 1, none⟩ = some (.string ⟨#[]⟩) := (hB.cell (p := ⟨w.heap.size + 2, 1, none⟩) (by simp)).trans (by simp [go_sem])
  have f2_1 : w1.frozen? ⟨w.heap.size + 2, 1, none⟩ = false := (hB.frozen (p := ⟨w.heap.size + 2, 1, none⟩) (by simp)).trans (by simp [go_sem])
  have k2_2 : w1.cell? ⟨w.heap.size + 2, 2, none⟩ = some (.int .i64 0) := (hB.cell (p := ⟨w.heap.size + 2, 2, none⟩) (by simp)).trans (by simp [go_sem])
  have f2_2 : w1.frozen? ⟨w.heap.size + 2, 2, none⟩ = false := (hB.frozen (p := ⟨w.heap.size + 2, 2, none⟩) (by simp)).trans (by simp [go_sem])
  have k2_3 : w1.cell? ⟨w.heap.size + 2, 3, none⟩ = some (.int .i64 0) := (hB.cell (p := ⟨w.heap.size + 2, 3, none⟩) (by simp)).trans (by simp [go_sem])
  have f2_3 : w1.frozen? ⟨w.heap.size + 2, 3, none⟩ = false := (hB.frozen (p := ⟨w.heap.size + 2, 3, none⟩) (by simp)).trans (by simp [go_sem])
  have k2_4 : w1.cell? ⟨w.heap.size + 2, 4, none⟩ = some (.int .i64 0) := (hB.cell (p := ⟨w.heap.size + 2, 4, none⟩) (by simp)).trans (by simp [go_sem])
  have f2_4 : w1.frozen? ⟨w.heap.size + 2, 4, none⟩ = false := (hB.frozen (p := ⟨w.heap.size + 2, 4, none⟩) (by simp)).trans (by simp [go_sem])
  have k2_5 : w1.cell? ⟨w.heap.size + 2, 5, none⟩ = some (.slice none 0 0) := (hB.cell (p := ⟨w.heap.size + 2, 5, none⟩) (by simp)).trans (by simp [go_sem])
  have f2_5 : w1.frozen? ⟨w.heap.size + 2, 5, none⟩ = false := (hB.frozen (p := ⟨w.heap.size + 2, 5, none⟩) (by simp)).trans (by simp [go_sem])
  have k2_6 : w1.cell? ⟨w.heap.size + 2, 6, none⟩ = some (.slice none 0 0) := (hB.cell (p := ⟨w.heap.size + 2, 6, none⟩) (by simp)).trans (by simp [go_sem])
  have f2_6 : w1.frozen? ⟨w.heap.size + 2, 6, none⟩ = false := (hB.frozen (p := ⟨w.heap.size + 2, 6, none⟩) (by simp)).trans (by simp [go_sem])
  have z2 : w.heap.size + 2 < w1.heap.size := by omega
  rw [hon]
  clear hb1 hB hon
  go_wp2
  exact bodyPost_ret (v := .agg #[.int .i64 1, .string doc, .int .i64 0, .int .i64 0, .int .i64 0, .slice none 0 0, .slice at_ text.length ct]) (by simp [results, Try.results87, go_sem, cell_setCell, *]) rfl ⟨_, _, rfl, RdS.nil, h_text.below (by repeat' (first | (with_reducible exact Below.refl _ _) | (with_reducible assumption) | (with_reducible refine Below.setCell ?_ ?_ _) | (with_reducible refine Below.alloc ?_ ?_ _) | (with_reducible refine Below.drew ?_) | (with_reducible refine belowN ?_ _) | (with_reducible refine below_after ?_ (by assumption) ?_) | omega | (simp; done) | (simp; omega))), (by repeat' (first | (with_reducible exact Below.refl _ _) | (with_reducible assumption) | (with_reducible refine Below.setCell ?_ ?_ _) | (with_reducible refine Below.alloc ?_ ?_ _) | (with_reducible refine Below.drew ?_) | (with_reducible refine belowN ?_ _) | (with_reducible refine below_after ?_ (by assumption) ?_) | omega | (simp; done) | (simp; omega)))⟩
set_option maxHeartbeats 4000000 in
set_option maxRecDepth 100000 in
theorem impl_used_2 (doc : ByteArray) (client seq n : Int) (po : List DPart) (text : List Int) (v_o v_text : Value) (w : World) (h_o : RdS w v_o po) (h_text : RdS w v_text text) :
    Calls Try.prog 87 #[.agg #[.int .i64 2, .string doc, .int .i64 client, .int .i64 seq, .int .i64 n, v_o, v_text]] w (OutUsed w (usedD ⟨2, doc, client, seq, n, po, text⟩)) := by
  have hon : onDoc 2 = true := by decide
  have HU : Hid (usedD ⟨2, doc, client, seq, n, po, text⟩ = ⟨2, doc, client, seq, n, po, []⟩) := Lib.hid (by simp [usedD, hon])
  rw [HU.out]
  clear HU
  obtain ⟨ao, co, rfl⟩ := h_o.isSlice
  obtain ⟨at_, ct, rfl⟩ := h_text.isSlice
  go_enter Try.func87, Try.ntmps87
  go_wp2_with fail
  refine (impl_OnDoc_c 2 _).mono ?_
  rintro e w1 ⟨rfl, hb1⟩
  have hB : Below (w.heap.size + 3) (((w.alloc (.cells #[.int .i64 2, .string doc, .int .i64 client, .int .i64 seq, .int .i64 n, .slice ao po.length co, .slice at_ text.length ct] 58)).alloc (.cells #[.int .i64 0, .string ⟨#[]⟩, .int .i64 0, .int .i64 0, .int .i64 0, .slice none 0 0, .slice none 0 0] 58)).alloc (.cells #[.int .i64 2, .string ⟨#[]⟩, .int .i64 0, .int .i64 0, .int .i64 0, .slice none 0 0, .slice none 0 0] 58)) w1 := (by repeat' (first | (with_reducible exact Below.refl _ _) | (with_reducible assumption) | (with_reducible refine Below.setCell ?_ ?_ _) | (with_reducible refine Below.alloc ?_ ?_ _) | (with_reducible refine Below.drew ?_) | (with_reducible refine belowN ?_ _) | (with_reducible refine below_after ?_ (by assumption) ?_) | omega | (simp; done) | (simp; omega)))
  have s1 : w.heap.size + 3 ≤ w1.heap.size := (by have := hb1.size; (try simp at this); omega)
  have hbw : Below w.heap.size w w1 := (by repeat' (first | (with_reducible exact Below.refl _ _) | (with_reducible assumption) | (with_reducible refine Below.setCell ?_ ?_ _) | (with_reducible refine Below.alloc ?_ ?_ _) | (with_reducible refine Below.drew ?_) | (with_reducible refine belowN ?_ _) | (with_reducible refine below_after ?_ (by assumption) ?_) | omega | (simp; done) | (simp; omega)))
  have k0_0 : w1.cell? ⟨w.heap.size, 0, none⟩ = some (.int .i64 2) := (hB.cell (p := ⟨w.heap.size, 0, none⟩) (by simp)).trans (by simp [go_sem])
  have k0_1 : w1.cell? ⟨w.heap.size, 1, none⟩ = some (.string doc) := (hB.cell (p := ⟨w.heap.size, 1, none⟩) (by simp)).trans (by simp [go_sem])
  have k0_2 : w1.cell? ⟨w.heap.size, 2, none⟩ = some (.int .i64 client) := (hB.cell (p := ⟨w.heap.size, 2, none⟩) (by simp)).trans (by simp [go_sem])
  have k0_3 : w1.cell? ⟨w.heap.size, 3, none⟩ = some (.int .i64 seq) := (hB.cell (p := ⟨w.heap.size, 3, none⟩) (by simp)).trans (by simp [go_sem])
  have k0_4 : w1.cell? ⟨w.heap.size, 4, none⟩ = some (.int .i64 n) := (hB.cell (p := ⟨w.heap.size, 4, none⟩) (by simp)).trans (by simp [go_sem])
  have k0_5 : w1.cell? ⟨w.heap.size, 5, none⟩ = some (.slice ao po.length co) := (hB.cell (p := ⟨w.heap.size, 5, none⟩) (by simp)).trans (by simp [go_sem])
  have k0_6 : w1.cell? ⟨w.heap.size, 6, none⟩ = some (.slice at_ text.length ct) := (hB.cell (p := ⟨w.heap.size, 6, none⟩) (by simp)).trans (by simp [go_sem])
  have z0 : w.heap.size < w1.heap.size := by omega
  have k1_0 : w1.cell? ⟨w.heap.size + 1, 0, none⟩ = some (.int .i64 0) := (hB.cell (p := ⟨w.heap.size + 1, 0, none⟩) (by simp)).trans (by simp [go_sem])
  have f1_0 : w1.frozen? ⟨w.heap.size + 1, 0, none⟩ = false := (hB.frozen (p := ⟨w.heap.size + 1, 0, none⟩) (by simp)).trans (by simp [go_sem])
  have k1_1 : w1.cell? ⟨w.heap.size + 1, 1, none⟩ = some (.string ⟨#[]⟩) := (hB.cell (p := ⟨w.heap.size + 1, 1, none⟩) (by simp)).trans (by simp [go_sem])
  have f1_1 : w1.frozen? ⟨w.heap.size + 1, 1, none⟩ = false := (hB.frozen (p := ⟨w.heap.size + 1, 1, none⟩) (by simp)).trans (by simp [go_sem])
  have k1_2 : w1.cell? ⟨w.heap.size + 1, 2, none⟩ = some (.int .i64 0) := (hB.cell (p := ⟨w.heap.size + 1, 2, none⟩) (by simp)).trans (by simp [go_sem])
  have f1_2 : w1.frozen? ⟨w.heap.size + 1, 2, none⟩ = false := (hB.frozen (p := ⟨w.heap.size + 1, 2, none⟩) (by simp)).trans (by simp [go_sem])
  have k1_3 : w1.cell? ⟨w.heap.size + 1, 3, none⟩ = some (.int .i64 0) := (hB.cell (p := ⟨w.heap.size + 1, 3, none⟩) (by simp)).trans (by simp [go_sem])
  have f1_3 : w1.frozen? ⟨w.heap.size + 1, 3, none⟩ = false := (hB.frozen (p := ⟨w.heap.size + 1, 3, none⟩) (by simp)).trans (by simp [go_sem])
  have k1_4 : w1.cell? ⟨w.heap.size + 1, 4, none⟩ = some (.int .i64 0) := (hB.cell (p := ⟨w.heap.size + 1, 4, none⟩) (by simp)).trans (by simp [go_sem])
  have f1_4 : w1.frozen? ⟨w.heap.size + 1, 4, none⟩ = false := (hB.frozen (p := ⟨w.heap.size + 1, 4, none⟩) (by simp)).trans (by simp [go_sem])
  have k1_5 : w1.cell? ⟨w.heap.size + 1, 5, none⟩ = some (.slice none 0 0) := (hB.cell (p := ⟨w.heap.size + 1, 5, none⟩) (by simp)).trans (by simp [go_sem])
  have f1_5 : w1.frozen? ⟨w.heap.size + 1, 5, none⟩ = false := (hB.frozen (p := ⟨w.heap.size + 1, 5, none⟩) (by simp)).trans (by simp [go_sem])
  have k1_6 : w1.cell? ⟨w.heap.size + 1, 6, none⟩ = some (.slice none 0 0) := (hB.cell (p := ⟨w.heap.size + 1, 6, none⟩) (by simp)).trans (by simp [go_sem])
  have f1_6 : w1.frozen? ⟨w.heap.size + 1, 6, none⟩ = false := (hB.frozen (p := ⟨w.heap.size + 1, 6, none⟩) (by simp)).trans (by simp [go_sem])
  have z1 : w.heap.size + 1 < w1.heap.size := by omega
  have k2_0 : w1.cell? ⟨w.heap.size + 2, 0, none⟩ = some (.int .i64 2) := (hB.cell (p := ⟨w.heap.size + 2, 0, none⟩) (by simp)).trans (by simp [go_sem])
  have f2_0 : w1.frozen? ⟨w.heap.size + 2, 0, none⟩ = false := (hB.frozen (p := ⟨w.heap.size + 2, 0, none⟩) (by simp)).trans (by simp [go_sem])
  have k2_1 : w1.cell? ⟨w.heap.size + 2, 1, none⟩ = some (.string ⟨#[]⟩) := (hB.cell (p := ⟨w.heap.size + 2, 1, none⟩) (by simp)).trans (by simp [go_sem])
  have f2_1 : w1.frozen? ⟨w.heap.size + 2, 1, none⟩ = false := (hB.frozen (p := ⟨w.heap.size + 2, 1, none⟩) (by simp)).trans (by simp [go_sem])
  have k2_2 : w1.cell? ⟨w.heap.size + 2, 2, none⟩ = some (.int .i64 0) := (hB.cell (p := ⟨w.heap.size + 2, 2, none⟩) (by simp)).trans (by simp [go_sem])
  have f2_2 : w1.frozen? ⟨w.heap.size + 2, 2, none⟩ = false := (hB.frozen (p := ⟨w.heap.size + 2, 2, none⟩) (by simp)).trans (by simp [go_sem])
  have k2_3 : w1.cell? ⟨w.heap.size + 2, 3, none⟩ = some (.int .i64 0) := (hB.cell (p := ⟨w.heap.size + 2, 3, none⟩) (by simp)).trans (by simp [go_sem])
  have f2_3 : w1.frozen? ⟨w.heap.size + 2, 3, none⟩ = false := (hB.frozen (p := ⟨w.heap.size + 2, 3, none⟩) (by simp)).trans (by simp [go_sem])
  have k2_4 : w1.cell? ⟨w.heap.size + 2, 4, none⟩ = some (.int .i64 0) := (hB.cell (p := ⟨w.heap.size + 2, 4, none⟩) (by simp)).trans (by simp [go_sem])
  have f2_4 : w1.frozen? ⟨w.heap.size + 2, 4, none⟩ = false := (hB.frozen (p := ⟨w.heap.size + 2, 4, none⟩) (by simp)).trans (by simp [go_sem])
  have k2_5 : w1.cell? ⟨w.heap.size + 2, 5, none⟩ = some (.slice none 0 0) := (hB.cell (p := ⟨w.heap.size + 2, 5, none⟩) (by simp)).trans (by simp [go_sem])
  have f2_5 : w1.frozen? ⟨w.heap.size + 2, 5, none⟩ = false := (hB.frozen (p := ⟨w.heap.size + 2, 5, none⟩) (by simp)).trans (by simp [go_sem])
  have k2_6 : w1.cell? ⟨w.heap.size + 2, 6, none⟩ = some (.slice none 0 0) := (hB.cell (p := ⟨w.heap.size + 2, 6, none⟩) (by simp)).trans (by simp [go_sem])
  have f2_6 : w1.frozen? ⟨w.heap.size + 2, 6, none⟩ = false := (hB.frozen (p := ⟨w.heap.size + 2, 6, none⟩) (by simp)).trans (by simp [go_sem])
  have z2 : w.heap.size + 2 < w1.heap.size := by omega
  rw [hon]
  clear hb1 hB hon
  go_wp2
  go_region
  all_goals
    go_wp2
    exact bodyPost_ret (v := .agg #[.int .i64 2, .string doc, .int .i64 client, .int .i64 seq, .int .i64 n, .slice ao po.length co, .slice none 0 0]) (by simp [results, Try.results87, go_sem, cell_setCell, *]) rfl ⟨_, _, rfl, h_o.below (by repeat' (first | (with_reducible exact Below.refl _ _) | (with_reducible assumption) | (with_reducible refine Below.setCell ?_ ?_ _) | (with_reducible refine Below.alloc ?_ ?_ _) | (with_reducible refine Below.drew ?_) | (with_reducible refine belowN ?_ _) | (with_reducible refine below_after ?_ (by assumption) ?_) | omega | (simp; done) | (simp; omega))), RdS.nil, (by repeat' (first | (with_reducible exact Below.refl _ _) | (with_reducible assumption) | (with_reducible refine Below.setCell ?_ ?_ _) | (with_reducible refine Below.alloc ?_ ?_ _) | (with_reducible refine Below.drew ?_) | (with_reducible refine belowN ?_ _) | (with_reducible refine below_after ?_ (by assumption) ?_) | omega | (simp; done) | (simp; omega)))⟩
set_option maxHeartbeats 4000000 in
set_option maxRecDepth 100000 in
theorem impl_used_3 (doc : ByteArray) (client seq n : Int) (po : List DPart) (text : List Int) (v_o v_text : Value) (w : World) (h_o : RdS w v_o po) (h_text : RdS w v_text text) :
    Calls Try.prog 87 #[.agg #[.int .i64 3, .string doc, .int .i64 client, .int .i64 seq, .int .i64 n, v_o, v_text]] w (OutUsed w (usedD ⟨3, doc, client, seq, n, po, text⟩)) := by
  have hon : onDoc 3 = true := by decide
  have HU : Hid (usedD ⟨3, doc, client, seq, n, po, text⟩ = ⟨3, doc, 0, 0, n, [], []⟩) := Lib.hid (by simp [usedD, hon])
  rw [HU.out]
  clear HU
  obtain ⟨ao, co, rfl⟩ := h_o.isSlice
  obtain ⟨at_, ct, rfl⟩ := h_text.isSlice
  go_enter Try.func87, Try.ntmps87
  go_wp2_with fail
  refine (impl_OnDoc_c 3 _).mono ?_
  rintro e w1 ⟨rfl, hb1⟩
  have hB : Below (w.heap.size + 3) (((w.alloc (.cells #[.int .i64 3, .string doc, .int .i64 client, .int .i64 seq, .int .i64 n, .slice ao po.length co, .slice at_ text.length ct] 58)).alloc (.cells #[.int .i64 0, .string ⟨#[]⟩, .int .i64 0, .int .i64 0, .int .i64 0, .slice none 0 0, .slice none 0 0] 58)).alloc (.cells #[.int .i64 3, .string ⟨#[]⟩, .int .i64 0, .int .i64 0, .int .i64 0, .slice none 0 0, .slice none 0 0] 58)) w1 := (by repeat' (first | (with_reducible exact Below.refl _ _) | (with_reducible assumption) | (with_reducible refine Below.setCell ?_ ?_ _) | (with_reducible refine Below.alloc ?_ ?_ _) | (with_reducible refine Below.drew ?_) | (with_reducible refine belowN ?_ _) | (with_reducible refine below_after ?_ (by assumption) ?_) | omega | (simp; done) | (simp; omega)))
  have s1 : w.heap.size + 3 ≤ w1.heap.size := (by have := hb1.size; (try simp at this); omega)
  have hbw : Below w.heap.size w w1 := (by repeat' (first | (with_reducible exact Below.refl _ _) | (with_reducible assumption) | (with_reducible refine Below.setCell ?_ ?_ _) | (with_reducible refine Below.alloc ?_ ?_ _) | (with_reducible refine Below.drew ?_) | (with_reducible refine belowN ?_ _) | (with_reducible refine below_after ?_ (by assumption) ?_) | omega | (simp; done) | (simp; omega)))
  have k0_0 : w1.cell? ⟨w.heap.size, 0, none⟩ = some (.int .i64 3) := (hB.cell (p := ⟨w.heap.size, 0, none⟩) (by simp)).trans (by simp [go_sem])
  have k0_1 : w1.cell? ⟨w.heap.size, 1, none⟩ = some (.string doc) := (hB.cell (p := ⟨w.heap.size, 1, none⟩) (by simp)).trans (by simp [go_sem])
  have k0_2 : w1.cell? ⟨w.heap.size, 2, none⟩ = some (.int .i64 client) := (hB.cell (p := ⟨w.heap.size, 2, none⟩) (by simp)).trans (by simp [go_sem])
  have k0_3 : w1.cell? ⟨w.heap.size, 3, none⟩ = some (.int .i64 seq) := (hB.cell (p := ⟨w.heap.size, 3, none⟩) (by simp)).trans (by simp [go_sem])
  have k0_4 : w1.cell? ⟨w.heap.size, 4, none⟩ = some (.int .i64 n) := (hB.cell (p := ⟨w.heap.size, 4, none⟩) (by simp)).trans (by simp [go_sem])
  have k0_5 : w1.cell? ⟨w.heap.size, 5, none⟩ = some (.slice ao po.length co) := (hB.cell (p := ⟨w.heap.size, 5, none⟩) (by simp)).trans (by simp [go_sem])
  have k0_6 : w1.cell? ⟨w.heap.size, 6, none⟩ = some (.slice at_ text.length ct) := (hB.cell (p := ⟨w.heap.size, 6, none⟩) (by simp)).trans (by simp [go_sem])
  have z0 : w.heap.size < w1.heap.size := by omega
  have k1_0 : w1.cell? ⟨w.heap.size + 1, 0, none⟩ = some (.int .i64 0) := (hB.cell (p := ⟨w.heap.size + 1, 0, none⟩) (by simp)).trans (by simp [go_sem])
  have f1_0 : w1.frozen? ⟨w.heap.size + 1, 0, none⟩ = false := (hB.frozen (p := ⟨w.heap.size + 1, 0, none⟩) (by simp)).trans (by simp [go_sem])
  have k1_1 : w1.cell? ⟨w.heap.size + 1, 1, none⟩ = some (.string ⟨#[]⟩) := (hB.cell (p := ⟨w.heap.size + 1, 1, none⟩) (by simp)).trans (by simp [go_sem])
  have f1_1 : w1.frozen? ⟨w.heap.size + 1, 1, none⟩ = false := (hB.frozen (p := ⟨w.heap.size + 1, 1, none⟩) (by simp)).trans (by simp [go_sem])
  have k1_2 : w1.cell? ⟨w.heap.size + 1, 2, none⟩ = some (.int .i64 0) := (hB.cell (p := ⟨w.heap.size + 1, 2, none⟩) (by simp)).trans (by simp [go_sem])
  have f1_2 : w1.frozen? ⟨w.heap.size + 1, 2, none⟩ = false := (hB.frozen (p := ⟨w.heap.size + 1, 2, none⟩) (by simp)).trans (by simp [go_sem])
  have k1_3 : w1.cell? ⟨w.heap.size + 1, 3, none⟩ = some (.int .i64 0) := (hB.cell (p := ⟨w.heap.size + 1, 3, none⟩) (by simp)).trans (by simp [go_sem])
  have f1_3 : w1.frozen? ⟨w.heap.size + 1, 3, none⟩ = false := (hB.frozen (p := ⟨w.heap.size + 1, 3, none⟩) (by simp)).trans (by simp [go_sem])
  have k1_4 : w1.cell? ⟨w.heap.size + 1, 4, none⟩ = some (.int .i64 0) := (hB.cell (p := ⟨w.heap.size + 1, 4, none⟩) (by simp)).trans (by simp [go_sem])
  have f1_4 : w1.frozen? ⟨w.heap.size + 1, 4, none⟩ = false := (hB.frozen (p := ⟨w.heap.size + 1, 4, none⟩) (by simp)).trans (by simp [go_sem])
  have k1_5 : w1.cell? ⟨w.heap.size + 1, 5, none⟩ = some (.slice none 0 0) := (hB.cell (p := ⟨w.heap.size + 1, 5, none⟩) (by simp)).trans (by simp [go_sem])
  have f1_5 : w1.frozen? ⟨w.heap.size + 1, 5, none⟩ = false := (hB.frozen (p := ⟨w.heap.size + 1, 5, none⟩) (by simp)).trans (by simp [go_sem])
  have k1_6 : w1.cell? ⟨w.heap.size + 1, 6, none⟩ = some (.slice none 0 0) := (hB.cell (p := ⟨w.heap.size + 1, 6, none⟩) (by simp)).trans (by simp [go_sem])
  have f1_6 : w1.frozen? ⟨w.heap.size + 1, 6, none⟩ = false := (hB.frozen (p := ⟨w.heap.size + 1, 6, none⟩) (by simp)).trans (by simp [go_sem])
  have z1 : w.heap.size + 1 < w1.heap.size := by omega
  have k2_0 : w1.cell? ⟨w.heap.size + 2, 0, none⟩ = some (.int .i64 3) := (hB.cell (p := ⟨w.heap.size + 2, 0, none⟩) (by simp)).trans (by simp [go_sem])
  have f2_0 : w1.frozen? ⟨w.heap.size + 2, 0, none⟩ = false := (hB.frozen (p := ⟨w.heap.size + 2, 0, none⟩) (by simp)).trans (by simp [go_sem])
  have k2_1 : w1.cell? ⟨w.heap.size + 2, 1, none⟩ = some (.string ⟨#[]⟩) := (hB.cell (p := ⟨w.heap.size + 2, 1, none⟩) (by simp)).trans (by simp [go_sem])
  have f2_1 : w1.frozen? ⟨w.heap.size + 2, 1, none⟩ = false := (hB.frozen (p := ⟨w.heap.size + 2, 1, none⟩) (by simp)).trans (by simp [go_sem])
  have k2_2 : w1.cell? ⟨w.heap.size + 2, 2, none⟩ = some (.int .i64 0) := (hB.cell (p := ⟨w.heap.size + 2, 2, none⟩) (by simp)).trans (by simp [go_sem])
  have f2_2 : w1.frozen? ⟨w.heap.size + 2, 2, none⟩ = false := (hB.frozen (p := ⟨w.heap.size + 2, 2, none⟩) (by simp)).trans (by simp [go_sem])
  have k2_3 : w1.cell? ⟨w.heap.size + 2, 3, none⟩ = some (.int .i64 0) := (hB.cell (p := ⟨w.heap.size + 2, 3, none⟩) (by simp)).trans (by simp [go_sem])
  have f2_3 : w1.frozen? ⟨w.heap.size + 2, 3, none⟩ = false := (hB.frozen (p := ⟨w.heap.size + 2, 3, none⟩) (by simp)).trans (by simp [go_sem])
  have k2_4 : w1.cell? ⟨w.heap.size + 2, 4, none⟩ = some (.int .i64 0) := (hB.cell (p := ⟨w.heap.size + 2, 4, none⟩) (by simp)).trans (by simp [go_sem])
  have f2_4 : w1.frozen? ⟨w.heap.size + 2, 4, none⟩ = false := (hB.frozen (p := ⟨w.heap.size + 2, 4, none⟩) (by simp)).trans (by simp [go_sem])
  have k2_5 : w1.cell? ⟨w.heap.size + 2, 5, none⟩ = some (.slice none 0 0) := (hB.cell (p := ⟨w.heap.size + 2, 5, none⟩) (by simp)).trans (by simp [go_sem])
  have f2_5 : w1.frozen? ⟨w.heap.size + 2, 5, none⟩ = false := (hB.frozen (p := ⟨w.heap.size + 2, 5, none⟩) (by simp)).trans (by simp [go_sem])
  have k2_6 : w1.cell? ⟨w.heap.size + 2, 6, none⟩ = some (.slice none 0 0) := (hB.cell (p := ⟨w.heap.size + 2, 6, none⟩) (by simp)).trans (by simp [go_sem])
  have f2_6 : w1.frozen? ⟨w.heap.size + 2, 6, none⟩ = false := (hB.frozen (p := ⟨w.heap.size + 2, 6, none⟩) (by simp)).trans (by simp [go_sem])
  have z2 : w.heap.size + 2 < w1.heap.size := by omega
  rw [hon]
  clear hb1 hB hon
  go_wp2
  exact bodyPost_ret (v := .agg #[.int .i64 3, .string doc, .int .i64 0, .int .i64 0, .int .i64 n, .slice none 0 0, .slice none 0 0]) (by simp [results, Try.results87, go_sem, cell_setCell, *]) rfl ⟨_, _, rfl, RdS.nil, RdS.nil, (by repeat' (first | (with_reducible exact Below.refl _ _) | (with_reducible assumption) | (with_reducible refine Below.setCell ?_ ?_ _) | (with_reducible refine Below.alloc ?_ ?_ _) | (with_reducible refine Below.drew ?_) | (with_reducible refine belowN ?_ _) | (with_reducible refine below_after ?_ (by assumption) ?_) | omega | (simp; done) | (simp; omega)))⟩
set_option maxHeartbeats 4000000 in
set_option maxRecDepth 100000 in
theorem impl_used_4 (doc : ByteArray) (client seq n : Int) (po : List DPart) (text : List Int) (v_o v_text : Value) (w : World) (h_o : RdS w v_o po) (h_text : RdS w v_text text) :
    Calls Try.prog 87 #[.agg #[.int .i64 4, .string doc, .int .i64 client, .int .i64 seq, .int .i64 n, v_o, v_text]] w (OutUsed w (usedD ⟨4, doc, client, seq, n, po, text⟩)) := by
  have hon : onDoc 4 = true := by decide
  have HU : Hid (usedD ⟨4, doc, client, seq, n, po, text⟩ = ⟨4, doc, 0, 0, 0, [], []⟩) := Lib.hid (by simp [usedD, hon])
  rw [HU.out]
  clear HU
  obtain ⟨ao, co, rfl⟩ := h_o.isSlice
  obtain ⟨at_, ct, rfl⟩ := h_text.isSlice
  go_enter Try.func87, Try.ntmps87
  go_wp2_with fail
  refine (impl_OnDoc_c 4 _).mono ?_
  rintro e w1 ⟨rfl, hb1⟩
  have hB : Below (w.heap.size + 3) (((w.alloc (.cells #[.int .i64 4, .string doc, .int .i64 client, .int .i64 seq, .int .i64 n, .slice ao po.length co, .slice at_ text.length ct] 58)).alloc (.cells #[.int .i64 0, .string ⟨#[]⟩, .int .i64 0, .int .i64 0, .int .i64 0, .slice none 0 0, .slice none 0 0] 58)).alloc (.cells #[.int .i64 4, .string ⟨#[]⟩, .int .i64 0, .int .i64 0, .int .i64 0, .slice none 0 0, .slice none 0 0] 58)) w1 := (by repeat' (first | (with_reducible exact Below.refl _ _) | (with_reducible assumption) | (with_reducible refine Below.setCell ?_ ?_ _) | (with_reducible refine Below.alloc ?_ ?_ _) | (with_reducible refine Below.drew ?_) | (with_reducible refine belowN ?_ _) | (with_reducible refine below_after ?_ (by assumption) ?_) | omega | (simp; done) | (simp; omega)))
  have s1 : w.heap.size + 3 ≤ w1.heap.size := (by have := hb1.size; (try simp at this); omega)
  have hbw : Below w.heap.size w w1 := (by repeat' (first | (with_reducible exact Below.refl _ _) | (with_reducible assumption) | (with_reducible refine Below.setCell ?_ ?_ _) | (with_reducible refine Below.alloc ?_ ?_ _) | (with_reducible refine Below.drew ?_) | (with_reducible refine belowN ?_ _) | (with_reducible refine below_after ?_ (by assumption) ?_) | omega | (simp; done) | (simp; omega)))
  have k0_0 : w1.cell? ⟨w.heap.size, 0, none⟩ = some (.int .i64 4) := (hB.cell (p := ⟨w.heap.size, 0, none⟩) (by simp)).trans (by simp [go_sem])
  have k0_1 : w1.cell? ⟨w.heap.size, 1, none⟩ = some (.string doc) := (hB.cell (p := ⟨w.heap.size, 1, none⟩) (by simp)).trans (by simp [go_sem])
  have k0_2 : w1.cell? ⟨w.heap.size, 2, none⟩ = some (.int .i64 client) := (hB.cell (p := ⟨w.heap.size, 2, none⟩) (by simp)).trans (by simp [go_sem])
  have k0_3 : w1.cell? ⟨w.heap.size, 3, none⟩ = some (.int .i64 seq) := (hB.cell (p := ⟨w.heap.size, 3, none⟩) (by simp)).trans (by simp [go_sem])
  have k0_4 : w1.cell? ⟨w.heap.size, 4, none⟩ = some (.int .i64 n) := (hB.cell (p := ⟨w.heap.size, 4, none⟩) (by simp)).trans (by simp [go_sem])
  have k0_5 : w1.cell? ⟨w.heap.size, 5, none⟩ = some (.slice ao po.length co) := (hB.cell (p := ⟨w.heap.size, 5, none⟩) (by simp)).trans (by simp [go_sem])
  have k0_6 : w1.cell? ⟨w.heap.size, 6, none⟩ = some (.slice at_ text.length ct) := (hB.cell (p := ⟨w.heap.size, 6, none⟩) (by simp)).trans (by simp [go_sem])
  have z0 : w.heap.size < w1.heap.size := by omega
  have k1_0 : w1.cell? ⟨w.heap.size + 1, 0, none⟩ = some (.int .i64 0) := (hB.cell (p := ⟨w.heap.size + 1, 0, none⟩) (by simp)).trans (by simp [go_sem])
  have f1_0 : w1.frozen? ⟨w.heap.size + 1, 0, none⟩ = false := (hB.frozen (p := ⟨w.heap.size + 1, 0, none⟩) (by simp)).trans (by simp [go_sem])
  have k1_1 : w1.cell? ⟨w.heap.size + 1, 1, none⟩ = some (.string ⟨#[]⟩) := (hB.cell (p := ⟨w.heap.size + 1, 1, none⟩) (by simp)).trans (by simp [go_sem])
  have f1_1 : w1.frozen? ⟨w.heap.size + 1, 1, none⟩ = false := (hB.frozen (p := ⟨w.heap.size + 1, 1, none⟩) (by simp)).trans (by simp [go_sem])
  have k1_2 : w1.cell? ⟨w.heap.size + 1, 2, none⟩ = some (.int .i64 0) := (hB.cell (p := ⟨w.heap.size + 1, 2, none⟩) (by simp)).trans (by simp [go_sem])
  have f1_2 : w1.frozen? ⟨w.heap.size + 1, 2, none⟩ = false := (hB.frozen (p := ⟨w.heap.size + 1, 2, none⟩) (by simp)).trans (by simp [go_sem])
  have k1_3 : w1.cell? ⟨w.heap.size + 1, 3, none⟩ = some (.int .i64 0) := (hB.cell (p := ⟨w.heap.size + 1, 3, none⟩) (by simp)).trans (by simp [go_sem])
  have f1_3 : w1.frozen? ⟨w.heap.size + 1, 3, none⟩ = false := (hB.frozen (p := ⟨w.heap.size + 1, 3, none⟩) (by simp)).trans (by simp [go_sem])
  have k1_4 : w1.cell? ⟨w.heap.size + 1, 4, none⟩ = some (.int .i64 0) := (hB.cell (p := ⟨w.heap.size + 1, 4, none⟩) (by simp)).trans (by simp [go_sem])
  have f1_4 : w1.frozen? ⟨w.heap.size + 1, 4, none⟩ = false := (hB.frozen (p := ⟨w.heap.size + 1, 4, none⟩) (by simp)).trans (by simp [go_sem])
  have k1_5 : w1.cell? ⟨w.heap.size + 1, 5, none⟩ = some (.slice none 0 0) := (hB.cell (p := ⟨w.heap.size + 1, 5, none⟩) (by simp)).trans (by simp [go_sem])
  have f1_5 : w1.frozen? ⟨w.heap.size + 1, 5, none⟩ = false := (hB.frozen (p := ⟨w.heap.size + 1, 5, none⟩) (by simp)).trans (by simp [go_sem])
  have k1_6 : w1.cell? ⟨w.heap.size + 1, 6, none⟩ = some (.slice none 0 0) := (hB.cell (p := ⟨w.heap.size + 1, 6, none⟩) (by simp)).trans (by simp [go_sem])
  have f1_6 : w1.frozen? ⟨w.heap.size + 1, 6, none⟩ = false := (hB.frozen (p := ⟨w.heap.size + 1, 6, none⟩) (by simp)).trans (by simp [go_sem])
  have z1 : w.heap.size + 1 < w1.heap.size := by omega
  have k2_0 : w1.cell? ⟨w.heap.size + 2, 0, none⟩ = some (.int .i64 4) := (hB.cell (p := ⟨w.heap.size + 2, 0, none⟩) (by simp)).trans (by simp [go_sem])
  have f2_0 : w1.frozen? ⟨w.heap.size + 2, 0, none⟩ = false := (hB.frozen (p := ⟨w.heap.size + 2, 0, none⟩) (by simp)).trans (by simp [go_sem])
  have k2_1 : w1.cell? ⟨w.heap.size + 2, 1, none⟩ = some (.string ⟨#[]⟩) := (hB.cell (p := ⟨w.heap.size + 2, 1, none⟩) (by simp)).trans (by simp [go_sem])
  have f2_1 : w1.frozen? ⟨w.heap.size + 2, 1, none⟩ = false := (hB.frozen (p := ⟨w.heap.size + 2, 1, none⟩) (by simp)).trans (by simp [go_sem])
  have k2_2 : w1.cell? ⟨w.heap.size + 2, 2, none⟩ = some (.int .i64 0) := (hB.cell (p := ⟨w.heap.size + 2, 2, none⟩) (by simp)).trans (by simp [go_sem])
  have f2_2 : w1.frozen? ⟨w.heap.size + 2, 2, none⟩ = false := (hB.frozen (p := ⟨w.heap.size + 2, 2, none⟩) (by simp)).trans (by simp [go_sem])
  have k2_3 : w1.cell? ⟨w.heap.size + 2, 3, none⟩ = some (.int .i64 0) := (hB.cell (p := ⟨w.heap.size + 2, 3, none⟩) (by simp)).trans (by simp [go_sem])
  have f2_3 : w1.frozen? ⟨w.heap.size + 2, 3, none⟩ = false := (hB.frozen (p := ⟨w.heap.size + 2, 3, none⟩) (by simp)).trans (by simp [go_sem])
  have k2_4 : w1.cell? ⟨w.heap.size + 2, 4, none⟩ = some (.int .i64 0) := (hB.cell (p := ⟨w.heap.size + 2, 4, none⟩) (by simp)).trans (by simp [go_sem])
  have f2_4 : w1.frozen? ⟨w.heap.size + 2, 4, none⟩ = false := (hB.frozen (p := ⟨w.heap.size + 2, 4, none⟩) (by simp)).trans (by simp [go_sem])
  have k2_5 : w1.cell? ⟨w.heap.size + 2, 5, none⟩ = some (.slice none 0 0) := (hB.cell (p := ⟨w.heap.size + 2, 5, none⟩) (by simp)).trans (by simp [go_sem])
  have f2_5 : w1.frozen? ⟨w.heap.size + 2, 5, none⟩ = false := (hB.frozen (p := ⟨w.heap.size + 2, 5, none⟩) (by simp)).trans (by simp [go_sem])
  have k2_6 : w1.cell? ⟨w.heap.size + 2, 6, none⟩ = some (.slice none 0 0) := (hB.cell (p := ⟨w.heap.size + 2, 6, none⟩) (by simp)).trans (by simp [go_sem])
  have f2_6 : w1.frozen? ⟨w.heap.size + 2, 6, none⟩ = false := (hB.frozen (p := ⟨w.heap.size + 2, 6, none⟩) (by simp)).trans (by simp [go_sem])
  have z2 : w.heap.size + 2 < w1.heap.size := by omega
  rw [hon]
  clear hb1 hB hon
  go_wp2
  exact bodyPost_ret (v := .agg #[.int .i64 4, .string doc, .int .i64 0, .int .i64 0, .int .i64 0, .slice none 0 0, .slice none 0 0]) (by simp [results, Try.results87, go_sem, cell_setCell, *]) rfl ⟨_, _, rfl, RdS.nil, RdS.nil, (by repeat' (first | (with_reducible exact Below.refl _ _) | (with_reducible assumption) | (with_reducible refine Below.setCell ?_ ?_ _) | (with_reducible refine Below.alloc ?_ ?_ _) | (with_reducible refine Below.drew ?_) | (with_reducible refine belowN ?_ _) | (with_reducible refine below_after ?_ (by assumption) ?_) | omega | (simp; done) | (simp; omega)))⟩
set_option maxHeartbeats 4000000 in
set_option maxRecDepth 100000 in
theorem impl_used_5 (doc : ByteArray) (client seq n : Int) (po : List DPart) (text : List Int) (v_o v_text : Value) (w : World) (h_o : RdS w v_o po) (h_text : RdS w v_text text) :
    Calls Try.prog 87 #[.agg #[.int .i64 5, .string doc, .int .i64 client, .int .i64 seq, .int .i64 n, v_o, v_text]] w (OutUsed w (usedD ⟨5, doc, client, seq, n, po, text⟩)) := by
  have hon : onDoc 5 = true := by decide
  have HU : Hid (usedD ⟨5, doc, client, seq, n, po, text⟩ = ⟨5, doc, 0, 0, n, [], []⟩) := Lib.hid (by simp [usedD, hon])
  rw [HU.out]
  clear HU
  obtain ⟨ao, co, rfl⟩ := h_o.isSlice
  obtain ⟨at_, ct, rfl⟩ := h_text.isSlice
  go_enter Try.func87, Try.ntmps87
  go_wp2_with fail
  refine (impl_OnDoc_c 5 _).mono ?_
  rintro e w1 ⟨rfl, hb1⟩
  have hB : Below (w.heap.size + 3) (((w.alloc (.cells #[.int .i64 5, .string doc, .int .i64 client, .int .i64 seq, .int .i64 n, .slice ao po.length co, .slice at_ text.length ct] 58)).alloc (.cells #[.int .i64 0, .string ⟨#[]⟩, .int .i64 0, .int .i64 0, .int .i64 0, .slice none 0 0, .slice none 0 0] 58)).alloc (.cells #[.int .i64 5, .string ⟨#[]⟩, .int .i64 0, .int .i64 0, .int .i64 0, .slice none 0 0, .slice none 0 0] 58)) w1 := (by repeat' (first | (with_reducible exact Below.refl _ _) | (with_reducible assumption) | (with_reducible refine Below.setCell ?_ ?_ _) | (with_reducible refine Below.alloc ?_ ?_ _) | (with_reducible refine Below.drew ?_) | (with_reducible refine belowN ?_ _) | (with_reducible refine below_after ?_ (by assumption) ?_) | omega | (simp; done) | (simp; omega)))
  have s1 : w.heap.size + 3 ≤ w1.heap.size := (by have := hb1.size; (try simp at this); omega)
  have hbw : Below w.heap.size w w1 := (by repeat' (first | (with_reducible exact Below.refl _ _) | (with_reducible assumption) | (with_reducible refine Below.setCell ?_ ?_ _) | (with_reducible refine Below.alloc ?_ ?_ _) | (with_reducible refine Below.drew ?_) | (with_reducible refine belowN ?_ _) | (with_reducible refine below_after ?_ (by assumption) ?_) | omega | (simp; done) | (simp; omega)))
  have k0_0 : w1.cell? ⟨w.heap.size, 0, none⟩ = some (.int .i64 5) := (hB.cell (p := ⟨w.heap.size, 0, none⟩) (by simp)).trans (by simp [go_sem])
  have k0_1 : w1.cell? ⟨w.heap.size, 1, none⟩ = some (.string doc) := (hB.cell (p := ⟨w.heap.size, 1, none⟩) (by simp)).trans (by simp [go_sem])
  have k0_2 : w1.cell? ⟨w.heap.size, 2, none⟩ = some (.int .i64 client) := (hB.cell (p := ⟨w.heap.size, 2, none⟩) (by simp)).trans (by simp [go_sem])
  have k0_3 : w1.cell? ⟨w.heap.size, 3, none⟩ = some (.int .i64 seq) := (hB.cell (p := ⟨w.heap.size, 3, none⟩) (by simp)).trans (by simp [go_sem])
  have k0_4 : w1.cell? ⟨w.heap.size, 4, none⟩ = some (.int .i64 n) := (hB.cell (p := ⟨w.heap.size, 4, none⟩) (by simp)).trans (by simp [go_sem])
  have k0_5 : w1.cell? ⟨w.heap.size, 5, none⟩ = some (.slice ao po.length co) := (hB.cell (p := ⟨w.heap.size, 5, none⟩) (by simp)).trans (by simp [go_sem])
  have k0_6 : w1.cell? ⟨w.heap.size, 6, none⟩ = some (.slice at_ text.length ct) := (hB.cell (p := ⟨w.heap.size, 6, none⟩) (by simp)).trans (by simp [go_sem])
  have z0 : w.heap.size < w1.heap.size := by omega
  have k1_0 : w1.cell? ⟨w.heap.size + 1, 0, none⟩ = some (.int .i64 0) := (hB.cell (p := ⟨w.heap.size + 1, 0, none⟩) (by simp)).trans (by simp [go_sem])
  have f1_0 : w1.frozen? ⟨w.heap.size + 1, 0, none⟩ = false := (hB.frozen (p := ⟨w.heap.size + 1, 0, none⟩) (by simp)).trans (by simp [go_sem])
  have k1_1 : w1.cell? ⟨w.heap.size + 1, 1, none⟩ = some (.string ⟨#[]⟩) := (hB.cell (p := ⟨w.heap.size + 1, 1, none⟩) (by simp)).trans (by simp [go_sem])
  have f1_1 : w1.frozen? ⟨w.heap.size + 1, 1, none⟩ = false := (hB.frozen (p := ⟨w.heap.size + 1, 1, none⟩) (by simp)).trans (by simp [go_sem])
  have k1_2 : w1.cell? ⟨w.heap.size + 1, 2, none⟩ = some (.int .i64 0) := (hB.cell (p := ⟨w.heap.size + 1, 2, none⟩) (by simp)).trans (by simp [go_sem])
  have f1_2 : w1.frozen? ⟨w.heap.size + 1, 2, none⟩ = false := (hB.frozen (p := ⟨w.heap.size + 1, 2, none⟩) (by simp)).trans (by simp [go_sem])
  have k1_3 : w1.cell? ⟨w.heap.size + 1, 3, none⟩ = some (.int .i64 0) := (hB.cell (p := ⟨w.heap.size + 1, 3, none⟩) (by simp)).trans (by simp [go_sem])
  have f1_3 : w1.frozen? ⟨w.heap.size + 1, 3, none⟩ = false := (hB.frozen (p := ⟨w.heap.size + 1, 3, none⟩) (by simp)).trans (by simp [go_sem])
  have k1_4 : w1.cell? ⟨w.heap.size + 1, 4, none⟩ = some (.int .i64 0) := (hB.cell (p := ⟨w.heap.size + 1, 4, none⟩) (by simp)).trans (by simp [go_sem])
  have f1_4 : w1.frozen? ⟨w.heap.size + 1, 4, none⟩ = false := (hB.frozen (p := ⟨w.heap.size + 1, 4, none⟩) (by simp)).trans (by simp [go_sem])
  have k1_5 : w1.cell? ⟨w.heap.size + 1, 5, none⟩ = some (.slice none 0 0) := (hB.cell (p := ⟨w.heap.size + 1, 5, none⟩) (by simp)).trans (by simp [go_sem])
  have f1_5 : w1.frozen? ⟨w.heap.size + 1, 5, none⟩ = false := (hB.frozen (p := ⟨w.heap.size + 1, 5, none⟩) (by simp)).trans (by simp [go_sem])
  have k1_6 : w1.cell? ⟨w.heap.size + 1, 6, none⟩ = some (.slice none 0 0) := (hB.cell (p := ⟨w.heap.size + 1, 6, none⟩) (by simp)).trans (by simp [go_sem])
  have f1_6 : w1.frozen? ⟨w.heap.size + 1, 6, none⟩ = false := (hB.frozen (p := ⟨w.heap.size + 1, 6, none⟩) (by simp)).trans (by simp [go_sem])
  have z1 : w.heap.size + 1 < w1.heap.size := by omega
  have k2_0 : w1.cell? ⟨w.heap.size + 2, 0, none⟩ = some (.int .i64 5) := (hB.cell (p := ⟨w.heap.size + 2, 0, none⟩) (by simp)).trans (by simp [go_sem])
  have f2_0 : w1.frozen? ⟨w.heap.size + 2, 0, none⟩ = false := (hB.frozen (p := ⟨w.heap.size + 2, 0, none⟩) (by simp)).trans (by simp [go_sem])
  have k2_1 : w1.cell? ⟨w.heap.size + 2, 1, none⟩ = some (.string ⟨#[]⟩) := (hB.cell (p := ⟨w.heap.size + 2, 1, none⟩) (by simp)).trans (by simp [go_sem])
  have f2_1 : w1.frozen? ⟨w.heap.size + 2, 1, none⟩ = false := (hB.frozen (p := ⟨w.heap.size + 2, 1, none⟩) (by simp)).trans (by simp [go_sem])
  have k2_2 : w1.cell? ⟨w.heap.size + 2, 2, none⟩ = some (.int .i64 0) := (hB.cell (p := ⟨w.heap.size + 2, 2, none⟩) (by simp)).trans (by simp [go_sem])
  have f2_2 : w1.frozen? ⟨w.heap.size + 2, 2, none⟩ = false := (hB.frozen (p := ⟨w.heap.size + 2, 2, none⟩) (by simp)).trans (by simp [go_sem])
  have k2_3 : w1.cell? ⟨w.heap.size + 2, 3, none⟩ = some (.int .i64 0) := (hB.cell (p := ⟨w.heap.size + 2, 3, none⟩) (by simp)).trans (by simp [go_sem])
  have f2_3 : w1.frozen? ⟨w.heap.size + 2, 3, none⟩ = false := (hB.frozen (p := ⟨w.heap.size + 2, 3, none⟩) (by simp)).trans (by simp [go_sem])
  have k2_4 : w1.cell? ⟨w.heap.size + 2, 4, none⟩ = some (.int .i64 0) := (hB.cell (p := ⟨w.heap.size + 2, 4, none⟩) (by simp)).trans (by simp [go_sem])
  have f2_4 : w1.frozen? ⟨w.heap.size + 2, 4, none⟩ = false := (hB.frozen (p := ⟨w.heap.size + 2, 4, none⟩) (by simp)).trans (by simp [go_sem])
  have k2_5 : w1.cell? ⟨w.heap.size + 2, 5, none⟩ = some (.slice none 0 0) := (hB.cell (p := ⟨w.heap.size + 2, 5, none⟩) (by simp)).trans (by simp [go_sem])
  have f2_5 : w1.frozen? ⟨w.heap.size + 2, 5, none⟩ = false := (hB.frozen (p := ⟨w.heap.size + 2, 5, none⟩) (by simp)).trans (by simp [go_sem])
  have k2_6 : w1.cell? ⟨w.heap.size + 2, 6, none⟩ = some (.slice none 0 0) := (hB.cell (p := ⟨w.heap.size + 2, 6, none⟩) (by simp)).trans (by simp [go_sem])
  have f2_6 : w1.frozen? ⟨w.heap.size + 2, 6, none⟩ = false := (hB.frozen (p := ⟨w.heap.size + 2, 6, none⟩) (by simp)).trans (by simp [go_sem])
  have z2 : w.heap.size + 2 < w1.heap.size := by omega
  rw [hon]
  clear hb1 hB hon
  go_wp2
  exact bodyPost_ret (v := .agg #[.int .i64 5, .string doc, .int .i64 0, .int .i64 0, .int .i64 n, .slice none 0 0, .slice none 0 0]) (by simp [results, Try.results87, go_sem, cell_setCell, *]) rfl ⟨_, _, rfl, RdS.nil, RdS.nil, (by repeat' (first | (with_reducible exact Below.refl _ _) | (with_reducible assumption) | (with_reducible refine Below.setCell ?_ ?_ _) | (with_reducible refine Below.alloc ?_ ?_ _) | (with_reducible refine Below.drew ?_) | (with_reducible refine belowN ?_ _) | (with_reducible refine below_after ?_ (by assumption) ?_) | omega | (simp; done) | (simp; omega)))⟩
set_option maxHeartbeats 4000000 in
set_option maxRecDepth 100000 in
theorem impl_used_6 (doc : ByteArray) (client seq n : Int) (po : List DPart) (text : List Int) (v_o v_text : Value) (w : World) (h_o : RdS w v_o po) (h_text : RdS w v_text text) :
    Calls Try.prog 87 #[.agg #[.int .i64 6, .string doc, .int .i64 client, .int .i64 seq, .int .i64 n, v_o, v_text]] w (OutUsed w (usedD ⟨6, doc, client, seq, n, po, text⟩)) := by
  have hon : onDoc 6 = false := by decide
  have HU : Hid (usedD ⟨6, doc, client, seq, n, po, text⟩ = ⟨6, ByteArray.empty, client, 0, n, [], []⟩) := Lib.hid (by simp [usedD, hon])
  rw [HU.out]
  clear HU
  obtain ⟨ao, co, rfl⟩ := h_o.isSlice
  obtain ⟨at_, ct, rfl⟩ := h_text.isSlice
  go_enter Try.func87, Try.ntmps87
  go_wp2_with fail
  refine (impl_OnDoc_c 6 _).mono ?_
  rintro e w1 ⟨rfl, hb1⟩
  have hB : Below (w.heap.size + 3) (((w.alloc (.cells #[.int .i64 6, .string doc, .int .i64 client, .int .i64 seq, .int .i64 n, .slice ao po.length co, .slice at_ text.length ct] 58)).alloc (.cells #[.int .i64 0, .string ⟨#[]⟩, .int .i64 0, .int .i64 0, .int .i64 0, .slice none 0 0, .slice none 0 0] 58)).alloc (.cells #[.int .i64 6, .string ⟨#[]⟩, .int .i64 0, .int .i64 0, .int .i64 0, .slice none 0 0, .slice none 0 0] 58)) w1 := (by repeat' (first | (with_reducible exact Below.refl _ _) | (with_reducible assumption) | (with_reducible refine Below.setCell ?_ ?_ _) | (with_reducible refine Below.alloc ?_ ?_ _) | (with_reducible refine Below.drew ?_) | (with_reducible refine belowN ?_ _) | (with_reducible refine below_after ?_ (by assumption) ?_) | omega | (simp; done) | (simp; omega)))
  have s1 : w.heap.size + 3 ≤ w1.heap.size := (by have := hb1.size; (try simp at this); omega)
  have hbw : Below w.heap.size w w1 := (by repeat' (first | (with_reducible exact Below.refl _ _) | (with_reducible assumption) | (with_reducible refine Below.setCell ?_ ?_ _) | (with_reducible refine Below.alloc ?_ ?_ _) | (with_reducible refine Below.drew ?_) | (with_reducible refine belowN ?_ _) | (with_reducible refine below_after ?_ (by assumption) ?_) | omega | (simp; done) | (simp; omega)))
  have k0_0 : w1.cell? ⟨w.heap.size, 0, none⟩ = some (.int .i64 6) := (hB.cell (p := ⟨w.heap.size, 0, none⟩) (by simp)).trans (by simp [go_sem])
  have k0_1 : w1.cell? ⟨w.heap.size, 1, none⟩ = some (.string doc) := (hB.cell (p := ⟨w.heap.size, 1, none⟩) (by simp)).trans (by simp [go_sem])
  have k0_2 : w1.cell? ⟨w.heap.size, 2, none⟩ = some (.int .i64 client) := (hB.cell (p := ⟨w.heap.size, 2, none⟩) (by simp)).trans (by simp [go_sem])
  have k0_3 : w1.cell? ⟨w.heap.size, 3, none⟩ = some (.int .i64 seq) := (hB.cell (p := ⟨w.heap.size, 3, none⟩) (by simp)).trans (by simp [go_sem])
  have k0_4 : w1.cell? ⟨w.heap.size, 4, none⟩ = some (.int .i64 n) := (hB.cell (p := ⟨w.heap.size, 4, none⟩) (by simp)).trans (by simp [go_sem])
  have k0_5 : w1.cell? ⟨w.heap.size, 5, none⟩ = some (.slice ao po.length co) := (hB.cell (p := ⟨w.heap.size, 5, none⟩) (by simp)).trans (by simp [go_sem])
  have k0_6 : w1.cell? ⟨w.heap.size, 6, none⟩ = some (.slice at_ text.length ct) := (hB.cell (p := ⟨w.heap.size, 6, none⟩) (by simp)).trans (by simp [go_sem])
  have z0 : w.heap.size < w1.heap.size := by omega
  have k1_0 : w1.cell? ⟨w.heap.size + 1, 0, none⟩ = some (.int .i64 0) := (hB.cell (p := ⟨w.heap.size + 1, 0, none⟩) (by simp)).trans (by simp [go_sem])
  have f1_0 : w1.frozen? ⟨w.heap.size + 1, 0, none⟩ = false := (hB.frozen (p := ⟨w.heap.size + 1, 0, none⟩) (by simp)).trans (by simp [go_sem])
  have k1_1 : w1.cell? ⟨w.heap.size + 1, 1, none⟩ = some (.string ⟨#[]⟩) := (hB.cell (p := ⟨w.heap.size + 1, 1, none⟩) (by simp)).trans (by simp [go_sem])
  have f1_1 : w1.frozen? ⟨w.heap.size + 1, 1, none⟩ = false := (hB.frozen (p := ⟨w.heap.size + 1, 1, none⟩) (by simp)).trans (by simp [go_sem])
  have k1_2 : w1.cell? ⟨w.heap.size + 1, 2, none⟩ = some (.int .i64 0) := (hB.cell (p := ⟨w.heap.size + 1, 2, none⟩) (by simp)).trans (by simp [go_sem])
  have f1_2 : w1.frozen? ⟨w.heap.size + 1, 2, none⟩ = false := (hB.frozen (p := ⟨w.heap.size + 1, 2, none⟩) (by simp)).trans (by simp [go_sem])
  have k1_3 : w1.cell? ⟨w.heap.size + 1, 3, none⟩ = some (.int .i64 0) := (hB.cell (p := ⟨w.heap.size + 1, 3, none⟩) (by simp)).trans (by simp [go_sem])
  have f1_3 : w1.frozen? ⟨w.heap.size + 1, 3, none⟩ = false := (hB.frozen (p := ⟨w.heap.size + 1, 3, none⟩) (by simp)).trans (by simp [go_sem])
  have k1_4 : w1.cell? ⟨w.heap.size + 1, 4, none⟩ = some (.int .i64 0) := (hB.cell (p := ⟨w.heap.size + 1, 4, none⟩) (by simp)).trans (by simp [go_sem])
  have f1_4 : w1.frozen? ⟨w.heap.size + 1, 4, none⟩ = false := (hB.frozen (p := ⟨w.heap.size + 1, 4, none⟩) (by simp)).trans (by simp [go_sem])
  have k1_5 : w1.cell? ⟨w.heap.size + 1, 5, none⟩ = some (.slice none 0 0) := (hB.cell (p := ⟨w.heap.size + 1, 5, none⟩) (by simp)).trans (by simp [go_sem])
  have f1_5 : w1.frozen? ⟨w.heap.size + 1, 5, none⟩ = false := (hB.frozen (p := ⟨w.heap.size + 1, 5, none⟩) (by simp)).trans (by simp [go_sem])
  have k1_6 : w1.cell? ⟨w.heap.size + 1, 6, none⟩ = some (.slice none 0 0) := (hB.cell (p := ⟨w.heap.size + 1, 6, none⟩) (by simp)).trans (by simp [go_sem])
  have f1_6 : w1.frozen? ⟨w.heap.size + 1, 6, none⟩ = false := (hB.frozen (p := ⟨w.heap.size + 1, 6, none⟩) (by simp)).trans (by simp [go_sem])
  have z1 : w.heap.size + 1 < w1.heap.size := by omega
  have k2_0 : w1.cell? ⟨w.heap.size + 2, 0, none⟩ = some (.int .i64 6) := (hB.cell (p := ⟨w.heap.size + 2, 0, none⟩) (by simp)).trans (by simp [go_sem])
  have f2_0 : w1.frozen? ⟨w.heap.size + 2, 0, none⟩ = false := (hB.frozen (p := ⟨w.heap.size + 2, 0, none⟩) (by simp)).trans (by simp [go_sem])
  have k2_1 : w1.cell? ⟨w.heap.size + 2, 1, none⟩ = some (.string ⟨#[]⟩) := (hB.cell (p := ⟨w.heap.size + 2, 1, none⟩) (by simp)).trans (by simp [go_sem])
  have f2_1 : w1.frozen? ⟨w.heap.size + 2, 1, none⟩ = false := (hB.frozen (p := ⟨w.heap.size + 2, 1, none⟩) (by simp)).trans (by simp [go_sem])
  have k2_2 : w1.cell? ⟨w.heap.size + 2, 2, none⟩ = some (.int .i64 0) := (hB.cell (p := ⟨w.heap.size + 2, 2, none⟩) (by simp)).trans (by simp [go_sem])
  have f2_2 : w1.frozen? ⟨w.heap.size + 2, 2, none⟩ = false := (hB.frozen (p := ⟨w.heap.size + 2, 2, none⟩) (by simp)).trans (by simp [go_sem])
  have k2_3 : w1.cell? ⟨w.heap.size + 2, 3, none⟩ = some (.int .i64 0) := (hB.cell (p := ⟨w.heap.size + 2, 3, none⟩) (by simp)).trans (by simp [go_sem])
  have f2_3 : w1.frozen? ⟨w.heap.size + 2, 3, none⟩ = false := (hB.frozen (p := ⟨w.heap.size + 2, 3, none⟩) (by simp)).trans (by simp [go_sem])
  have k2_4 : w1.cell? ⟨w.heap.size + 2, 4, none⟩ = some (.int .i64 0) := (hB.cell (p := ⟨w.heap.size + 2, 4, none⟩) (by simp)).trans (by simp [go_sem])
  have f2_4 : w1.frozen? ⟨w.heap.size + 2, 4, none⟩ = false := (hB.frozen (p := ⟨w.heap.size + 2, 4, none⟩) (by simp)).trans (by simp [go_sem])
  have k2_5 : w1.cell? ⟨w.heap.size + 2, 5, none⟩ = some (.slice none 0 0) := (hB.cell (p := ⟨w.heap.size + 2, 5, none⟩) (by simp)).trans (by simp [go_sem])
  have f2_5 : w1.frozen? ⟨w.heap.size + 2, 5, none⟩ = false := (hB.frozen (p := ⟨w.heap.size + 2, 5, none⟩) (by simp)).trans (by simp [go_sem])
  have k2_6 : w1.cell? ⟨w.heap.size + 2, 6, none⟩ = some (.slice none 0 0) := (hB.cell (p := ⟨w.heap.size + 2, 6, none⟩) (by simp)).trans (by simp [go_sem])
  have f2_6 : w1.frozen? ⟨w.heap.size + 2, 6, none⟩ = false := (hB.frozen (p := ⟨w.heap.size + 2, 6, none⟩) (by simp)).trans (by simp [go_sem])
  have z2 : w.heap.size + 2 < w1.heap.size := by omega
  rw [hon]
  clear hb1 hB hon
  go_wp2
  go_region
  all_goals
    go_wp2
    exact bodyPost_ret (v := .agg #[.int .i64 6, .string ⟨#[]⟩, .int .i64 client, .int .i64 0, .int .i64 n, .slice none 0 0, .slice none 0 0]) (by simp [results, Try.results87, go_sem, cell_setCell, *]) rfl ⟨_, _, rfl, RdS.nil, RdS.nil, (by repeat' (first | (with_reducible exact Below.refl _ _) | (with_reducible assumption) | (with_reducible refine Below.setCell ?_ ?_ _) | (with_reducible refine Below.alloc ?_ ?_ _) | (with_reducible refine Below.drew ?_) | (with_reducible refine belowN ?_ _) | (with_reducible refine below_after ?_ (by assumption) ?_) | omega | (simp; done) | (simp; omega)))⟩
set_option maxHeartbeats 4000000 in
set_option maxRecDepth 100000 in
theorem impl_used_7 (doc : ByteArray) (client seq n : Int) (po : List DPart) (text : List Int) (v_o v_text : Value) (w : World) (h_o : RdS w v_o po) (h_text : RdS w v_text text) :
    Calls Try.prog 87 #[.agg #[.int .i64 7, .string doc, .int .i64 client, .int .i64 seq, .int .i64 n, v_o, v_text]] w (OutUsed w (usedD ⟨7, doc, client, seq, n, po, text⟩)) := by
  have hon : onDoc 7 = false := by decide
  have HU : Hid (usedD ⟨7, doc, client, seq, n, po, text⟩ = ⟨7, ByteArray.empty, client, 0, 0, [], []⟩) := Lib.hid (by simp [usedD, hon])
  rw [HU.out]
  clear HU
  obtain ⟨ao, co, rfl⟩ := h_o.isSlice
  obtain ⟨at_, ct, rfl⟩ := h_text.isSlice
  go_enter Try.func87, Try.ntmps87
  go_wp2_with fail
  refine (impl_OnDoc_c 7 _).mono ?_
  rintro e w1 ⟨rfl, hb1⟩
  have hB : Below (w.heap.size + 3) (((w.alloc (.cells #[.int .i64 7, .string doc, .int .i64 client, .int .i64 seq, .int .i64 n, .slice ao po.length co, .slice at_ text.length ct] 58)).alloc (.cells #[.int .i64 0, .string ⟨#[]⟩, .int .i64 0, .int .i64 0, .int .i64 0, .slice none 0 0, .slice none 0 0] 58)).alloc (.cells #[.int .i64 7, .string ⟨#[]⟩, .int .i64 0, .int .i64 0, .int .i64 0, .slice none 0 0, .slice none 0 0] 58)) w1 := (by repeat' (first | (with_reducible exact Below.refl _ _) | (with_reducible assumption) | (with_reducible refine Below.setCell ?_ ?_ _) | (with_reducible refine Below.alloc ?_ ?_ _) | (with_reducible refine Below.drew ?_) | (with_reducible refine belowN ?_ _) | (with_reducible refine below_after ?_ (by assumption) ?_) | omega | (simp; done) | (simp; omega)))
  have s1 : w.heap.size + 3 ≤ w1.heap.size := (by have := hb1.size; (try simp at this); omega)
  have hbw : Below w.heap.size w w1 := (by repeat' (first | (with_reducible exact Below.refl _ _) | (with_reducible assumption) | (with_reducible refine Below.setCell ?_ ?_ _) | (with_reducible refine Below.alloc ?_ ?_ _) | (with_reducible refine Below.drew ?_) | (with_reducible refine belowN ?_ _) | (with_reducible refine below_after ?_ (by assumption) ?_) | omega | (simp; done) | (simp; omega)))
  have k0_0 : w1.cell? ⟨w.heap.size, 0, none⟩ = some (.int .i64 7) := (hB.cell (p := ⟨w.heap.size, 0, none⟩) (by simp)).trans (by simp [go_sem])
  have k0_1 : w1.cell? ⟨w.heap.size, 1, none⟩ = some (.string doc) := (hB.cell (p := ⟨w.heap.size, 1, none⟩) (by simp)).trans (by simp [go_sem])
  have k0_2 : w1.cell? ⟨w.heap.size, 2, none⟩ = some (.int .i64 client) := (hB.cell (p := ⟨w.heap.size, 2, none⟩) (by simp)).trans (by simp [go_sem])
  have k0_3 : w1.cell? ⟨w.heap.size, 3, none⟩ = some (.int .i64 seq) := (hB.cell (p := ⟨w.heap.size, 3, none⟩) (by simp)).trans (by simp [go_sem])
  have k0_4 : w1.cell? ⟨w.heap.size, 4, none⟩ = some (.int .i64 n) := (hB.cell (p := ⟨w.heap.size, 4, none⟩) (by simp)).trans (by simp [go_sem])
  have k0_5 : w1.cell? ⟨w.heap.size, 5, none⟩ = some (.slice ao po.length co) := (hB.cell (p := ⟨w.heap.size, 5, none⟩) (by simp)).trans (by simp [go_sem])
  have k0_6 : w1.cell? ⟨w.heap.size, 6, none⟩ = some (.slice at_ text.length ct) := (hB.cell (p := ⟨w.heap.size, 6, none⟩) (by simp)).trans (by simp [go_sem])
  have z0 : w.heap.size < w1.heap.size := by omega
  have k1_0 : w1.cell? ⟨w.heap.size + 1, 0, none⟩ = some (.int .i64 0) := (hB.cell (p := ⟨w.heap.size + 1, 0, none⟩) (by simp)).trans (by simp [go_sem])
  have f1_0 : w1.frozen? ⟨w.heap.size + 1, 0, none⟩ = false := (hB.frozen (p := ⟨w.heap.size + 1, 0, none⟩) (by simp)).trans (by simp [go_sem])
  have k1_1 : w1.cell? ⟨w.heap.size + 1, 1, none⟩ = some (.string ⟨#[]⟩) := (hB.cell (p := ⟨w.heap.size + 1, 1, none⟩) (by simp)).trans (by simp [go_sem])
  have f1_1 : w1.frozen? ⟨w.heap.size + 1, 1, none⟩ = false := (hB.frozen (p := ⟨w.heap.size + 1, 1, none⟩) (by simp)).trans (by simp [go_sem])
  have k1_2 : w1.cell? ⟨w.heap.size + 1, 2, none⟩ = some (.int .i64 0) := (hB.cell (p := ⟨w.heap.size + 1, 2, none⟩) (by simp)).trans (by simp [go_sem])
  have f1_2 : w1.frozen? ⟨w.heap.size + 1, 2, none⟩ = false := (hB.frozen (p := ⟨w.heap.size + 1, 2, none⟩) (by simp)).trans (by simp [go_sem])
  have k1_3 : w1.cell? ⟨w.heap.size + 1, 3, none⟩ = some (.int .i64 0) := (hB.cell (p := ⟨w.heap.size + 1, 3, none⟩) (by simp)).trans (by simp [go_sem])
  have f1_3 : w1.frozen? ⟨w.heap.size + 1, 3, none⟩ = false := (hB.frozen (p := ⟨w.heap.size + 1, 3, none⟩) (by simp)).trans (by simp [go_sem])
  have k1_4 : w1.cell? ⟨w.heap.size + 1, 4, none⟩ = some (.int .i64 0) := (hB.cell (p := ⟨w.heap.size + 1, 4, none⟩) (by simp)).trans (by simp [go_sem])
  have f1_4 : w1.frozen? ⟨w.heap.size + 1, 4, none⟩ = false := (hB.frozen (p := ⟨w.heap.size + 1, 4, none⟩) (by simp)).trans (by simp [go_sem])
  have k1_5 : w1.cell? ⟨w.heap.size + 1, 5, none⟩ = some (.slice none 0 0) := (hB.cell (p := ⟨w.heap.size + 1, 5, none⟩) (by simp)).trans (by simp [go_sem])
  have f1_5 : w1.frozen? ⟨w.heap.size + 1, 5, none⟩ = false := (hB.frozen (p := ⟨w.heap.size + 1, 5, none⟩) (by simp)).trans (by simp [go_sem])
  have k1_6 : w1.cell? ⟨w.heap.size + 1, 6, none⟩ = some (.slice none 0 0) := (hB.cell (p := ⟨w.heap.size + 1, 6, none⟩) (by simp)).trans (by simp [go_sem])
  have f1_6 : w1.frozen? ⟨w.heap.size + 1, 6, none⟩ = false := (hB.frozen (p := ⟨w.heap.size + 1, 6, none⟩) (by simp)).trans (by simp [go_sem])
  have z1 : w.heap.size + 1 < w1.heap.size := by omega
  have k2_0 : w1.cell? ⟨w.heap.size + 2, 0, none⟩ = some (.int .i64 7) := (hB.cell (p := ⟨w.heap.size + 2, 0, none⟩) (by simp)).trans (by simp [go_sem])
  have f2_0 : w1.frozen? ⟨w.heap.size + 2, 0, none⟩ = false := (hB.frozen (p := ⟨w.heap.size + 2, 0, none⟩) (by simp)).trans (by simp [go_sem])
  have k2_1 : w1.cell? ⟨w.heap.size + 2, 1, none⟩ = some (.string ⟨#[]⟩) := (hB.cell (p := ⟨w.heap.size + 2, 1, none⟩) (by simp)).trans (by simp [go_sem])
  have f2_1 : w1.frozen? ⟨w.heap.size + 2, 1, none⟩ = false := (hB.frozen (p := ⟨w.heap.size + 2, 1, none⟩) (by simp)).trans (by simp [go_sem])
  have k2_2 : w1.cell? ⟨w.heap.size + 2, 2, none⟩ = some (.int .i64 0) := (hB.cell (p := ⟨w.heap.size + 2, 2, none⟩) (by simp)).trans (by simp [go_sem])
  have f2_2 : w1.frozen? ⟨w.heap.size + 2, 2, none⟩ = false := (hB.frozen (p := ⟨w.heap.size + 2, 2, none⟩) (by simp)).trans (by simp [go_sem])
  have k2_3 : w1.cell? ⟨w.heap.size + 2, 3, none⟩ = some (.int .i64 0) := (hB.cell (p := ⟨w.heap.size + 2, 3, none⟩) (by simp)).trans (by simp [go_sem])
  have f2_3 : w1.frozen? ⟨w.heap.size + 2, 3, none⟩ = false := (hB.frozen (p := ⟨w.heap.size + 2, 3, none⟩) (by simp)).trans (by simp [go_sem])
  have k2_4 : w1.cell? ⟨w.heap.size + 2, 4, none⟩ = some (.int .i64 0) := (hB.cell (p := ⟨w.heap.size + 2, 4, none⟩) (by simp)).trans (by simp [go_sem])
  have f2_4 : w1.frozen? ⟨w.heap.size + 2, 4, none⟩ = false := (hB.frozen (p := ⟨w.heap.size + 2, 4, none⟩) (by simp)).trans (by simp [go_sem])
  have k2_5 : w1.cell? ⟨w.heap.size + 2, 5, none⟩ = some (.slice none 0 0) := (hB.cell (p := ⟨w.heap.size + 2, 5, none⟩) (by simp)).trans (by simp [go_sem])
  have f2_5 : w1.frozen? ⟨w.heap.size + 2, 5, none⟩ = false := (hB.frozen (p := ⟨w.heap.size + 2, 5, none⟩) (by simp)).trans (by simp [go_sem])
  have k2_6 : w1.cell? ⟨w.heap.size + 2, 6, none⟩ = some (.slice none 0 0) := (hB.cell (p := ⟨w.heap.size + 2, 6, none⟩) (by simp)).trans (by simp [go_sem])
  have f2_6 : w1.frozen? ⟨w.heap.size + 2, 6, none⟩ = false := (hB.frozen (p := ⟨w.heap.size + 2, 6, none⟩) (by simp)).trans (by simp [go_sem])
  have z2 : w.heap.size + 2 < w1.heap.size := by omega
  rw [hon]
  clear hb1 hB hon
  go_wp2
  exact bodyPost_ret (v := .agg #[.int .i64 7, .string ⟨#[]⟩, .int .i64 client, .int .i64 0, .int .i64 0, .slice none 0 0, .slice none 0 0]) (by simp [results, Try.results87, go_sem, cell_setCell, *]) rfl ⟨_, _, rfl, RdS.nil, RdS.nil, (by repeat' (first | (with_reducible exact Below.refl _ _) | (with_reducible assumption) | (with_reducible refine Below.setCell ?_ ?_ _) | (with_reducible refine Below.alloc ?_ ?_ _) | (with_reducible refine Below.drew ?_) | (with_reducible refine belowN ?_ _) | (with_reducible refine below_after ?_ (by assumption) ?_) | omega | (simp; done) | (simp; omega)))⟩
set_option maxHeartbeats 4000000 in
set_option maxRecDepth 100000 in
theorem impl_used_8 (doc : ByteArray) (client seq n : Int) (po : List DPart) (text : List Int) (v_o v_text : Value) (w : World) (h_o : RdS w v_o po) (h_text : RdS w v_text text) :
    Calls Try.prog 87 #[.agg #[.int .i64 8, .string doc, .int .i64 client, .int .i64 seq, .int .i64 n, v_o, v_text]] w (OutUsed w (usedD ⟨8, doc, client, seq, n, po, text⟩)) := by
  have hon : onDoc 8 = false := by decide
  have HU : Hid (usedD ⟨8, doc, client, seq, n, po, text⟩ = ⟨8, ByteArray.empty, 0, 0, 0, [], []⟩) := Lib.hid (by simp [usedD, hon])
  rw [HU.out]
  clear HU
  obtain ⟨ao, co, rfl⟩ := h_o.isSlice
  obtain ⟨at_, ct, rfl⟩ := h_text.isSlice
  go_enter Try.func87, Try.ntmps87
  go_wp2_with fail
  refine (impl_OnDoc_c 8 _).mono ?_
  rintro e w1 ⟨rfl, hb1⟩
  have hB : Below (w.heap.size + 3) (((w.alloc (.cells #[.int .i64 8, .string doc, .int .i64 client, .int .i64 seq, .int .i64 n, .slice ao po.length co, .slice at_ text.length ct] 58)).alloc (.cells #[.int .i64 0, .string ⟨#[]⟩, .int .i64 0, .int .i64 0, .int .i64 0, .slice none 0 0, .slice none 0 0] 58)).alloc (.cells #[.int .i64 8, .string ⟨#[]⟩, .int .i64 0, .int .i64 0, .int .i64 0, .slice none 0 0, .slice none 0 0] 58)) w1 := (by repeat' (first | (with_reducible exact Below.refl _ _) | (with_reducible assumption) | (with_reducible refine Below.setCell ?_ ?_ _) | (with_reducible refine Below.alloc ?_ ?_ _) | (with_reducible refine Below.drew ?_) | (with_reducible refine belowN ?_ _) | (with_reducible refine below_after ?_ (by assumption) ?_) | omega | (simp; done) | (simp; omega)))
  have s1 : w.heap.size + 3 ≤ w1.heap.size := (by have := hb1.size; (try simp at this); omega)
  have hbw : Below w.heap.size w w1 := (by repeat' (first | (with_reducible exact Below.refl _ _) | (with_reducible assumption) | (with_reducible refine Below.setCell ?_ ?_ _) | (with_reducible refine Below.alloc ?_ ?_ _) | (with_reducible refine Below.drew ?_) | (with_reducible refine belowN ?_ _) | (with_reducible refine below_after ?_ (by assumption) ?_) | omega | (simp; done) | (simp; omega)))
  have k0_0 : w1.cell? ⟨w.heap.size, 0, none⟩ = some (.int .i64 8) := (hB.cell (p := ⟨w.heap.size, 0, none⟩) (by simp)).trans (by simp [go_sem])
  have k0_1 : w1.cell? ⟨w.heap.size, 1, none⟩ = some (.string doc) := (hB.cell (p := ⟨w.heap.size, 1, none⟩) (by simp)).trans (by simp [go_sem])
  have k0_2 : w1.cell? ⟨w.heap.size, 2, none⟩ = some (.int .i64 client) := (hB.cell (p := ⟨w.heap.size, 2, none⟩) (by simp)).trans (by simp [go_sem])
  have k0_3 : w1.cell? ⟨w.heap.size, 3, none⟩ = some (.int .i64 seq) := (hB.cell (p := ⟨w.heap.size, 3, none⟩) (by simp)).trans (by simp [go_sem])
  have k0_4 : w1.cell? ⟨w.heap.size, 4, none⟩ = some (.int .i64 n) := (hB.cell (p := ⟨w.heap.size, 4, none⟩) (by simp)).trans (by simp [go_sem])
  have k0_5 : w1.cell? ⟨w.heap.size, 5, none⟩ = some (.slice ao po.length co) := (hB.cell (p := ⟨w.heap.size, 5, none⟩) (by simp)).trans (by simp [go_sem])
  have k0_6 : w1.cell? ⟨w.heap.size, 6, none⟩ = some (.slice at_ text.length ct) := (hB.cell (p := ⟨w.heap.size, 6, none⟩) (by simp)).trans (by simp [go_sem])
  have z0 : w.heap.size < w1.heap.size := by omega
  have k1_0 : w1.cell? ⟨w.heap.size + 1, 0, none⟩ = some (.int .i64 0) := (hB.cell (p := ⟨w.heap.size + 1, 0, none⟩) (by simp)).trans (by simp [go_sem])
  have f1_0 : w1.frozen? ⟨w.heap.size + 1, 0, none⟩ = false := (hB.frozen (p := ⟨w.heap.size + 1, 0, none⟩) (by simp)).trans (by simp [go_sem])
  have k1_1 : w1.cell? ⟨w.heap.size + 1, 1, none⟩ = some (.string ⟨#[]⟩) := (hB.cell (p := ⟨w.heap.size + 1, 1, none⟩) (by simp)).trans (by simp [go_sem])
  have f1_1 : w1.frozen? ⟨w.heap.size + 1, 1, none⟩ = false := (hB.frozen (p := ⟨w.heap.size + 1, 1, none⟩) (by simp)).trans (by simp [go_sem])
  have k1_2 : w1.cell? ⟨w.heap.size + 1, 2, none⟩ = some (.int .i64 0) := (hB.cell (p := ⟨w.heap.size + 1, 2, none⟩) (by simp)).trans (by simp [go_sem])
  have f1_2 : w1.frozen? ⟨w.heap.size + 1, 2, none⟩ = false := (hB.frozen (p := ⟨w.heap.size + 1, 2, none⟩) (by simp)).trans (by simp [go_sem])
  have k1_3 : w1.cell? ⟨w.heap.size + 1, 3, none⟩ = some (.int .i64 0) := (hB.cell (p := ⟨w.heap.size + 1, 3, none⟩) (by simp)).trans (by simp [go_sem])
  have f1_3 : w1.frozen? ⟨w.heap.size + 1, 3, none⟩ = false := (hB.frozen (p := ⟨w.heap.size + 1, 3, none⟩) (by simp)).trans (by simp [go_sem])
  have k1_4 : w1.cell? ⟨w.heap.size + 1, 4, none⟩ = some (.int .i64 0) := (hB.cell (p := ⟨w.heap.size + 1, 4, none⟩) (by simp)).trans (by simp [go_sem])
  have f1_4 : w1.frozen? ⟨w.heap.size + 1, 4, none⟩ = false := (hB.frozen (p := ⟨w.heap.size + 1, 4, none⟩) (by simp)).trans (by simp [go_sem])
  have k1_5 : w1.cell? ⟨w.heap.size + 1, 5, none⟩ = some (.slice none 0 0) := (hB.cell (p := ⟨w.heap.size + 1, 5, none⟩) (by simp)).trans (by simp [go_sem])
  have f1_5 : w1.frozen? ⟨w.heap.size + 1, 5, none⟩ = false := (hB.frozen (p := ⟨w.heap.size + 1, 5, none⟩) (by simp)).trans (by simp [go_sem])
  have k1_6 : w1.cell? ⟨w.heap.size + 1, 6, none⟩ = some (.slice none 0 0) := (hB.cell (p := ⟨w.heap.size + 1, 6, none⟩) (by simp)).trans (by simp [go_sem])
  have f1_6 : w1.frozen? ⟨w.heap.size + 1, 6, none⟩ = false := (hB.frozen (p := ⟨w.heap.size + 1, 6, none⟩) (by simp)).trans (by simp [go_sem])
  have z1 : w.heap.size + 1 < w1.heap.size := by omega
  have k2_0 : w1.cell? ⟨w.heap.size + 2, 0, none⟩ = some (.int .i64 8) := (hB.cell (p := ⟨w.heap.size + 2, 0, none⟩) (by simp)).trans (by simp [go_sem])
  have f2_0 : w1.frozen? ⟨w.heap.size + 2, 0, none⟩ = false := (hB.frozen (p := ⟨w.heap.size + 2, 0, none⟩) (by simp)).trans (by simp [go_sem])
  have k2_1 : w1.cell? ⟨w.heap.size + 2, 1, none⟩ = some (.string ⟨#[]⟩) := (hB.cell (p := ⟨w.heap.size + 2, 1, none⟩) (by simp)).trans (by simp [go_sem])
  have f2_1 : w1.frozen? ⟨w.heap.size + 2, 1, none⟩ = false := (hB.frozen (p := ⟨w.heap.size + 2, 1, none⟩) (by simp)).trans (by simp [go_sem])
  have k2_2 : w1.cell? ⟨w.heap.size + 2, 2, none⟩ = some (.int .i64 0) := (hB.cell (p := ⟨w.heap.size + 2, 2, none⟩) (by simp)).trans (by simp [go_sem])
  have f2_2 : w1.frozen? ⟨w.heap.size + 2, 2, none⟩ = false := (hB.frozen (p := ⟨w.heap.size + 2, 2, none⟩) (by simp)).trans (by simp [go_sem])
  have k2_3 : w1.cell? ⟨w.heap.size + 2, 3, none⟩ = some (.int .i64 0) := (hB.cell (p := ⟨w.heap.size + 2, 3, none⟩) (by simp)).trans (by simp [go_sem])
  have f2_3 : w1.frozen? ⟨w.heap.size + 2, 3, none⟩ = false := (hB.frozen (p := ⟨w.heap.size + 2, 3, none⟩) (by simp)).trans (by simp [go_sem])
  have k2_4 : w1.cell? ⟨w.heap.size + 2, 4, none⟩ = some (.int .i64 0) := (hB.cell (p := ⟨w.heap.size + 2, 4, none⟩) (by simp)).trans (by simp [go_sem])
  have f2_4 : w1.frozen? ⟨w.heap.size + 2, 4, none⟩ = false := (hB.frozen (p := ⟨w.heap.size + 2, 4, none⟩) (by simp)).trans (by simp [go_sem])
  have k2_5 : w1.cell? ⟨w.heap.size + 2, 5, none⟩ = some (.slice none 0 0) := (hB.cell (p := ⟨w.heap.size + 2, 5, none⟩) (by simp)).trans (by simp [go_sem])
  have f2_5 : w1.frozen? ⟨w.heap.size + 2, 5, none⟩ = false := (hB.frozen (p := ⟨w.heap.size + 2, 5, none⟩) (by simp)).trans (by simp [go_sem])
  have k2_6 : w1.cell? ⟨w.heap.size + 2, 6, none⟩ = some (.slice none 0 0) := (hB.cell (p := ⟨w.heap.size + 2, 6, none⟩) (by simp)).trans (by simp [go_sem])
  have f2_6 : w1.frozen? ⟨w.heap.size + 2, 6, none⟩ = false := (hB.frozen (p := ⟨w.heap.size + 2, 6, none⟩) (by simp)).trans (by simp [go_sem])
  have z2 : w.heap.size + 2 < w1.heap.size := by omega
  rw [hon]
  clear hb1 hB hon
  go_wp2
  exact bodyPost_ret (v := .agg #[.int .i64 8, .string ⟨#[]⟩, .int .i64 0, .int .i64 0, .int .i64 0, .slice none 0 0, .slice none 0 0]) (by simp [results, Try.results87, go_sem, cell_setCell, *]) rfl ⟨_, _, rfl, RdS.nil, RdS.nil, (by repeat' (first | (with_reducible exact Below.refl _ _) | (with_reducible assumption) | (with_reducible refine Below.setCell ?_ ?_ _) | (with_reducible refine Below.alloc ?_ ?_ _) | (with_reducible refine Below.drew ?_) | (with_reducible refine belowN ?_ _) | (with_reducible refine below_after ?_ (by assumption) ?_) | omega | (simp; done) | (simp; omega)))⟩
end Go.Proofs.Ytihbmefidbmmdaa
