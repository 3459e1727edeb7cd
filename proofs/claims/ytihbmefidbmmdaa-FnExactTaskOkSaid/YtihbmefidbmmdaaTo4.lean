/- The copies that the laws make of their arguments. -/
import Derived.Test.YtihbmefidbmmdaaTo3
import Derived.Handy
namespace Go.Proofs.Ytihbmefidbmmdaa
open Go.RowKit

/-- cells that read as x out of memory of one's own between two block numbers -/
def OwnC {α : Type} [GoT α] (C D : Nat) (w : World) (cs : List Value) (x : α) : Prop := ∃ fp, GoT.rd BIG w cs x fp ∧ Fresh C w fp ∧ ∀ p ∈ fp, p.1 < D
section
variable {α : Type} [GoT α] {C D : Nat} {w w' : World} {cs : List Value} {x : α}
theorem OwnC.block (h : OwnC C D w cs x) (hs : ∀ k, C ≤ k → k < D → w'.heap[k]? = w.heap[k]?) : OwnC C D w' cs x := by
  obtain ⟨fp, h, k, hd⟩ := h
  have hb : ∀ p ∈ fp, w'.heap[p.1]? = w.heap[p.1]? := fun p hp => hs p.1 (k.ge p hp) (hd p hp)
  exact ⟨fp, GoT.keep h fun p hp => World.cell?_of_block (w := w) (a := ⟨p.1, p.2, none⟩) (hb p hp), ⟨k.nodup, k.ge, fun p hp => by
    rw [World.frozen?_of_block (w := w) (a := ⟨p.1, p.2, none⟩) (hb p hp)]; exact k.free p hp⟩, hd⟩
theorem OwnC.below (h : OwnC C D w cs x) (hb : Below w.heap.size w w') : OwnC C D w' cs x := by
  obtain ⟨fp, h, k, hd⟩ := h
  have hlt := Live.lt (GoT.live h)
  exact ⟨fp, GoT.keep h (Live.same_below hb hlt), k.below hb hlt, hd⟩
theorem OwnC.setCell {b o : Nat} (h : OwnC C D w cs x) (hp : b < C ∨ D ≤ b) (u : Value) : OwnC C D (w.setCell ⟨b, o, none⟩ u) cs x := h.block fun k h1 h2 => Below.heap_setCell w ⟨b, o, none⟩ u k (by show k ≠ b; omega)
theorem OwnC.alloc (h : OwnC C D w cs x) (o : Obj) : OwnC C D (w.alloc o) cs x := h.below ((Below.refl _ _).alloc (Nat.le_refl _) o)
theorem OwnC.drew (h : OwnC C D w cs x) : OwnC C D w.drew cs x := h.block fun _ _ _ => rfl
theorem OwnC.drewN (h : OwnC C D w cs x) (n : Nat) : OwnC C D (w.drewN n) cs x := h.block fun _ _ _ => rfl
end
theorem ownT {B C0 D0 C1 D1 : Nat} {w : World} {c a : List Value} (x : DTask) (hc : OwnC C0 D0 w c x.c) (ha : OwnC C1 D1 w a x.a) (e : D0 ≤ C1) (g0 : B ≤ C0) (g1 : B ≤ C1) : Own B w (c ++ ([.int .i64 x.pc, .int .i64 x.inv, .int .i64 x.lin, .int .i64 x.res] ++ a)) x := by
  obtain ⟨f, s, k, d⟩ := hc
  obtain ⟨g, s', k', _⟩ := ha
  exact ⟨_, ⟨c, a, f, g, rfl, s, s', rfl⟩, (k.mono g0).join (k'.mono g1) fun p hp q hq e => by have := d p hp; have := k'.ge q hq; subst e; omega⟩

theorem ownW {B C0 D0 C1 D1 C2 D2 C3 D3 : Nat} {w : World} {c : List Value} {v1 v2 v3 : Value} (x : DWorld) (hc : OwnC C0 D0 w c x.h) (h1 : OwnB C1 D1 w v1 x.locks) (h2 : OwnB C2 D2 w v2 x.queues) (h3 : OwnB C3 D3 w v3 x.tasks) (e0 : D0 ≤ C1) (e1 : D1 ≤ C2) (e2 : D2 ≤ C3) (m1 : C1 ≤ D1) (m2 : C2 ≤ D2)
    (g0 : B ≤ C0) (g1 : B ≤ C1) (g2 : B ≤ C2) (g3 : B ≤ C3) : Own B w (c ++ [v1, v2, v3, .int .i64 x.step]) x := by
  obtain ⟨f, s, k, d⟩ := hc
  obtain ⟨f1, s1, k1, d1⟩ := h1
  obtain ⟨f2, s2, k2, d2⟩ := h2
  obtain ⟨f3, s3, k3, _⟩ := h3
  refine ⟨_, ⟨c, v1, v2, v3, f, f1, f2, f3, rfl, s, s1, s2, s3, rfl⟩, (k.mono g0).join ((k1.mono g1).join ((k2.mono g2).join (k3.mono g3) fun p hp q hq e => ?_) fun p hp q hq e => ?_) fun p hp q hq e => ?_⟩
  · subst e; have := d2 p hp; have := k3.ge p hq; omega
  · subst e; have := d1 p hp
    rcases List.mem_append.1 hq with hq | hq
    · have := k2.ge p hq; omega
    · have := k3.ge p hq; omega
  · subst e; have := d p hp
    rcases List.mem_append.1 hq with hq | hq
    · have := k1.ge p hq; omega
    · rcases List.mem_append.1 hq with hq | hq
      · have := k2.ge p hq; omega
      · have := k3.ge p hq; omega

set_option maxHeartbeats 2000000 in
theorem toTask_c (x : DTask) (v_c_o : Value) (v_c_text : Value) (v_a_text : Value) (v_a_list : Value) (w : World) (n_c_doc : x.c.doc.size ≤ BIG) (h_c_o : RdS w v_c_o x.c.o) (h_c_text : RdS w v_c_text x.c.text) (h_a_text : RdS w v_a_text x.a.text) (h_a_list : RdS w v_a_list x.a.list) :
    Calls Try.prog 28 #[.agg #[.int .i64 x.c.kind, .string x.c.doc, .int .i64 x.c.client, .int .i64 x.c.seq, .int .i64 x.c.n, v_c_o, v_c_text, .int .i64 x.pc, .int .i64 x.inv, .int .i64 x.lin, .int .i64 x.res, .int .i64 x.a.code, .int .i64 x.a.rev, v_a_text, v_a_list]] w (Gives w x) := by
  go_enter Try.func28, Try.ntmps28
  go_wp2_with fail
  refine (toCall_c x.c _ _ _ n_c_doc (h_c_o.below (by repeat' (first | (with_reducible exact Below.refl _ _) | (with_reducible assumption) | (with_reducible refine Below.setCell ?_ ?_ _) | (with_reducible refine Below.alloc ?_ ?_ _) | (with_reducible refine Below.drew ?_) | (with_reducible refine belowN ?_ _) | (with_reducible refine below_after ?_ (by assumption) ?_) | omega | (simp; done) | (simp; omega)))) (h_c_text.below (by repeat' (first | (with_reducible exact Below.refl _ _) | (with_reducible assumption) | (with_reducible refine Below.setCell ?_ ?_ _) | (with_reducible refine Below.alloc ?_ ?_ _) | (with_reducible refine Below.drew ?_) | (with_reducible refine belowN ?_ _) | (with_reducible refine below_after ?_ (by assumption) ?_) | omega | (simp; done) | (simp; omega))))).mono ?_
  rintro e w1 ⟨_, rfl, ⟨fp1, hrd1, hfr1⟩, hb1⟩
  have s1 : w.heap.size + 3 ≤ w1.heap.size := by have := hb1.size; (try simp at this); omega
  have HO1 : OwnC (w.heap.size + 3) w1.heap.size w1 _ x.c := ⟨fp1, hrd1, hfr1.mono (by simp), Live.lt (GoT.live hrd1)⟩
  obtain ⟨v1_0, v1_1, rfl, _, r0, r1⟩ := inv_DCall ⟨_, hrd1⟩
  clear hrd1 hfr1
  obtain ⟨a1_0, c1_0, rfl⟩ := r0.isSlice
  clear r0
  obtain ⟨a1_1, c1_1, rfl⟩ := r1.isSlice
  clear r1
  obtain ⟨hc1, hf1⟩ := bcell hb1
  have z1_0 : w.heap.size < w1.heap.size := by omega
  have z1_1 : w.heap.size + 1 < w1.heap.size := by omega
  have z1_2 : w.heap.size + 1 + 1 < w1.heap.size := by omega
  go_wp2_with fail
  refine (toAnswer_c x.a _ _ _  (h_a_text.below (by repeat' (first | (with_reducible exact Below.refl _ _) | (with_reducible assumption) | (with_reducible refine Below.setCell ?_ ?_ _) | (with_reducible refine Below.alloc ?_ ?_ _) | (with_reducible refine Below.drew ?_) | (with_reducible refine belowN ?_ _) | (with_reducible refine below_after ?_ (by assumption) ?_) | omega | (simp; done) | (simp; omega)))) (h_a_list.below (by repeat' (first | (with_reducible exact Below.refl _ _) | (with_reducible assumption) | (with_reducible refine Below.setCell ?_ ?_ _) | (with_reducible refine Below.alloc ?_ ?_ _) | (with_reducible refine Below.drew ?_) | (with_reducible refine belowN ?_ _) | (with_reducible refine below_after ?_ (by assumption) ?_) | omega | (simp; done) | (simp; omega))))).mono ?_
  rintro e w2 ⟨_, rfl, ⟨fp2, hrd2, hfr2⟩, hb2⟩
  have s2 : w1.heap.size ≤ w2.heap.size := by have := hb2.size; (try simp at this); omega
  have HO2 : OwnC (w1.heap.size) w2.heap.size w2 _ x.a := ⟨fp2, hrd2, hfr2.mono (by simp), Live.lt (GoT.live hrd2)⟩
  obtain ⟨v2_0, v2_1, rfl, r0, r1⟩ := inv_DAnswer ⟨_, hrd2⟩
  clear hrd2 hfr2
  obtain ⟨a2_0, c2_0, rfl⟩ := r0.isSlice
  clear r0
  obtain ⟨a2_1, c2_1, rfl⟩ := r1.isSlice
  clear r1
  obtain ⟨hc2, hf2⟩ := bcell hb2
  have z2_0 : w.heap.size < w2.heap.size := by omega
  have z2_1 : w.heap.size + 1 < w2.heap.size := by omega
  have z2_2 : w.heap.size + 1 + 1 < w2.heap.size := by omega
  go_wp2
  refine bodyPost_ret (v := .agg #[.int .i64 x.c.kind, .string x.c.doc, .int .i64 x.c.client, .int .i64 x.c.seq, .int .i64 x.c.n, .slice a1_0 x.c.o.length c1_0, .slice a1_1 x.c.text.length c1_1, .int .i64 x.pc, .int .i64 x.inv, .int .i64 x.lin, .int .i64 x.res, .int .i64 x.a.code, .int .i64 x.a.rev, .slice a2_0 x.a.text.length c2_0, .slice a2_1 x.a.list.length c2_1]) (by simp [results, Try.results28, go_sem, cell_setCell, *]) rfl ?_
  exact ⟨_, rfl, ownT (C0 := w.heap.size + 3) (D0 := w1.heap.size) (C1 := w1.heap.size) (D1 := w2.heap.size) (c := [.int .i64 x.c.kind, .string x.c.doc, .int .i64 x.c.client, .int .i64 x.c.seq, .int .i64 x.c.n, .slice a1_0 x.c.o.length c1_0, .slice a1_1 x.c.text.length c1_1]) (a := [.int .i64 x.a.code, .int .i64 x.a.rev, .slice a2_0 x.a.text.length c2_0, .slice a2_1 x.a.list.length c2_1]) x (by repeat' (first | (with_reducible exact HO1) | (with_reducible refine OwnC.setCell ?_ ?_ _) | (with_reducible refine OwnC.drew ?_) | (with_reducible refine OwnC.drewN ?_ _) | (with_reducible refine OwnC.below ?_ (by assumption)) | (with_reducible refine OwnC.alloc ?_ _) | omega)) (by repeat' (first | (with_reducible exact HO2) | (with_reducible refine OwnC.setCell ?_ ?_ _) | (with_reducible refine OwnC.drew ?_) | (with_reducible refine OwnC.drewN ?_ _) | (with_reducible refine OwnC.below ?_ (by assumption)) | (with_reducible refine OwnC.alloc ?_ _) | omega)) (Nat.le_refl _) (by omega) (by omega), (by repeat' (first | (with_reducible exact Below.refl _ _) | (with_reducible assumption) | (with_reducible refine Below.setCell ?_ ?_ _) | (with_reducible refine Below.alloc ?_ ?_ _) | (with_reducible refine Below.drew ?_) | (with_reducible refine belowN ?_ _) | (with_reducible refine below_after ?_ (by assumption) ?_) | omega | (simp; done) | (simp; omega)))⟩





end Go.Proofs.Ytihbmefidbmmdaa
