/- The copies that the laws make of their arguments. -/
import Derived.Test.YtfbkhaaijbhadaaTo3
import Derived.Handy
namespace Go.Proofs.Ytfbkhaaijbhadaa
open Go.RowKit

/-- cells that read as x out of memory of one's own between two block numbers -/
def OwnC {α : Type} [GoT α] (C D : Nat) (w : World) (cs : List Value) (x : α) : Prop := ∃ fp, GoT.rd BIG w cs x fp ∧ Fresh C w fp ∧ ∀ p ∈ fp, p.1 < D
section
variable {α : Type} [GoT α] {C D : Nat} {w w' : World} {cs : List Value} {x : α}
theorem OwnC.block (h : OwnC C D w cs x) (hs : ∀ k, C ≤ k → k < D → w'.heap[k]? = w.heap[k]?) : OwnC C D w' cs x := by
  obtain ⟨fp, h, k, hd⟩ := h
  have hb : ∀ p ∈ fp, w'.heap[p.1]? = w.heap[p.1]? := fun p hp => hs p.1 (k.ge p hp) (hd p hp)
  exact ⟨fp, GoT.keep h fun p hp => World.cell?_of_block (w := w) (a := ⟨p.1, p.2, none⟩) (hb p hp), ⟨k.nodup, k.ge, fun p hp => by
    rw [World.frozen?_of_block (w := w) (a := ⟨p.1, p.2, none⟩) (hb p hp)]; exact k.free p hp⟩, hd⟩
theorem OwnC.below (h : OwnC C D w cs x) (hb : Below w.heap.size w w') : OwnC C D w' cs x := by
  obtain ⟨fp, h, k, hd⟩ := h
  have hlt := Live.lt (GoT.live h)
  exact ⟨fp, GoT.keep h (Live.same_below hb hlt), k.below hb hlt, hd⟩
theorem OwnC.setCell {b o : Nat} (h : OwnC C D w cs x) (hp : b < C ∨ D ≤ b) (u : Value) : OwnC C D (w.setCell ⟨b, o, none⟩ u) cs x := h.block fun k h1 h2 => Below.heap_setCell w ⟨b, o, none⟩ u k (by show k ≠ b; omega)
theorem OwnC.alloc (h : OwnC C D w cs x) (o : Obj) : OwnC C D (w.alloc o) cs x := h.below ((Below.refl _ _).alloc (Nat.le_refl _) o)
theorem OwnC.drew (h : OwnC C D w cs x) : OwnC C D w.drew cs x := h.block fun _ _ _ => rfl
theorem OwnC.drewN (h : OwnC C D w cs x) (n : Nat) : OwnC C D (w.drewN n) cs x := h.block fun _ _ _ => rfl
end
theorem ownT {B C0 D0 C1 D1 : Nat} {w : World} {c a : List Value} (x : DTask) (hc : OwnC C0 D0 w c x.c) (ha : OwnC C1 D1 w a x.a) (e : D0 ≤ C1) (g0 : B ≤ C0) (g1 : B ≤ C1) : Own B w (c ++ ([.int .i64 x.pc, .int .i64 x.inv, .int .i64 x.lin, .int .i64 x.res] ++ a)) x := by
  obtain ⟨f, s, k, d⟩ := hc
  obtain ⟨g, s', k', _⟩ := ha
  exact ⟨_, ⟨c, a, f, g, rfl, s, s', rfl⟩, (k.mono g0).join (k'.mono g1) fun p hp q hq e => by have := d p hp; have := k'.ge q hq; subst e; omega⟩

theorem ownW {B C0 D0 C1 D1 C2 D2 C3 D3 : Nat} {w : World} {c : List Value} {v1 v2 v3 : Value} (x : DWorld) (hc : OwnC C0 D0 w c x.h) (h1 : OwnB C1 D1 w v1 x.locks) (h2 : OwnB C2 D2 w v2 x.queues) (h3 : OwnB C3 D3 w v3 x.tasks) (e0 : D0 ≤ C1) (e1 : D1 ≤ C2) (e2 : D2 ≤ C3) (m1 : C1 ≤ D1) (m2 : C2 ≤ D2)
    (g0 : B ≤ C0) (g1 : B ≤ C1) (g2 : B ≤ C2) (g3 : B ≤ C3) : Own B w (c ++ [v1, v2, v3, .int .i64 x.step]) x := by
  obtain ⟨f, s, k, d⟩ := hc
  obtain ⟨f1, s1, k1, d1⟩ := h1
  obtain ⟨f2, s2, k2, d2⟩ := h2
  obtain ⟨f3, s3, k3, _⟩ := h3
  refine ⟨_, ⟨c, v1, v2, v3, f, f1, f2, f3, rfl, s, s1, s2, s3, rfl⟩, (k.mono g0).join ((k1.mono g1).join ((k2.mono g2).join (k3.mono g3) fun p hp q hq e => ?_) fun p hp q hq e => ?_) fun p hp q hq e => ?_⟩
  · subst e; have := d2 p hp; have := k3.ge p hq; omega
  · subst e; have := d1 p hp
    rcases List.mem_append.1 hq with hq | hq
    · have := k2.ge p hq; omega
    · have := k3.ge p hq; omega
  · subst e; have := d p hp
    rcases List.mem_append.1 hq with hq | hq
    · have := k1.ge p hq; omega
    · rcases List.mem_append.1 hq with hq | hq
      · have := k2.ge p hq; omega
      · have := k3.ge p hq; omega

set_option maxHeartbeats 2000000 in
theorem toTask_c (x : DTask) (v_c_o : Value) (v_c_text : Value) (v_a_text : Value) (v_a_list : Value) (w : World) (n_c_doc : x.c.doc.size ≤ BIG) (h_c_o : RdS w v_c_o x.c.o) (h_c_text : RdS w v_c_text x.c.text) (h_a_text : RdS w v_a_text x.a.text) (h_a_list : RdS w v_a_list x.a.list) :
    Calls Try.prog 29 #[.agg #[.int .i64 x.c.kind, .string x.c.doc, .int .i64 x.c.client, .int .i64 x.c.seq, .int .i64 x.c.n, v_c_o, v_c_text, .int .i64 x.pc, .int .i64 x.inv, .int .i64 x.lin, .int .i64 x.res, .int .i64 x.a.code, .int .i64 x.a.rev, v_a_text, v_a_list]] w (Gives w x) := by
  go_enter Try.func29, Try.ntmps29
  go_wp2_with fail
  refine (toCall_c x.c _ _ _ n_c_doc (h_c_o.below (by repeat' (first | (with_reducible exact Below.refl _ _) | (with_reducible assumption) | (with_reducible refine Below.setCell ?_ ?_ _) | (with_reducible refine Below.alloc ?_ ?_ _) | (with_reducible refine Below.drew ?_) | (with_reducible refine belowN ?_ _) | (with_reducible refine below_after ?_ (by assumption) ?_) | omega | (simp; done) | (simp; omega)))) (h_c_text.below (by repeat' (first | (with_reducible exact Below.refl _ _) | (with_reducible assumption) | (with_reducible refine Below.setCell ?_ ?_ _) | (with_reducible refine Below.alloc ?_ ?_ _) | (with_reducible refine Below.drew ?_) | (with_reducible refine belowN ?_ _) | (with_reducible refine below_after ?_ (by assumption) ?_) | omega | (simp; done) | (simp; omega))))).mono ?_
  rintro e w1 ⟨_, rfl, ⟨fp1, hrd1, hfr1⟩, hb1⟩
  have s1 : w.heap.size + 3 ≤ w1.heap.size := by have := hb1.size; (try simp at this); omega
  have HO1 : OwnC (w.heap.size + 3) w1.heap.size w1 _ x.c := ⟨fp1, hrd1, hfr1.mono (by simp), Live.lt (GoT.live hrd1)⟩
  obtain ⟨v1_0, v1_1, rfl, _, r0, r1⟩ := inv_DCall ⟨_, hrd1⟩
  clear hrd1 hfr1
  obtain ⟨a1_0, c1_0, rfl⟩ := r0.isSlice
  clear r0
  obtain ⟨a1_1, c1_1, rfl⟩ := r1.isSlice
  clear r1
  obtain ⟨hc1, hf1⟩ := bcell hb1
  have z1_0 : w.heap.size < w1.heap.size := by omega
  have z1_1 : w.heap.size + 1 < w1.heap.size := by omega
  have z1_2 : w.heap.size + 1 + 1 < w1.heap.size := by omega
  go_wp2_with fail
  refine (toAnswer_c x.a _ _ _  (h_a_text.below (by repeat' (first | (with_reducible exact Below.refl _ _) | (with_reducible assumption) | (with_reducible refine Below.setCell ?_ ?_ _) | (with_reducible refine Below.alloc ?_ ?_ _) | (with_reducible refine Below.drew ?_) | (with_reducible refine belowN ?_ _) | (with_reducible refine below_after ?_ (by assumption) ?_) | omega | (simp; done) | (simp; omega)))) (h_a_list.below (by repeat' (first | (with_reducible exact Below.refl _ _) | (with_reducible assumption) | (with_reducible refine Below.setCell ?_ ?_ _) | (with_reducible refine Below.alloc ?_ ?_ _) | (with_reducible refine Below.drew ?_) | (with_reducible refine belowN ?_ _) | (with_reducible refine below_after ?_ (by assumption) ?_) | omega | (simp; done) | (simp; omega))))).mono ?_
  rintro e w2 ⟨_, rfl, ⟨fp2, hrd2, hfr2⟩, hb2⟩
  have s2 : w1.heap.size ≤ w2.heap.size := by have := hb2.size; (try simp at this); omega
  have HO2 : OwnC (w1.heap.size) w2.heap.size w2 _ x.a := ⟨fp2, hrd2, hfr2.mono (by simp), Live.lt (GoT.live hrd2)⟩
  obtain ⟨v2_0, v2_1, rfl, r0, r1⟩ := inv_DAnswer ⟨_, hrd2⟩
  clear hrd2 hfr2
  obtain ⟨a2_0, c2_0, rfl⟩ := r0.isSlice
  clear r0
  obtain ⟨a2_1, c2_1, rfl⟩ := r1.isSlice
  clear r1
  obtain ⟨hc2, hf2⟩ := bcell hb2
  have z2_0 : w.heap.size < w2.heap.size := by omega
  have z2_1 : w.heap.size + 1 < w2.heap.size := by omega
  have z2_2 : w.heap.size + 1 + 1 < w2.heap.size := by omega
  go_wp2
  refine bodyPost_ret (v := .agg #[.int .i64 x.c.kind, .string x.c.doc, .int .i64 x.c.client, .int .i64 x.c.seq, .int .i64 x.c.n, .slice a1_0 x.c.o.length c1_0, .slice a1_1 x.c.text.length c1_1, .int .i64 x.pc, .int .i64 x.inv, .int .i64 x.lin, .int .i64 x.res, .int .i64 x.a.code, .int .i64 x.a.rev, .slice a2_0 x.a.text.length c2_0, .slice a2_1 x.a.list.length c2_1]) (by simp [results, Try.results29, go_sem, cell_setCell, *]) rfl ?_
  exact ⟨_, rfl, ownT (C0 := w.heap.size + 3) (D0 := w1.heap.size) (C1 := w1.heap.size) (D1 := w2.heap.size) (c := [.int .i64 x.c.kind, .string x.c.doc, .int .i64 x.c.client, .int .i64 x.c.seq, .int .i64 x.c.n, .slice a1_0 x.c.o.length c1_0, .slice a1_1 x.c.text.length c1_1]) (a := [.int .i64 x.a.code, .int .i64 x.a.rev, .slice a2_0 x.a.text.length c2_0, .slice a2_1 x.a.list.length c2_1]) x (by repeat' (first | (with_reducible exact HO1) | (with_reducible refine OwnC.setCell ?_ ?_ _) | (with_reducible refine OwnC.drew ?_) | (with_reducible refine OwnC.drewN ?_ _) | (with_reducible refine OwnC.below ?_ (by assumption)) | (with_reducible refine OwnC.alloc ?_ _) | omega)) (by repeat' (first | (with_reducible exact HO2) | (with_reducible refine OwnC.setCell ?_ ?_ _) | (with_reducible refine OwnC.drew ?_) | (with_reducible refine OwnC.drewN ?_ _) | (with_reducible refine OwnC.below ?_ (by assumption)) | (with_reducible refine OwnC.alloc ?_ _) | omega)) (Nat.le_refl _) (by omega) (by omega), (by repeat' (first | (with_reducible exact Below.refl _ _) | (with_reducible assumption) | (with_reducible refine Below.setCell ?_ ?_ _) | (with_reducible refine Below.alloc ?_ ?_ _) | (with_reducible refine Below.drew ?_) | (with_reducible refine belowN ?_ _) | (with_reducible refine below_after ?_ (by assumption) ?_) | omega | (simp; done) | (simp; omega)))⟩

theorem szl_DTask : ∀ w1, (sizeOf 54).run Try.prog w1 = .ok 15 w1 := fun _ => by kernel_rfl
theorem info_DTask : (Try.prog.info? 62).map (fun i => (i.zero, i.size, i.bytes)) = some (some (.agg #[.int .i64 0, .string ByteArray.empty, .int .i64 0, .int .i64 0, .int .i64 0, .slice none 0 0, .slice none 0 0, .int .i64 0, .int .i64 0, .int .i64 0, .int .i64 0, .int .i64 0, .int .i64 0, .slice none 0 0, .slice none 0 0]), 15, 192) := by kernel_rfl
set_option maxHeartbeats 1000000 in
theorem toTaskS_c (v : Value) (l : List DTask) (w : World) (h : RdS w v l) :
    Calls Try.prog 89 #[v] w (GivesS w l) := by
  have hl := fun w1 ty => h.len Try.underlying80 w1 ty
  have hb := h.le
  obtain ⟨i0, hi, hz0, hz1, hz2⟩ := info_parts info_DTask
  go_enter Try.func89, Try.ntmps89
  go_wp2_with (first | (at_make; refine wpList_make_full _ rfl _ _ 90 rfl w.heap.size 62 i0 (.agg #[.int .i64 0, .string ByteArray.empty, .int .i64 0, .int .i64 0, .int .i64 0, .slice none 0 0, .slice none 0 0, .int .i64 0, .int .i64 0, .int .i64 0, .int .i64 0, .int .i64 0, .int .i64 0, .slice none 0 0, .slice none 0 0]) 15 Try.underlying90 hi hz0 hz1 .i64 .i64 _ _ l.length rfl rfl rfl rfl ?c1 ?c2 ?c3 ?_))
  case c1 => rw [hz2]; omega
  case c2 => unfold maxLen; omega
  case c3 => exact Nat.le_refl _
  intro w1 hown hgrow
  have HF : Hid (Fill 62 w1 w.heap.size w.heap.size l 0) := Fill.start hown rfl (le_BIG hb)
  have HB : Hid (Below w.heap.size w w1) := (Below.refl _ _).grown hgrow (Nat.le_refl _) (fun _ e => by cases e)
  clear hown hgrow
  go_wp2
  go_loopw [4] (fun i wr => ∃ k : Nat, k ≤ l.length ∧ i = .int .i64 k ∧ Fill 62 wr w.heap.size w.heap.size l k ∧ Below w.heap.size w wr) (fun i _ => l.length - (intOf i).toNat)
  case atStart => exact ⟨0, Nat.zero_le _, rfl, HF.out, HB.out⟩
  case round =>
    obtain ⟨k, hk, rfl, hf, hbw⟩ := hrel
    by_cases hlt : k < l.length
    · obtain ⟨x, hx⟩ := get_some hlt
      obtain ⟨b1, o1, cs, h1, h2, h3⟩ := (h.below hbw).idx Try.underlying80 szl_DTask k hx
      obtain ⟨v_c_o, v_c_text, v_a_text, v_a_list, rfl, n_c_doc, r_c_o, r_c_text, r_a_text, r_a_list⟩ := inv_DTask h3
      have q0 := h2.zero
      have q1 := h2 1 _ rfl
      have q2 := h2 2 _ rfl
      have q3 := h2 3 _ rfl
      have q4 := h2 4 _ rfl
      have q5 := h2 5 _ rfl
      have q6 := h2 6 _ rfl
      have q7 := h2 7 _ rfl
      have q8 := h2 8 _ rfl
      have q9 := h2 9 _ rfl
      have q10 := h2 10 _ rfl
      have q11 := h2 11 _ rfl
      have q12 := h2 12 _ rfl
      have q13 := h2 13 _ rfl
      have q14 := h2 14 _ rfl
      have HX := Lib.hid hx; clear hx
      have HFL := Lib.hid hf; clear hf
      go_wp2_with fail
      refine (toTask_c x _ _ _ _ _ n_c_doc r_c_o r_c_text r_a_text r_a_list).mono ?_
      rintro e w2 ⟨_, rfl, ho, hb2⟩
      have HW := Lib.hid ho
      obtain ⟨u_c_o, u_c_text, u_a_text, u_a_list, rfl, _, _r_c_o, _r_c_text, _r_a_text, _r_a_list⟩ := inv_own_DTask ho
      obtain ⟨a_c_o, c_c_o, rfl⟩ := _r_c_o.rd.isSlice
      obtain ⟨a_c_text, c_c_text, rfl⟩ := _r_c_text.rd.isSlice
      obtain ⟨a_a_text, c_a_text, rfl⟩ := _r_a_text.rd.isSlice
      obtain ⟨a_a_list, c_a_list, rfl⟩ := _r_a_list.rd.isSlice
      have HFL2 := HFL.out.below hb2
      obtain ⟨⟨p0, hp0⟩, hq0⟩ := HFL2.cells hlt 0 (by decide)
      obtain ⟨⟨p1, hp1⟩, hq1⟩ := HFL2.cells hlt 1 (by decide)
      obtain ⟨⟨p2, hp2⟩, hq2⟩ := HFL2.cells hlt 2 (by decide)
      obtain ⟨⟨p3, hp3⟩, hq3⟩ := HFL2.cells hlt 3 (by decide)
      obtain ⟨⟨p4, hp4⟩, hq4⟩ := HFL2.cells hlt 4 (by decide)
      obtain ⟨⟨p5, hp5⟩, hq5⟩ := HFL2.cells hlt 5 (by decide)
      obtain ⟨⟨p6, hp6⟩, hq6⟩ := HFL2.cells hlt 6 (by decide)
      obtain ⟨⟨p7, hp7⟩, hq7⟩ := HFL2.cells hlt 7 (by decide)
      obtain ⟨⟨p8, hp8⟩, hq8⟩ := HFL2.cells hlt 8 (by decide)
      obtain ⟨⟨p9, hp9⟩, hq9⟩ := HFL2.cells hlt 9 (by decide)
      obtain ⟨⟨p10, hp10⟩, hq10⟩ := HFL2.cells hlt 10 (by decide)
      obtain ⟨⟨p11, hp11⟩, hq11⟩ := HFL2.cells hlt 11 (by decide)
      obtain ⟨⟨p12, hp12⟩, hq12⟩ := HFL2.cells hlt 12 (by decide)
      obtain ⟨⟨p13, hp13⟩, hq13⟩ := HFL2.cells hlt 13 (by decide)
      obtain ⟨⟨p14, hp14⟩, hq14⟩ := HFL2.cells hlt 14 (by decide)
      replace hp0 : w2.cell? ⟨w.heap.size, k * 15, none⟩ = some p0 := hp0
      replace hq0 : w2.frozen? ⟨w.heap.size, k * 15, none⟩ = false := hq0
      replace hp1 : w2.cell? ⟨w.heap.size, k * 15 + 1, none⟩ = some p1 := hp1
      replace hq1 : w2.frozen? ⟨w.heap.size, k * 15 + 1, none⟩ = false := hq1
      replace hp2 : w2.cell? ⟨w.heap.size, k * 15 + 2, none⟩ = some p2 := hp2
      replace hq2 : w2.frozen? ⟨w.heap.size, k * 15 + 2, none⟩ = false := hq2
      replace hp3 : w2.cell? ⟨w.heap.size, k * 15 + 3, none⟩ = some p3 := hp3
      replace hq3 : w2.frozen? ⟨w.heap.size, k * 15 + 3, none⟩ = false := hq3
      replace hp4 : w2.cell? ⟨w.heap.size, k * 15 + 4, none⟩ = some p4 := hp4
      replace hq4 : w2.frozen? ⟨w.heap.size, k * 15 + 4, none⟩ = false := hq4
      replace hp5 : w2.cell? ⟨w.heap.size, k * 15 + 5, none⟩ = some p5 := hp5
      replace hq5 : w2.frozen? ⟨w.heap.size, k * 15 + 5, none⟩ = false := hq5
      replace hp6 : w2.cell? ⟨w.heap.size, k * 15 + 6, none⟩ = some p6 := hp6
      replace hq6 : w2.frozen? ⟨w.heap.size, k * 15 + 6, none⟩ = false := hq6
      replace hp7 : w2.cell? ⟨w.heap.size, k * 15 + 7, none⟩ = some p7 := hp7
      replace hq7 : w2.frozen? ⟨w.heap.size, k * 15 + 7, none⟩ = false := hq7
      replace hp8 : w2.cell? ⟨w.heap.size, k * 15 + 8, none⟩ = some p8 := hp8
      replace hq8 : w2.frozen? ⟨w.heap.size, k * 15 + 8, none⟩ = false := hq8
      replace hp9 : w2.cell? ⟨w.heap.size, k * 15 + 9, none⟩ = some p9 := hp9
      replace hq9 : w2.frozen? ⟨w.heap.size, k * 15 + 9, none⟩ = false := hq9
      replace hp10 : w2.cell? ⟨w.heap.size, k * 15 + 10, none⟩ = some p10 := hp10
      replace hq10 : w2.frozen? ⟨w.heap.size, k * 15 + 10, none⟩ = false := hq10
      replace hp11 : w2.cell? ⟨w.heap.size, k * 15 + 11, none⟩ = some p11 := hp11
      replace hq11 : w2.frozen? ⟨w.heap.size, k * 15 + 11, none⟩ = false := hq11
      replace hp12 : w2.cell? ⟨w.heap.size, k * 15 + 12, none⟩ = some p12 := hp12
      replace hq12 : w2.frozen? ⟨w.heap.size, k * 15 + 12, none⟩ = false := hq12
      replace hp13 : w2.cell? ⟨w.heap.size, k * 15 + 13, none⟩ = some p13 := hp13
      replace hq13 : w2.frozen? ⟨w.heap.size, k * 15 + 13, none⟩ = false := hq13
      replace hp14 : w2.cell? ⟨w.heap.size, k * 15 + 14, none⟩ = some p14 := hp14
      replace hq14 : w2.frozen? ⟨w.heap.size, k * 15 + 14, none⟩ = false := hq14
      have HS : Hid (Fill 62 (((((((((((((((w2.setCell ⟨w.heap.size, k * 15, none⟩ (.int .i64 x.c.kind)).setCell ⟨w.heap.size, k * 15 + 1, none⟩ (.string x.c.doc)).setCell ⟨w.heap.size, k * 15 + 2, none⟩ (.int .i64 x.c.client)).setCell ⟨w.heap.size, k * 15 + 3, none⟩ (.int .i64 x.c.seq)).setCell ⟨w.heap.size, k * 15 + 4, none⟩ (.int .i64 x.c.n)).setCell ⟨w.heap.size, k * 15 + 5, none⟩ (.slice a_c_o x.c.o.length c_c_o)).setCell ⟨w.heap.size, k * 15 + 6, none⟩ (.slice a_c_text x.c.text.length c_c_text)).setCell ⟨w.heap.size, k * 15 + 7, none⟩ (.int .i64 x.pc)).setCell ⟨w.heap.size, k * 15 + 8, none⟩ (.int .i64 x.inv)).setCell ⟨w.heap.size, k * 15 + 9, none⟩ (.int .i64 x.lin)).setCell ⟨w.heap.size, k * 15 + 10, none⟩ (.int .i64 x.res)).setCell ⟨w.heap.size, k * 15 + 11, none⟩ (.int .i64 x.a.code)).setCell ⟨w.heap.size, k * 15 + 12, none⟩ (.int .i64 x.a.rev)).setCell ⟨w.heap.size, k * 15 + 13, none⟩ (.slice a_a_text x.a.text.length c_a_text)).setCell ⟨w.heap.size, k * 15 + 14, none⟩ (.slice a_a_list x.a.list.length c_a_list)) w.heap.size w.heap.size l (k + 1)) := by
        have := HFL.out.step hb2 HX.out HW.out
        show Fill 62 (((((((((((((((w2.setCell ⟨w.heap.size, k * 15, none⟩ (.int .i64 x.c.kind)).setCell ⟨w.heap.size, k * 15 + 1, none⟩ (.string x.c.doc)).setCell ⟨w.heap.size, k * 15 + 2, none⟩ (.int .i64 x.c.client)).setCell ⟨w.heap.size, k * 15 + 3, none⟩ (.int .i64 x.c.seq)).setCell ⟨w.heap.size, k * 15 + 4, none⟩ (.int .i64 x.c.n)).setCell ⟨w.heap.size, k * 15 + 5, none⟩ (.slice a_c_o x.c.o.length c_c_o)).setCell ⟨w.heap.size, k * 15 + 6, none⟩ (.slice a_c_text x.c.text.length c_c_text)).setCell ⟨w.heap.size, k * 15 + 7, none⟩ (.int .i64 x.pc)).setCell ⟨w.heap.size, k * 15 + 8, none⟩ (.int .i64 x.inv)).setCell ⟨w.heap.size, k * 15 + 9, none⟩ (.int .i64 x.lin)).setCell ⟨w.heap.size, k * 15 + 10, none⟩ (.int .i64 x.res)).setCell ⟨w.heap.size, k * 15 + 11, none⟩ (.int .i64 x.a.code)).setCell ⟨w.heap.size, k * 15 + 12, none⟩ (.int .i64 x.a.rev)).setCell ⟨w.heap.size, k * 15 + 13, none⟩ (.slice a_a_text x.a.text.length c_a_text)).setCell ⟨w.heap.size, k * 15 + 14, none⟩ (.slice a_a_list x.a.list.length c_a_list)) w.heap.size w.heap.size l (k + 1)
        simpa [World.setCells, GoT.n] using this
      have HBW : Hid (Below w.heap.size w (((((((((((((((w2.setCell ⟨w.heap.size, k * 15, none⟩ (.int .i64 x.c.kind)).setCell ⟨w.heap.size, k * 15 + 1, none⟩ (.string x.c.doc)).setCell ⟨w.heap.size, k * 15 + 2, none⟩ (.int .i64 x.c.client)).setCell ⟨w.heap.size, k * 15 + 3, none⟩ (.int .i64 x.c.seq)).setCell ⟨w.heap.size, k * 15 + 4, none⟩ (.int .i64 x.c.n)).setCell ⟨w.heap.size, k * 15 + 5, none⟩ (.slice a_c_o x.c.o.length c_c_o)).setCell ⟨w.heap.size, k * 15 + 6, none⟩ (.slice a_c_text x.c.text.length c_c_text)).setCell ⟨w.heap.size, k * 15 + 7, none⟩ (.int .i64 x.pc)).setCell ⟨w.heap.size, k * 15 + 8, none⟩ (.int .i64 x.inv)).setCell ⟨w.heap.size, k * 15 + 9, none⟩ (.int .i64 x.lin)).setCell ⟨w.heap.size, k * 15 + 10, none⟩ (.int .i64 x.res)).setCell ⟨w.heap.size, k * 15 + 11, none⟩ (.int .i64 x.a.code)).setCell ⟨w.heap.size, k * 15 + 12, none⟩ (.int .i64 x.a.rev)).setCell ⟨w.heap.size, k * 15 + 13, none⟩ (.slice a_a_text x.a.text.length c_a_text)).setCell ⟨w.heap.size, k * 15 + 14, none⟩ (.slice a_a_list x.a.list.length c_a_list))) := by
        have h0 := hbw.size
        have h1 : Below w.heap.size w w2 := hbw.trans (hb2.mono h0)
        show Below w.heap.size w (((((((((((((((w2.setCell ⟨w.heap.size, k * 15, none⟩ (.int .i64 x.c.kind)).setCell ⟨w.heap.size, k * 15 + 1, none⟩ (.string x.c.doc)).setCell ⟨w.heap.size, k * 15 + 2, none⟩ (.int .i64 x.c.client)).setCell ⟨w.heap.size, k * 15 + 3, none⟩ (.int .i64 x.c.seq)).setCell ⟨w.heap.size, k * 15 + 4, none⟩ (.int .i64 x.c.n)).setCell ⟨w.heap.size, k * 15 + 5, none⟩ (.slice a_c_o x.c.o.length c_c_o)).setCell ⟨w.heap.size, k * 15 + 6, none⟩ (.slice a_c_text x.c.text.length c_c_text)).setCell ⟨w.heap.size, k * 15 + 7, none⟩ (.int .i64 x.pc)).setCell ⟨w.heap.size, k * 15 + 8, none⟩ (.int .i64 x.inv)).setCell ⟨w.heap.size, k * 15 + 9, none⟩ (.int .i64 x.lin)).setCell ⟨w.heap.size, k * 15 + 10, none⟩ (.int .i64 x.res)).setCell ⟨w.heap.size, k * 15 + 11, none⟩ (.int .i64 x.a.code)).setCell ⟨w.heap.size, k * 15 + 12, none⟩ (.int .i64 x.a.rev)).setCell ⟨w.heap.size, k * 15 + 13, none⟩ (.slice a_a_text x.a.text.length c_a_text)).setCell ⟨w.heap.size, k * 15 + 14, none⟩ (.slice a_a_list x.a.list.length c_a_list))
        exact (by repeat' (first | (with_reducible exact h1) | (with_reducible refine Below.setCell ?_ ?_ _) | (show w.heap.size ≤ w.heap.size; exact Nat.le_refl _)))
      clear HX HFL HFL2 HW ho hb2 hbw
      go_wp2
      go_roundw
      case rel => exact ⟨k + 1, by omega, by go_num, HS.out, HBW.out⟩
      case measure => simp [intOf]; omega
    · obtain rfl : k = l.length := by omega
      have hd := hf.done
      go_wp2
      go_ret
      exact ⟨_, rfl, hd, hbw⟩

set_option maxHeartbeats 1000000 in
theorem toQueue_c (x : DQueue) (v_list : Value) (w : World) (n_doc : x.doc.size ≤ BIG) (h_list : RdS w v_list x.list) :
    Calls Try.prog 135 #[.agg #[.string x.doc, v_list]] w (Gives w x) := by
  go_enter Try.func135, Try.ntmps135
  go_wp2_with fail
  refine (toIntS_c _ _ _ (h_list.below (by repeat' (first | (with_reducible exact Below.refl _ _) | (with_reducible assumption) | (with_reducible refine Below.setCell ?_ ?_ _) | (with_reducible refine Below.alloc ?_ ?_ _) | (with_reducible refine Below.drew ?_) | (with_reducible refine belowN ?_ _) | (with_reducible refine below_after ?_ (by assumption) ?_) | omega | (simp; done) | (simp; omega))))).mono ?_
  rintro e w1 ⟨v1, rfl, ho0, hb1⟩
  have s1 : w.heap.size + 3 ≤ w1.heap.size := by have := hb1.size; (try simp at this); omega
  obtain ⟨a1_0, c1_0, rfl⟩ := ho0.rd.isSlice
  obtain ⟨C1_0, D1_0, HO1_0, jc1_0, jd1_0, je1_0⟩ := ho0.ex (m := w.heap.size + 3) (by simp) hb1.size
  clear ho0
  obtain ⟨hc1, hf1⟩ := bcell hb1
  have z1_0 : w.heap.size < w1.heap.size := by omega
  have z1_1 : w.heap.size + 1 < w1.heap.size := by omega
  have z1_2 : w.heap.size + 1 + 1 < w1.heap.size := by omega
  go_wp2
  refine bodyPost_ret (v := .agg #[.string x.doc, .slice a1_0 x.list.length c1_0]) (by simp [results, Try.results135, go_sem, cell_setCell, *]) rfl ?_
  exact ⟨_, rfl, own_DQueue (C0 := C1_0) (D0 := D1_0) x n_doc (by repeat' (first | (with_reducible exact HO1_0) | (with_reducible refine OwnB.setCell ?_ ?_ _) | (with_reducible refine OwnB.drew ?_) | (with_reducible refine OwnB.drewN ?_ _) | (with_reducible refine OwnB.below ?_ (by assumption)) | (with_reducible refine OwnB.alloc ?_ _) | omega)) (by omega), (by repeat' (first | (with_reducible exact Below.refl _ _) | (with_reducible assumption) | (with_reducible refine Below.setCell ?_ ?_ _) | (with_reducible refine Below.alloc ?_ ?_ _) | (with_reducible refine Below.drew ?_) | (with_reducible refine belowN ?_ _) | (with_reducible refine below_after ?_ (by assumption) ?_) | omega | (simp; done) | (simp; omega)))⟩

theorem szl_DQueue : ∀ w1, (sizeOf 158).run Try.prog w1 = .ok 2 w1 := fun _ => by kernel_rfl
theorem info_DQueue : (Try.prog.info? 135).map (fun i => (i.zero, i.size, i.bytes)) = some (some (.agg #[.string ByteArray.empty, .slice none 0 0]), 2, 40) := by kernel_rfl
set_option maxHeartbeats 1000000 in
theorem toQueueS_c (v : Value) (l : List DQueue) (w : World) (h : RdS w v l) :
    Calls Try.prog 88 #[v] w (GivesS w l) := by
  have hl := fun w1 ty => h.len Try.underlying79 w1 ty
  have hb := h.le
  obtain ⟨i0, hi, hz0, hz1, hz2⟩ := info_parts info_DQueue
  go_enter Try.func88, Try.ntmps88
  go_wp2_with (first | (at_make; refine wpList_make_full _ rfl _ _ 89 rfl w.heap.size 135 i0 (.agg #[.string ByteArray.empty, .slice none 0 0]) 2 Try.underlying89 hi hz0 hz1 .i64 .i64 _ _ l.length rfl rfl rfl rfl ?c1 ?c2 ?c3 ?_))
  case c1 => rw [hz2]; omega
  case c2 => unfold maxLen; omega
  case c3 => exact Nat.le_refl _
  intro w1 hown hgrow
  have HF : Hid (Fill 135 w1 w.heap.size w.heap.size l 0) := Fill.start hown rfl (le_BIG hb)
  have HB : Hid (Below w.heap.size w w1) := (Below.refl _ _).grown hgrow (Nat.le_refl _) (fun _ e => by cases e)
  clear hown hgrow
  go_wp2
  go_loopw [4] (fun i wr => ∃ k : Nat, k ≤ l.length ∧ i = .int .i64 k ∧ Fill 135 wr w.heap.size w.heap.size l k ∧ Below w.heap.size w wr) (fun i _ => l.length - (intOf i).toNat)
  case atStart => exact ⟨0, Nat.zero_le _, rfl, HF.out, HB.out⟩
  case round =>
    obtain ⟨k, hk, rfl, hf, hbw⟩ := hrel
    by_cases hlt : k < l.length
    · obtain ⟨x, hx⟩ := get_some hlt
      obtain ⟨b1, o1, cs, h1, h2, h3⟩ := (h.below hbw).idx Try.underlying79 szl_DQueue k hx
      obtain ⟨v_list, rfl, n_doc, r_list⟩ := inv_DQueue h3
      have q0 := h2.zero
      have q1 := h2 1 _ rfl
      have HX := Lib.hid hx; clear hx
      have HFL := Lib.hid hf; clear hf
      go_wp2_with fail
      refine (toQueue_c x _ _ n_doc r_list).mono ?_
      rintro e w2 ⟨_, rfl, ho, hb2⟩
      have HW := Lib.hid ho
      obtain ⟨u_list, rfl, _, _r_list⟩ := inv_own_DQueue ho
      obtain ⟨a_list, c_list, rfl⟩ := _r_list.rd.isSlice
      have HFL2 := HFL.out.below hb2
      obtain ⟨⟨p0, hp0⟩, hq0⟩ := HFL2.cells hlt 0 (by decide)
      obtain ⟨⟨p1, hp1⟩, hq1⟩ := HFL2.cells hlt 1 (by decide)
      replace hp0 : w2.cell? ⟨w.heap.size, k * 2, none⟩ = some p0 := hp0
      replace hq0 : w2.frozen? ⟨w.heap.size, k * 2, none⟩ = false := hq0
      replace hp1 : w2.cell? ⟨w.heap.size, k * 2 + 1, none⟩ = some p1 := hp1
      replace hq1 : w2.frozen? ⟨w.heap.size, k * 2 + 1, none⟩ = false := hq1
      have HS : Hid (Fill 135 ((w2.setCell ⟨w.heap.size, k * 2, none⟩ (.string x.doc)).setCell ⟨w.heap.size, k * 2 + 1, none⟩ (.slice a_list x.list.length c_list)) w.heap.size w.heap.size l (k + 1)) := by
        have := HFL.out.step hb2 HX.out HW.out
        show Fill 135 ((w2.setCell ⟨w.heap.size, k * 2, none⟩ (.string x.doc)).setCell ⟨w.heap.size, k * 2 + 1, none⟩ (.slice a_list x.list.length c_list)) w.heap.size w.heap.size l (k + 1)
        simpa [World.setCells, GoT.n] using this
      have HBW : Hid (Below w.heap.size w ((w2.setCell ⟨w.heap.size, k * 2, none⟩ (.string x.doc)).setCell ⟨w.heap.size, k * 2 + 1, none⟩ (.slice a_list x.list.length c_list))) := by
        have h0 := hbw.size
        have h1 : Below w.heap.size w w2 := hbw.trans (hb2.mono h0)
        show Below w.heap.size w ((w2.setCell ⟨w.heap.size, k * 2, none⟩ (.string x.doc)).setCell ⟨w.heap.size, k * 2 + 1, none⟩ (.slice a_list x.list.length c_list))
        exact (by repeat' (first | (with_reducible exact h1) | (with_reducible refine Below.setCell ?_ ?_ _) | (show w.heap.size ≤ w.heap.size; exact Nat.le_refl _)))
      clear HX HFL HFL2 HW ho hb2 hbw
      go_wp2
      go_roundw
      case rel => exact ⟨k + 1, by omega, by go_num, HS.out, HBW.out⟩
      case measure => simp [intOf]; omega
    · obtain rfl : k = l.length := by omega
      have hd := hf.done
      go_wp2
      go_ret
      exact ⟨_, rfl, hd, hbw⟩

set_option maxHeartbeats 2000000 in
theorem toWorld_c (x : DWorld) (v_h_docs : Value) (v_h_subs : Value) (v_locks : Value) (v_queues : Value) (v_tasks : Value) (w : World)  (h_h_docs : RdS w v_h_docs x.h.docs) (h_h_subs : RdS w v_h_subs x.h.subs) (h_locks : RdS w v_locks x.locks) (h_queues : RdS w v_queues x.queues) (h_tasks : RdS w v_tasks x.tasks) :
    Calls Try.prog 44 #[.agg #[.bool x.h.shut, v_h_docs, v_h_subs, .int .i64 x.h.last, v_locks, v_queues, v_tasks, .int .i64 x.step]] w (Gives w x) := by
  go_enter Try.func44, Try.ntmps44
  go_wp2_with fail
  refine (toHub_c x.h _ _ _ (h_h_docs.below (by repeat' (first | (with_reducible exact Below.refl _ _) | (with_reducible assumption) | (with_reducible refine Below.setCell ?_ ?_ _) | (with_reducible refine Below.alloc ?_ ?_ _) | (with_reducible refine Below.drew ?_) | (with_reducible refine belowN ?_ _) | (with_reducible refine below_after ?_ (by assumption) ?_) | omega | (simp; done) | (simp; omega)))) (h_h_subs.below (by repeat' (first | (with_reducible exact Below.refl _ _) | (with_reducible assumption) | (with_reducible refine Below.setCell ?_ ?_ _) | (with_reducible refine Below.alloc ?_ ?_ _) | (with_reducible refine Below.drew ?_) | (with_reducible refine belowN ?_ _) | (with_reducible refine below_after ?_ (by assumption) ?_) | omega | (simp; done) | (simp; omega))))).mono ?_
  rintro e w1 ⟨_, rfl, ⟨fp1, hrd1, hfr1⟩, hb1⟩
  have s1 : w.heap.size + 3 ≤ w1.heap.size := by have := hb1.size; (try simp at this); omega
  have HO1 : OwnC (w.heap.size + 3) w1.heap.size w1 _ x.h := ⟨fp1, hrd1, hfr1.mono (by simp), Live.lt (GoT.live hrd1)⟩
  obtain ⟨v1_0, v1_1, rfl, r0, r1⟩ := inv_DHub ⟨_, hrd1⟩
  clear hrd1 hfr1
  obtain ⟨a1_0, c1_0, rfl⟩ := r0.isSlice
  clear r0
  obtain ⟨a1_1, c1_1, rfl⟩ := r1.isSlice
  clear r1
  obtain ⟨hc1, hf1⟩ := bcell hb1
  have z1_0 : w.heap.size < w1.heap.size := by omega
  have z1_1 : w.heap.size + 1 < w1.heap.size := by omega
  have z1_2 : w.heap.size + 1 + 1 < w1.heap.size := by omega
  go_wp2_with fail
  refine (toIntS_c _ _ _ (h_locks.below (by repeat' (first | (with_reducible exact Below.refl _ _) | (with_reducible assumption) | (with_reducible refine Below.setCell ?_ ?_ _) | (with_reducible refine Below.alloc ?_ ?_ _) | (with_reducible refine Below.drew ?_) | (with_reducible refine belowN ?_ _) | (with_reducible refine below_after ?_ (by assumption) ?_) | omega | (simp; done) | (simp; omega))))).mono ?_
  rintro e w2 ⟨v2, rfl, ho0, hb2⟩
  have s2 : w1.heap.size ≤ w2.heap.size := by have := hb2.size; (try simp at this); omega
  obtain ⟨a2_0, c2_0, rfl⟩ := ho0.rd.isSlice
  obtain ⟨C2, D2, HO2, jc2, jd2, je2⟩ := ho0.ex (m := w1.heap.size) (by simp) hb2.size
  clear ho0
  obtain ⟨hc2, hf2⟩ := bcell hb2
  have z2_0 : w.heap.size < w2.heap.size := by omega
  have z2_1 : w.heap.size + 1 < w2.heap.size := by omega
  have z2_2 : w.heap.size + 1 + 1 < w2.heap.size := by omega
  go_wp2_with fail
  refine (toQueueS_c _ _ _ (h_queues.below (by repeat' (first | (with_reducible exact Below.refl _ _) | (with_reducible assumption) | (with_reducible refine Below.setCell ?_ ?_ _) | (with_reducible refine Below.alloc ?_ ?_ _) | (with_reducible refine Below.drew ?_) | (with_reducible refine belowN ?_ _) | (with_reducible refine below_after ?_ (by assumption) ?_) | omega | (simp; done) | (simp; omega))))).mono ?_
  rintro e w3 ⟨v3, rfl, ho0, hb3⟩
  have s3 : w2.heap.size ≤ w3.heap.size := by have := hb3.size; (try simp at this); omega
  obtain ⟨a3_0, c3_0, rfl⟩ := ho0.rd.isSlice
  obtain ⟨C3, D3, HO3, jc3, jd3, je3⟩ := ho0.ex (m := w2.heap.size) (by simp) hb3.size
  clear ho0
  obtain ⟨hc3, hf3⟩ := bcell hb3
  have z3_0 : w.heap.size < w3.heap.size := by omega
  have z3_1 : w.heap.size + 1 < w3.heap.size := by omega
  have z3_2 : w.heap.size + 1 + 1 < w3.heap.size := by omega
  go_wp2_with fail
  refine (toTaskS_c _ _ _ (h_tasks.below (by repeat' (first | (with_reducible exact Below.refl _ _) | (with_reducible assumption) | (with_reducible refine Below.setCell ?_ ?_ _) | (with_reducible refine Below.alloc ?_ ?_ _) | (with_reducible refine Below.drew ?_) | (with_reducible refine belowN ?_ _) | (with_reducible refine below_after ?_ (by assumption) ?_) | omega | (simp; done) | (simp; omega))))).mono ?_
  rintro e w4 ⟨v4, rfl, ho0, hb4⟩
  have s4 : w3.heap.size ≤ w4.heap.size := by have := hb4.size; (try simp at this); omega
  obtain ⟨a4_0, c4_0, rfl⟩ := ho0.rd.isSlice
  obtain ⟨C4, D4, HO4, jc4, jd4, je4⟩ := ho0.ex (m := w3.heap.size) (by simp) hb4.size
  clear ho0
  obtain ⟨hc4, hf4⟩ := bcell hb4
  have z4_0 : w.heap.size < w4.heap.size := by omega
  have z4_1 : w.heap.size + 1 < w4.heap.size := by omega
  have z4_2 : w.heap.size + 1 + 1 < w4.heap.size := by omega
  go_wp2
  refine bodyPost_ret (v := .agg #[.bool x.h.shut, .slice a1_0 x.h.docs.length c1_0, .slice a1_1 x.h.subs.length c1_1, .int .i64 x.h.last, .slice a2_0 x.locks.length c2_0, .slice a3_0 x.queues.length c3_0, .slice a4_0 x.tasks.length c4_0, .int .i64 x.step]) (by simp [results, Try.results44, go_sem, cell_setCell, *]) rfl ?_
  exact ⟨_, rfl, ownW (C0 := w.heap.size + 3) (D0 := w1.heap.size) (C1 := C2) (D1 := D2) (C2 := C3) (D2 := D3) (C3 := C4) (D3 := D4) (c := [.bool x.h.shut, .slice a1_0 x.h.docs.length c1_0, .slice a1_1 x.h.subs.length c1_1, .int .i64 x.h.last]) x (by repeat' (first | (with_reducible exact HO1) | (with_reducible refine OwnC.setCell ?_ ?_ _) | (with_reducible refine OwnC.drew ?_) | (with_reducible refine OwnC.drewN ?_ _) | (with_reducible refine OwnC.below ?_ (by assumption)) | (with_reducible refine OwnC.alloc ?_ _) | omega)) (by repeat' (first | (with_reducible exact HO2) | (with_reducible refine OwnB.setCell ?_ ?_ _) | (with_reducible refine OwnB.drew ?_) | (with_reducible refine OwnB.drewN ?_ _) | (with_reducible refine OwnB.below ?_ (by assumption)) | (with_reducible refine OwnB.alloc ?_ _) | omega)) (by repeat' (first | (with_reducible exact HO3) | (with_reducible refine OwnB.setCell ?_ ?_ _) | (with_reducible refine OwnB.drew ?_) | (with_reducible refine OwnB.drewN ?_ _) | (with_reducible refine OwnB.below ?_ (by assumption)) | (with_reducible refine OwnB.alloc ?_ _) | omega)) (by repeat' (first | (with_reducible exact HO4) | (with_reducible refine OwnB.setCell ?_ ?_ _) | (with_reducible refine OwnB.drew ?_) | (with_reducible refine OwnB.drewN ?_ _) | (with_reducible refine OwnB.below ?_ (by assumption)) | (with_reducible refine OwnB.alloc ?_ _) | omega)) (by omega) (by omega) (by omega) (by omega) (by omega) (by omega) (by omega) (by omega) (by omega), (by repeat' (first | (with_reducible exact Below.refl _ _) | (with_reducible assumption) | (with_reducible refine Below.setCell ?_ ?_ _) | (with_reducible refine Below.alloc ?_ ?_ _) | (with_reducible refine Below.drew ?_) | (with_reducible refine belowN ?_ _) | (with_reducible refine below_after ?_ (by assumption) ?_) | omega | (simp; done) | (simp; omega)))⟩

end Go.Proofs.Ytfbkhaaijbhadaa
