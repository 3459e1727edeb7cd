/- A row of one's own that is filled element by element; a slice of one's own that grows by append. -/
import Derived.Test.YtihbmefidbmmdaaBasic
namespace Go.Proofs.Ytihbmefidbmmdaa
open Go.RowKit

theorem setCell_heap {w : World} {g o : Nat} {cur : Array Value} {E : TypeId} {fr : Nat × Nat} {v : Value} (hg : w.heap[g]? = some (.cells cur E fr)) :
    (w.setCell ⟨g, o, none⟩ v).heap[g]? = some (.cells (cur.setIfInBounds o v) E fr) := by
  simp only [World.setCell, Array.getElem?_modify, hg, if_true, Option.map_some, Option.isSome_none, Bool.false_eq_true, if_false]
theorem setCells_heap {g : Nat} {E : TypeId} {fr : Nat × Nat} : ∀ (vs : List Value) (w : World) (o : Nat) (cur : List Value), w.heap[g]? = some (.cells cur.toArray E fr) → o + vs.length ≤ cur.length →
    (w.setCells g o vs).heap[g]? = some (.cells (cur.take o ++ (vs ++ cur.drop (o + vs.length))).toArray E fr)
  | [], w, o, cur, hg, _ => by simp [World.setCells, hg]
  | v :: r, w, o, cur, hg, hl => by
    have h1 := setCell_heap (o := o) (v := v) hg
    simp only [List.setIfInBounds_toArray] at h1
    simp only [List.length_cons] at hl
    rw [World.setCells, setCells_heap r _ (o + 1) (cur.set o v) h1 (by simp; omega)]
    congr 3
    have ho : o < cur.length := by omega
    rw [List.take_succ_eq_append_getElem (by simpa using ho)]
    simp only [List.getElem_set_self, List.take_set, List.drop_set, List.length_cons, List.append_assoc, List.cons_append, List.nil_append]
    rw [List.set_eq_of_length_le (by simp; omega)]
    have e : o + 1 + r.length = o + (r.length + 1) := by omega
    rw [e]
    rw [if_pos (by omega)]
theorem setCells_other {g : Nat} : ∀ (vs : List Value) (w : World) (o k : Nat), k ≠ g → (w.setCells g o vs).heap[k]? = w.heap[k]?
  | [], _, _, _, _ => rfl
  | v :: r, w, o, k, hk => by
    rw [World.setCells, setCells_other r _ _ k hk]
    exact Below.heap_setCell w ⟨g, o, none⟩ v k hk
theorem setCells_size {g : Nat} : ∀ (vs : List Value) (w : World) (o : Nat), (w.setCells g o vs).heap.size = w.heap.size
  | [], _, _ => rfl
  | v :: r, w, o => by rw [World.setCells, setCells_size r]; simp
theorem setCells_rest {g : Nat} : ∀ (vs : List Value) (w : World) (o : Nat), (w.setCells g o vs).os = w.os ∧ (w.setCells g o vs).tape = w.tape ∧ (w.setCells g o vs).output = w.output
  | [], _, _ => ⟨rfl, rfl, rfl⟩
  | v :: r, w, o => by rw [World.setCells]; exact setCells_rest r _ _
theorem below_setCells {B g o : Nat} {a w : World} {vs : List Value} (h : Below B a w) (hg : B ≤ g) : Below B a (w.setCells g o vs) :=
  h.trans ⟨(setCells_rest vs w o).1, (setCells_rest vs w o).2.1, (setCells_rest vs w o).2.2, by rw [setCells_size]; exact Nat.le_refl _, fun k hk => setCells_other vs w o k (by omega)⟩
theorem row_cell {w : World} {g o : Nat} {cur : List Value} {E : TypeId} {fr : Nat × Nat} (hg : w.heap[g]? = some (.cells cur.toArray E fr)) : w.cell? ⟨g, o, none⟩ = cur[o]? := by
  simp [World.cell?, hg]
theorem row_frozen {w : World} {g o : Nat} {cur : Array Value} {E : TypeId} (hg : w.heap[g]? = some (.cells cur E (0, 0))) : w.frozen? ⟨g, o, none⟩ = false := by
  simp [World.frozen?, hg]
theorem row_at {w : World} {g : Nat} {c1 c2 c3 : List Value} {E : TypeId} {fr : Nat × Nat} (hg : w.heap[g]? = some (.cells (c1 ++ (c2 ++ c3)).toArray E fr)) : At w g c1.length c2 := by
  intro j v hj
  have hlt : j < c2.length := (List.getElem?_eq_some_iff.1 hj).1
  rw [row_cell hg, List.getElem?_append_right (by omega), List.getElem?_append_left (by omega)]
  simpa using hj

/-- rows of one's own, the first k elements filled -/
def Fill {α : Type} [GoT α] (E : TypeId) (w : World) (B g : Nat) (l : List α) (k : Nat) : Prop :=
  ∃ cs fs rest, w.heap[g]? = some (.cells (cs ++ rest).toArray E (0, 0)) ∧ Els BIG w cs (l.take k) fs ∧ rest.length = (l.length - k) * GoT.n α ∧ Fresh B w fs ∧ (∀ p ∈ fs, p.1 ≠ g) ∧ B ≤ g ∧ k ≤ l.length ∧ l.length ≤ BIG
section
variable {α : Type} [GoT α] {E : TypeId} {w w' : World} {B g k : Nat} {l : List α}
theorem Fill.start {z : List Value} {c : Nat} (h : w.ownsRow B E (GoT.n α) (.slice (some ⟨g, 0, none⟩) l.length c) l.length z) (hc : c = l.length) (hl : l.length ≤ BIG) : Fill E w B g l 0 := by
  obtain ⟨hz, h | ⟨g', cap, cur, hv, hb, hg, h1, h2, h3, h4⟩⟩ := h
  · simp at h
  · simp only [Value.slice.injEq, Option.some.injEq, Addr.mk.injEq] at hv
    obtain ⟨⟨rfl, _⟩, _, rfl⟩ := hv
    subst hc
    refine ⟨[], [], cur.toList, by simpa using hg, ⟨rfl, rfl⟩, by simpa using h3, ⟨List.nodup_nil, fun _ h => (by cases h), fun _ h => (by cases h)⟩, fun _ h => (by cases h), hb, Nat.zero_le _, hl⟩
theorem Fill.lt (h : Fill E w B g l k) : g < w.heap.size := by
  obtain ⟨cs, fs, rest, hg, _⟩ := h
  exact (Array.getElem?_eq_some_iff.1 hg).1
theorem Fill.below (h : Fill E w B g l k) (hb : Below w.heap.size w w') : Fill E w' B g l k := by
  have hlt := h.lt
  obtain ⟨cs, fs, rest, hg, he, hr, hf, hn, h1⟩ := h
  have hl := Live.lt he.live
  exact ⟨cs, fs, rest, by rw [hb.block g hlt]; exact hg, he.keep (Live.same_below hb hl), hr, hf.below hb hl, hn, h1⟩
/-- the cells that the next element takes: they are there, not frozen -/
theorem Fill.cells (h : Fill E w B g l k) (hk : k < l.length) (j : Nat) (hj : j < GoT.n α) : (∃ v, w.cell? ⟨g, k * GoT.n α + j, none⟩ = some v) ∧ w.frozen? ⟨g, k * GoT.n α + j, none⟩ = false := by
  obtain ⟨cs, fs, rest, hg, he, hr, hf, hn, h1, h2, h3⟩ := h
  refine ⟨?_, row_frozen hg⟩
  rw [row_cell hg]
  have hc := he.length
  rw [List.length_take, Nat.min_eq_left (by omega)] at hc
  have : GoT.n α ≤ rest.length := by
    rw [hr]
    exact Nat.le_mul_of_pos_left _ (by omega)
  exact ⟨_, List.getElem?_eq_getElem (by simp; omega)⟩
theorem Fill.step {w0 : World} {x : α} {c : List Value} (h : Fill E w0 B g l k) (hb : Below w0.heap.size w0 w) (hx : l[k]? = some x) (ho : Own w0.heap.size w c x) : Fill E (w.setCells g (k * GoT.n α) c) B g l (k + 1) := by
  have hg0 := h.lt
  have hkl : k < l.length := (List.getElem?_eq_some_iff.1 hx).1
  obtain ⟨cs, fs, rest, hg, he, hr, hf, hn, h1, h2, h3⟩ := h
  have hlv := Live.lt he.live
  obtain ⟨f, hrd, hfr⟩ := ho
  have hcl := GoT.len hrd
  have hc := he.length
  rw [List.length_take, Nat.min_eq_left (by omega)] at hc
  have hrn : GoT.n α ≤ rest.length := by rw [hr]; exact Nat.le_mul_of_pos_left _ (by omega)
  rw [← hb.block g hg0] at hg
  have he' := he.keep (Live.same_below hb hlv)
  have hf' := hf.below hb hlv
  have hset := setCells_heap c w (k * GoT.n α) (cs ++ rest) hg (by simp; omega)
  have hsame : Same w (w.setCells g (k * GoT.n α) c) (fs ++ f) := by
    intro p hp
    have hpg : p.1 ≠ g := by
      rcases List.mem_append.1 hp with hp | hp
      · exact hn p hp
      · have := hfr.ge p hp; omega
    exact World.cell?_of_block (w := w) (a := ⟨p.1, p.2, none⟩) (setCells_other c w _ p.1 hpg)
  have hfrz : ∀ p : Pos, p.1 ≠ g → (w.setCells g (k * GoT.n α) c).frozen? ⟨p.1, p.2, none⟩ = w.frozen? ⟨p.1, p.2, none⟩ := fun p hp =>
    World.frozen?_of_block (w := w) (a := ⟨p.1, p.2, none⟩) (setCells_other c w _ p.1 hp)
  refine ⟨cs ++ c, fs ++ f, rest.drop (GoT.n α), ?_, ?_, ?_, ⟨?_, ?_, ?_⟩, ?_, h1, hkl, h3⟩
  · rw [hset]
    congr 3
    rw [← hc, List.take_left, hcl, List.drop_append]
    simp [List.append_assoc]
  · rw [take_snoc hx]
    exact Els.snoc (he'.keep (Same.append.1 hsame).1) (GoT.keep hrd (Same.append.1 hsame).2)
  · rw [List.length_drop, hr, show l.length - k = (l.length - (k + 1)) + 1 by omega, Nat.add_mul]; omega
  · rw [List.nodup_append]
    refine ⟨hf'.nodup, hfr.nodup, fun a ha b hb' e => ?_⟩
    have := hlv a ha
    have := hfr.ge b hb'
    rw [e] at *
    omega
  · intro p hp
    rcases List.mem_append.1 hp with hp | hp
    · exact hf.ge p hp
    · have := hfr.ge p hp; omega
  · intro p hp
    rcases List.mem_append.1 hp with hp | hp
    · rw [hfrz p (hn p hp)]; exact hf'.free p hp
    · rw [hfrz p (by have := hfr.ge p hp; omega)]; exact hfr.free p hp
  · intro p hp
    rcases List.mem_append.1 hp with hp | hp
    · exact hn p hp
    · have := hfr.ge p hp; omega
theorem Fill.done (h : Fill E w B g l l.length) : OwnS B w (.slice (some ⟨g, 0, none⟩) l.length l.length) l := by
  obtain ⟨cs, fs, rest, hg, he, hr, hf, hn, h1, h2, h3⟩ := h
  rw [List.take_length] at he
  have hre : rest = [] := List.eq_nil_of_length_eq_zero (by rw [hr]; simp)
  subst hre
  simp only [List.append_nil] at hg
  have hc := he.length
  refine ⟨own g 0 (l.length * GoT.n α) ++ fs, .inr ⟨g, 0, l.length, cs, fs, rfl, Nat.le_refl _, ?_, h3, ?_, he, ?_, rfl⟩, ?_, ?_, ?_⟩
  · have := BIG_le h3; unfold maxLen; omega
  · have := row_at (c1 := []) (c2 := cs) (c3 := []) (by simpa using hg)
    simpa using this
  · intro p hp
    obtain ⟨e1, e2, e3⟩ := mem_own.1 hp
    rw [e1, row_cell hg, List.getElem?_eq_getElem (by omega)]
    rfl
  · rw [List.nodup_append]
    exact ⟨own_nodup _ _ _, hf.nodup, fun a ha b hb e => hn b hb (by rw [← e]; exact (mem_own.1 ha).1)⟩
  · intro p hp
    rcases List.mem_append.1 hp with hp | hp
    · rw [(mem_own.1 hp).1]; exact h1
    · exact hf.ge p hp
  · intro p hp
    rcases List.mem_append.1 hp with hp | hp
    · rw [(mem_own.1 hp).1]; exact row_frozen hg
    · exact hf.free p hp
end
end Go.Proofs.Ytihbmefidbmmdaa
