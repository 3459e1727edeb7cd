/- Readings of arguments, results in new memory, rows that are filled; how they are kept from world to world. -/
import Derived.Test.YtihbmefidbmmdaaTypes
import Derived.Deep.QuietTactic
import Derived.BigQuiet
import Derived.WalkSpells
namespace Go.Proofs.Ytihbmefidbmmdaa
open Go.RowKit

/-- the longest list that is spoken of -/
def BIG : Nat := 4294967296
theorem BIG_le {n : Nat} (h : n ≤ BIG) : n ≤ 4294967296 := h
theorem le_BIG {n : Nat} (h : n ≤ 4294967296) : n ≤ BIG := h

/-- cells that read as x -/
def Rd {α : Type} [GoT α] (w : World) (cs : List Value) (x : α) : Prop := ∃ fp, GoT.rd BIG w cs x fp
/-- a slice that reads as l -/
def RdS {α : Type} [GoT α] (w : World) (v : Value) (l : List α) : Prop := ∃ fp, Sl BIG w v l fp
/-- places in blocks from B on, none met twice, none frozen -/
structure Fresh (B : Nat) (w : World) (fp : List Pos) : Prop where
  nodup : fp.Nodup
  ge : ∀ p ∈ fp, B ≤ p.1
  free : ∀ p ∈ fp, w.frozen? ⟨p.1, p.2, none⟩ = false
/-- cells that read as x out of memory of one's own (blocks from B on) -/
def Own {α : Type} [GoT α] (B : Nat) (w : World) (cs : List Value) (x : α) : Prop := ∃ fp, GoT.rd BIG w cs x fp ∧ Fresh B w fp
def OwnS {α : Type} [GoT α] (B : Nat) (w : World) (v : Value) (l : List α) : Prop := ∃ fp, Sl BIG w v l fp ∧ Fresh B w fp
/-- a call that gives back a struct in new memory -/
def Gives {α : Type} [GoT α] (w : World) (x : α) (e : Ending) (w' : World) : Prop := ∃ cs, e = .returned (.agg cs.toArray) ∧ Own w.heap.size w' cs x ∧ Below w.heap.size w w'
def GivesS {α : Type} [GoT α] (w : World) (l : List α) (e : Ending) (w' : World) : Prop := ∃ v, e = .returned v ∧ OwnS w.heap.size w' v l ∧ Below w.heap.size w w'
/-- a call that only tells -/
def Tells (w : World) (v : Value) (e : Ending) (w' : World) : Prop := e = .returned v ∧ Below w.heap.size w w'

theorem bcell {W w1 : World} (hb : Below W.heap.size W w1) : (∀ b o, b < W.heap.size → w1.cell? ⟨b, o, none⟩ = W.cell? ⟨b, o, none⟩) ∧ (∀ b o, b < W.heap.size → w1.frozen? ⟨b, o, none⟩ = W.frozen? ⟨b, o, none⟩) :=
  ⟨fun b o h => hb.cell (p := ⟨b, o, none⟩) h, fun b o h => hb.frozen (p := ⟨b, o, none⟩) h⟩

theorem belowN {B : Nat} {a w : World} (h : Below B a w) (n : Nat) : Below B a (w.drewN n) := ⟨h.os, h.tape, h.output, h.size, h.block⟩
theorem size_drewN (w : World) (n : Nat) : (w.drewN n).heap.size = w.heap.size := rfl

theorem cell_setCell (w : World) (b o b' o' : Nat) (v : Value) :
    (w.setCell ⟨b, o, none⟩ v).cell? ⟨b', o', none⟩ = if b' = b ∧ o' = o then (w.cell? ⟨b, o, none⟩).map (fun _ => v) else w.cell? ⟨b', o', none⟩ := by
  by_cases h : b' = b ∧ o' = o
  · obtain ⟨rfl, rfl⟩ := h
    rw [if_pos ⟨rfl, rfl⟩]
    cases hc : w.cell? ⟨b', o', none⟩ with
    | some u => rw [World.cell?_setCell_same w _ v hc]; rfl
    | none =>
      simp only [World.cell?, World.setCell, Array.getElem?_modify, if_true] at hc ⊢
      cases hb : w.heap[b']? with
      | none => rfl
      | some ob =>
        cases ob <;> simp_all
  · rw [if_neg h]
    exact World.cell?_setCell_other _ _ _ _ (fun e => h ⟨(congrArg Addr.block e).symm, (congrArg Addr.off e).symm⟩)
theorem below_after {B : Nat} {a W w1 : World} (h : Below B a W) (hb : Below W.heap.size W w1) (hB : B ≤ W.heap.size) : Below B a w1 := h.trans (hb.mono hB)
/-- from block C on nothing has turned -/
def Above (C : Nat) (w w' : World) : Prop := ∀ k, C ≤ k → w'.heap[k]? = w.heap[k]?
theorem Above.refl (C : Nat) (w : World) : Above C w w := fun _ _ => rfl
theorem Above.setCell {C : Nat} {a w : World} (h : Above C a w) {p : Addr} (hp : p.block < C) (v : Value) : Above C a (w.setCell p v) := fun k hk => (Below.heap_setCell w p v k (by omega)).trans (h k hk)
theorem Above.drew {C : Nat} {a w : World} (h : Above C a w) : Above C a w.drew := h
theorem Above.drewN {C : Nat} {a w : World} (h : Above C a w) (n : Nat) : Above C a (w.drewN n) := h
section
variable {α : Type} [GoT α]
theorem Own.above {C : Nat} {w w' : World} {cs : List Value} {x : α} (h : Own C w cs x) (ha : Above C w w') : Own C w' cs x := by
  obtain ⟨fp, h, k⟩ := h
  exact ⟨fp, GoT.keep h fun p hp => World.cell?_of_block (w := w) (a := ⟨p.1, p.2, none⟩) (ha p.1 (k.ge p hp)), k.nodup, k.ge, fun p hp => by
    rw [World.frozen?_of_block (w := w) (a := ⟨p.1, p.2, none⟩) (ha p.1 (k.ge p hp))]; exact k.free p hp⟩
theorem OwnS.above {C : Nat} {w w' : World} {v : Value} {l : List α} (h : OwnS C w v l) (ha : Above C w w') : OwnS C w' v l := by
  obtain ⟨fp, h, k⟩ := h
  exact ⟨fp, h.keep fun p hp => World.cell?_of_block (w := w) (a := ⟨p.1, p.2, none⟩) (ha p.1 (k.ge p hp)), k.nodup, k.ge, fun p hp => by
    rw [World.frozen?_of_block (w := w) (a := ⟨p.1, p.2, none⟩) (ha p.1 (k.ge p hp))]; exact k.free p hp⟩
theorem Rd.below {w w' : World} {cs : List Value} {x : α} (h : Rd w cs x) (hb : Below w.heap.size w w') : Rd w' cs x := by
  obtain ⟨fp, h⟩ := h
  exact ⟨fp, GoT.keep h (Live.same_below hb (Live.lt (GoT.live h)))⟩
theorem RdS.below {w w' : World} {v : Value} {l : List α} (h : RdS w v l) (hb : Below w.heap.size w w') : RdS w' v l := by
  obtain ⟨fp, h⟩ := h
  exact ⟨fp, h.keep (Live.same_below hb (Live.lt h.live))⟩
theorem RdS.drewN {w : World} {v : Value} {l : List α} (h : RdS w v l) (n : Nat) : RdS (w.drewN n) v l := h.below (belowN (Below.refl _ _) n)
theorem Rd.drewN {w : World} {cs : List Value} {x : α} (h : Rd w cs x) (n : Nat) : Rd (w.drewN n) cs x := h.below (belowN (Below.refl _ _) n)
theorem RdS.alloc {w : World} {v : Value} {l : List α} (h : RdS w v l) (o : Obj) : RdS (w.alloc o) v l := h.below ((Below.refl _ _).alloc (Nat.le_refl _) o)
theorem Rd.alloc {w : World} {cs : List Value} {x : α} (h : Rd w cs x) (o : Obj) : Rd (w.alloc o) cs x := h.below ((Below.refl _ _).alloc (Nat.le_refl _) o)
theorem RdS.nil {w : World} : RdS (α := α) w (.slice none 0 0) [] := ⟨[], Sl.nil⟩
theorem OwnS.nil {B : Nat} {w : World} : OwnS (α := α) B w (.slice none 0 0) [] := ⟨[], Sl.nil, List.nodup_nil, fun _ h => (by cases h), fun _ h => (by cases h)⟩
theorem Own.rd {B : Nat} {w : World} {cs : List Value} {x : α} (h : Own B w cs x) : Rd w cs x := let ⟨fp, h, _⟩ := h; ⟨fp, h⟩
theorem OwnS.rd {B : Nat} {w : World} {v : Value} {l : List α} (h : OwnS B w v l) : RdS w v l := let ⟨fp, h, _⟩ := h; ⟨fp, h⟩
theorem Fresh.mono {B B' : Nat} {w : World} {fp : List Pos} (h : Fresh B w fp) (hB : B' ≤ B) : Fresh B' w fp := ⟨h.nodup, fun p hp => Nat.le_trans hB (h.ge p hp), h.free⟩
theorem Fresh.below {B C : Nat} {w w' : World} {fp : List Pos} (h : Fresh B w fp) (hb : Below C w w') (hlt : ∀ p ∈ fp, p.1 < C) : Fresh B w' fp :=
  ⟨h.nodup, h.ge, fun p hp => by rw [hb.frozen (p := ⟨p.1, p.2, none⟩) (hlt p hp)]; exact h.free p hp⟩
theorem Own.mono {B B' : Nat} {w : World} {cs : List Value} {x : α} (h : Own B w cs x) (hB : B' ≤ B) : Own B' w cs x := let ⟨fp, h, k⟩ := h; ⟨fp, h, k.mono hB⟩
theorem OwnS.mono {B B' : Nat} {w : World} {v : Value} {l : List α} (h : OwnS B w v l) (hB : B' ≤ B) : OwnS B' w v l := let ⟨fp, h, k⟩ := h; ⟨fp, h, k.mono hB⟩
theorem Own.below {B : Nat} {w w' : World} {cs : List Value} {x : α} (h : Own B w cs x) (hb : Below w.heap.size w w') : Own B w' cs x := by
  obtain ⟨fp, h, k⟩ := h
  have hlt := Live.lt (GoT.live h)
  exact ⟨fp, GoT.keep h (Live.same_below hb hlt), k.below hb hlt⟩
theorem OwnS.below {B : Nat} {w w' : World} {v : Value} {l : List α} (h : OwnS B w v l) (hb : Below w.heap.size w w') : OwnS B w' v l := by
  obtain ⟨fp, h, k⟩ := h
  have hlt := Live.lt h.live
  exact ⟨fp, h.keep (Live.same_below hb hlt), k.below hb hlt⟩
theorem RdS.len {w : World} {v : Value} {l : List α} (h : RdS w v l) {P : Program} {T E : TypeId} (hT : P.underlying T = some (.slice E)) (w1 : World) (ty : TypeId) :
    (Builtin.len_ #[T] ty #[v]).run P w1 = .ok (.int .i64 l.length) w1 := let ⟨_, h⟩ := h; h.len hT w1 ty
theorem RdS.le {w : World} {v : Value} {l : List α} (h : RdS w v l) : l.length ≤ 4294967296 := let ⟨_, h⟩ := h; h.leM
theorem RdS.idx {w : World} {v : Value} {l : List α} (h : RdS w v l) {P : Program} {T E : TypeId} (hT : P.underlying T = some (.slice E)) (hl : ∀ w1, (sizeOf E).run P w1 = .ok (GoT.n α) w1) (k : Nat) {x : α} (hk : l[k]? = some x) :
    ∃ b o cs, (∀ w1, (Instr.indexAt T v (.int .i64 k)).run P w1 = .ok (.pointer (some ⟨b, o, none⟩)) w1) ∧ At w b o cs ∧ Rd w cs x := by
  obtain ⟨fp, h⟩ := h
  obtain ⟨b, o, cs, f, h1, h2, h3, _⟩ := h.idx hT hl k hk
  exact ⟨b, o, cs, h1, h2, f, h3⟩
end
theorem RdS.isSlice {α : Type} [GoT α] {w : World} {v : Value} {l : List α} (h : RdS w v l) : ∃ a c, v = .slice a l.length c := by
  obtain ⟨fp, ⟨ao, rfl, rfl, _⟩ | ⟨b, o, cap, cs, fs, rfl, _⟩⟩ := h
  · exact ⟨_, _, rfl⟩
  · exact ⟨_, _, rfl⟩
/-- a slice value is one cell, and is stored as one -/
theorem RdS.stores {α : Type} [GoT α] {w : World} {v : Value} {l : List α} (h : RdS w v l) (P : Program) : v.cells = #[v] ∧ ∀ a m w, (store a v m).run P w = stored P w a v m := by
  obtain ⟨a, c, rfl⟩ := h.isSlice
  exact ⟨rfl, fun a m w => run_store P w a _ m rfl⟩
theorem At.two {w : World} {b o : Nat} {c0 c1 : Value} (h : At w b o [c0, c1]) : w.cell? ⟨b, o, none⟩ = some c0 ∧ w.cell? ⟨b, o + 1, none⟩ = some c1 := ⟨h 0 c0 rfl, h 1 c1 rfl⟩
theorem At.one {w : World} {b o : Nat} {c0 : Value} (h : At w b o [c0]) : w.cell? ⟨b, o, none⟩ = some c0 := h 0 c0 rfl
theorem At.three {w : World} {b o : Nat} {c0 c1 c2 : Value} (h : At w b o [c0, c1, c2]) : w.cell? ⟨b, o, none⟩ = some c0 ∧ w.cell? ⟨b, o + 1, none⟩ = some c1 ∧ w.cell? ⟨b, o + 2, none⟩ = some c2 :=
  ⟨h 0 c0 rfl, h 1 c1 rfl, h 2 c2 rfl⟩
theorem At.four {w : World} {b o : Nat} {c0 c1 c2 c3 : Value} (h : At w b o [c0, c1, c2, c3]) :
    w.cell? ⟨b, o, none⟩ = some c0 ∧ w.cell? ⟨b, o + 1, none⟩ = some c1 ∧ w.cell? ⟨b, o + 2, none⟩ = some c2 ∧ w.cell? ⟨b, o + 3, none⟩ = some c3 :=
  ⟨h 0 c0 rfl, h 1 c1 rfl, h 2 c2 rfl, h 3 c3 rfl⟩
theorem At.five {w : World} {b o : Nat} {c0 c1 c2 c3 c4 : Value} (h : At w b o [c0, c1, c2, c3, c4]) :
    w.cell? ⟨b, o, none⟩ = some c0 ∧ w.cell? ⟨b, o + 1, none⟩ = some c1 ∧ w.cell? ⟨b, o + 2, none⟩ = some c2 ∧ w.cell? ⟨b, o + 3, none⟩ = some c3 ∧ w.cell? ⟨b, o + 4, none⟩ = some c4 :=
  ⟨h 0 c0 rfl, h 1 c1 rfl, h 2 c2 rfl, h 3 c3 rfl, h 4 c4 rfl⟩
theorem At.six {w : World} {b o : Nat} {c0 c1 c2 c3 c4 c5 : Value} (h : At w b o [c0, c1, c2, c3, c4, c5]) :
    w.cell? ⟨b, o, none⟩ = some c0 ∧ w.cell? ⟨b, o + 1, none⟩ = some c1 ∧ w.cell? ⟨b, o + 2, none⟩ = some c2 ∧ w.cell? ⟨b, o + 3, none⟩ = some c3 ∧ w.cell? ⟨b, o + 4, none⟩ = some c4 ∧ w.cell? ⟨b, o + 5, none⟩ = some c5 :=
  ⟨h 0 c0 rfl, h 1 c1 rfl, h 2 c2 rfl, h 3 c3 rfl, h 4 c4 rfl, h 5 c5 rfl⟩
theorem At.seven {w : World} {b o : Nat} {c0 c1 c2 c3 c4 c5 c6 : Value} (h : At w b o [c0, c1, c2, c3, c4, c5, c6]) :
    w.cell? ⟨b, o, none⟩ = some c0 ∧ w.cell? ⟨b, o + 1, none⟩ = some c1 ∧ w.cell? ⟨b, o + 2, none⟩ = some c2 ∧ w.cell? ⟨b, o + 3, none⟩ = some c3 ∧ w.cell? ⟨b, o + 4, none⟩ = some c4 ∧ w.cell? ⟨b, o + 5, none⟩ = some c5 ∧ w.cell? ⟨b, o + 6, none⟩ = some c6 :=
  ⟨h 0 c0 rfl, h 1 c1 rfl, h 2 c2 rfl, h 3 c3 rfl, h 4 c4 rfl, h 5 c5 rfl, h 6 c6 rfl⟩

/-- list equality, the way a loop over indices finds it -/
theorem list_eq_of_take {α : Type} {a b : List α} (hl : a.length = b.length) (h : ∀ k, k < a.length → a[k]? = b[k]?) : a = b := by
  apply List.ext_getElem? 
  intro k
  by_cases hk : k < a.length
  · exact h k hk
  · rw [List.getElem?_eq_none (by omega), List.getElem?_eq_none (by omega)]
theorem get_some {α : Type} {l : List α} {k : Nat} (h : k < l.length) : ∃ x, l[k]? = some x := ⟨l[k], List.getElem?_eq_getElem h⟩
theorem take_snoc {α : Type} {l : List α} {k : Nat} {x : α} (h : l[k]? = some x) : l.take (k + 1) = l.take k ++ [x] := by
  obtain ⟨h1, h2⟩ := List.getElem?_eq_some_iff.1 h
  rw [List.take_succ_eq_append_getElem h1, h2]
theorem ret_int {k : IntKind} {a b : Int} (h : a = b) : Ending.returned (.int k a) = .returned (.int k b) := by rw [h]
theorem ret_bool {a b : Bool} (h : a = b) : Ending.returned (.bool a) = .returned (.bool b) := by rw [h]
end Go.Proofs.Ytihbmefidbmmdaa
