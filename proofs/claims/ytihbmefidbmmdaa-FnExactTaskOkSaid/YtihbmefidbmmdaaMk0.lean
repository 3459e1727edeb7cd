/- Marking: cells of an element written one by one, its slices marked by calls; what stays. -/
import Derived.Test.YtihbmefidbmmdaaMark
import Derived.Test.YtihbmefidbmmdaaStruct
import Derived.Test.YtihbmefidbmmdaaMInts
namespace Go.Proofs.Ytihbmefidbmmdaa
open Go.RowKit
theorem At.put {w : World} {b o : Nat} {cs : List Value} (h : At w b o cs) (j : Nat) (hj : j < cs.length) (u : Value) : At (w.setCell ⟨b, o + j, none⟩ u) b o (cs.set j u) := by
  intro i v hi
  rw [cell_setCell]
  by_cases e : i = j
  · subst e
    rw [if_pos ⟨rfl, rfl⟩, h i _ (List.getElem?_eq_getElem hj)]
    rw [List.getElem?_set_self hj] at hi
    exact hi
  · rw [if_neg (by omega)]
    rw [List.getElem?_set_ne (by omega)] at hi
    exact h i v hi
theorem At.put0 {w : World} {b o : Nat} {cs : List Value} (h : At w b o cs) (hj : 0 < cs.length) (u : Value) : At (w.setCell ⟨b, o, none⟩ u) b o (cs.set 0 u) := h.put 0 hj u
theorem Sl.put {α : Type} [GoT α] {M : Nat} {w : World} {v : Value} {l : List α} {fp : List Pos} (h : Sl M w v l fp) {b o : Nat} (hn : (b, o) ∉ fp) (u : Value) : Sl M (w.setCell ⟨b, o, none⟩ u) v l fp :=
  h.keep fun p hp => World.cell?_setCell_other _ _ _ _ (fun e => hn (by
    have e1 : b = p.1 := congrArg Addr.block e
    have e2 : o = p.2 := congrArg Addr.off e
    rw [e1, e2]; exact hp))
theorem Sl.wr {α : Type} [GoT α] {M : Nat} {w w' : World} {v : Value} {l : List α} {fp g : List Pos} (h : Sl M w v l fp) (hw : Wr g w w') (hd : ∀ p ∈ fp, p ∉ g) : Sl M w' v l fp := h.keep (hw.same h.live hd)
theorem At.wr {w w' : World} {b o : Nat} {cs : List Value} {g : List Pos} (h : At w b o cs) (hw : Wr g w w') (hd : ∀ j < cs.length, (b, o + j) ∉ g) : At w' b o cs :=
  h.keep fun j hj => hw.cell (b, o + j) (World.block_lt_of_cell? (w := w) (a := ⟨b, o + j, none⟩) (h j _ (List.getElem?_eq_getElem hj))) (hd j hj)
theorem Fresh.put {B : Nat} {w : World} {fp : List Pos} (h : Fresh B w fp) (a : Addr) (u : Value) : Fresh B (w.setCell a u) fp := ⟨h.nodup, h.ge, fun p hp => by rw [World.frozen?_setCell]; exact h.free p hp⟩
theorem Wr.put {fp : List Pos} {a w : World} (h : Wr fp a w) {b o : Nat} (hm : (b, o) ∈ fp) (v : Value) : Wr fp a (w.setCell ⟨b, o, none⟩ v) := h.trans (Wr.setCell w hm v)
theorem Sl.at_ {α : Type} [GoT α] [GoM α] {M : Nat} {w : World} {v : Value} {l : List α} {fp : List Pos} {a b : Int} (h : Sl M w v (mkL a l) fp) (e : a = b) : Sl M w v (mkL b l) fp := e ▸ h
/-- only blocks between C and D have been written, and new ones made -/
def Btw (C D : Nat) (w w' : World) : Prop := ∃ fp, Wr fp w w' ∧ ∀ p ∈ fp, C ≤ p.1 ∧ p.1 < D
theorem Btw.below {C D : Nat} {w w' : World} (h : Btw C D w w') (hC : C ≤ w.heap.size) : Below C w w' := let ⟨_, h, k⟩ := h; h.below hC fun p hp => (k p hp).1
theorem Btw.mono {C D C' D' : Nat} {w w' : World} (h : Btw C D w w') (hC : C' ≤ C) (hD : D ≤ D') : Btw C' D' w w' := let ⟨fp, h, k⟩ := h; ⟨fp, h, fun p hp => ⟨by have := k p hp; omega, by have := k p hp; omega⟩⟩
theorem Btw.own {α : Type} [GoT α] {C D C' D' : Nat} {w w' : World} {v : Value} {l : List α} (h : Btw C D w w') (ho : OwnB C' D' w v l) (hd : D' ≤ C ∨ D ≤ C') : OwnB C' D' w' v l := by
  obtain ⟨fp, h, k⟩ := h
  obtain ⟨g, s, f, d⟩ := ho
  refine ⟨g, s.wr h fun p hp hn => ?_, h.fresh s.live f, d⟩
  have := k p hn; have := d p hp; have := f.ge p hp
  omega
theorem Btw.rds {α : Type} [GoT α] {C D : Nat} {w w' : World} {v : Value} {l : List α} (h : Btw C D w w') {w0 : World} (hr : RdS w0 v l) (hb : Below w0.heap.size w0 w) (hC : w0.heap.size ≤ C) : RdS w' v l := by
  obtain ⟨fp, s⟩ := hr
  have hl := Live.lt s.live
  refine ⟨fp, (s.keep (Live.same_below hb hl)).wr h.choose_spec.1 fun p hp hn => ?_⟩
  have := h.choose_spec.2 p hn; have := hl p hp
  omega
theorem Btw.cell {C D : Nat} {w w' : World} (h : Btw C D w w') {b o : Nat} (hb : b < w.heap.size) (hd : b < C ∨ D ≤ b) : w'.cell? ⟨b, o, none⟩ = w.cell? ⟨b, o, none⟩ :=
  let ⟨_, h, k⟩ := h; h.cell (b, o) hb fun hn => by have := k _ hn; simp at this; omega
theorem Btw.frozen {C D : Nat} {w w' : World} (h : Btw C D w w') {b o : Nat} (hb : b < w.heap.size) : w'.frozen? ⟨b, o, none⟩ = w.frozen? ⟨b, o, none⟩ := let ⟨_, h, _⟩ := h; h.frozen (b, o) hb
theorem Btw.size {C D : Nat} {w w' : World} (h : Btw C D w w') : w.heap.size ≤ w'.heap.size := let ⟨_, h, _⟩ := h; h.size
/-- what marking leaves, between block numbers -/
def MarksB {α : Type} [GoT α] [GoM α] (C D : Nat) (w : World) (v : Value) (k : Int) (l : List α) (e : Ending) (w' : World) : Prop :=
  e = .returned (.int .i64 (k + cntL l)) ∧ OwnB C D w' v (mkL k l) ∧ Btw C D w w'
theorem Marks.b {α : Type} [GoT α] [GoM α] {C D : Nat} {w : World} {v : Value} {k : Int} {l : List α} {fp : List Pos} {e : Ending} {w' : World} (hl : Sl BIG w v l fp) (hf : Fresh C w fp) (hd : ∀ p ∈ fp, p.1 < D)
    (h : Marks w v k l fp e w') : MarksB C D w v k l e w' :=
  ⟨h.1, ⟨fp, h.2.1, h.2.2.fresh hl.live hf, hd⟩, ⟨fp, h.2.2, fun p hp => ⟨hf.ge p hp, hd p hp⟩⟩⟩
end Go.Proofs.Ytihbmefidbmmdaa
