/- Two slices of one's own, side by side. -/
import Derived.Test.YtiahgjnpinjblaaRo
namespace Go.Proofs.Ytiahgjnpinjblaa
open Go.RowKit
/-- two slices in memory of one's own, in blocks from C on and below D -/
def Two {α β : Type} [GoT α] [GoT β] (C D : Nat) (w : World) (v1 v2 : Value) (l1 : List α) (l2 : List β) (f1 f2 : List Pos) : Prop := Sl BIG w v1 l1 f1 ∧ Sl BIG w v2 l2 f2 ∧ Fresh C w (f1 ++ f2) ∧ ∀ p ∈ f1 ++ f2, p.1 < D
section
variable {α β : Type} [GoT α] [GoT β] {C D : Nat} {w w' : World} {v1 v2 : Value} {l1 : List α} {l2 : List β} {f1 f2 : List Pos}
theorem Two.block (h : Two C D w v1 v2 l1 l2 f1 f2) (hs : ∀ k, C ≤ k → k < D → w'.heap[k]? = w.heap[k]?) : Two C D w' v1 v2 l1 l2 f1 f2 := by
  obtain ⟨a, b, c, d⟩ := h
  have hc : ∀ p ∈ f1 ++ f2, w'.cell? ⟨p.1, p.2, none⟩ = w.cell? ⟨p.1, p.2, none⟩ := fun p hp => by simp only [World.cell?]; rw [hs p.1 (c.ge p hp) (d p hp)]
  have hf : ∀ p ∈ f1 ++ f2, w'.frozen? ⟨p.1, p.2, none⟩ = w.frozen? ⟨p.1, p.2, none⟩ := fun p hp => by simp only [World.frozen?]; rw [hs p.1 (c.ge p hp) (d p hp)]
  exact ⟨a.keep fun p hp => hc p (List.mem_append_left _ hp), b.keep fun p hp => hc p (List.mem_append_right _ hp), ⟨c.nodup, c.ge, fun p hp => (hf p hp).trans (c.free p hp)⟩, d⟩
theorem Two.below (h : Two C D w v1 v2 l1 l2 f1 f2) (hb : Below D w w') : Two C D w' v1 v2 l1 l2 f1 f2 := h.block fun k _ hk => hb.block k hk
theorem Two.setCell {b o : Nat} (h : Two C D w v1 v2 l1 l2 f1 f2) (hp : b < C ∨ D ≤ b) (u : Value) : Two C D (w.setCell ⟨b, o, none⟩ u) v1 v2 l1 l2 f1 f2 := h.block fun k h1 h2 => Below.heap_setCell w ⟨b, o, none⟩ u k (by show k ≠ b; omega)
theorem Two.alloc (h : Two C D w v1 v2 l1 l2 f1 f2) (hD : D ≤ w.heap.size) (o : Obj) : Two C D (w.alloc o) v1 v2 l1 l2 f1 f2 := h.below ((Below.refl _ _).alloc hD o)
theorem Two.drew (h : Two C D w v1 v2 l1 l2 f1 f2) : Two C D w.drew v1 v2 l1 l2 f1 f2 := h.block fun _ _ _ => rfl
end
end Go.Proofs.Ytiahgjnpinjblaa
