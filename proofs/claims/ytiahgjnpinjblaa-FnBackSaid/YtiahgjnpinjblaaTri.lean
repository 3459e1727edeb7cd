/- Three slices of one's own, side by side; a document's. -/
import Derived.Test.YtiahgjnpinjblaaTwo
namespace Go.Proofs.Ytiahgjnpinjblaa
open Go.RowKit
def Tri {α β γ : Type} [GoT α] [GoT β] [GoT γ] (C D : Nat) (w : World) (v1 v2 v3 : Value) (l1 : List α) (l2 : List β) (l3 : List γ) (f1 f2 f3 : List Pos) : Prop :=
  Sl BIG w v1 l1 f1 ∧ Sl BIG w v2 l2 f2 ∧ Sl BIG w v3 l3 f3 ∧ Fresh C w (f1 ++ (f2 ++ f3)) ∧ ∀ p ∈ f1 ++ (f2 ++ f3), p.1 < D
section
variable {α β γ : Type} [GoT α] [GoT β] [GoT γ] {C D : Nat} {w w' : World} {v1 v2 v3 : Value} {l1 : List α} {l2 : List β} {l3 : List γ} {f1 f2 f3 : List Pos}
theorem Tri.block (h : Tri C D w v1 v2 v3 l1 l2 l3 f1 f2 f3) (hs : ∀ k, C ≤ k → k < D → w'.heap[k]? = w.heap[k]?) : Tri C D w' v1 v2 v3 l1 l2 l3 f1 f2 f3 := by
  obtain ⟨a, b, e, c, d⟩ := h
  have hc : ∀ p ∈ f1 ++ (f2 ++ f3), w'.cell? ⟨p.1, p.2, none⟩ = w.cell? ⟨p.1, p.2, none⟩ := fun p hp => by simp only [World.cell?]; rw [hs p.1 (c.ge p hp) (d p hp)]
  have hf : ∀ p ∈ f1 ++ (f2 ++ f3), w'.frozen? ⟨p.1, p.2, none⟩ = w.frozen? ⟨p.1, p.2, none⟩ := fun p hp => by simp only [World.frozen?]; rw [hs p.1 (c.ge p hp) (d p hp)]
  exact ⟨a.keep fun p hp => hc p (by simp [hp]), b.keep fun p hp => hc p (by simp [hp]), e.keep fun p hp => hc p (by simp [hp]), ⟨c.nodup, c.ge, fun p hp => (hf p hp).trans (c.free p hp)⟩, d⟩
theorem Tri.below (h : Tri C D w v1 v2 v3 l1 l2 l3 f1 f2 f3) (hb : Below D w w') : Tri C D w' v1 v2 v3 l1 l2 l3 f1 f2 f3 := h.block fun k _ hk => hb.block k hk
theorem Tri.setCell {b o : Nat} (h : Tri C D w v1 v2 v3 l1 l2 l3 f1 f2 f3) (hp : b < C ∨ D ≤ b) (u : Value) : Tri C D (w.setCell ⟨b, o, none⟩ u) v1 v2 v3 l1 l2 l3 f1 f2 f3 := h.block fun k h1 h2 => Below.heap_setCell w ⟨b, o, none⟩ u k (by show k ≠ b; omega)
theorem Tri.alloc (h : Tri C D w v1 v2 v3 l1 l2 l3 f1 f2 f3) (hD : D ≤ w.heap.size) (o : Obj) : Tri C D (w.alloc o) v1 v2 v3 l1 l2 l3 f1 f2 f3 := h.below ((Below.refl _ _).alloc hD o)
theorem Tri.drew (h : Tri C D w v1 v2 v3 l1 l2 l3 f1 f2 f3) : Tri C D w.drew v1 v2 v3 l1 l2 l3 f1 f2 f3 := h.block fun _ _ _ => rfl
theorem Tri.mono {C' : Nat} (h : Tri C D w v1 v2 v3 l1 l2 l3 f1 f2 f3) (hC : C' ≤ C) : Tri C' D w v1 v2 v3 l1 l2 l3 f1 f2 f3 := ⟨h.1, h.2.1, h.2.2.1, h.2.2.2.1.mono hC, h.2.2.2.2⟩
end
end Go.Proofs.Ytiahgjnpinjblaa
