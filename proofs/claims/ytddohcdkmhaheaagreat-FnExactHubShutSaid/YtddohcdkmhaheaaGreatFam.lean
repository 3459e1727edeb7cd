/- Regions that draw their order, whose operations read and whose callees leave all that was there as it was: one walk, in the order of the text. -/
import Derived.Test.YtddohcdkmhaheaaGreatBa
import Derived.BigQuiet
namespace Go.Proofs.YtddohcdkmhaheaaGreat
open Go.RowKit
/-- the worlds behind W, as a family -/
theorem fam_of (W : World) : ∃ (X : Type) (_ : Nonempty X) (F : X → World), (∀ x, Below W.heap.size W (F x)) ∧ (∀ w', Below W.heap.size W w' → ∃ x, w' = F x) :=
  ⟨{ w' : World // Below W.heap.size W w' }, ⟨⟨W, Below.refl _ _⟩⟩, fun x => x.1, fun x => x.2, fun w' h => ⟨⟨w', h⟩, rfl⟩⟩
theorem wp_region_fam {P : Program} {id : Nat} {Q : Exit → Act → World → Prop} {a : Act} {w : World} {l : List Oper} {X : Type} {F : X → World} (hm : P.follows .mixedOrders = true) (hB : Region.lexB .any l.toArray = true)
    (h0 : ∃ x, w.drew = F x) (h : wpQuiet P l.toArray (fun w' => ∃ x, w' = F x) (fun a' => ∀ x, Q .normal a' (F x)) l a) : (Code.region id l.toArray true).wp P Q a w := by
  refine wp_region_quiet (C := fun w' => ∃ x, w' = F x) hm hB h0 ?_
  have : (fun a' => ∀ w', (∃ x, w' = F x) → Q .normal a' w') = (fun a' => ∀ x, Q .normal a' (F x)) := by
    funext a'
    exact propext ⟨fun h x => h _ ⟨x, rfl⟩, by rintro h _ ⟨x, rfl⟩; exact h x⟩
  simp only [this]
  exact h
theorem Calls.fam_tells {P : Program} {f : FuncId} {args : Array Value} {W : World} {X : Type} {F : X → World} (hF : ∀ x, Below W.heap.size W (F x)) (hs : ∀ w', Below W.heap.size W w' → ∃ x, w' = F x) {x : X} {v : Value}
    (h : Calls P f args (F x) (Tells (F x) v)) : Calls P f args (F x) fun e w'' => e = .returned v ∧ ∃ y, w'' = F y :=
  h.mono fun _ _ ⟨he, hb⟩ => ⟨he, hs _ ((hF x).trans (hb.mono (hF x).size))⟩
end Go.Proofs.YtddohcdkmhaheaaGreat
