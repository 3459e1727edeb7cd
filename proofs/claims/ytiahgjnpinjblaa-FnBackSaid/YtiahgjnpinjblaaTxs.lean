/- The state of the program's walk through two operations, with its boxes. -/
import Derived.Test.YtiahgjnpinjblaaTls
import Derived.Test.YtiahgjnpinjblaaRsw
namespace Go.Proofs.Ytiahgjnpinjblaa
open Go.RowKit
structure TX (w0 : World) (B br bs : Nat) (vr vs vx vy : Value) (r s X Y : List DPart) (w : World) : Prop where
  t : TS B w br bs vr vs vx vy r s X Y
  p : Bx w br [vr]
  q : Bx w bs [vs]
  n : br ≠ bs
  o1 : w0.heap.size ≤ br
  o2 : w0.heap.size ≤ bs
  bel : Below w0.heap.size w0 w
section
variable {w0 w w' : World} {B br bs : Nat} {vr vs vx vy v' : Value} {r s X Y r' : List DPart}
theorem TX.swap (h : TX w0 B br bs vr vs vx vy r s X Y w) : TX w0 B bs br vs vr vy vx s r Y X w := ⟨h.t.swap, h.q, h.p, h.n.symm, h.o2, h.o1, h.bel⟩
theorem TX.below (h : TX w0 B br bs vr vs vx vy r s X Y w) (hb : Below w.heap.size w w') : TX w0 B br bs vr vs vx vy r s X Y w' :=
  ⟨h.t.below hb, h.p.at hb, h.q.at hb, h.n, h.o1, h.o2, h.bel.trans (hb.mono h.bel.size)⟩
/-- what is left of the first list, and where -/
theorem TX.rd (h : TX w0 B br bs vr vs vx vy r s X Y w) : ∃ f, Sl BIG w vr r f ∧ (∀ p ∈ f, p.1 ≠ br) ∧ (∀ p ∈ f, ¬ ZP br bs vx vy p) ∧ ∀ p ∈ f, p.1 < w.heap.size := by
  obtain ⟨f, h1, h2⟩ := h.t.r
  exact ⟨f, h1, fun p hp e => h2 p hp (.inr (.inr (.inl e))), h2, Live.lt h1.live⟩
theorem TX.stepR (h : TX w0 B br bs vr vs vx vy r s X Y w) {f f' : List Pos} (hf : ∀ p ∈ f, ¬ ZP br bs vx vy p) (hw : Wr [(br, 0)] w w') (hx : Bx w' br [v']) (hs : Sl BIG w' v' r' f') (hm : ∀ q ∈ f', q ∈ f ∨ w.heap.size ≤ q.1) : TX w0 B br bs v' vs vx vy r' s X Y w' := by
  have ht := h.t.wr hw fun p hp => by simp only [List.mem_singleton] at hp; rw [hp]; exact .inl rfl
  have hn := h.n
  refine ⟨ht.setR ⟨f', hs, fun q hq hz => ?_⟩, hx, h.q.wr hw fun p hp => by simp only [List.mem_singleton] at hp; rw [hp]; exact hn, hn, h.o1, h.o2, h.bel.trans (hw.below h.bel.size fun p hp => by simp only [List.mem_singleton] at hp; rw [hp]; exact h.o1)⟩
  rcases hm q hq with hq | hq
  · exact hf q hq hz
  · have := h.t.zlt hz; omega
theorem TX.zout (h : TX w0 B br bs vr vs vx vy r s X Y w) {q : Pos} (hq : w.heap.size ≤ q.1) : ¬ ZP br bs vx vy q := fun hz => by have := h.t.zlt hz; omega
/-- a part put behind the first row -/
theorem TX.appX (h : TX w0 B br bs vr vs vx vy r s X Y w) {W : World} {c : List Value} {x : DPart} {g : List Pos} (E : TypeId) (hb : Below w.heap.size w W) (hrd : GoT.rd BIG W c x g) (hg : ∀ q ∈ g, ¬ ZP br bs vx vy q) :
    ∃ gx, Row B (W.alloc (.cells c.toArray E)) vx X gx ∧ Src (W.alloc (.cells c.toArray E)) (.slice (some ⟨W.heap.size, 0, none⟩) 1 1) [x] g ∧ (∀ q ∈ g, q ∉ rowP (GoT.n DPart) vx) ∧ B ≤ (W.alloc (.cells c.toArray E)).heap.size ∧
      ∀ (v' : Value) (w' : World), Row B w' v' (X ++ [x]) (gx ++ g) → Wr (rowP (GoT.n DPart) vx) (W.alloc (.cells c.toArray E)) w' → (∀ p ∈ rowP (GoT.n DPart) v', p ∈ rowP (GoT.n DPart) vx ∨ (W.alloc (.cells c.toArray E)).heap.size ≤ p.1) → TX w0 B br bs vr vs v' vy r s (X ++ [x]) Y w' := by
  have hb2 : Below w.heap.size w (W.alloc (.cells c.toArray E)) := hb.alloc hb.size _
  have h2 := h.below hb2
  obtain ⟨gx, k1, k2⟩ := h2.t.x
  have hl := Live.lt (GoT.live hrd)
  have e1 : (W.alloc (.cells c.toArray E)).heap.size = W.heap.size + 1 := by simp
  refine ⟨gx, k1, src_built E hrd, fun q hq hm => hg q hq (.inl hm), h2.t.hB, fun v' w' j1 j2 j3 => ?_⟩
  have hge := h2.t.x.ge
  have hr := h2.t.hr
  have hs := h2.t.hs
  refine ⟨h2.t.appX k2 (fun q hq => ⟨hg q hq, by have := hl q hq; omega⟩) (Live.lt k1.live) j1 j2 j3, h2.p.wr j2 fun p hp => ?_, h2.q.wr j2 fun p hp => ?_, h2.n, h2.o1, h2.o2, h2.bel.trans (j2.below h2.bel.size fun p hp => ?_)⟩
  · have := (hge p hp).1; omega
  · have := (hge p hp).1; omega
  · have := (hge p hp).1; have := h2.o1; omega
theorem TX.appY (h : TX w0 B br bs vr vs vx vy r s X Y w) {W : World} {c : List Value} {x : DPart} {g : List Pos} (E : TypeId) (hb : Below w.heap.size w W) (hrd : GoT.rd BIG W c x g) (hg : ∀ q ∈ g, ¬ ZP br bs vx vy q) :
    ∃ gx, Row B (W.alloc (.cells c.toArray E)) vy Y gx ∧ Src (W.alloc (.cells c.toArray E)) (.slice (some ⟨W.heap.size, 0, none⟩) 1 1) [x] g ∧ (∀ q ∈ g, q ∉ rowP (GoT.n DPart) vy) ∧ B ≤ (W.alloc (.cells c.toArray E)).heap.size ∧
      ∀ (v' : Value) (w' : World), Row B w' v' (Y ++ [x]) (gx ++ g) → Wr (rowP (GoT.n DPart) vy) (W.alloc (.cells c.toArray E)) w' → (∀ p ∈ rowP (GoT.n DPart) v', p ∈ rowP (GoT.n DPart) vy ∨ (W.alloc (.cells c.toArray E)).heap.size ≤ p.1) → TX w0 B br bs vr vs vx v' r s X (Y ++ [x]) w' := by
  obtain ⟨gx, k1, k2, k3, k4, k5⟩ := h.swap.appX E hb hrd fun q hq hz => hg q hq hz.swap
  exact ⟨gx, k1, k2, k3, k4, fun v' w' j1 j2 j3 => (k5 v' w' j1 j2 j3).swap⟩
end
theorem TX.new {w0 w : World} {va vb : Value} {a b : List DPart} {E : TypeId} (hb : Below w0.heap.size w0 w) (ha : RdS w0 va a) (hbb : RdS w0 vb b) :
    TX w0 (w.heap.size + 2) w.heap.size (w.heap.size + 1) va vb (.slice none 0 0) (.slice none 0 0) a b [] [] ((w.alloc (.cells #[va] E)).alloc (.cells #[vb] E)) := by
  obtain ⟨f, hf⟩ := ha
  obtain ⟨g, hg⟩ := hbb
  have hs := hb.size
  have hB : Below w0.heap.size w0 ((w.alloc (.cells #[va] E)).alloc (.cells #[vb] E)) := (hb.alloc hs _).alloc (by simp; omega) _
  have e : ((w.alloc (.cells #[va] E)).alloc (.cells #[vb] E)).heap.size = w.heap.size + 2 := by simp
  have ht := TS.new (w := (w.alloc (.cells #[va] E)).alloc (.cells #[vb] E)) (br := w.heap.size) (bs := w.heap.size + 1) (vr := va) (vs := vb) (r := a) (s := b) (by simp; omega) (by simp) ⟨f, hf.belowW hB, fun p hp => by have := Live.lt hf.live p hp; omega⟩ ⟨g, hg.belowW hB, fun p hp => by have := Live.lt hg.live p hp; omega⟩
  rw [e] at ht
  exact ⟨ht, (Bx.new rfl).alloc _, Bx.new (by simp), by omega, hs, by omega, hB⟩
end Go.Proofs.Ytiahgjnpinjblaa
