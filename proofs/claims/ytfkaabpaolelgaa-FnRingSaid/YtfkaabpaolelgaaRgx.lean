/- FnRing: the ring's block and the row of what came out. -/
import Derived.Test.YtfkaabpaolelgaaRgw
import Derived.Test.YtfkaabpaolelgaaRo
namespace Go.Proofs.Ytfkaabpaolelgaa
open Go.RowKit
theorem els_bytes {M : Nat} {w : World} : ∀ {l : List DByte} {cs : List Value} {fp : List Pos}, Els M w cs l fp → Els BIG w cs l fp
  | [], _, _, h => h
  | _ :: _, _, _, ⟨c1, c2, f1, f2, hc, h1, h2, hf⟩ => ⟨c1, c2, f1, f2, hc, h1, els_bytes h2, hf⟩
structure RW (w3 : World) (b5 : Nat) (wr : World) (gv vr : Value) (r : DRing) (got : List DEntry) : Prop where
  bx : Bx wr b5 [.int .i64 r.cap, .int .i64 r.next, .bool r.out, vr]
  rr : ∃ fr, Sl BIG wr vr r.list fr ∧ ∀ p ∈ fr, p.1 ≠ b5 ∧ p ∉ rowP (GoT.n DEntry) gv
  gg : ∃ fg, Row (b5 + 1) wr gv got fg ∧ ∀ p ∈ fg, p.1 ≠ b5
  be : Below b5 w3 wr
section
variable {w3 wr w' : World} {b5 : Nat} {gv vr : Value} {r : DRing} {got : List DEntry}
theorem RW.below (h : RW w3 b5 wr gv vr r got) (hb : Below wr.heap.size wr w') : RW w3 b5 w' gv vr r got :=
  let ⟨fr, s, d⟩ := h.rr
  let ⟨fg, k, e⟩ := h.gg
  ⟨h.bx.at hb, ⟨fr, s.keep (Live.same_below hb (Live.lt s.live)), d⟩, ⟨fg, k.below hb, e⟩, h.be.trans (hb.mono (Nat.le_of_lt h.bx.lt))⟩
theorem RW.rd (h : RW w3 b5 wr gv vr r got) : RdS wr vr r.list := let ⟨fr, s, _⟩ := h.rr; ⟨fr, s⟩
theorem RW.gd (h : RW w3 b5 wr gv vr r got) : RdS wr gv got := let ⟨_, k, _⟩ := h.gg; k.rd
/-- the ring's block is laid anew -/
theorem RW.put (h : RW w3 b5 wr gv vr r got) {x : DRing} {vx : Value} {fx : List Pos} (hx : Sl BIG wr vx x.list fx) (hd : ∀ p ∈ fx, p.1 ≠ b5 ∧ p ∉ rowP (GoT.n DEntry) gv)
    (hw : Wr [(b5, 0), (b5, 1), (b5, 2), (b5, 3)] wr w') (hb : Bx w' b5 [.int .i64 x.cap, .int .i64 x.next, .bool x.out, vx]) : RW w3 b5 w' gv vx x got := by
  obtain ⟨fg, k, e⟩ := h.gg
  have hq : ∀ p ∈ [(b5, 0), (b5, 1), (b5, 2), (b5, 3)], p.1 = b5 := fun p hp => by simp only [List.mem_cons, List.not_mem_nil, or_false] at hp; rcases hp with rfl | rfl | rfl | rfl <;> rfl
  refine ⟨hb, ⟨fx, hx.wr hw fun p hp hm => (hd p hp).1 (hq p hm), hd⟩, ⟨fg, k.wr hw fun p hp hm => ?_, e⟩, h.be.trans (hw.below (Nat.le_of_lt h.bx.lt) fun p hp => Nat.le_of_eq (hq p hp).symm)⟩
  rcases List.mem_append.1 hp with hp | hp
  · have := k.2.1.ge p hp
    have := hq p hm
    omega
  · exact e p hp (hq p hm)
/-- what came out has grown -/
theorem RW.app (h : RW w3 b5 wr gv vr r got) {fg gs : List Pos} {v' : Value} {xs : List DEntry} (k0 : Row (b5 + 1) wr gv got fg) (e : ∀ p ∈ fg, p.1 ≠ b5) (hg : ∀ p ∈ gs, p.1 ≠ b5) (k : Row (b5 + 1) w' v' (got ++ xs) (fg ++ gs)) (hw : Wr (rowP (GoT.n DEntry) gv) wr w')
    (hn : ∀ p ∈ rowP (GoT.n DEntry) v', p ∈ rowP (GoT.n DEntry) gv ∨ wr.heap.size ≤ p.1) : RW w3 b5 w' v' vr r (got ++ xs) := by
  obtain ⟨fr, s, d⟩ := h.rr
  have hge : ∀ p ∈ rowP (GoT.n DEntry) gv, b5 + 1 ≤ p.1 := k0.2.1.ge
  refine ⟨h.bx.wr hw fun p hp => by have := hge p hp; omega, ⟨fr, s.wr hw fun p hp => (d p hp).2, fun p hp => ⟨(d p hp).1, fun hm => ?_⟩⟩, ⟨fg ++ gs, k, fun p hp => (List.mem_append.1 hp).elim (e p) (hg p)⟩, h.be.trans (hw.below (Nat.le_of_lt h.bx.lt) fun p hp => by have := hge p hp; omega)⟩
  rcases hn p hm with h1 | h1
  · exact (d p hp).2 h1
  · have := Live.lt s.live p hp
    omega
end
/-- behind RingPoll: its block is made last -/
theorem poll_new {C : Nat} {wa w : World} {a b c d v0 v1 : Value} {T : TypeId} {xs ms : List DEntry} {f0 f1 : List Pos} (h0 : Sl BIG w v0 xs f0) (h1 : Sl BIG w v1 ms f1) (hf : ∀ p ∈ f0 ++ f1, C ≤ p.1) (hC : C ≤ w.heap.size) (hb : Below C wa w) :
    Bx (w.alloc (.cells #[a, b, c, d] T)) w.heap.size [a, b, c, d] ∧ Sl BIG (w.alloc (.cells #[a, b, c, d] T)) v0 xs f0 ∧ Sl BIG (w.alloc (.cells #[a, b, c, d] T)) v1 ms f1 ∧ (∀ p ∈ f0 ++ f1, C ≤ p.1) ∧ Below C wa (w.alloc (.cells #[a, b, c, d] T)) :=
  have k : ∀ o, Below w.heap.size w (w.alloc o) := fun o => (Below.refl _ _).alloc (Nat.le_refl _) o
  ⟨Bx.new rfl, h0.keep (Live.same_below (k _) (Live.lt h0.live)), h1.keep (Live.same_below (k _) (Live.lt h1.live)), hf, hb.alloc hC _⟩
/-- behind RingPoll: its block was made before -/
theorem poll_set {C B : Nat} {wa w : World} {a b c d v0 v1 z0 z1 z2 z3 : Value} {xs ms : List DEntry} {f0 f1 : List Pos} (hB : Bx w B [z0, z1, z2, z3]) (hC : C ≤ B) (h0 : Sl BIG w v0 xs f0) (h1 : Sl BIG w v1 ms f1) (hn : ∀ p ∈ f0 ++ f1, B < p.1) (hb : Below C wa w) :
    Bx ((((w.setCell ⟨B, 0, none⟩ a).setCell ⟨B, 1, none⟩ b).setCell ⟨B, 2, none⟩ c).setCell ⟨B, 3, none⟩ d) B [a, b, c, d] ∧ Sl BIG ((((w.setCell ⟨B, 0, none⟩ a).setCell ⟨B, 1, none⟩ b).setCell ⟨B, 2, none⟩ c).setCell ⟨B, 3, none⟩ d) v0 xs f0 ∧ Sl BIG ((((w.setCell ⟨B, 0, none⟩ a).setCell ⟨B, 1, none⟩ b).setCell ⟨B, 2, none⟩ c).setCell ⟨B, 3, none⟩ d) v1 ms f1 ∧ (∀ p ∈ f0 ++ f1, C ≤ p.1) ∧ Below C wa ((((w.setCell ⟨B, 0, none⟩ a).setCell ⟨B, 1, none⟩ b).setCell ⟨B, 2, none⟩ c).setCell ⟨B, 3, none⟩ d) := by
  have hw : Wr [(B, 0), (B, 1), (B, 2), (B, 3)] w ((((w.setCell ⟨B, 0, none⟩ a).setCell ⟨B, 1, none⟩ b).setCell ⟨B, 2, none⟩ c).setCell ⟨B, 3, none⟩ d) :=
    ((((Wr.refl _ w).put (b := B) (o := 0) (by simp) a).put (b := B) (o := 1) (by simp) b).put (b := B) (o := 2) (by simp) c).put (b := B) (o := 3) (by simp) d
  have hq : ∀ p ∈ [(B, 0), (B, 1), (B, 2), (B, 3)], p.1 = B := fun p hp => by simp only [List.mem_cons, List.not_mem_nil, or_false] at hp; rcases hp with rfl | rfl | rfl | rfl <;> rfl
  refine ⟨(((hB.set 0 a).set 1 b).set 2 c).set 3 d, h0.wr hw fun p hp hm => ?_, h1.wr hw fun p hp hm => ?_, fun p hp => ?_, (((hb.setCell (p := ⟨B, 0, none⟩) hC a).setCell (p := ⟨B, 1, none⟩) hC b).setCell (p := ⟨B, 2, none⟩) hC c).setCell (p := ⟨B, 3, none⟩) hC d⟩
  · have := hn p (List.mem_append_left _ hp)
    have := hq p hm
    omega
  · have := hn p (List.mem_append_right _ hp)
    have := hq p hm
    omega
  · have := hn p hp
    omega
theorem trip {α β γ : Type} (q : α × β × γ) : q = (q.1, q.2.1, q.2.2) := rfl
end Go.Proofs.Ytfkaabpaolelgaa
