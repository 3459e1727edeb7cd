/- Two lists that are led past one another: what is read of them, and the two rows that are written. -/
import Derived.Test.YtiahgjnpinjblaaTfp
import Derived.Test.YtiahgjnpinjblaaRo
import Derived.Test.YtiahgjnpinjblaaBu
namespace Go.Proofs.Ytiahgjnpinjblaa
open Go.RowKit
/-- v reads as l, out of places without Z -/
def Rdo (w : World) (Z : Pos → Prop) (v : Value) (l : List DPart) : Prop := ∃ f, Sl BIG w v l f ∧ ∀ p ∈ f, ¬ Z p
/-- the places that are written: two rows, two boxes -/
def ZP (br bs : Nat) (vx vy : Value) (p : Pos) : Prop := p ∈ rowP 3 vx ∨ p ∈ rowP 3 vy ∨ p.1 = br ∨ p.1 = bs
def RowZ (B : Nat) (w : World) (Z : Pos → Prop) (v : Value) (l : List DPart) : Prop := ∃ g, Row B w v l g ∧ ∀ p ∈ g, ¬ Z p
/-- the state of the walk -/
structure TS (B : Nat) (w : World) (br bs : Nat) (vr vs vx vy : Value) (r s X Y : List DPart) : Prop where
  hr : br < B
  hs : bs < B
  hB : B ≤ w.heap.size
  r : Rdo w (ZP br bs vx vy) vr r
  s : Rdo w (ZP br bs vx vy) vs s
  x : RowZ B w (ZP br bs vx vy) vx X
  y : RowZ B w (ZP br bs vx vy) vy Y
  d : ∀ p ∈ rowP 3 vx, p ∉ rowP 3 vy
section
variable {B : Nat} {w w' : World} {br bs : Nat} {vr vs vx vy : Value} {r s X Y : List DPart}
theorem ZP.swap {p : Pos} (h : ZP br bs vx vy p) : ZP bs br vy vx p := by
  rcases h with h | h | h | h
  · exact .inr (.inl h)
  · exact .inl h
  · exact .inr (.inr (.inr h))
  · exact .inr (.inr (.inl h))
theorem Rdo.imp {Z Z' : Pos → Prop} {v : Value} {l : List DPart} (h : Rdo w Z v l) (hz : ∀ p, p.1 < w.heap.size → Z' p → Z p) : Rdo w Z' v l := by
  obtain ⟨f, h1, h2⟩ := h
  exact ⟨f, h1, fun p hp hq => h2 p hp (hz p (Live.lt h1.live p hp) hq)⟩
theorem RowZ.imp {Z Z' : Pos → Prop} {v : Value} {l : List DPart} (h : RowZ B w Z v l) (hz : ∀ p, p.1 < w.heap.size → Z' p → Z p) : RowZ B w Z' v l := by
  obtain ⟨f, h1, h2⟩ := h
  exact ⟨f, h1, fun p hp hq => h2 p hp (hz p (Live.lt h1.live p hp) hq)⟩
theorem TS.swap (h : TS B w br bs vr vs vx vy r s X Y) : TS B w bs br vs vr vy vx s r Y X :=
  ⟨h.hs, h.hr, h.hB, h.s.imp fun _ _ hp => hp.swap, h.r.imp fun _ _ hp => hp.swap, h.y.imp fun _ _ hp => hp.swap, h.x.imp fun _ _ hp => hp.swap, fun p hp hq => h.d p hq hp⟩
theorem Rdo.wr {Z : Pos → Prop} {v : Value} {l : List DPart} {g : List Pos} (h : Rdo w Z v l) (hw : Wr g w w') (hg : ∀ p ∈ g, Z p) : Rdo w' Z v l := by
  obtain ⟨f, h1, h2⟩ := h
  exact ⟨f, h1.wr hw fun p hp hq => h2 p hp (hg p hq), h2⟩
theorem RowZ.wr {Z : Pos → Prop} {v : Value} {l : List DPart} {g : List Pos} (h : RowZ B w Z v l) (hw : Wr g w w') (hg : ∀ p ∈ g, Z p ∧ p ∉ rowP 3 v) : RowZ B w' Z v l := by
  obtain ⟨f, h1, h2⟩ := h
  refine ⟨f, h1.wr hw fun p hp hq => ?_, h2⟩
  rcases List.mem_append.1 hp with hp | hp
  · exact (hg p hq).2 hp
  · exact h2 p hp (hg p hq).1
theorem RowZ.ge {Z : Pos → Prop} {v : Value} {l : List DPart} (h : RowZ B w Z v l) : ∀ p ∈ rowP 3 v, B ≤ p.1 ∧ p.1 < w.heap.size := by
  obtain ⟨f, h1, h2⟩ := h
  exact fun p hp => ⟨h1.2.1.ge p hp, Live.lt h1.1.live p (List.mem_append.2 (.inl hp))⟩
/-- a box is written, new memory is made -/
theorem TS.wr {g : List Pos} (h : TS B w br bs vr vs vx vy r s X Y) (hw : Wr g w w') (hg : ∀ p ∈ g, p.1 = br ∨ p.1 = bs) : TS B w' br bs vr vs vx vy r s X Y := by
  have hz : ∀ p ∈ g, ZP br bs vx vy p := fun p hp => .inr (.inr (hg p hp))
  have h1 := h.hr
  have h2 := h.hs
  refine ⟨h1, h2, Nat.le_trans h.hB hw.size, h.r.wr hw hz, h.s.wr hw hz, h.x.wr hw fun p hp => ⟨hz p hp, fun hq => ?_⟩, h.y.wr hw fun p hp => ⟨hz p hp, fun hq => ?_⟩, h.d⟩
  · have := (h.x.ge p hq).1; have := hg p hp; omega
  · have := (h.y.ge p hq).1; have := hg p hp; omega
theorem TS.below (h : TS B w br bs vr vs vx vy r s X Y) (hb : Below w.heap.size w w') : TS B w' br bs vr vs vx vy r s X Y :=
  h.wr (g := []) (Wr.of_below hb) fun _ h => (by cases h)
theorem TS.zlt (h : TS B w br bs vr vs vx vy r s X Y) {p : Pos} (hz : ZP br bs vx vy p) : p.1 < w.heap.size := by
  have h1 := h.hr
  have h2 := h.hs
  have h3 := h.hB
  rcases hz with hz | hz | hz | hz
  · exact (h.x.ge p hz).2
  · exact (h.y.ge p hz).2
  · omega
  · omega
/-- another list behind the first box -/
theorem TS.setR (h : TS B w br bs vr vs vx vy r s X Y) {v' : Value} {r' : List DPart} (hr : Rdo w (ZP br bs vx vy) v' r') : TS B w br bs v' vs vx vy r' s X Y := { h with r := hr }
theorem TS.setS (h : TS B w br bs vr vs vx vy r s X Y) {v' : Value} {s' : List DPart} (hs : Rdo w (ZP br bs vx vy) v' s') : TS B w br bs vr v' vx vy r s' X Y := { h with s := hs }
/-- a part more in the first row -/
theorem TS.appX {l : List DPart} (h : TS B w br bs vr vs vx vy r s X Y) {v' : Value} {gx gs : List Pos} (hgx : ∀ p ∈ gx, ¬ ZP br bs vx vy p) (hgs : ∀ p ∈ gs, ¬ ZP br bs vx vy p ∧ p.1 < w.heap.size) (hxl : ∀ p ∈ gx, p.1 < w.heap.size)
    (hr : Row B w' v' l (gx ++ gs)) (hw : Wr (rowP 3 vx) w w') (hn : ∀ p ∈ rowP 3 v', p ∈ rowP 3 vx ∨ w.heap.size ≤ p.1) : TS B w' br bs vr vs v' vy r s l Y := by
  have hz : ∀ p ∈ rowP 3 vx, ZP br bs vx vy p := fun p hp => .inl hp
  have hi : ∀ p, p.1 < w.heap.size → ZP br bs v' vy p → ZP br bs vx vy p := fun p hp hq => by
    rcases hq with hq | hq
    · rcases hn p hq with hq | hq
      · exact .inl hq
      · omega
    · exact .inr hq
  have rd : ∀ {v : Value} {l : List DPart}, Rdo w (ZP br bs vx vy) v l → Rdo w' (ZP br bs v' vy) v l := fun ⟨f, h1, h2⟩ =>
    ⟨f, h1.wr hw fun p hp hq => h2 p hp (hz p hq), fun p hp hq => h2 p hp (hi p (Live.lt h1.live p hp) hq)⟩
  refine ⟨h.hr, h.hs, Nat.le_trans h.hB hw.size, rd h.r, rd h.s, ⟨_, hr, fun p hp hq => ?_⟩, ?_, fun p hp hq => ?_⟩
  · rcases List.mem_append.1 hp with hp | hp
    · exact hgx p hp (hi p (hxl p hp) hq)
    · exact (hgs p hp).1 (hi p (hgs p hp).2 hq)
  · obtain ⟨f, h1, h2⟩ := h.y
    refine ⟨f, h1.wr hw fun p hp hq => ?_, fun p hp hq => h2 p hp (hi p (Live.lt h1.live p hp) hq)⟩
    rcases List.mem_append.1 hp with hp | hp
    · exact h.d p hq hp
    · exact h2 p hp (hz p hq)
  · rcases hn p hp with hp | hp
    · exact h.d p hp hq
    · have := (h.y.ge p hq).2; omega
theorem TS.new (hr : br < w.heap.size) (hs : bs < w.heap.size) (h1 : ∃ f, Sl BIG w vr r f ∧ ∀ p ∈ f, p.1 ≠ br ∧ p.1 ≠ bs) (h2 : ∃ f, Sl BIG w vs s f ∧ ∀ p ∈ f, p.1 ≠ br ∧ p.1 ≠ bs) : TS w.heap.size w br bs vr vs (.slice none 0 0) (.slice none 0 0) r s [] [] := by
  have hz : ∀ p : Pos, p.1 ≠ br ∧ p.1 ≠ bs → ¬ ZP br bs (.slice none 0 0) (.slice none 0 0) p := by
    rintro p ⟨k1, k2⟩ (k | k | k | k)
    · cases k
    · cases k
    · exact k1 k
    · exact k2 k
  obtain ⟨f, f1, f2⟩ := h1
  obtain ⟨g, g1, g2⟩ := h2
  exact ⟨hr, hs, Nat.le_refl _, ⟨f, f1, fun p hp => hz p (f2 p hp)⟩, ⟨g, g1, fun p hp => hz p (g2 p hp)⟩, ⟨[], Row.nil _ _, fun _ h => (by cases h)⟩, ⟨[], Row.nil _ _, fun _ h => (by cases h)⟩, fun _ h => (by cases h)⟩
end
/-- the first part of a list that is read -/
theorem Sl.head {P : Program} {T E : TypeId} (hT : P.underlying T = some (.slice E)) (hl : ∀ w1, (sizeOf E).run P w1 = .ok 3 w1) {w : World} {v : Value} {p : DPart} {l : List DPart} {f : List Pos} (h : Sl BIG w v (p :: l) f) :
    ∃ b o vg fg, (∀ w1, (Instr.indexAt T v (.int .i64 0)).run P w1 = .ok (.pointer (some ⟨b, o, none⟩)) w1) ∧ At w b o [.int .i64 p.kind, .int .i64 p.n, vg] ∧ Sl BIG w vg p.signs fg ∧ (∀ q ∈ fg, q ∈ f) := by
  obtain ⟨b, o, cs, fg, h1, h2, ⟨vg, fs, rfl, ss, rfl⟩, h4⟩ := h.idx hT hl 0 (x := p) rfl
  exact ⟨b, o, vg, _, h1, h2, ss, h4⟩
end Go.Proofs.Ytiahgjnpinjblaa
