/- How data lies in memory: what the cells of a value read as (reading predicates over any program), and that readings stay where the places that they met are kept. -/
import Derived.WalkKit
import Derived.Lib.Hide
namespace Go.Proofs.Ytihbmefidbmmdaa
open Go.RowKit

/-- a place: block and offset -/
abbrev Pos := Nat × Nat
/-- the cells 'cs' lie from (b, o) on -/
def At (w : World) (b o : Nat) (cs : List Value) : Prop := ∀ j v, cs[j]? = some v → w.cell? ⟨b, o + j, none⟩ = some v
/-- at the places 'fp' the world reads as before -/
def Same (w w' : World) (fp : List Pos) : Prop := ∀ p ∈ fp, w'.cell? ⟨p.1, p.2, none⟩ = w.cell? ⟨p.1, p.2, none⟩
/-- the places are there -/
def Live (w : World) (fp : List Pos) : Prop := ∀ p ∈ fp, (w.cell? ⟨p.1, p.2, none⟩).isSome = true

/-- a Go type's data: how many cells, what they read as; M bounds every list's length -/
class GoT (α : Type) where
  n : Nat
  rd : Nat → World → List Value → α → List Pos → Prop
  pos : 0 < n
  len : ∀ {M : Nat} {w : World} {cs : List Value} {x : α} {fp : List Pos}, rd M w cs x fp → cs.length = n
  one : ∀ {M : Nat} {w : World} {cs : List Value} {x : α} {fp : List Pos}, rd M w cs x fp → ∀ u ∈ cs, u.oneCell' = true
  live : ∀ {M : Nat} {w : World} {cs : List Value} {x : α} {fp : List Pos}, rd M w cs x fp → Live w fp
  keep : ∀ {M : Nat} {w w' : World} {cs : List Value} {x : α} {fp : List Pos}, rd M w cs x fp → Same w w' fp → rd M w' cs x fp

theorem At.keep {w w' : World} {b o : Nat} {cs : List Value} (h : At w b o cs) (hk : ∀ j < cs.length, w'.cell? ⟨b, o + j, none⟩ = w.cell? ⟨b, o + j, none⟩) : At w' b o cs := by
  intro j v hj
  have hlt : j < cs.length := (List.getElem?_eq_some_iff.1 hj).1
  rw [hk j hlt]; exact h j v hj
theorem At.nil (w : World) (b o : Nat) : At w b o [] := by intro j v h; simp at h
theorem At.append {w : World} {b o : Nat} {c1 c2 : List Value} : At w b o (c1 ++ c2) ↔ At w b o c1 ∧ At w b (o + c1.length) c2 := by
  constructor
  · intro h
    refine ⟨fun j v hj => ?_, fun j v hj => ?_⟩
    · have hlt : j < c1.length := (List.getElem?_eq_some_iff.1 hj).1
      exact h j v (by rw [List.getElem?_append_left hlt]; exact hj)
    · have := h (c1.length + j) v (by rw [List.getElem?_append_right (by omega)]; simpa using hj)
      rwa [← Nat.add_assoc] at this
  · rintro ⟨h1, h2⟩ j v hj
    by_cases hlt : j < c1.length
    · exact h1 j v (by rwa [List.getElem?_append_left hlt] at hj)
    · rw [List.getElem?_append_right (by omega)] at hj
      have := h2 _ v hj
      rwa [show o + c1.length + (j - c1.length) = o + j by omega] at this
theorem At.cell {w : World} {b o : Nat} {cs : List Value} (h : At w b o cs) (j : Nat) {v : Value} (hj : cs[j]? = some v) : w.cell? ⟨b, o + j, none⟩ = some v := h j v hj
theorem Same.refl (w : World) (fp : List Pos) : Same w w fp := fun _ _ => rfl
theorem Same.trans {a b c : World} {fp : List Pos} (h : Same a b fp) (k : Same b c fp) : Same a c fp := fun p hp => (k p hp).trans (h p hp)
theorem Same.sub {w w' : World} {f1 f2 : List Pos} (h : Same w w' f2) (hs : ∀ p ∈ f1, p ∈ f2) : Same w w' f1 := fun p hp => h p (hs p hp)
theorem Same.append {w w' : World} {f1 f2 : List Pos} : Same w w' (f1 ++ f2) ↔ Same w w' f1 ∧ Same w w' f2 := by
  simp only [Same, List.mem_append]
  exact ⟨fun h => ⟨fun p hp => h p (.inl hp), fun p hp => h p (.inr hp)⟩, fun h p hp => hp.elim (h.1 p) (h.2 p)⟩
theorem Live.append {w : World} {f1 f2 : List Pos} : Live w (f1 ++ f2) ↔ Live w f1 ∧ Live w f2 := by
  simp only [Live, List.mem_append]
  exact ⟨fun h => ⟨fun p hp => h p (.inl hp), fun p hp => h p (.inr hp)⟩, fun h p hp => hp.elim (h.1 p) (h.2 p)⟩
theorem Live.nil (w : World) : Live w [] := fun _ h => by cases h
theorem Live.lt {w : World} {fp : List Pos} (h : Live w fp) : ∀ p ∈ fp, p.1 < w.heap.size := by
  intro p hp
  have := h p hp
  rw [Option.isSome_iff_exists] at this
  obtain ⟨v, hv⟩ := this
  exact World.block_lt_of_cell? (w := w) (a := ⟨p.1, p.2, none⟩) hv
/-- whatever lies in blocks that are kept reads as before -/
theorem Live.same_below {w w' : World} {B : Nat} {fp : List Pos} (hb : Below B w w') (h : ∀ p ∈ fp, p.1 < B) : Same w w' fp :=
  fun p hp => hb.cell (p := ⟨p.1, p.2, none⟩) (h p hp)

/-- consecutive elements, cell by cell -/
def Els {α : Type} [GoT α] (M : Nat) (w : World) : List Value → List α → List Pos → Prop
  | cs, [], fp => cs = [] ∧ fp = []
  | cs, x :: xs, fp => ∃ c1 c2 f1 f2, cs = c1 ++ c2 ∧ GoT.rd M w c1 x f1 ∧ Els M w c2 xs f2 ∧ fp = f1 ++ f2

section
variable {α : Type} [GoT α] {M : Nat} {w w' : World}
theorem Els.nil : Els (α := α) M w [] [] [] := ⟨rfl, rfl⟩
theorem Els.length : ∀ {l : List α} {cs : List Value} {fp : List Pos}, Els M w cs l fp → cs.length = l.length * GoT.n α
  | [], _, _, h => by rw [h.1]; simp
  | x :: xs, _, _, ⟨c1, c2, f1, f2, hc, h1, h2, _⟩ => by
    rw [hc, List.length_append, GoT.len h1, Els.length h2, List.length_cons, Nat.add_mul]; omega
theorem Els.one : ∀ {l : List α} {cs : List Value} {fp : List Pos}, Els M w cs l fp → ∀ u ∈ cs, u.oneCell' = true
  | [], _, _, h => by rw [h.1]; intro u hu; cases hu
  | x :: xs, _, _, ⟨c1, c2, f1, f2, hc, h1, h2, _⟩ => by
    rw [hc]; intro u hu
    rcases List.mem_append.1 hu with hu | hu
    · exact GoT.one h1 u hu
    · exact Els.one h2 u hu
theorem Els.live : ∀ {l : List α} {cs : List Value} {fp : List Pos}, Els M w cs l fp → Live w fp
  | [], _, _, h => by rw [h.2]; exact Live.nil w
  | x :: xs, _, _, ⟨c1, c2, f1, f2, _, h1, h2, hf⟩ => by rw [hf]; exact Live.append.2 ⟨GoT.live h1, Els.live h2⟩
theorem Els.keep : ∀ {l : List α} {cs : List Value} {fp : List Pos}, Els M w cs l fp → Same w w' fp → Els M w' cs l fp
  | [], _, _, h, _ => h
  | x :: xs, _, _, ⟨c1, c2, f1, f2, hc, h1, h2, hf⟩, hs => by
    rw [hf] at hs
    obtain ⟨s1, s2⟩ := Same.append.1 hs
    exact ⟨c1, c2, f1, f2, hc, GoT.keep h1 s1, Els.keep h2 s2, hf⟩
theorem Els.append : ∀ {l1 l2 : List α} {cs : List Value} {fp : List Pos},
    Els M w cs (l1 ++ l2) fp ↔ ∃ c1 c2 f1 f2, cs = c1 ++ c2 ∧ Els M w c1 l1 f1 ∧ Els M w c2 l2 f2 ∧ fp = f1 ++ f2
  | [], l2, cs, fp => by
    constructor
    · intro h; exact ⟨[], cs, [], fp, rfl, Els.nil, h, rfl⟩
    · rintro ⟨c1, c2, f1, f2, rfl, ⟨rfl, rfl⟩, h, rfl⟩; exact h
  | x :: xs, l2, cs, fp => by
    constructor
    · rintro ⟨c1, c2, f1, f2, rfl, h1, h2, rfl⟩
      obtain ⟨d1, d2, g1, g2, rfl, k1, k2, rfl⟩ := Els.append.1 h2
      exact ⟨c1 ++ d1, d2, f1 ++ g1, g2, by simp, ⟨c1, d1, f1, g1, rfl, h1, k1, rfl⟩, k2, by simp⟩
    · rintro ⟨e1, e2, g1, g2, rfl, ⟨c1, d1, f1, h1, rfl, k1, k2, rfl⟩, k3, rfl⟩
      exact ⟨c1, d1 ++ e2, f1, h1 ++ g2, by simp, k1, Els.append.2 ⟨d1, e2, h1, g2, rfl, k2, k3, rfl⟩, by simp⟩
theorem Els.single {x : α} {cs : List Value} {fp : List Pos} (h : GoT.rd M w cs x fp) : Els M w cs [x] fp := ⟨cs, [], fp, [], by simp, h, Els.nil, by simp⟩
theorem Els.snoc {l : List α} {x : α} {c1 c2 : List Value} {f1 f2 : List Pos} (h : Els M w c1 l f1) (hx : GoT.rd M w c2 x f2) : Els M w (c1 ++ c2) (l ++ [x]) (f1 ++ f2) :=
  Els.append.2 ⟨c1, c2, f1, f2, rfl, h, Els.single hx, rfl⟩
/-- the k-th element -/
theorem Els.at_ {l : List α} {cs : List Value} {fp : List Pos} (h : Els M w cs l fp) (k : Nat) {x : α} (hk : l[k]? = some x) :
    ∃ c1 c2 c3 f1 f2 f3, cs = c1 ++ c2 ++ c3 ∧ fp = f1 ++ f2 ++ f3 ∧ c1.length = k * GoT.n α ∧ Els M w c1 (l.take k) f1 ∧ GoT.rd M w c2 x f2 ∧ Els M w c3 (l.drop (k + 1)) f3 := by
  have hlt : k < l.length := (List.getElem?_eq_some_iff.1 hk).1
  have hsplit : l = l.take k ++ (x :: l.drop (k + 1)) := by
    have : l[k] = x := (List.getElem?_eq_some_iff.1 hk).2
    rw [← this, List.getElem_cons_drop, List.take_append_drop]
  rw [hsplit] at h
  obtain ⟨c1, c2, f1, f2, rfl, h1, ⟨d1, d2, g1, g2, rfl, k1, k2, rfl⟩, rfl⟩ := Els.append.1 h
  refine ⟨c1, d1, d2, f1, g1, g2, by simp, by simp, ?_, h1, k1, k2⟩
  rw [Els.length h1, List.length_take, Nat.min_eq_left (by omega)]
end

/-- a slice's own places -/
def own (b o m : Nat) : List Pos := (List.range m).map fun j => (b, o + j)
theorem mem_own {b o m : Nat} {p : Pos} : p ∈ own b o m ↔ p.1 = b ∧ o ≤ p.2 ∧ p.2 < o + m := by
  obtain ⟨x, y⟩ := p
  simp only [own, List.mem_map, List.mem_range, Prod.mk.injEq]
  constructor
  · rintro ⟨j, hj, rfl, rfl⟩; exact ⟨rfl, by omega, by omega⟩
  · rintro ⟨rfl, h1, h2⟩; exact ⟨y - o, by omega, rfl, by omega⟩
theorem own_nodup (b o m : Nat) : (own b o m).Nodup := by
  unfold own
  refine List.Pairwise.map _ ?_ List.nodup_range
  intro a b h e
  simp only [Prod.mk.injEq] at e
  omega
theorem own_append (b o m k : Nat) : own b o (m + k) = own b o m ++ own b (o + m) k := by
  simp only [own, List.range_add, List.map_append, List.map_map]
  congr 1
  apply List.map_congr_left
  intro j _
  simp [Nat.add_assoc]

/-- A slice value: its elements, and the places that it spans (up to its capacity) and meets. -/
def Sl {α : Type} [GoT α] (M : Nat) (w : World) (v : Value) (l : List α) (fp : List Pos) : Prop :=
  (∃ ao, v = .slice ao 0 0 ∧ l = [] ∧ fp = []) ∨
  ∃ b o cap cs fs, v = .slice (some ⟨b, o, none⟩) l.length cap ∧ l.length ≤ cap ∧ cap ≤ maxLen ∧ l.length ≤ M ∧ At w b o cs ∧ Els M w cs l fs ∧ Live w (own b o (cap * GoT.n α)) ∧
    fp = own b o (cap * GoT.n α) ++ fs

section
variable {α : Type} [GoT α] {M : Nat} {w w' : World} {v : Value} {l : List α} {fp : List Pos}
theorem Sl.one (h : Sl M w v l fp) : v.oneCell' = true := by
  rcases h with ⟨ao, rfl, _⟩ | ⟨b, o, cap, cs, fs, rfl, _⟩ <;> rfl
theorem Sl.live (h : Sl M w v l fp) : Live w fp := by
  rcases h with ⟨_, _, _, rfl⟩ | ⟨b, o, cap, cs, fs, _, _, _, _, _, he, hl, rfl⟩
  · exact Live.nil w
  · exact Live.append.2 ⟨hl, Els.live he⟩
theorem Live.keep {fp : List Pos} (h : Live w fp) (hs : Same w w' fp) : Live w' fp := fun p hp => by rw [hs p hp]; exact h p hp
theorem Sl.keep (h : Sl M w v l fp) (hs : Same w w' fp) : Sl M w' v l fp := by
  rcases h with h | ⟨b, o, cap, cs, fs, rfl, h1, h2, h3, ha, he, hl, rfl⟩
  · exact .inl h
  · obtain ⟨s1, s2⟩ := Same.append.1 hs
    refine .inr ⟨b, o, cap, cs, fs, rfl, h1, h2, h3, ha.keep (fun j hj => s1 (b, o + j) (mem_own.2 ⟨rfl, by simp, ?_⟩)), he.keep s2, hl.keep s1, rfl⟩
    rw [Els.length he] at hj
    have := Nat.mul_le_mul_right (GoT.n α) h1
    show o + j < _
    omega
theorem Sl.nil : Sl (α := α) M w (.slice none 0 0) [] [] := .inl ⟨_, rfl, rfl, rfl⟩
/-- its length -/
theorem Sl.len (h : Sl M w v l fp) {P : Program} {T E : TypeId} (hT : P.underlying T = some (.slice E)) (w1 : World) (ty : TypeId) :
    (Builtin.len_ #[T] ty #[v]).run P w1 = .ok (.int .i64 l.length) w1 := by
  rcases h with ⟨ao, rfl, rfl, _⟩ | ⟨b, o, cap, cs, fs, rfl, _⟩ <;> simp [Builtin.len_, run_underlying hT, goInt]
theorem Sl.le (h : Sl M w v l fp) : l.length ≤ maxLen := by
  rcases h with ⟨ao, rfl, rfl, _⟩ | ⟨b, o, cap, cs, fs, rfl, h1, h2, _⟩
  · simp
  · omega
theorem Sl.leM (h : Sl M w v l fp) : l.length ≤ M := by
  rcases h with ⟨ao, rfl, rfl, _⟩ | ⟨b, o, cap, cs, fs, rfl, h1, h2, h3, _⟩
  · simp
  · exact h3
/-- its k-th element -/
theorem Sl.idx (h : Sl M w v l fp) {P : Program} {T E : TypeId} (hT : P.underlying T = some (.slice E)) (hl : ∀ w1, (sizeOf E).run P w1 = .ok (GoT.n α) w1) (k : Nat) {x : α} (hk : l[k]? = some x) :
    ∃ b o cs f, (∀ w1, (Instr.indexAt T v (.int .i64 k)).run P w1 = .ok (.pointer (some ⟨b, o, none⟩)) w1) ∧ At w b o cs ∧ GoT.rd M w cs x f ∧ (∀ p ∈ f, p ∈ fp) := by
  have hlt : k < l.length := (List.getElem?_eq_some_iff.1 hk).1
  rcases h with ⟨ao, rfl, rfl, _⟩ | ⟨b, o, cap, cs, fs, rfl, h1, h2, h3, ha, he, hlv, rfl⟩
  · simp at hlt
  · obtain ⟨c1, c2, c3, f1, f2, f3, rfl, rfl, hc1, _, hx, _⟩ := he.at_ k hk
    refine ⟨b, o + k * GoT.n α, c2, f2, fun w1 => ?_, ?_, hx, fun p hp => by simp [hp]⟩
    · have hi : ¬ l.length ≤ k := by omega
      simp [Instr.indexAt, run_underlying hT, asIntOf, hl, Addr.add_lit, Result.andThen]
      intro hh
      exact absurd hh hi
    · have := (At.append.1 (At.append.1 ha).1).2
      rwa [hc1] at this
end
end Go.Proofs.Ytihbmefidbmmdaa
