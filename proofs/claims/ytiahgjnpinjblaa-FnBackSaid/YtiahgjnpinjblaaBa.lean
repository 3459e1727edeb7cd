/- Data as cells, readings, own memory. -/
import Derived.WalkKit
import Derived.Lib.Hide
import Derived.Deep.QuietTactic
import Derived.BigQuiet
import Derived.WalkSpells
import Derived.Test.YtiahgjnpinjblaaChecked
namespace Go.Proofs.Ytiahgjnpinjblaa
open Go.RowKit

/-- a place: block and offset -/
abbrev Pos := Nat × Nat
/-- the cells 'cs' lie from (b, o) on -/
def At (w : World) (b o : Nat) (cs : List Value) : Prop := ∀ j v, cs[j]? = some v → w.cell? ⟨b, o + j, none⟩ = some v
/-- at the places 'fp' the world reads as before -/
def Same (w w' : World) (fp : List Pos) : Prop := ∀ p ∈ fp, w'.cell? ⟨p.1, p.2, none⟩ = w.cell? ⟨p.1, p.2, none⟩
/-- the places are there -/
def Live (w : World) (fp : List Pos) : Prop := ∀ p ∈ fp, (w.cell? ⟨p.1, p.2, none⟩).isSome = true

/-- a Go type's data: how many cells, what they read as; M bounds every list's length -/
class GoT (α : Type) where
  n : Nat
  rd : Nat → World → List Value → α → List Pos → Prop
  pos : 0 < n
  len : ∀ {M : Nat} {w : World} {cs : List Value} {x : α} {fp : List Pos}, rd M w cs x fp → cs.length = n
  one : ∀ {M : Nat} {w : World} {cs : List Value} {x : α} {fp : List Pos}, rd M w cs x fp → ∀ u ∈ cs, u.oneCell' = true
  live : ∀ {M : Nat} {w : World} {cs : List Value} {x : α} {fp : List Pos}, rd M w cs x fp → Live w fp
  keep : ∀ {M : Nat} {w w' : World} {cs : List Value} {x : α} {fp : List Pos}, rd M w cs x fp → Same w w' fp → rd M w' cs x fp

theorem At.keep {w w' : World} {b o : Nat} {cs : List Value} (h : At w b o cs) (hk : ∀ j < cs.length, w'.cell? ⟨b, o + j, none⟩ = w.cell? ⟨b, o + j, none⟩) : At w' b o cs := by
  intro j v hj
  have hlt : j < cs.length := (List.getElem?_eq_some_iff.1 hj).1
  rw [hk j hlt]; exact h j v hj
theorem At.nil (w : World) (b o : Nat) : At w b o [] := by intro j v h; simp at h
theorem At.append {w : World} {b o : Nat} {c1 c2 : List Value} : At w b o (c1 ++ c2) ↔ At w b o c1 ∧ At w b (o + c1.length) c2 := by
  constructor
  · intro h
    refine ⟨fun j v hj => ?_, fun j v hj => ?_⟩
    · have hlt : j < c1.length := (List.getElem?_eq_some_iff.1 hj).1
      exact h j v (by rw [List.getElem?_append_left hlt]; exact hj)
    · have := h (c1.length + j) v (by rw [List.getElem?_append_right (by omega)]; simpa using hj)
      rwa [← Nat.add_assoc] at this
  · rintro ⟨h1, h2⟩ j v hj
    by_cases hlt : j < c1.length
    · exact h1 j v (by rwa [List.getElem?_append_left hlt] at hj)
    · rw [List.getElem?_append_right (by omega)] at hj
      have := h2 _ v hj
      rwa [show o + c1.length + (j - c1.length) = o + j by omega] at this
theorem At.cell {w : World} {b o : Nat} {cs : List Value} (h : At w b o cs) (j : Nat) {v : Value} (hj : cs[j]? = some v) : w.cell? ⟨b, o + j, none⟩ = some v := h j v hj
theorem Same.refl (w : World) (fp : List Pos) : Same w w fp := fun _ _ => rfl
theorem Same.trans {a b c : World} {fp : List Pos} (h : Same a b fp) (k : Same b c fp) : Same a c fp := fun p hp => (k p hp).trans (h p hp)
theorem Same.sub {w w' : World} {f1 f2 : List Pos} (h : Same w w' f2) (hs : ∀ p ∈ f1, p ∈ f2) : Same w w' f1 := fun p hp => h p (hs p hp)
theorem Same.append {w w' : World} {f1 f2 : List Pos} : Same w w' (f1 ++ f2) ↔ Same w w' f1 ∧ Same w w' f2 := by
  simp only [Same, List.mem_append]
  exact ⟨fun h => ⟨fun p hp => h p (.inl hp), fun p hp => h p (.inr hp)⟩, fun h p hp => hp.elim (h.1 p) (h.2 p)⟩
theorem Live.append {w : World} {f1 f2 : List Pos} : Live w (f1 ++ f2) ↔ Live w f1 ∧ Live w f2 := by
  simp only [Live, List.mem_append]
  exact ⟨fun h => ⟨fun p hp => h p (.inl hp), fun p hp => h p (.inr hp)⟩, fun h p hp => hp.elim (h.1 p) (h.2 p)⟩
theorem Live.nil (w : World) : Live w [] := fun _ h => by cases h
theorem Live.lt {w : World} {fp : List Pos} (h : Live w fp) : ∀ p ∈ fp, p.1 < w.heap.size := by
  intro p hp
  have := h p hp
  rw [Option.isSome_iff_exists] at this
  obtain ⟨v, hv⟩ := this
  exact World.block_lt_of_cell? (w := w) (a := ⟨p.1, p.2, none⟩) hv
/-- whatever lies in blocks that are kept reads as before -/
theorem Live.same_below {w w' : World} {B : Nat} {fp : List Pos} (hb : Below B w w') (h : ∀ p ∈ fp, p.1 < B) : Same w w' fp :=
  fun p hp => hb.cell (p := ⟨p.1, p.2, none⟩) (h p hp)

/-- consecutive elements, cell by cell -/
def Els {α : Type} [GoT α] (M : Nat) (w : World) : List Value → List α → List Pos → Prop
  | cs, [], fp => cs = [] ∧ fp = []
  | cs, x :: xs, fp => ∃ c1 c2 f1 f2, cs = c1 ++ c2 ∧ GoT.rd M w c1 x f1 ∧ Els M w c2 xs f2 ∧ fp = f1 ++ f2

section
variable {α : Type} [GoT α] {M : Nat} {w w' : World}
theorem Els.nil : Els (α := α) M w [] [] [] := ⟨rfl, rfl⟩
theorem Els.length : ∀ {l : List α} {cs : List Value} {fp : List Pos}, Els M w cs l fp → cs.length = l.length * GoT.n α
  | [], _, _, h => by rw [h.1]; simp
  | x :: xs, _, _, ⟨c1, c2, f1, f2, hc, h1, h2, _⟩ => by
    rw [hc, List.length_append, GoT.len h1, Els.length h2, List.length_cons, Nat.add_mul]; omega
theorem Els.one : ∀ {l : List α} {cs : List Value} {fp : List Pos}, Els M w cs l fp → ∀ u ∈ cs, u.oneCell' = true
  | [], _, _, h => by rw [h.1]; intro u hu; cases hu
  | x :: xs, _, _, ⟨c1, c2, f1, f2, hc, h1, h2, _⟩ => by
    rw [hc]; intro u hu
    rcases List.mem_append.1 hu with hu | hu
    · exact GoT.one h1 u hu
    · exact Els.one h2 u hu
theorem Els.live : ∀ {l : List α} {cs : List Value} {fp : List Pos}, Els M w cs l fp → Live w fp
  | [], _, _, h => by rw [h.2]; exact Live.nil w
  | x :: xs, _, _, ⟨c1, c2, f1, f2, _, h1, h2, hf⟩ => by rw [hf]; exact Live.append.2 ⟨GoT.live h1, Els.live h2⟩
theorem Els.keep : ∀ {l : List α} {cs : List Value} {fp : List Pos}, Els M w cs l fp → Same w w' fp → Els M w' cs l fp
  | [], _, _, h, _ => h
  | x :: xs, _, _, ⟨c1, c2, f1, f2, hc, h1, h2, hf⟩, hs => by
    rw [hf] at hs
    obtain ⟨s1, s2⟩ := Same.append.1 hs
    exact ⟨c1, c2, f1, f2, hc, GoT.keep h1 s1, Els.keep h2 s2, hf⟩
theorem Els.append : ∀ {l1 l2 : List α} {cs : List Value} {fp : List Pos},
    Els M w cs (l1 ++ l2) fp ↔ ∃ c1 c2 f1 f2, cs = c1 ++ c2 ∧ Els M w c1 l1 f1 ∧ Els M w c2 l2 f2 ∧ fp = f1 ++ f2
  | [], l2, cs, fp => by
    constructor
    · intro h; exact ⟨[], cs, [], fp, rfl, Els.nil, h, rfl⟩
    · rintro ⟨c1, c2, f1, f2, rfl, ⟨rfl, rfl⟩, h, rfl⟩; exact h
  | x :: xs, l2, cs, fp => by
    constructor
    · rintro ⟨c1, c2, f1, f2, rfl, h1, h2, rfl⟩
      obtain ⟨d1, d2, g1, g2, rfl, k1, k2, rfl⟩ := Els.append.1 h2
      exact ⟨c1 ++ d1, d2, f1 ++ g1, g2, by simp, ⟨c1, d1, f1, g1, rfl, h1, k1, rfl⟩, k2, by simp⟩
    · rintro ⟨e1, e2, g1, g2, rfl, ⟨c1, d1, f1, h1, rfl, k1, k2, rfl⟩, k3, rfl⟩
      exact ⟨c1, d1 ++ e2, f1, h1 ++ g2, by simp, k1, Els.append.2 ⟨d1, e2, h1, g2, rfl, k2, k3, rfl⟩, by simp⟩
theorem Els.single {x : α} {cs : List Value} {fp : List Pos} (h : GoT.rd M w cs x fp) : Els M w cs [x] fp := ⟨cs, [], fp, [], by simp, h, Els.nil, by simp⟩
theorem Els.snoc {l : List α} {x : α} {c1 c2 : List Value} {f1 f2 : List Pos} (h : Els M w c1 l f1) (hx : GoT.rd M w c2 x f2) : Els M w (c1 ++ c2) (l ++ [x]) (f1 ++ f2) :=
  Els.append.2 ⟨c1, c2, f1, f2, rfl, h, Els.single hx, rfl⟩
/-- the k-th element -/
theorem Els.at_ {l : List α} {cs : List Value} {fp : List Pos} (h : Els M w cs l fp) (k : Nat) {x : α} (hk : l[k]? = some x) :
    ∃ c1 c2 c3 f1 f2 f3, cs = c1 ++ c2 ++ c3 ∧ fp = f1 ++ f2 ++ f3 ∧ c1.length = k * GoT.n α ∧ Els M w c1 (l.take k) f1 ∧ GoT.rd M w c2 x f2 ∧ Els M w c3 (l.drop (k + 1)) f3 := by
  have hlt : k < l.length := (List.getElem?_eq_some_iff.1 hk).1
  have hsplit : l = l.take k ++ (x :: l.drop (k + 1)) := by
    have : l[k] = x := (List.getElem?_eq_some_iff.1 hk).2
    rw [← this, List.getElem_cons_drop, List.take_append_drop]
  rw [hsplit] at h
  obtain ⟨c1, c2, f1, f2, rfl, h1, ⟨d1, d2, g1, g2, rfl, k1, k2, rfl⟩, rfl⟩ := Els.append.1 h
  refine ⟨c1, d1, d2, f1, g1, g2, by simp, by simp, ?_, h1, k1, k2⟩
  rw [Els.length h1, List.length_take, Nat.min_eq_left (by omega)]
end

/-- a slice's own places -/
def own (b o m : Nat) : List Pos := (List.range m).map fun j => (b, o + j)
theorem mem_own {b o m : Nat} {p : Pos} : p ∈ own b o m ↔ p.1 = b ∧ o ≤ p.2 ∧ p.2 < o + m := by
  obtain ⟨x, y⟩ := p
  simp only [own, List.mem_map, List.mem_range, Prod.mk.injEq]
  constructor
  · rintro ⟨j, hj, rfl, rfl⟩; exact ⟨rfl, by omega, by omega⟩
  · rintro ⟨rfl, h1, h2⟩; exact ⟨y - o, by omega, rfl, by omega⟩
theorem own_nodup (b o m : Nat) : (own b o m).Nodup := by
  unfold own
  refine List.Pairwise.map _ ?_ List.nodup_range
  intro a b h e
  simp only [Prod.mk.injEq] at e
  omega
theorem own_append (b o m k : Nat) : own b o (m + k) = own b o m ++ own b (o + m) k := by
  simp only [own, List.range_add, List.map_append, List.map_map]
  congr 1
  apply List.map_congr_left
  intro j _
  simp [Nat.add_assoc]

/-- A slice value: its elements, and the places that it spans (up to its capacity) and meets. -/
def Sl {α : Type} [GoT α] (M : Nat) (w : World) (v : Value) (l : List α) (fp : List Pos) : Prop :=
  (∃ ao, v = .slice ao 0 0 ∧ l = [] ∧ fp = []) ∨
  ∃ b o cap cs fs, v = .slice (some ⟨b, o, none⟩) l.length cap ∧ l.length ≤ cap ∧ cap ≤ maxLen ∧ l.length ≤ M ∧ At w b o cs ∧ Els M w cs l fs ∧ Live w (own b o (cap * GoT.n α)) ∧
    fp = own b o (cap * GoT.n α) ++ fs

section
variable {α : Type} [GoT α] {M : Nat} {w w' : World} {v : Value} {l : List α} {fp : List Pos}
theorem Sl.one (h : Sl M w v l fp) : v.oneCell' = true := by
  rcases h with ⟨ao, rfl, _⟩ | ⟨b, o, cap, cs, fs, rfl, _⟩ <;> rfl
theorem Sl.live (h : Sl M w v l fp) : Live w fp := by
  rcases h with ⟨_, _, _, rfl⟩ | ⟨b, o, cap, cs, fs, _, _, _, _, _, he, hl, rfl⟩
  · exact Live.nil w
  · exact Live.append.2 ⟨hl, Els.live he⟩
theorem Live.keep {fp : List Pos} (h : Live w fp) (hs : Same w w' fp) : Live w' fp := fun p hp => by rw [hs p hp]; exact h p hp
theorem Sl.keep (h : Sl M w v l fp) (hs : Same w w' fp) : Sl M w' v l fp := by
  rcases h with h | ⟨b, o, cap, cs, fs, rfl, h1, h2, h3, ha, he, hl, rfl⟩
  · exact .inl h
  · obtain ⟨s1, s2⟩ := Same.append.1 hs
    refine .inr ⟨b, o, cap, cs, fs, rfl, h1, h2, h3, ha.keep (fun j hj => s1 (b, o + j) (mem_own.2 ⟨rfl, by simp, ?_⟩)), he.keep s2, hl.keep s1, rfl⟩
    rw [Els.length he] at hj
    have := Nat.mul_le_mul_right (GoT.n α) h1
    show o + j < _
    omega
theorem Sl.nil : Sl (α := α) M w (.slice none 0 0) [] [] := .inl ⟨_, rfl, rfl, rfl⟩
/-- its length -/
theorem Sl.len (h : Sl M w v l fp) {P : Program} {T E : TypeId} (hT : P.underlying T = some (.slice E)) (w1 : World) (ty : TypeId) :
    (Builtin.len_ #[T] ty #[v]).run P w1 = .ok (.int .i64 l.length) w1 := by
  rcases h with ⟨ao, rfl, rfl, _⟩ | ⟨b, o, cap, cs, fs, rfl, _⟩ <;> simp [Builtin.len_, run_underlying hT, goInt]
theorem Sl.le (h : Sl M w v l fp) : l.length ≤ maxLen := by
  rcases h with ⟨ao, rfl, rfl, _⟩ | ⟨b, o, cap, cs, fs, rfl, h1, h2, _⟩
  · simp
  · omega
theorem Sl.leM (h : Sl M w v l fp) : l.length ≤ M := by
  rcases h with ⟨ao, rfl, rfl, _⟩ | ⟨b, o, cap, cs, fs, rfl, h1, h2, h3, _⟩
  · simp
  · exact h3
/-- its k-th element -/
theorem Sl.idx (h : Sl M w v l fp) {P : Program} {T E : TypeId} (hT : P.underlying T = some (.slice E)) (hl : ∀ w1, (sizeOf E).run P w1 = .ok (GoT.n α) w1) (k : Nat) {x : α} (hk : l[k]? = some x) :
    ∃ b o cs f, (∀ w1, (Instr.indexAt T v (.int .i64 k)).run P w1 = .ok (.pointer (some ⟨b, o, none⟩)) w1) ∧ At w b o cs ∧ GoT.rd M w cs x f ∧ (∀ p ∈ f, p ∈ fp) := by
  have hlt : k < l.length := (List.getElem?_eq_some_iff.1 hk).1
  rcases h with ⟨ao, rfl, rfl, _⟩ | ⟨b, o, cap, cs, fs, rfl, h1, h2, h3, ha, he, hlv, rfl⟩
  · simp at hlt
  · obtain ⟨c1, c2, c3, f1, f2, f3, rfl, rfl, hc1, _, hx, _⟩ := he.at_ k hk
    refine ⟨b, o + k * GoT.n α, c2, f2, fun w1 => ?_, ?_, hx, fun p hp => by simp [hp]⟩
    · have hi : ¬ l.length ≤ k := by omega
      simp [Instr.indexAt, run_underlying hT, asIntOf, hl, Addr.add_lit, Result.andThen]
      intro hh
      exact absurd hh hi
    · have := (At.append.1 (At.append.1 ha).1).2
      rwa [hc1] at this
end
end Go.Proofs.Ytiahgjnpinjblaa

namespace Go.Proofs.Ytiahgjnpinjblaa
open Go.RowKit

instance : GoT Int where
  n := 1
  rd := fun _ _ cs x fp => cs = [.int .i64 x] ∧ fp = []
  pos := Nat.one_pos
  len := by rintro M w cs x fp ⟨rfl, rfl⟩; rfl
  one := by rintro M w cs x fp ⟨rfl, rfl⟩ u hu; simp at hu; subst hu; rfl
  live := by rintro M w cs x fp ⟨rfl, rfl⟩; exact Live.nil w
  keep := by rintro M w w' cs x fp h _; exact h
instance {α : Type} [GoT α] : GoT (List α) where
  n := 1
  rd := fun M w cs x fp => ∃ v, cs = [v] ∧ Sl M w v x fp
  pos := Nat.one_pos
  len := by rintro M w cs x fp ⟨v, rfl, h⟩; rfl
  one := by rintro M w cs x fp ⟨v, rfl, h⟩ u hu; simp at hu; subst hu; exact h.one
  live := by rintro M w cs x fp ⟨v, rfl, h⟩; exact h.live
  keep := by rintro M w w' cs x fp ⟨v, rfl, h⟩ hs; exact ⟨v, rfl, h.keep hs⟩

structure DPart where
  kind : Int
  n : Int
  signs : List Int
  deriving DecidableEq

instance : GoT DPart where
  n := 3
  rd := fun M w cs x fp => ∃ v_signs f_signs, cs = [.int .i64 x.kind, .int .i64 x.n, v_signs] ∧ Sl M w v_signs x.signs f_signs ∧ fp = f_signs
  pos := by decide
  len := by rintro M w cs x fp ⟨v_signs, f_signs, rfl, h_signs, rfl⟩; rfl
  one := by
    rintro M w cs x fp ⟨v_signs, f_signs, rfl, h_signs, rfl⟩ u hu
    simp only [List.mem_cons, List.not_mem_nil, or_false] at hu
    rcases hu with rfl | rfl | rfl
    · exact rfl
    · exact rfl
    · exact h_signs.one
  live := by rintro M w cs x fp ⟨v_signs, f_signs, rfl, h_signs, rfl⟩; exact h_signs.live
  keep := by
    rintro M w w' cs x fp ⟨v_signs, f_signs, rfl, h_signs, rfl⟩ hs
    have s_signs := hs
    exact ⟨v_signs, fp, rfl, h_signs.keep s_signs, rfl⟩

structure DEntry where
  client : Int
  seq : Int
  o : List DPart
  deriving DecidableEq

instance : GoT DEntry where
  n := 3
  rd := fun M w cs x fp => ∃ v_o f_o, cs = [.int .i64 x.client, .int .i64 x.seq, v_o] ∧ Sl M w v_o x.o f_o ∧ fp = f_o
  pos := by decide
  len := by rintro M w cs x fp ⟨v_o, f_o, rfl, h_o, rfl⟩; rfl
  one := by
    rintro M w cs x fp ⟨v_o, f_o, rfl, h_o, rfl⟩ u hu
    simp only [List.mem_cons, List.not_mem_nil, or_false] at hu
    rcases hu with rfl | rfl | rfl
    · exact rfl
    · exact rfl
    · exact h_o.one
  live := by rintro M w cs x fp ⟨v_o, f_o, rfl, h_o, rfl⟩; exact h_o.live
  keep := by
    rintro M w w' cs x fp ⟨v_o, f_o, rfl, h_o, rfl⟩ hs
    have s_o := hs
    exact ⟨v_o, fp, rfl, h_o.keep s_o, rfl⟩

structure DSeen where
  client : Int
  seq : Int
  rev : Int
  deriving DecidableEq

instance : GoT DSeen where
  n := 3
  rd := fun _ _ cs x fp => cs = [.int .i64 x.client, .int .i64 x.seq, .int .i64 x.rev] ∧ fp = []
  pos := by decide
  len := by rintro M w cs x fp ⟨rfl, rfl⟩; rfl
  one := by
    rintro M w cs x fp ⟨rfl, rfl⟩ u hu
    simp only [List.mem_cons, List.not_mem_nil, or_false] at hu
    rcases hu with rfl | rfl | rfl
    · exact rfl
    · exact rfl
    · exact rfl
  live := by rintro M w cs x fp ⟨rfl, rfl⟩; exact Live.nil w
  keep := by rintro M w w' cs x fp h _; exact h

structure DDoc where
  name : ByteArray
  from_ : Int
  text : List Int
  list : List DEntry
  seen : List DSeen
  deriving DecidableEq

instance : GoT DDoc where
  n := 5
  rd := fun M w cs x fp => ∃ v_text v_list v_seen f_text f_list f_seen, cs = [.string x.name, .int .i64 x.from_, v_text, v_list, v_seen] ∧ x.name.size ≤ M ∧ Sl M w v_text x.text f_text ∧ Sl M w v_list x.list f_list ∧ Sl M w v_seen x.seen f_seen ∧ fp = f_text ++ (f_list ++ (f_seen))
  pos := by decide
  len := by rintro M w cs x fp ⟨v_text, v_list, v_seen, f_text, f_list, f_seen, rfl, n_name, h_text, h_list, h_seen, rfl⟩; rfl
  one := by
    rintro M w cs x fp ⟨v_text, v_list, v_seen, f_text, f_list, f_seen, rfl, n_name, h_text, h_list, h_seen, rfl⟩ u hu
    simp only [List.mem_cons, List.not_mem_nil, or_false] at hu
    rcases hu with rfl | rfl | rfl | rfl | rfl
    · exact rfl
    · exact rfl
    · exact h_text.one
    · exact h_list.one
    · exact h_seen.one
  live := by rintro M w cs x fp ⟨v_text, v_list, v_seen, f_text, f_list, f_seen, rfl, n_name, h_text, h_list, h_seen, rfl⟩; exact Live.append.2 ⟨h_text.live, Live.append.2 ⟨h_list.live, h_seen.live⟩⟩
  keep := by
    rintro M w w' cs x fp ⟨v_text, v_list, v_seen, f_text, f_list, f_seen, rfl, n_name, h_text, h_list, h_seen, rfl⟩ hs
    simp only [Same.append] at hs
    obtain ⟨s_text, ⟨s_list, s_seen⟩⟩ := hs
    exact ⟨v_text, v_list, v_seen, f_text, f_list, f_seen, rfl, n_name, h_text.keep s_text, h_list.keep s_list, h_seen.keep s_seen, rfl⟩

structure DRing where
  cap : Int
  next : Int
  out : Bool
  list : List DEntry
  deriving DecidableEq

instance : GoT DRing where
  n := 4
  rd := fun M w cs x fp => ∃ v_list f_list, cs = [.int .i64 x.cap, .int .i64 x.next, .bool x.out, v_list] ∧ Sl M w v_list x.list f_list ∧ fp = f_list
  pos := by decide
  len := by rintro M w cs x fp ⟨v_list, f_list, rfl, h_list, rfl⟩; rfl
  one := by
    rintro M w cs x fp ⟨v_list, f_list, rfl, h_list, rfl⟩ u hu
    simp only [List.mem_cons, List.not_mem_nil, or_false] at hu
    rcases hu with rfl | rfl | rfl | rfl
    · exact rfl
    · exact rfl
    · exact rfl
    · exact h_list.one
  live := by rintro M w cs x fp ⟨v_list, f_list, rfl, h_list, rfl⟩; exact h_list.live
  keep := by
    rintro M w w' cs x fp ⟨v_list, f_list, rfl, h_list, rfl⟩ hs
    have s_list := hs
    exact ⟨v_list, fp, rfl, h_list.keep s_list, rfl⟩

structure DSub where
  id : Int
  doc : ByteArray
  r : DRing
  deriving DecidableEq

instance : GoT DSub where
  n := 6
  rd := fun M w cs x fp => ∃ c_r f_r, cs = [.int .i64 x.id, .string x.doc] ++ (c_r) ∧ x.doc.size ≤ M ∧ GoT.rd M w c_r x.r f_r ∧ fp = f_r
  pos := by decide
  len := by rintro M w cs x fp ⟨c_r, f_r, rfl, n_doc, h_r, rfl⟩; simp only [List.length_append, List.length_cons, List.length_nil, GoT.len h_r]; rfl
  one := by
    rintro M w cs x fp ⟨c_r, f_r, rfl, n_doc, h_r, rfl⟩ u hu
    simp only [List.mem_append, List.mem_cons, List.not_mem_nil, or_false] at hu
    rcases hu with (rfl | rfl) | hu
    · exact rfl
    · exact rfl
    · exact GoT.one h_r _ hu
  live := by rintro M w cs x fp ⟨c_r, f_r, rfl, n_doc, h_r, rfl⟩; exact GoT.live h_r
  keep := by
    rintro M w w' cs x fp ⟨c_r, f_r, rfl, n_doc, h_r, rfl⟩ hs
    have s_r := hs
    exact ⟨c_r, fp, rfl, n_doc, GoT.keep h_r s_r, rfl⟩

structure DHub where
  shut : Bool
  docs : List DDoc
  subs : List DSub
  last : Int
  deriving DecidableEq

instance : GoT DHub where
  n := 4
  rd := fun M w cs x fp => ∃ v_docs v_subs f_docs f_subs, cs = [.bool x.shut, v_docs, v_subs, .int .i64 x.last] ∧ Sl M w v_docs x.docs f_docs ∧ Sl M w v_subs x.subs f_subs ∧ fp = f_docs ++ (f_subs)
  pos := by decide
  len := by rintro M w cs x fp ⟨v_docs, v_subs, f_docs, f_subs, rfl, h_docs, h_subs, rfl⟩; rfl
  one := by
    rintro M w cs x fp ⟨v_docs, v_subs, f_docs, f_subs, rfl, h_docs, h_subs, rfl⟩ u hu
    simp only [List.mem_cons, List.not_mem_nil, or_false] at hu
    rcases hu with rfl | rfl | rfl | rfl
    · exact rfl
    · exact h_docs.one
    · exact h_subs.one
    · exact rfl
  live := by rintro M w cs x fp ⟨v_docs, v_subs, f_docs, f_subs, rfl, h_docs, h_subs, rfl⟩; exact Live.append.2 ⟨h_docs.live, h_subs.live⟩
  keep := by
    rintro M w w' cs x fp ⟨v_docs, v_subs, f_docs, f_subs, rfl, h_docs, h_subs, rfl⟩ hs
    simp only [Same.append] at hs
    obtain ⟨s_docs, s_subs⟩ := hs
    exact ⟨v_docs, v_subs, f_docs, f_subs, rfl, h_docs.keep s_docs, h_subs.keep s_subs, rfl⟩

structure DCall where
  kind : Int
  doc : ByteArray
  client : Int
  seq : Int
  n : Int
  o : List DPart
  text : List Int
  deriving DecidableEq

instance : GoT DCall where
  n := 7
  rd := fun M w cs x fp => ∃ v_o v_text f_o f_text, cs = [.int .i64 x.kind, .string x.doc, .int .i64 x.client, .int .i64 x.seq, .int .i64 x.n, v_o, v_text] ∧ x.doc.size ≤ M ∧ Sl M w v_o x.o f_o ∧ Sl M w v_text x.text f_text ∧ fp = f_o ++ (f_text)
  pos := by decide
  len := by rintro M w cs x fp ⟨v_o, v_text, f_o, f_text, rfl, n_doc, h_o, h_text, rfl⟩; rfl
  one := by
    rintro M w cs x fp ⟨v_o, v_text, f_o, f_text, rfl, n_doc, h_o, h_text, rfl⟩ u hu
    simp only [List.mem_cons, List.not_mem_nil, or_false] at hu
    rcases hu with rfl | rfl | rfl | rfl | rfl | rfl | rfl
    · exact rfl
    · exact rfl
    · exact rfl
    · exact rfl
    · exact rfl
    · exact h_o.one
    · exact h_text.one
  live := by rintro M w cs x fp ⟨v_o, v_text, f_o, f_text, rfl, n_doc, h_o, h_text, rfl⟩; exact Live.append.2 ⟨h_o.live, h_text.live⟩
  keep := by
    rintro M w w' cs x fp ⟨v_o, v_text, f_o, f_text, rfl, n_doc, h_o, h_text, rfl⟩ hs
    simp only [Same.append] at hs
    obtain ⟨s_o, s_text⟩ := hs
    exact ⟨v_o, v_text, f_o, f_text, rfl, n_doc, h_o.keep s_o, h_text.keep s_text, rfl⟩

structure DAnswer where
  code : Int
  rev : Int
  text : List Int
  list : List DEntry
  deriving DecidableEq

instance : GoT DAnswer where
  n := 4
  rd := fun M w cs x fp => ∃ v_text v_list f_text f_list, cs = [.int .i64 x.code, .int .i64 x.rev, v_text, v_list] ∧ Sl M w v_text x.text f_text ∧ Sl M w v_list x.list f_list ∧ fp = f_text ++ (f_list)
  pos := by decide
  len := by rintro M w cs x fp ⟨v_text, v_list, f_text, f_list, rfl, h_text, h_list, rfl⟩; rfl
  one := by
    rintro M w cs x fp ⟨v_text, v_list, f_text, f_list, rfl, h_text, h_list, rfl⟩ u hu
    simp only [List.mem_cons, List.not_mem_nil, or_false] at hu
    rcases hu with rfl | rfl | rfl | rfl
    · exact rfl
    · exact rfl
    · exact h_text.one
    · exact h_list.one
  live := by rintro M w cs x fp ⟨v_text, v_list, f_text, f_list, rfl, h_text, h_list, rfl⟩; exact Live.append.2 ⟨h_text.live, h_list.live⟩
  keep := by
    rintro M w w' cs x fp ⟨v_text, v_list, f_text, f_list, rfl, h_text, h_list, rfl⟩ hs
    simp only [Same.append] at hs
    obtain ⟨s_text, s_list⟩ := hs
    exact ⟨v_text, v_list, f_text, f_list, rfl, h_text.keep s_text, h_list.keep s_list, rfl⟩

structure DTask where
  c : DCall
  pc : Int
  inv : Int
  lin : Int
  res : Int
  a : DAnswer
  deriving DecidableEq

instance : GoT DTask where
  n := 15
  rd := fun M w cs x fp => ∃ c_c c_a f_c f_a, cs = c_c ++ ([.int .i64 x.pc, .int .i64 x.inv, .int .i64 x.lin, .int .i64 x.res] ++ (c_a)) ∧ GoT.rd M w c_c x.c f_c ∧ GoT.rd M w c_a x.a f_a ∧ fp = f_c ++ (f_a)
  pos := by decide
  len := by rintro M w cs x fp ⟨c_c, c_a, f_c, f_a, rfl, h_c, h_a, rfl⟩; simp only [List.length_append, List.length_cons, List.length_nil, GoT.len h_c, GoT.len h_a]; rfl
  one := by
    rintro M w cs x fp ⟨c_c, c_a, f_c, f_a, rfl, h_c, h_a, rfl⟩ u hu
    simp only [List.mem_append, List.mem_cons, List.not_mem_nil, or_false] at hu
    rcases hu with hu | ((rfl | rfl | rfl | rfl) | hu)
    · exact GoT.one h_c _ hu
    · exact rfl
    · exact rfl
    · exact rfl
    · exact rfl
    · exact GoT.one h_a _ hu
  live := by rintro M w cs x fp ⟨c_c, c_a, f_c, f_a, rfl, h_c, h_a, rfl⟩; exact Live.append.2 ⟨GoT.live h_c, GoT.live h_a⟩
  keep := by
    rintro M w w' cs x fp ⟨c_c, c_a, f_c, f_a, rfl, h_c, h_a, rfl⟩ hs
    simp only [Same.append] at hs
    obtain ⟨s_c, s_a⟩ := hs
    exact ⟨c_c, c_a, f_c, f_a, rfl, GoT.keep h_c s_c, GoT.keep h_a s_a, rfl⟩

structure DQueue where
  doc : ByteArray
  list : List Int
  deriving DecidableEq

instance : GoT DQueue where
  n := 2
  rd := fun M w cs x fp => ∃ v_list f_list, cs = [.string x.doc, v_list] ∧ x.doc.size ≤ M ∧ Sl M w v_list x.list f_list ∧ fp = f_list
  pos := by decide
  len := by rintro M w cs x fp ⟨v_list, f_list, rfl, n_doc, h_list, rfl⟩; rfl
  one := by
    rintro M w cs x fp ⟨v_list, f_list, rfl, n_doc, h_list, rfl⟩ u hu
    simp only [List.mem_cons, List.not_mem_nil, or_false] at hu
    rcases hu with rfl | rfl
    · exact rfl
    · exact h_list.one
  live := by rintro M w cs x fp ⟨v_list, f_list, rfl, n_doc, h_list, rfl⟩; exact h_list.live
  keep := by
    rintro M w w' cs x fp ⟨v_list, f_list, rfl, n_doc, h_list, rfl⟩ hs
    have s_list := hs
    exact ⟨v_list, fp, rfl, n_doc, h_list.keep s_list, rfl⟩

structure DWorld where
  h : DHub
  locks : List Int
  queues : List DQueue
  tasks : List DTask
  step : Int
  deriving DecidableEq

instance : GoT DWorld where
  n := 8
  rd := fun M w cs x fp => ∃ c_h v_locks v_queues v_tasks f_h f_locks f_queues f_tasks, cs = c_h ++ ([v_locks, v_queues, v_tasks, .int .i64 x.step]) ∧ GoT.rd M w c_h x.h f_h ∧ Sl M w v_locks x.locks f_locks ∧ Sl M w v_queues x.queues f_queues ∧ Sl M w v_tasks x.tasks f_tasks ∧ fp = f_h ++ (f_locks ++ (f_queues ++ (f_tasks)))
  pos := by decide
  len := by rintro M w cs x fp ⟨c_h, v_locks, v_queues, v_tasks, f_h, f_locks, f_queues, f_tasks, rfl, h_h, h_locks, h_queues, h_tasks, rfl⟩; simp only [List.length_append, List.length_cons, List.length_nil, GoT.len h_h]; rfl
  one := by
    rintro M w cs x fp ⟨c_h, v_locks, v_queues, v_tasks, f_h, f_locks, f_queues, f_tasks, rfl, h_h, h_locks, h_queues, h_tasks, rfl⟩ u hu
    simp only [List.mem_append, List.mem_cons, List.not_mem_nil, or_false] at hu
    rcases hu with hu | (rfl | rfl | rfl | rfl)
    · exact GoT.one h_h _ hu
    · exact h_locks.one
    · exact h_queues.one
    · exact h_tasks.one
    · exact rfl
  live := by rintro M w cs x fp ⟨c_h, v_locks, v_queues, v_tasks, f_h, f_locks, f_queues, f_tasks, rfl, h_h, h_locks, h_queues, h_tasks, rfl⟩; exact Live.append.2 ⟨GoT.live h_h, Live.append.2 ⟨h_locks.live, Live.append.2 ⟨h_queues.live, h_tasks.live⟩⟩⟩
  keep := by
    rintro M w w' cs x fp ⟨c_h, v_locks, v_queues, v_tasks, f_h, f_locks, f_queues, f_tasks, rfl, h_h, h_locks, h_queues, h_tasks, rfl⟩ hs
    simp only [Same.append] at hs
    obtain ⟨s_h, ⟨s_locks, ⟨s_queues, s_tasks⟩⟩⟩ := hs
    exact ⟨c_h, v_locks, v_queues, v_tasks, f_h, f_locks, f_queues, f_tasks, rfl, GoT.keep h_h s_h, h_locks.keep s_locks, h_queues.keep s_queues, h_tasks.keep s_tasks, rfl⟩

end Go.Proofs.Ytiahgjnpinjblaa

namespace Go.Proofs.Ytiahgjnpinjblaa
open Go.RowKit

/-- the longest list that is spoken of -/
def BIG : Nat := 4294967296
theorem BIG_le {n : Nat} (h : n ≤ BIG) : n ≤ 4294967296 := h
theorem le_BIG {n : Nat} (h : n ≤ 4294967296) : n ≤ BIG := h

/-- cells that read as x -/
def Rd {α : Type} [GoT α] (w : World) (cs : List Value) (x : α) : Prop := ∃ fp, GoT.rd BIG w cs x fp
/-- a slice that reads as l -/
def RdS {α : Type} [GoT α] (w : World) (v : Value) (l : List α) : Prop := ∃ fp, Sl BIG w v l fp
/-- places in blocks from B on, none met twice, none frozen -/
structure Fresh (B : Nat) (w : World) (fp : List Pos) : Prop where
  nodup : fp.Nodup
  ge : ∀ p ∈ fp, B ≤ p.1
  free : ∀ p ∈ fp, w.frozen? ⟨p.1, p.2, none⟩ = false
/-- cells that read as x out of memory of one's own (blocks from B on) -/
def Own {α : Type} [GoT α] (B : Nat) (w : World) (cs : List Value) (x : α) : Prop := ∃ fp, GoT.rd BIG w cs x fp ∧ Fresh B w fp
def OwnS {α : Type} [GoT α] (B : Nat) (w : World) (v : Value) (l : List α) : Prop := ∃ fp, Sl BIG w v l fp ∧ Fresh B w fp
/-- a call that gives back a struct in new memory -/
def Gives {α : Type} [GoT α] (w : World) (x : α) (e : Ending) (w' : World) : Prop := ∃ cs, e = .returned (.agg cs.toArray) ∧ Own w.heap.size w' cs x ∧ Below w.heap.size w w'
def GivesS {α : Type} [GoT α] (w : World) (l : List α) (e : Ending) (w' : World) : Prop := ∃ v, e = .returned v ∧ OwnS w.heap.size w' v l ∧ Below w.heap.size w w'
/-- a call that only tells -/
def Tells (w : World) (v : Value) (e : Ending) (w' : World) : Prop := e = .returned v ∧ Below w.heap.size w w'

theorem bcell {W w1 : World} (hb : Below W.heap.size W w1) : (∀ b o, b < W.heap.size → w1.cell? ⟨b, o, none⟩ = W.cell? ⟨b, o, none⟩) ∧ (∀ b o, b < W.heap.size → w1.frozen? ⟨b, o, none⟩ = W.frozen? ⟨b, o, none⟩) :=
  ⟨fun b o h => hb.cell (p := ⟨b, o, none⟩) h, fun b o h => hb.frozen (p := ⟨b, o, none⟩) h⟩

theorem belowN {B : Nat} {a w : World} (h : Below B a w) (n : Nat) : Below B a (w.drewN n) := ⟨h.os, h.tape, h.output, h.size, h.block⟩
theorem size_drewN (w : World) (n : Nat) : (w.drewN n).heap.size = w.heap.size := rfl

theorem cell_setCell (w : World) (b o b' o' : Nat) (v : Value) :
    (w.setCell ⟨b, o, none⟩ v).cell? ⟨b', o', none⟩ = if b' = b ∧ o' = o then (w.cell? ⟨b, o, none⟩).map (fun _ => v) else w.cell? ⟨b', o', none⟩ := by
  by_cases h : b' = b ∧ o' = o
  · obtain ⟨rfl, rfl⟩ := h
    rw [if_pos ⟨rfl, rfl⟩]
    cases hc : w.cell? ⟨b', o', none⟩ with
    | some u => rw [World.cell?_setCell_same w _ v hc]; rfl
    | none =>
      simp only [World.cell?, World.setCell, Array.getElem?_modify, if_true] at hc ⊢
      cases hb : w.heap[b']? with
      | none => rfl
      | some ob =>
        cases ob <;> simp_all
  · rw [if_neg h]
    exact World.cell?_setCell_other _ _ _ _ (fun e => h ⟨(congrArg Addr.block e).symm, (congrArg Addr.off e).symm⟩)
theorem below_after {B : Nat} {a W w1 : World} (h : Below B a W) (hb : Below W.heap.size W w1) (hB : B ≤ W.heap.size) : Below B a w1 := h.trans (hb.mono hB)
/-- from block C on nothing has turned -/
def Above (C : Nat) (w w' : World) : Prop := ∀ k, C ≤ k → w'.heap[k]? = w.heap[k]?
theorem Above.refl (C : Nat) (w : World) : Above C w w := fun _ _ => rfl
theorem Above.setCell {C : Nat} {a w : World} (h : Above C a w) {p : Addr} (hp : p.block < C) (v : Value) : Above C a (w.setCell p v) := fun k hk => (Below.heap_setCell w p v k (by omega)).trans (h k hk)
theorem Above.drew {C : Nat} {a w : World} (h : Above C a w) : Above C a w.drew := h
theorem Above.drewN {C : Nat} {a w : World} (h : Above C a w) (n : Nat) : Above C a (w.drewN n) := h
section
variable {α : Type} [GoT α]
theorem Own.above {C : Nat} {w w' : World} {cs : List Value} {x : α} (h : Own C w cs x) (ha : Above C w w') : Own C w' cs x := by
  obtain ⟨fp, h, k⟩ := h
  exact ⟨fp, GoT.keep h fun p hp => World.cell?_of_block (w := w) (a := ⟨p.1, p.2, none⟩) (ha p.1 (k.ge p hp)), k.nodup, k.ge, fun p hp => by
    rw [World.frozen?_of_block (w := w) (a := ⟨p.1, p.2, none⟩) (ha p.1 (k.ge p hp))]; exact k.free p hp⟩
theorem OwnS.above {C : Nat} {w w' : World} {v : Value} {l : List α} (h : OwnS C w v l) (ha : Above C w w') : OwnS C w' v l := by
  obtain ⟨fp, h, k⟩ := h
  exact ⟨fp, h.keep fun p hp => World.cell?_of_block (w := w) (a := ⟨p.1, p.2, none⟩) (ha p.1 (k.ge p hp)), k.nodup, k.ge, fun p hp => by
    rw [World.frozen?_of_block (w := w) (a := ⟨p.1, p.2, none⟩) (ha p.1 (k.ge p hp))]; exact k.free p hp⟩
theorem Rd.below {w w' : World} {cs : List Value} {x : α} (h : Rd w cs x) (hb : Below w.heap.size w w') : Rd w' cs x := by
  obtain ⟨fp, h⟩ := h
  exact ⟨fp, GoT.keep h (Live.same_below hb (Live.lt (GoT.live h)))⟩
theorem RdS.below {w w' : World} {v : Value} {l : List α} (h : RdS w v l) (hb : Below w.heap.size w w') : RdS w' v l := by
  obtain ⟨fp, h⟩ := h
  exact ⟨fp, h.keep (Live.same_below hb (Live.lt h.live))⟩
theorem RdS.drewN {w : World} {v : Value} {l : List α} (h : RdS w v l) (n : Nat) : RdS (w.drewN n) v l := h.below (belowN (Below.refl _ _) n)
theorem Rd.drewN {w : World} {cs : List Value} {x : α} (h : Rd w cs x) (n : Nat) : Rd (w.drewN n) cs x := h.below (belowN (Below.refl _ _) n)
theorem RdS.alloc {w : World} {v : Value} {l : List α} (h : RdS w v l) (o : Obj) : RdS (w.alloc o) v l := h.below ((Below.refl _ _).alloc (Nat.le_refl _) o)
theorem Rd.alloc {w : World} {cs : List Value} {x : α} (h : Rd w cs x) (o : Obj) : Rd (w.alloc o) cs x := h.below ((Below.refl _ _).alloc (Nat.le_refl _) o)
theorem RdS.nil {w : World} : RdS (α := α) w (.slice none 0 0) [] := ⟨[], Sl.nil⟩
theorem OwnS.nil {B : Nat} {w : World} : OwnS (α := α) B w (.slice none 0 0) [] := ⟨[], Sl.nil, List.nodup_nil, fun _ h => (by cases h), fun _ h => (by cases h)⟩
theorem Own.rd {B : Nat} {w : World} {cs : List Value} {x : α} (h : Own B w cs x) : Rd w cs x := let ⟨fp, h, _⟩ := h; ⟨fp, h⟩
theorem OwnS.rd {B : Nat} {w : World} {v : Value} {l : List α} (h : OwnS B w v l) : RdS w v l := let ⟨fp, h, _⟩ := h; ⟨fp, h⟩
theorem Fresh.mono {B B' : Nat} {w : World} {fp : List Pos} (h : Fresh B w fp) (hB : B' ≤ B) : Fresh B' w fp := ⟨h.nodup, fun p hp => Nat.le_trans hB (h.ge p hp), h.free⟩
theorem Fresh.below {B C : Nat} {w w' : World} {fp : List Pos} (h : Fresh B w fp) (hb : Below C w w') (hlt : ∀ p ∈ fp, p.1 < C) : Fresh B w' fp :=
  ⟨h.nodup, h.ge, fun p hp => by rw [hb.frozen (p := ⟨p.1, p.2, none⟩) (hlt p hp)]; exact h.free p hp⟩
theorem Own.mono {B B' : Nat} {w : World} {cs : List Value} {x : α} (h : Own B w cs x) (hB : B' ≤ B) : Own B' w cs x := let ⟨fp, h, k⟩ := h; ⟨fp, h, k.mono hB⟩
theorem OwnS.mono {B B' : Nat} {w : World} {v : Value} {l : List α} (h : OwnS B w v l) (hB : B' ≤ B) : OwnS B' w v l := let ⟨fp, h, k⟩ := h; ⟨fp, h, k.mono hB⟩
theorem Own.below {B : Nat} {w w' : World} {cs : List Value} {x : α} (h : Own B w cs x) (hb : Below w.heap.size w w') : Own B w' cs x := by
  obtain ⟨fp, h, k⟩ := h
  have hlt := Live.lt (GoT.live h)
  exact ⟨fp, GoT.keep h (Live.same_below hb hlt), k.below hb hlt⟩
theorem OwnS.below {B : Nat} {w w' : World} {v : Value} {l : List α} (h : OwnS B w v l) (hb : Below w.heap.size w w') : OwnS B w' v l := by
  obtain ⟨fp, h, k⟩ := h
  have hlt := Live.lt h.live
  exact ⟨fp, h.keep (Live.same_below hb hlt), k.below hb hlt⟩
theorem RdS.len {w : World} {v : Value} {l : List α} (h : RdS w v l) {P : Program} {T E : TypeId} (hT : P.underlying T = some (.slice E)) (w1 : World) (ty : TypeId) :
    (Builtin.len_ #[T] ty #[v]).run P w1 = .ok (.int .i64 l.length) w1 := let ⟨_, h⟩ := h; h.len hT w1 ty
theorem RdS.le {w : World} {v : Value} {l : List α} (h : RdS w v l) : l.length ≤ 4294967296 := let ⟨_, h⟩ := h; h.leM
theorem RdS.idx {w : World} {v : Value} {l : List α} (h : RdS w v l) {P : Program} {T E : TypeId} (hT : P.underlying T = some (.slice E)) (hl : ∀ w1, (sizeOf E).run P w1 = .ok (GoT.n α) w1) (k : Nat) {x : α} (hk : l[k]? = some x) :
    ∃ b o cs, (∀ w1, (Instr.indexAt T v (.int .i64 k)).run P w1 = .ok (.pointer (some ⟨b, o, none⟩)) w1) ∧ At w b o cs ∧ Rd w cs x := by
  obtain ⟨fp, h⟩ := h
  obtain ⟨b, o, cs, f, h1, h2, h3, _⟩ := h.idx hT hl k hk
  exact ⟨b, o, cs, h1, h2, f, h3⟩
end
theorem RdS.isSlice {α : Type} [GoT α] {w : World} {v : Value} {l : List α} (h : RdS w v l) : ∃ a c, v = .slice a l.length c := by
  obtain ⟨fp, ⟨ao, rfl, rfl, _⟩ | ⟨b, o, cap, cs, fs, rfl, _⟩⟩ := h
  · exact ⟨_, _, rfl⟩
  · exact ⟨_, _, rfl⟩
/-- a slice value is one cell, and is stored as one -/
theorem RdS.stores {α : Type} [GoT α] {w : World} {v : Value} {l : List α} (h : RdS w v l) (P : Program) : v.cells = #[v] ∧ ∀ a m w, (store a v m).run P w = stored P w a v m := by
  obtain ⟨a, c, rfl⟩ := h.isSlice
  exact ⟨rfl, fun a m w => run_store P w a _ m rfl⟩
theorem At.two {w : World} {b o : Nat} {c0 c1 : Value} (h : At w b o [c0, c1]) : w.cell? ⟨b, o, none⟩ = some c0 ∧ w.cell? ⟨b, o + 1, none⟩ = some c1 := ⟨h 0 c0 rfl, h 1 c1 rfl⟩
theorem At.one {w : World} {b o : Nat} {c0 : Value} (h : At w b o [c0]) : w.cell? ⟨b, o, none⟩ = some c0 := h 0 c0 rfl
theorem At.three {w : World} {b o : Nat} {c0 c1 c2 : Value} (h : At w b o [c0, c1, c2]) : w.cell? ⟨b, o, none⟩ = some c0 ∧ w.cell? ⟨b, o + 1, none⟩ = some c1 ∧ w.cell? ⟨b, o + 2, none⟩ = some c2 :=
  ⟨h 0 c0 rfl, h 1 c1 rfl, h 2 c2 rfl⟩
theorem At.four {w : World} {b o : Nat} {c0 c1 c2 c3 : Value} (h : At w b o [c0, c1, c2, c3]) :
    w.cell? ⟨b, o, none⟩ = some c0 ∧ w.cell? ⟨b, o + 1, none⟩ = some c1 ∧ w.cell? ⟨b, o + 2, none⟩ = some c2 ∧ w.cell? ⟨b, o + 3, none⟩ = some c3 :=
  ⟨h 0 c0 rfl, h 1 c1 rfl, h 2 c2 rfl, h 3 c3 rfl⟩
theorem At.five {w : World} {b o : Nat} {c0 c1 c2 c3 c4 : Value} (h : At w b o [c0, c1, c2, c3, c4]) :
    w.cell? ⟨b, o, none⟩ = some c0 ∧ w.cell? ⟨b, o + 1, none⟩ = some c1 ∧ w.cell? ⟨b, o + 2, none⟩ = some c2 ∧ w.cell? ⟨b, o + 3, none⟩ = some c3 ∧ w.cell? ⟨b, o + 4, none⟩ = some c4 :=
  ⟨h 0 c0 rfl, h 1 c1 rfl, h 2 c2 rfl, h 3 c3 rfl, h 4 c4 rfl⟩
theorem At.six {w : World} {b o : Nat} {c0 c1 c2 c3 c4 c5 : Value} (h : At w b o [c0, c1, c2, c3, c4, c5]) :
    w.cell? ⟨b, o, none⟩ = some c0 ∧ w.cell? ⟨b, o + 1, none⟩ = some c1 ∧ w.cell? ⟨b, o + 2, none⟩ = some c2 ∧ w.cell? ⟨b, o + 3, none⟩ = some c3 ∧ w.cell? ⟨b, o + 4, none⟩ = some c4 ∧ w.cell? ⟨b, o + 5, none⟩ = some c5 :=
  ⟨h 0 c0 rfl, h 1 c1 rfl, h 2 c2 rfl, h 3 c3 rfl, h 4 c4 rfl, h 5 c5 rfl⟩
theorem At.seven {w : World} {b o : Nat} {c0 c1 c2 c3 c4 c5 c6 : Value} (h : At w b o [c0, c1, c2, c3, c4, c5, c6]) :
    w.cell? ⟨b, o, none⟩ = some c0 ∧ w.cell? ⟨b, o + 1, none⟩ = some c1 ∧ w.cell? ⟨b, o + 2, none⟩ = some c2 ∧ w.cell? ⟨b, o + 3, none⟩ = some c3 ∧ w.cell? ⟨b, o + 4, none⟩ = some c4 ∧ w.cell? ⟨b, o + 5, none⟩ = some c5 ∧ w.cell? ⟨b, o + 6, none⟩ = some c6 :=
  ⟨h 0 c0 rfl, h 1 c1 rfl, h 2 c2 rfl, h 3 c3 rfl, h 4 c4 rfl, h 5 c5 rfl, h 6 c6 rfl⟩

/-- list equality, the way a loop over indices finds it -/
theorem list_eq_of_take {α : Type} {a b : List α} (hl : a.length = b.length) (h : ∀ k, k < a.length → a[k]? = b[k]?) : a = b := by
  apply List.ext_getElem? 
  intro k
  by_cases hk : k < a.length
  · exact h k hk
  · rw [List.getElem?_eq_none (by omega), List.getElem?_eq_none (by omega)]
theorem get_some {α : Type} {l : List α} {k : Nat} (h : k < l.length) : ∃ x, l[k]? = some x := ⟨l[k], List.getElem?_eq_getElem h⟩
theorem take_snoc {α : Type} {l : List α} {k : Nat} {x : α} (h : l[k]? = some x) : l.take (k + 1) = l.take k ++ [x] := by
  obtain ⟨h1, h2⟩ := List.getElem?_eq_some_iff.1 h
  rw [List.take_succ_eq_append_getElem h1, h2]
theorem ret_int {k : IntKind} {a b : Int} (h : a = b) : Ending.returned (.int k a) = .returned (.int k b) := by rw [h]
theorem ret_bool {a b : Bool} (h : a = b) : Ending.returned (.bool a) = .returned (.bool b) := by rw [h]
/-- that what lies below B is kept: found by itself -/
theorem blw {B : Nat} {a w : World} (h : Below B a w := by repeat' first | with_reducible (first | exact Below.refl _ _ | assumption | apply Below.setCell | apply Below.alloc | apply Below.drew | apply belowN | refine below_after ?_ (by assumption) ?_) | omega | (simp; done) | (simp; omega)) : Below B a w := h
theorem om {p : Prop} (h : p := by first | omega | (simp; done) | (simp; omega)) : p := h
theorem mv2 {B b : Nat} {w w' : World} {o0 o1 : Nat} {v0 v1 : Option Value} (h : Below B w w') (z : b < B) (k0 : w.cell? ⟨b, o0, none⟩ = v0) (k1 : w.cell? ⟨b, o1, none⟩ = v1) : w'.cell? ⟨b, o0, none⟩ = v0 ∧ w'.cell? ⟨b, o1, none⟩ = v1 := ⟨(h.cell (p := ⟨b, o0, none⟩) z).trans k0, (h.cell (p := ⟨b, o1, none⟩) z).trans k1⟩
theorem mv3 {B b : Nat} {w w' : World} {o0 o1 o2 : Nat} {v0 v1 v2 : Option Value} (h : Below B w w') (z : b < B) (k0 : w.cell? ⟨b, o0, none⟩ = v0) (k1 : w.cell? ⟨b, o1, none⟩ = v1) (k2 : w.cell? ⟨b, o2, none⟩ = v2) : w'.cell? ⟨b, o0, none⟩ = v0 ∧ w'.cell? ⟨b, o1, none⟩ = v1 ∧ w'.cell? ⟨b, o2, none⟩ = v2 := ⟨(h.cell (p := ⟨b, o0, none⟩) z).trans k0, (h.cell (p := ⟨b, o1, none⟩) z).trans k1, (h.cell (p := ⟨b, o2, none⟩) z).trans k2⟩
theorem mv4 {B b : Nat} {w w' : World} {o0 o1 o2 o3 : Nat} {v0 v1 v2 v3 : Option Value} (h : Below B w w') (z : b < B) (k0 : w.cell? ⟨b, o0, none⟩ = v0) (k1 : w.cell? ⟨b, o1, none⟩ = v1) (k2 : w.cell? ⟨b, o2, none⟩ = v2) (k3 : w.cell? ⟨b, o3, none⟩ = v3) : w'.cell? ⟨b, o0, none⟩ = v0 ∧ w'.cell? ⟨b, o1, none⟩ = v1 ∧ w'.cell? ⟨b, o2, none⟩ = v2 ∧ w'.cell? ⟨b, o3, none⟩ = v3 := ⟨(h.cell (p := ⟨b, o0, none⟩) z).trans k0, (h.cell (p := ⟨b, o1, none⟩) z).trans k1, (h.cell (p := ⟨b, o2, none⟩) z).trans k2, (h.cell (p := ⟨b, o3, none⟩) z).trans k3⟩
theorem mv5 {B b : Nat} {w w' : World} {o0 o1 o2 o3 o4 : Nat} {v0 v1 v2 v3 v4 : Option Value} (h : Below B w w') (z : b < B) (k0 : w.cell? ⟨b, o0, none⟩ = v0) (k1 : w.cell? ⟨b, o1, none⟩ = v1) (k2 : w.cell? ⟨b, o2, none⟩ = v2) (k3 : w.cell? ⟨b, o3, none⟩ = v3) (k4 : w.cell? ⟨b, o4, none⟩ = v4) : w'.cell? ⟨b, o0, none⟩ = v0 ∧ w'.cell? ⟨b, o1, none⟩ = v1 ∧ w'.cell? ⟨b, o2, none⟩ = v2 ∧ w'.cell? ⟨b, o3, none⟩ = v3 ∧ w'.cell? ⟨b, o4, none⟩ = v4 := ⟨(h.cell (p := ⟨b, o0, none⟩) z).trans k0, (h.cell (p := ⟨b, o1, none⟩) z).trans k1, (h.cell (p := ⟨b, o2, none⟩) z).trans k2, (h.cell (p := ⟨b, o3, none⟩) z).trans k3, (h.cell (p := ⟨b, o4, none⟩) z).trans k4⟩
theorem mv6 {B b : Nat} {w w' : World} {o0 o1 o2 o3 o4 o5 : Nat} {v0 v1 v2 v3 v4 v5 : Option Value} (h : Below B w w') (z : b < B) (k0 : w.cell? ⟨b, o0, none⟩ = v0) (k1 : w.cell? ⟨b, o1, none⟩ = v1) (k2 : w.cell? ⟨b, o2, none⟩ = v2) (k3 : w.cell? ⟨b, o3, none⟩ = v3) (k4 : w.cell? ⟨b, o4, none⟩ = v4) (k5 : w.cell? ⟨b, o5, none⟩ = v5) : w'.cell? ⟨b, o0, none⟩ = v0 ∧ w'.cell? ⟨b, o1, none⟩ = v1 ∧ w'.cell? ⟨b, o2, none⟩ = v2 ∧ w'.cell? ⟨b, o3, none⟩ = v3 ∧ w'.cell? ⟨b, o4, none⟩ = v4 ∧ w'.cell? ⟨b, o5, none⟩ = v5 := ⟨(h.cell (p := ⟨b, o0, none⟩) z).trans k0, (h.cell (p := ⟨b, o1, none⟩) z).trans k1, (h.cell (p := ⟨b, o2, none⟩) z).trans k2, (h.cell (p := ⟨b, o3, none⟩) z).trans k3, (h.cell (p := ⟨b, o4, none⟩) z).trans k4, (h.cell (p := ⟨b, o5, none⟩) z).trans k5⟩
theorem mv7 {B b : Nat} {w w' : World} {o0 o1 o2 o3 o4 o5 o6 : Nat} {v0 v1 v2 v3 v4 v5 v6 : Option Value} (h : Below B w w') (z : b < B) (k0 : w.cell? ⟨b, o0, none⟩ = v0) (k1 : w.cell? ⟨b, o1, none⟩ = v1) (k2 : w.cell? ⟨b, o2, none⟩ = v2) (k3 : w.cell? ⟨b, o3, none⟩ = v3) (k4 : w.cell? ⟨b, o4, none⟩ = v4) (k5 : w.cell? ⟨b, o5, none⟩ = v5) (k6 : w.cell? ⟨b, o6, none⟩ = v6) : w'.cell? ⟨b, o0, none⟩ = v0 ∧ w'.cell? ⟨b, o1, none⟩ = v1 ∧ w'.cell? ⟨b, o2, none⟩ = v2 ∧ w'.cell? ⟨b, o3, none⟩ = v3 ∧ w'.cell? ⟨b, o4, none⟩ = v4 ∧ w'.cell? ⟨b, o5, none⟩ = v5 ∧ w'.cell? ⟨b, o6, none⟩ = v6 := ⟨(h.cell (p := ⟨b, o0, none⟩) z).trans k0, (h.cell (p := ⟨b, o1, none⟩) z).trans k1, (h.cell (p := ⟨b, o2, none⟩) z).trans k2, (h.cell (p := ⟨b, o3, none⟩) z).trans k3, (h.cell (p := ⟨b, o4, none⟩) z).trans k4, (h.cell (p := ⟨b, o5, none⟩) z).trans k5, (h.cell (p := ⟨b, o6, none⟩) z).trans k6⟩
theorem mv8 {B b : Nat} {w w' : World} {o0 o1 o2 o3 o4 o5 o6 o7 : Nat} {v0 v1 v2 v3 v4 v5 v6 v7 : Option Value} (h : Below B w w') (z : b < B) (k0 : w.cell? ⟨b, o0, none⟩ = v0) (k1 : w.cell? ⟨b, o1, none⟩ = v1) (k2 : w.cell? ⟨b, o2, none⟩ = v2) (k3 : w.cell? ⟨b, o3, none⟩ = v3) (k4 : w.cell? ⟨b, o4, none⟩ = v4) (k5 : w.cell? ⟨b, o5, none⟩ = v5) (k6 : w.cell? ⟨b, o6, none⟩ = v6) (k7 : w.cell? ⟨b, o7, none⟩ = v7) : w'.cell? ⟨b, o0, none⟩ = v0 ∧ w'.cell? ⟨b, o1, none⟩ = v1 ∧ w'.cell? ⟨b, o2, none⟩ = v2 ∧ w'.cell? ⟨b, o3, none⟩ = v3 ∧ w'.cell? ⟨b, o4, none⟩ = v4 ∧ w'.cell? ⟨b, o5, none⟩ = v5 ∧ w'.cell? ⟨b, o6, none⟩ = v6 ∧ w'.cell? ⟨b, o7, none⟩ = v7 := ⟨(h.cell (p := ⟨b, o0, none⟩) z).trans k0, (h.cell (p := ⟨b, o1, none⟩) z).trans k1, (h.cell (p := ⟨b, o2, none⟩) z).trans k2, (h.cell (p := ⟨b, o3, none⟩) z).trans k3, (h.cell (p := ⟨b, o4, none⟩) z).trans k4, (h.cell (p := ⟨b, o5, none⟩) z).trans k5, (h.cell (p := ⟨b, o6, none⟩) z).trans k6, (h.cell (p := ⟨b, o7, none⟩) z).trans k7⟩
theorem mf2 {B b : Nat} {w w' : World} {o0 o1 : Nat} {v0 v1 : Bool} (h : Below B w w') (z : b < B) (k0 : w.frozen? ⟨b, o0, none⟩ = v0) (k1 : w.frozen? ⟨b, o1, none⟩ = v1) : w'.frozen? ⟨b, o0, none⟩ = v0 ∧ w'.frozen? ⟨b, o1, none⟩ = v1 := ⟨(h.frozen (p := ⟨b, o0, none⟩) z).trans k0, (h.frozen (p := ⟨b, o1, none⟩) z).trans k1⟩
theorem mf3 {B b : Nat} {w w' : World} {o0 o1 o2 : Nat} {v0 v1 v2 : Bool} (h : Below B w w') (z : b < B) (k0 : w.frozen? ⟨b, o0, none⟩ = v0) (k1 : w.frozen? ⟨b, o1, none⟩ = v1) (k2 : w.frozen? ⟨b, o2, none⟩ = v2) : w'.frozen? ⟨b, o0, none⟩ = v0 ∧ w'.frozen? ⟨b, o1, none⟩ = v1 ∧ w'.frozen? ⟨b, o2, none⟩ = v2 := ⟨(h.frozen (p := ⟨b, o0, none⟩) z).trans k0, (h.frozen (p := ⟨b, o1, none⟩) z).trans k1, (h.frozen (p := ⟨b, o2, none⟩) z).trans k2⟩
theorem mf4 {B b : Nat} {w w' : World} {o0 o1 o2 o3 : Nat} {v0 v1 v2 v3 : Bool} (h : Below B w w') (z : b < B) (k0 : w.frozen? ⟨b, o0, none⟩ = v0) (k1 : w.frozen? ⟨b, o1, none⟩ = v1) (k2 : w.frozen? ⟨b, o2, none⟩ = v2) (k3 : w.frozen? ⟨b, o3, none⟩ = v3) : w'.frozen? ⟨b, o0, none⟩ = v0 ∧ w'.frozen? ⟨b, o1, none⟩ = v1 ∧ w'.frozen? ⟨b, o2, none⟩ = v2 ∧ w'.frozen? ⟨b, o3, none⟩ = v3 := ⟨(h.frozen (p := ⟨b, o0, none⟩) z).trans k0, (h.frozen (p := ⟨b, o1, none⟩) z).trans k1, (h.frozen (p := ⟨b, o2, none⟩) z).trans k2, (h.frozen (p := ⟨b, o3, none⟩) z).trans k3⟩
theorem mf5 {B b : Nat} {w w' : World} {o0 o1 o2 o3 o4 : Nat} {v0 v1 v2 v3 v4 : Bool} (h : Below B w w') (z : b < B) (k0 : w.frozen? ⟨b, o0, none⟩ = v0) (k1 : w.frozen? ⟨b, o1, none⟩ = v1) (k2 : w.frozen? ⟨b, o2, none⟩ = v2) (k3 : w.frozen? ⟨b, o3, none⟩ = v3) (k4 : w.frozen? ⟨b, o4, none⟩ = v4) : w'.frozen? ⟨b, o0, none⟩ = v0 ∧ w'.frozen? ⟨b, o1, none⟩ = v1 ∧ w'.frozen? ⟨b, o2, none⟩ = v2 ∧ w'.frozen? ⟨b, o3, none⟩ = v3 ∧ w'.frozen? ⟨b, o4, none⟩ = v4 := ⟨(h.frozen (p := ⟨b, o0, none⟩) z).trans k0, (h.frozen (p := ⟨b, o1, none⟩) z).trans k1, (h.frozen (p := ⟨b, o2, none⟩) z).trans k2, (h.frozen (p := ⟨b, o3, none⟩) z).trans k3, (h.frozen (p := ⟨b, o4, none⟩) z).trans k4⟩
theorem mf6 {B b : Nat} {w w' : World} {o0 o1 o2 o3 o4 o5 : Nat} {v0 v1 v2 v3 v4 v5 : Bool} (h : Below B w w') (z : b < B) (k0 : w.frozen? ⟨b, o0, none⟩ = v0) (k1 : w.frozen? ⟨b, o1, none⟩ = v1) (k2 : w.frozen? ⟨b, o2, none⟩ = v2) (k3 : w.frozen? ⟨b, o3, none⟩ = v3) (k4 : w.frozen? ⟨b, o4, none⟩ = v4) (k5 : w.frozen? ⟨b, o5, none⟩ = v5) : w'.frozen? ⟨b, o0, none⟩ = v0 ∧ w'.frozen? ⟨b, o1, none⟩ = v1 ∧ w'.frozen? ⟨b, o2, none⟩ = v2 ∧ w'.frozen? ⟨b, o3, none⟩ = v3 ∧ w'.frozen? ⟨b, o4, none⟩ = v4 ∧ w'.frozen? ⟨b, o5, none⟩ = v5 := ⟨(h.frozen (p := ⟨b, o0, none⟩) z).trans k0, (h.frozen (p := ⟨b, o1, none⟩) z).trans k1, (h.frozen (p := ⟨b, o2, none⟩) z).trans k2, (h.frozen (p := ⟨b, o3, none⟩) z).trans k3, (h.frozen (p := ⟨b, o4, none⟩) z).trans k4, (h.frozen (p := ⟨b, o5, none⟩) z).trans k5⟩
theorem mf7 {B b : Nat} {w w' : World} {o0 o1 o2 o3 o4 o5 o6 : Nat} {v0 v1 v2 v3 v4 v5 v6 : Bool} (h : Below B w w') (z : b < B) (k0 : w.frozen? ⟨b, o0, none⟩ = v0) (k1 : w.frozen? ⟨b, o1, none⟩ = v1) (k2 : w.frozen? ⟨b, o2, none⟩ = v2) (k3 : w.frozen? ⟨b, o3, none⟩ = v3) (k4 : w.frozen? ⟨b, o4, none⟩ = v4) (k5 : w.frozen? ⟨b, o5, none⟩ = v5) (k6 : w.frozen? ⟨b, o6, none⟩ = v6) : w'.frozen? ⟨b, o0, none⟩ = v0 ∧ w'.frozen? ⟨b, o1, none⟩ = v1 ∧ w'.frozen? ⟨b, o2, none⟩ = v2 ∧ w'.frozen? ⟨b, o3, none⟩ = v3 ∧ w'.frozen? ⟨b, o4, none⟩ = v4 ∧ w'.frozen? ⟨b, o5, none⟩ = v5 ∧ w'.frozen? ⟨b, o6, none⟩ = v6 := ⟨(h.frozen (p := ⟨b, o0, none⟩) z).trans k0, (h.frozen (p := ⟨b, o1, none⟩) z).trans k1, (h.frozen (p := ⟨b, o2, none⟩) z).trans k2, (h.frozen (p := ⟨b, o3, none⟩) z).trans k3, (h.frozen (p := ⟨b, o4, none⟩) z).trans k4, (h.frozen (p := ⟨b, o5, none⟩) z).trans k5, (h.frozen (p := ⟨b, o6, none⟩) z).trans k6⟩
theorem mf8 {B b : Nat} {w w' : World} {o0 o1 o2 o3 o4 o5 o6 o7 : Nat} {v0 v1 v2 v3 v4 v5 v6 v7 : Bool} (h : Below B w w') (z : b < B) (k0 : w.frozen? ⟨b, o0, none⟩ = v0) (k1 : w.frozen? ⟨b, o1, none⟩ = v1) (k2 : w.frozen? ⟨b, o2, none⟩ = v2) (k3 : w.frozen? ⟨b, o3, none⟩ = v3) (k4 : w.frozen? ⟨b, o4, none⟩ = v4) (k5 : w.frozen? ⟨b, o5, none⟩ = v5) (k6 : w.frozen? ⟨b, o6, none⟩ = v6) (k7 : w.frozen? ⟨b, o7, none⟩ = v7) : w'.frozen? ⟨b, o0, none⟩ = v0 ∧ w'.frozen? ⟨b, o1, none⟩ = v1 ∧ w'.frozen? ⟨b, o2, none⟩ = v2 ∧ w'.frozen? ⟨b, o3, none⟩ = v3 ∧ w'.frozen? ⟨b, o4, none⟩ = v4 ∧ w'.frozen? ⟨b, o5, none⟩ = v5 ∧ w'.frozen? ⟨b, o6, none⟩ = v6 ∧ w'.frozen? ⟨b, o7, none⟩ = v7 := ⟨(h.frozen (p := ⟨b, o0, none⟩) z).trans k0, (h.frozen (p := ⟨b, o1, none⟩) z).trans k1, (h.frozen (p := ⟨b, o2, none⟩) z).trans k2, (h.frozen (p := ⟨b, o3, none⟩) z).trans k3, (h.frozen (p := ⟨b, o4, none⟩) z).trans k4, (h.frozen (p := ⟨b, o5, none⟩) z).trans k5, (h.frozen (p := ⟨b, o6, none⟩) z).trans k6, (h.frozen (p := ⟨b, o7, none⟩) z).trans k7⟩
theorem mx2 {X : Type} {B b : Nat} {w : World} {F : X → World} {o0 o1 : Nat} {v0 v1 : Option Value} (h : ∀ x, Below B w (F x)) (z : b < B) (k0 : w.cell? ⟨b, o0, none⟩ = v0) (k1 : w.cell? ⟨b, o1, none⟩ = v1) : (∀ x, (F x).cell? ⟨b, o0, none⟩ = v0) ∧ (∀ x, (F x).cell? ⟨b, o1, none⟩ = v1) := ⟨fun x => ((h x).cell (p := ⟨b, o0, none⟩) z).trans k0, fun x => ((h x).cell (p := ⟨b, o1, none⟩) z).trans k1⟩
theorem mx3 {X : Type} {B b : Nat} {w : World} {F : X → World} {o0 o1 o2 : Nat} {v0 v1 v2 : Option Value} (h : ∀ x, Below B w (F x)) (z : b < B) (k0 : w.cell? ⟨b, o0, none⟩ = v0) (k1 : w.cell? ⟨b, o1, none⟩ = v1) (k2 : w.cell? ⟨b, o2, none⟩ = v2) : (∀ x, (F x).cell? ⟨b, o0, none⟩ = v0) ∧ (∀ x, (F x).cell? ⟨b, o1, none⟩ = v1) ∧ (∀ x, (F x).cell? ⟨b, o2, none⟩ = v2) := ⟨fun x => ((h x).cell (p := ⟨b, o0, none⟩) z).trans k0, fun x => ((h x).cell (p := ⟨b, o1, none⟩) z).trans k1, fun x => ((h x).cell (p := ⟨b, o2, none⟩) z).trans k2⟩
theorem mx4 {X : Type} {B b : Nat} {w : World} {F : X → World} {o0 o1 o2 o3 : Nat} {v0 v1 v2 v3 : Option Value} (h : ∀ x, Below B w (F x)) (z : b < B) (k0 : w.cell? ⟨b, o0, none⟩ = v0) (k1 : w.cell? ⟨b, o1, none⟩ = v1) (k2 : w.cell? ⟨b, o2, none⟩ = v2) (k3 : w.cell? ⟨b, o3, none⟩ = v3) : (∀ x, (F x).cell? ⟨b, o0, none⟩ = v0) ∧ (∀ x, (F x).cell? ⟨b, o1, none⟩ = v1) ∧ (∀ x, (F x).cell? ⟨b, o2, none⟩ = v2) ∧ (∀ x, (F x).cell? ⟨b, o3, none⟩ = v3) := ⟨fun x => ((h x).cell (p := ⟨b, o0, none⟩) z).trans k0, fun x => ((h x).cell (p := ⟨b, o1, none⟩) z).trans k1, fun x => ((h x).cell (p := ⟨b, o2, none⟩) z).trans k2, fun x => ((h x).cell (p := ⟨b, o3, none⟩) z).trans k3⟩
theorem mx5 {X : Type} {B b : Nat} {w : World} {F : X → World} {o0 o1 o2 o3 o4 : Nat} {v0 v1 v2 v3 v4 : Option Value} (h : ∀ x, Below B w (F x)) (z : b < B) (k0 : w.cell? ⟨b, o0, none⟩ = v0) (k1 : w.cell? ⟨b, o1, none⟩ = v1) (k2 : w.cell? ⟨b, o2, none⟩ = v2) (k3 : w.cell? ⟨b, o3, none⟩ = v3) (k4 : w.cell? ⟨b, o4, none⟩ = v4) : (∀ x, (F x).cell? ⟨b, o0, none⟩ = v0) ∧ (∀ x, (F x).cell? ⟨b, o1, none⟩ = v1) ∧ (∀ x, (F x).cell? ⟨b, o2, none⟩ = v2) ∧ (∀ x, (F x).cell? ⟨b, o3, none⟩ = v3) ∧ (∀ x, (F x).cell? ⟨b, o4, none⟩ = v4) := ⟨fun x => ((h x).cell (p := ⟨b, o0, none⟩) z).trans k0, fun x => ((h x).cell (p := ⟨b, o1, none⟩) z).trans k1, fun x => ((h x).cell (p := ⟨b, o2, none⟩) z).trans k2, fun x => ((h x).cell (p := ⟨b, o3, none⟩) z).trans k3, fun x => ((h x).cell (p := ⟨b, o4, none⟩) z).trans k4⟩
theorem mx6 {X : Type} {B b : Nat} {w : World} {F : X → World} {o0 o1 o2 o3 o4 o5 : Nat} {v0 v1 v2 v3 v4 v5 : Option Value} (h : ∀ x, Below B w (F x)) (z : b < B) (k0 : w.cell? ⟨b, o0, none⟩ = v0) (k1 : w.cell? ⟨b, o1, none⟩ = v1) (k2 : w.cell? ⟨b, o2, none⟩ = v2) (k3 : w.cell? ⟨b, o3, none⟩ = v3) (k4 : w.cell? ⟨b, o4, none⟩ = v4) (k5 : w.cell? ⟨b, o5, none⟩ = v5) : (∀ x, (F x).cell? ⟨b, o0, none⟩ = v0) ∧ (∀ x, (F x).cell? ⟨b, o1, none⟩ = v1) ∧ (∀ x, (F x).cell? ⟨b, o2, none⟩ = v2) ∧ (∀ x, (F x).cell? ⟨b, o3, none⟩ = v3) ∧ (∀ x, (F x).cell? ⟨b, o4, none⟩ = v4) ∧ (∀ x, (F x).cell? ⟨b, o5, none⟩ = v5) := ⟨fun x => ((h x).cell (p := ⟨b, o0, none⟩) z).trans k0, fun x => ((h x).cell (p := ⟨b, o1, none⟩) z).trans k1, fun x => ((h x).cell (p := ⟨b, o2, none⟩) z).trans k2, fun x => ((h x).cell (p := ⟨b, o3, none⟩) z).trans k3, fun x => ((h x).cell (p := ⟨b, o4, none⟩) z).trans k4, fun x => ((h x).cell (p := ⟨b, o5, none⟩) z).trans k5⟩
theorem mx7 {X : Type} {B b : Nat} {w : World} {F : X → World} {o0 o1 o2 o3 o4 o5 o6 : Nat} {v0 v1 v2 v3 v4 v5 v6 : Option Value} (h : ∀ x, Below B w (F x)) (z : b < B) (k0 : w.cell? ⟨b, o0, none⟩ = v0) (k1 : w.cell? ⟨b, o1, none⟩ = v1) (k2 : w.cell? ⟨b, o2, none⟩ = v2) (k3 : w.cell? ⟨b, o3, none⟩ = v3) (k4 : w.cell? ⟨b, o4, none⟩ = v4) (k5 : w.cell? ⟨b, o5, none⟩ = v5) (k6 : w.cell? ⟨b, o6, none⟩ = v6) : (∀ x, (F x).cell? ⟨b, o0, none⟩ = v0) ∧ (∀ x, (F x).cell? ⟨b, o1, none⟩ = v1) ∧ (∀ x, (F x).cell? ⟨b, o2, none⟩ = v2) ∧ (∀ x, (F x).cell? ⟨b, o3, none⟩ = v3) ∧ (∀ x, (F x).cell? ⟨b, o4, none⟩ = v4) ∧ (∀ x, (F x).cell? ⟨b, o5, none⟩ = v5) ∧ (∀ x, (F x).cell? ⟨b, o6, none⟩ = v6) := ⟨fun x => ((h x).cell (p := ⟨b, o0, none⟩) z).trans k0, fun x => ((h x).cell (p := ⟨b, o1, none⟩) z).trans k1, fun x => ((h x).cell (p := ⟨b, o2, none⟩) z).trans k2, fun x => ((h x).cell (p := ⟨b, o3, none⟩) z).trans k3, fun x => ((h x).cell (p := ⟨b, o4, none⟩) z).trans k4, fun x => ((h x).cell (p := ⟨b, o5, none⟩) z).trans k5, fun x => ((h x).cell (p := ⟨b, o6, none⟩) z).trans k6⟩
theorem mx8 {X : Type} {B b : Nat} {w : World} {F : X → World} {o0 o1 o2 o3 o4 o5 o6 o7 : Nat} {v0 v1 v2 v3 v4 v5 v6 v7 : Option Value} (h : ∀ x, Below B w (F x)) (z : b < B) (k0 : w.cell? ⟨b, o0, none⟩ = v0) (k1 : w.cell? ⟨b, o1, none⟩ = v1) (k2 : w.cell? ⟨b, o2, none⟩ = v2) (k3 : w.cell? ⟨b, o3, none⟩ = v3) (k4 : w.cell? ⟨b, o4, none⟩ = v4) (k5 : w.cell? ⟨b, o5, none⟩ = v5) (k6 : w.cell? ⟨b, o6, none⟩ = v6) (k7 : w.cell? ⟨b, o7, none⟩ = v7) : (∀ x, (F x).cell? ⟨b, o0, none⟩ = v0) ∧ (∀ x, (F x).cell? ⟨b, o1, none⟩ = v1) ∧ (∀ x, (F x).cell? ⟨b, o2, none⟩ = v2) ∧ (∀ x, (F x).cell? ⟨b, o3, none⟩ = v3) ∧ (∀ x, (F x).cell? ⟨b, o4, none⟩ = v4) ∧ (∀ x, (F x).cell? ⟨b, o5, none⟩ = v5) ∧ (∀ x, (F x).cell? ⟨b, o6, none⟩ = v6) ∧ (∀ x, (F x).cell? ⟨b, o7, none⟩ = v7) := ⟨fun x => ((h x).cell (p := ⟨b, o0, none⟩) z).trans k0, fun x => ((h x).cell (p := ⟨b, o1, none⟩) z).trans k1, fun x => ((h x).cell (p := ⟨b, o2, none⟩) z).trans k2, fun x => ((h x).cell (p := ⟨b, o3, none⟩) z).trans k3, fun x => ((h x).cell (p := ⟨b, o4, none⟩) z).trans k4, fun x => ((h x).cell (p := ⟨b, o5, none⟩) z).trans k5, fun x => ((h x).cell (p := ⟨b, o6, none⟩) z).trans k6, fun x => ((h x).cell (p := ⟨b, o7, none⟩) z).trans k7⟩
end Go.Proofs.Ytiahgjnpinjblaa

namespace Go.Proofs.Ytiahgjnpinjblaa
open Go.RowKit

theorem setCell_heap {w : World} {g o : Nat} {cur : Array Value} {E : TypeId} {fr : Nat × Nat} {v : Value} (hg : w.heap[g]? = some (.cells cur E fr)) :
    (w.setCell ⟨g, o, none⟩ v).heap[g]? = some (.cells (cur.setIfInBounds o v) E fr) := by
  simp only [World.setCell, Array.getElem?_modify, hg, if_true, Option.map_some, Option.isSome_none, Bool.false_eq_true, if_false]
theorem setCells_heap {g : Nat} {E : TypeId} {fr : Nat × Nat} : ∀ (vs : List Value) (w : World) (o : Nat) (cur : List Value), w.heap[g]? = some (.cells cur.toArray E fr) → o + vs.length ≤ cur.length →
    (w.setCells g o vs).heap[g]? = some (.cells (cur.take o ++ (vs ++ cur.drop (o + vs.length))).toArray E fr)
  | [], w, o, cur, hg, _ => by simp [World.setCells, hg]
  | v :: r, w, o, cur, hg, hl => by
    have h1 := setCell_heap (o := o) (v := v) hg
    simp only [List.setIfInBounds_toArray] at h1
    simp only [List.length_cons] at hl
    rw [World.setCells, setCells_heap r _ (o + 1) (cur.set o v) h1 (by simp; omega)]
    congr 3
    have ho : o < cur.length := by omega
    rw [List.take_succ_eq_append_getElem (by simpa using ho)]
    simp only [List.getElem_set_self, List.take_set, List.drop_set, List.length_cons, List.append_assoc, List.cons_append, List.nil_append]
    rw [List.set_eq_of_length_le (by simp; omega)]
    have e : o + 1 + r.length = o + (r.length + 1) := by omega
    rw [e]
    rw [if_pos (by omega)]
theorem setCells_other {g : Nat} : ∀ (vs : List Value) (w : World) (o k : Nat), k ≠ g → (w.setCells g o vs).heap[k]? = w.heap[k]?
  | [], _, _, _, _ => rfl
  | v :: r, w, o, k, hk => by
    rw [World.setCells, setCells_other r _ _ k hk]
    exact Below.heap_setCell w ⟨g, o, none⟩ v k hk
theorem setCells_size {g : Nat} : ∀ (vs : List Value) (w : World) (o : Nat), (w.setCells g o vs).heap.size = w.heap.size
  | [], _, _ => rfl
  | v :: r, w, o => by rw [World.setCells, setCells_size r]; simp
theorem setCells_rest {g : Nat} : ∀ (vs : List Value) (w : World) (o : Nat), (w.setCells g o vs).os = w.os ∧ (w.setCells g o vs).tape = w.tape ∧ (w.setCells g o vs).output = w.output
  | [], _, _ => ⟨rfl, rfl, rfl⟩
  | v :: r, w, o => by rw [World.setCells]; exact setCells_rest r _ _
theorem below_setCells {B g o : Nat} {a w : World} {vs : List Value} (h : Below B a w) (hg : B ≤ g) : Below B a (w.setCells g o vs) :=
  h.trans ⟨(setCells_rest vs w o).1, (setCells_rest vs w o).2.1, (setCells_rest vs w o).2.2, by rw [setCells_size]; exact Nat.le_refl _, fun k hk => setCells_other vs w o k (by omega)⟩
theorem row_cell {w : World} {g o : Nat} {cur : List Value} {E : TypeId} {fr : Nat × Nat} (hg : w.heap[g]? = some (.cells cur.toArray E fr)) : w.cell? ⟨g, o, none⟩ = cur[o]? := by
  simp [World.cell?, hg]
theorem row_frozen {w : World} {g o : Nat} {cur : Array Value} {E : TypeId} (hg : w.heap[g]? = some (.cells cur E (0, 0))) : w.frozen? ⟨g, o, none⟩ = false := by
  simp [World.frozen?, hg]
theorem row_at {w : World} {g : Nat} {c1 c2 c3 : List Value} {E : TypeId} {fr : Nat × Nat} (hg : w.heap[g]? = some (.cells (c1 ++ (c2 ++ c3)).toArray E fr)) : At w g c1.length c2 := by
  intro j v hj
  have hlt : j < c2.length := (List.getElem?_eq_some_iff.1 hj).1
  rw [row_cell hg, List.getElem?_append_right (by omega), List.getElem?_append_left (by omega)]
  simpa using hj

/-- rows of one's own, the first k elements filled -/
def Fill {α : Type} [GoT α] (E : TypeId) (w : World) (B g : Nat) (l : List α) (k : Nat) : Prop :=
  ∃ cs fs rest, w.heap[g]? = some (.cells (cs ++ rest).toArray E (0, 0)) ∧ Els BIG w cs (l.take k) fs ∧ rest.length = (l.length - k) * GoT.n α ∧ Fresh B w fs ∧ (∀ p ∈ fs, p.1 ≠ g) ∧ B ≤ g ∧ k ≤ l.length ∧ l.length ≤ BIG
section
variable {α : Type} [GoT α] {E : TypeId} {w w' : World} {B g k : Nat} {l : List α}
theorem Fill.start {z : List Value} {c : Nat} (h : w.ownsRow B E (GoT.n α) (.slice (some ⟨g, 0, none⟩) l.length c) l.length z) (hc : c = l.length) (hl : l.length ≤ BIG) : Fill E w B g l 0 := by
  obtain ⟨hz, h | ⟨g', cap, cur, hv, hb, hg, h1, h2, h3, h4⟩⟩ := h
  · simp at h
  · simp only [Value.slice.injEq, Option.some.injEq, Addr.mk.injEq] at hv
    obtain ⟨⟨rfl, _⟩, _, rfl⟩ := hv
    subst hc
    refine ⟨[], [], cur.toList, by simpa using hg, ⟨rfl, rfl⟩, by simpa using h3, ⟨List.nodup_nil, fun _ h => (by cases h), fun _ h => (by cases h)⟩, fun _ h => (by cases h), hb, Nat.zero_le _, hl⟩
theorem Fill.lt (h : Fill E w B g l k) : g < w.heap.size := by
  obtain ⟨cs, fs, rest, hg, _⟩ := h
  exact (Array.getElem?_eq_some_iff.1 hg).1
theorem Fill.below (h : Fill E w B g l k) (hb : Below w.heap.size w w') : Fill E w' B g l k := by
  have hlt := h.lt
  obtain ⟨cs, fs, rest, hg, he, hr, hf, hn, h1⟩ := h
  have hl := Live.lt he.live
  exact ⟨cs, fs, rest, by rw [hb.block g hlt]; exact hg, he.keep (Live.same_below hb hl), hr, hf.below hb hl, hn, h1⟩
/-- the cells that the next element takes: they are there, not frozen -/
theorem Fill.cells (h : Fill E w B g l k) (hk : k < l.length) (j : Nat) (hj : j < GoT.n α) : (∃ v, w.cell? ⟨g, k * GoT.n α + j, none⟩ = some v) ∧ w.frozen? ⟨g, k * GoT.n α + j, none⟩ = false := by
  obtain ⟨cs, fs, rest, hg, he, hr, hf, hn, h1, h2, h3⟩ := h
  refine ⟨?_, row_frozen hg⟩
  rw [row_cell hg]
  have hc := he.length
  rw [List.length_take, Nat.min_eq_left (by omega)] at hc
  have : GoT.n α ≤ rest.length := by
    rw [hr]
    exact Nat.le_mul_of_pos_left _ (by omega)
  exact ⟨_, List.getElem?_eq_getElem (by simp; omega)⟩
theorem Fill.step {w0 : World} {x : α} {c : List Value} (h : Fill E w0 B g l k) (hb : Below w0.heap.size w0 w) (hx : l[k]? = some x) (ho : Own w0.heap.size w c x) : Fill E (w.setCells g (k * GoT.n α) c) B g l (k + 1) := by
  have hg0 := h.lt
  have hkl : k < l.length := (List.getElem?_eq_some_iff.1 hx).1
  obtain ⟨cs, fs, rest, hg, he, hr, hf, hn, h1, h2, h3⟩ := h
  have hlv := Live.lt he.live
  obtain ⟨f, hrd, hfr⟩ := ho
  have hcl := GoT.len hrd
  have hc := he.length
  rw [List.length_take, Nat.min_eq_left (by omega)] at hc
  have hrn : GoT.n α ≤ rest.length := by rw [hr]; exact Nat.le_mul_of_pos_left _ (by omega)
  rw [← hb.block g hg0] at hg
  have he' := he.keep (Live.same_below hb hlv)
  have hf' := hf.below hb hlv
  have hset := setCells_heap c w (k * GoT.n α) (cs ++ rest) hg (by simp; omega)
  have hsame : Same w (w.setCells g (k * GoT.n α) c) (fs ++ f) := by
    intro p hp
    have hpg : p.1 ≠ g := by
      rcases List.mem_append.1 hp with hp | hp
      · exact hn p hp
      · have := hfr.ge p hp; omega
    exact World.cell?_of_block (w := w) (a := ⟨p.1, p.2, none⟩) (setCells_other c w _ p.1 hpg)
  have hfrz : ∀ p : Pos, p.1 ≠ g → (w.setCells g (k * GoT.n α) c).frozen? ⟨p.1, p.2, none⟩ = w.frozen? ⟨p.1, p.2, none⟩ := fun p hp =>
    World.frozen?_of_block (w := w) (a := ⟨p.1, p.2, none⟩) (setCells_other c w _ p.1 hp)
  refine ⟨cs ++ c, fs ++ f, rest.drop (GoT.n α), ?_, ?_, ?_, ⟨?_, ?_, ?_⟩, ?_, h1, hkl, h3⟩
  · rw [hset]
    congr 3
    rw [← hc, List.take_left, hcl, List.drop_append]
    simp [List.append_assoc]
  · rw [take_snoc hx]
    exact Els.snoc (he'.keep (Same.append.1 hsame).1) (GoT.keep hrd (Same.append.1 hsame).2)
  · rw [List.length_drop, hr, show l.length - k = (l.length - (k + 1)) + 1 by omega, Nat.add_mul]; omega
  · rw [List.nodup_append]
    refine ⟨hf'.nodup, hfr.nodup, fun a ha b hb' e => ?_⟩
    have := hlv a ha
    have := hfr.ge b hb'
    rw [e] at *
    omega
  · intro p hp
    rcases List.mem_append.1 hp with hp | hp
    · exact hf.ge p hp
    · have := hfr.ge p hp; omega
  · intro p hp
    rcases List.mem_append.1 hp with hp | hp
    · rw [hfrz p (hn p hp)]; exact hf'.free p hp
    · rw [hfrz p (by have := hfr.ge p hp; omega)]; exact hfr.free p hp
  · intro p hp
    rcases List.mem_append.1 hp with hp | hp
    · exact hn p hp
    · have := hfr.ge p hp; omega
theorem Fill.done (h : Fill E w B g l l.length) : OwnS B w (.slice (some ⟨g, 0, none⟩) l.length l.length) l := by
  obtain ⟨cs, fs, rest, hg, he, hr, hf, hn, h1, h2, h3⟩ := h
  rw [List.take_length] at he
  have hre : rest = [] := List.eq_nil_of_length_eq_zero (by rw [hr]; simp)
  subst hre
  simp only [List.append_nil] at hg
  have hc := he.length
  refine ⟨own g 0 (l.length * GoT.n α) ++ fs, .inr ⟨g, 0, l.length, cs, fs, rfl, Nat.le_refl _, ?_, h3, ?_, he, ?_, rfl⟩, ?_, ?_, ?_⟩
  · have := BIG_le h3; unfold maxLen; omega
  · have := row_at (c1 := []) (c2 := cs) (c3 := []) (by simpa using hg)
    simpa using this
  · intro p hp
    obtain ⟨e1, e2, e3⟩ := mem_own.1 hp
    rw [e1, row_cell hg, List.getElem?_eq_getElem (by omega)]
    rfl
  · rw [List.nodup_append]
    exact ⟨own_nodup _ _ _, hf.nodup, fun a ha b hb e => hn b hb (by rw [← e]; exact (mem_own.1 ha).1)⟩
  · intro p hp
    rcases List.mem_append.1 hp with hp | hp
    · rw [(mem_own.1 hp).1]; exact h1
    · exact hf.ge p hp
  · intro p hp
    rcases List.mem_append.1 hp with hp | hp
    · rw [(mem_own.1 hp).1]; exact row_frozen hg
    · exact hf.free p hp
end
end Go.Proofs.Ytiahgjnpinjblaa

namespace Go.Proofs.Ytiahgjnpinjblaa
open Go.RowKit
theorem sz_int : ∀ w1, (sizeOf 3).run Try.prog w1 = .ok 1 w1 := fun _ => by kernel_rfl

/-- the measure: what is left, or -1 -/
def less (left : Int) (n : Nat) : Int := if (n : Int) ≤ left then left - n else -1
theorem less_pos {left : Int} {n : Nat} (h : (n : Int) ≤ left) : less left n = left - n := if_pos h
theorem less_neg {left : Int} {n : Nat} (h : ¬ (n : Int) ≤ left) : less left n = -1 := if_neg h
theorem info_int : (Try.prog.info? 3).map (fun i => (i.zero, i.size, i.bytes)) = some (some (.int .i64 0), 1, 8) := by kernel_rfl
end Go.Proofs.Ytiahgjnpinjblaa

namespace Go.Proofs.Ytiahgjnpinjblaa
open Go.RowKit

/-- a slice taken apart at its k-th element, and put together again when that element has been written -/
theorem Sl.lens {α : Type} [GoT α] {M : Nat} {w : World} {v : Value} {l : List α} {fp : List Pos} (h : Sl M w v l fp) (nd : fp.Nodup) {P : Program} {T E : TypeId} (hT : P.underlying T = some (.slice E))
    (hl : ∀ w1, (sizeOf E).run P w1 = .ok (GoT.n α) w1) (k : Nat) {x : α} (hk : l[k]? = some x) :
    ∃ b o cs f, (∀ w1, (Instr.indexAt T v (.int .i64 k)).run P w1 = .ok (.pointer (some ⟨b, o, none⟩)) w1) ∧ At w b o cs ∧ GoT.rd M w cs x f ∧ (∀ j < GoT.n α, (b, o + j) ∈ fp ∧ (b, o + j) ∉ f) ∧
      (∀ p ∈ f, p ∈ fp) ∧ f.Nodup ∧
      (∀ w' cs' x', At w' b o cs' → GoT.rd M w' cs' x' f → (∀ p ∈ fp, p ∉ f → (∀ j < GoT.n α, p ≠ (b, o + j)) → w'.cell? ⟨p.1, p.2, none⟩ = w.cell? ⟨p.1, p.2, none⟩) → Sl M w' v (l.set k x') fp) := by
  have hlt : k < l.length := (List.getElem?_eq_some_iff.1 hk).1
  rcases h with ⟨ao, rfl, rfl, _⟩ | ⟨b, o, cap, cs, fs, rfl, h1, h2, h3, ha, he, hlv, rfl⟩
  · simp at hlt
  · obtain ⟨c1, c2, c3, f1, f2, f3, rfl, rfl, hc1, e1, hx, e3⟩ := he.at_ k hk
    obtain ⟨ndo, ndf, dis⟩ := List.nodup_append.1 nd
    obtain ⟨nd12, nd3, dis3⟩ := List.nodup_append.1 ndf
    obtain ⟨nd1, nd2, dis12⟩ := List.nodup_append.1 nd12
    have hc2 := GoT.len hx
    have hc3 := e3.length
    rw [List.length_drop] at hc3
    have hkn : k * GoT.n α + GoT.n α ≤ cap * GoT.n α := by
      have := Nat.mul_le_mul_right (GoT.n α) (show k + 1 ≤ cap by omega)
      rwa [Nat.add_mul, Nat.one_mul] at this
    have hall : k * GoT.n α + GoT.n α + c3.length ≤ cap * GoT.n α := by
      have := Nat.mul_le_mul_right (GoT.n α) h1
      rw [hc3]
      have e : l.length = k + 1 + (l.length - (k + 1)) := by omega
      rw [e, Nat.add_mul, Nat.add_mul, Nat.one_mul] at this
      simpa using this
    have hown : ∀ j < GoT.n α, ((b, o + k * GoT.n α + j) : Pos) ∈ own b o (cap * GoT.n α) := fun j hj => mem_own.2 ⟨rfl, by simp; omega, by simp; omega⟩
    refine ⟨b, o + k * GoT.n α, c2, f2, fun w1 => ?_, ?_, hx, fun j hj => ⟨List.mem_append.2 (.inl (hown j hj)), fun hm => dis _ (hown j hj) _ (by simp [hm]) rfl⟩, fun p hp => by simp [hp], nd2, ?_⟩
    · have hi : ¬ l.length ≤ k := by omega
      simp [Instr.indexAt, run_underlying hT, asIntOf, hl, Addr.add_lit, Result.andThen]
      intro hh
      exact absurd hh hi
    · have := (At.append.1 (At.append.1 ha).1).2
      rwa [hc1] at this
    · intro w' cs' x' ha' hx' hsame
      have hcs' := GoT.len hx'
      obtain ⟨ha12, ha3⟩ := At.append.1 ha
      obtain ⟨ha1, ha2⟩ := At.append.1 ha12
      rw [hc1] at ha2
      rw [List.length_append, hc1, hc2] at ha3
      have oth : ∀ q : Nat, q < cap * GoT.n α → (q < k * GoT.n α ∨ k * GoT.n α + GoT.n α ≤ q) → w'.cell? ⟨b, o + q, none⟩ = w.cell? ⟨b, o + q, none⟩ := by
        intro q hq hor
        have hm : ((b, o + q) : Pos) ∈ own b o (cap * GoT.n α) := mem_own.2 ⟨rfl, by simp, by simp; omega⟩
        refine hsame (b, o + q) (List.mem_append.2 (.inl hm)) (fun hf => dis _ hm _ (by simp [hf]) rfl) (fun j hj e => ?_)
        simp only [Prod.mk.injEq, true_and] at e
        omega
      have s13 : Same w w' (f1 ++ f3) := by
        intro p hp
        refine hsame p (by rcases List.mem_append.1 hp with hp | hp <;> simp [hp]) (fun hf => ?_) (fun j hj e => ?_)
        · rcases List.mem_append.1 hp with hp | hp
          · exact dis12 _ hp _ hf rfl
          · exact dis3 _ (List.mem_append.2 (.inr hf)) _ hp rfl
        · subst e
          exact dis _ (hown j hj) _ (by rcases List.mem_append.1 hp with hp | hp <;> simp [hp]) rfl
      obtain ⟨s1, s3⟩ := Same.append.1 s13
      refine .inr ⟨b, o, cap, c1 ++ cs' ++ c3, f1 ++ f2 ++ f3, by rw [List.length_set], by rw [List.length_set]; exact h1, h2, by rw [List.length_set]; exact h3, ?_, ?_, ?_, rfl⟩
      · refine At.append.2 ⟨At.append.2 ⟨ha1.keep fun j hj => oth j (by omega) (.inl (by omega)), by rw [hc1]; exact ha'⟩, ?_⟩
        rw [List.length_append, hc1, hcs']
        refine ha3.keep fun j hj => ?_
        rw [Nat.add_assoc]
        exact oth _ (by omega) (.inr (by omega))
      · have hset : l.set k x' = l.take k ++ ([x'] ++ l.drop (k + 1)) := by rw [List.set_eq_take_append_cons_drop, if_pos hlt]; rfl
        rw [hset, List.append_assoc]
        refine Els.append.2 ⟨c1, cs' ++ c3, f1, f2 ++ f3, rfl, e1.keep s1, Els.append.2 ⟨cs', c3, f2, f3, rfl, Els.single hx', e3.keep s3, rfl⟩, by simp⟩
      · intro p hp
        obtain ⟨q1, q2, q3⟩ := mem_own.1 hp
        obtain ⟨pb, po⟩ := p
        simp only at q1 q2 q3
        subst q1
        obtain ⟨q, rfl⟩ : ∃ q, po = o + q := ⟨po - o, by omega⟩
        by_cases hor : q < k * GoT.n α ∨ k * GoT.n α + GoT.n α ≤ q
        · show (w'.cell? ⟨pb, o + q, none⟩).isSome = true
          rw [oth q (by omega) hor]
          exact hlv _ hp
        · obtain ⟨j, rfl⟩ : ∃ j, q = k * GoT.n α + j := ⟨q - k * GoT.n α, by omega⟩
          have := ha' j _ (List.getElem?_eq_getElem (by omega))
          show (w'.cell? ⟨pb, o + (k * GoT.n α + j), none⟩).isSome = true
          rw [← Nat.add_assoc, this]
          rfl

/-- w' is w but at the places fp, and but for new blocks -/
structure Wr (fp : List Pos) (w w' : World) : Prop where
  os : w'.os = w.os
  tape : w'.tape = w.tape
  output : w'.output = w.output
  size : w.heap.size ≤ w'.heap.size
  cell : ∀ p : Pos, p.1 < w.heap.size → p ∉ fp → w'.cell? ⟨p.1, p.2, none⟩ = w.cell? ⟨p.1, p.2, none⟩
  frozen : ∀ p : Pos, p.1 < w.heap.size → w'.frozen? ⟨p.1, p.2, none⟩ = w.frozen? ⟨p.1, p.2, none⟩
  block : ∀ k, k < w.heap.size → (∀ p ∈ fp, p.1 ≠ k) → w'.heap[k]? = w.heap[k]?
theorem Wr.refl (fp : List Pos) (w : World) : Wr fp w w := ⟨rfl, rfl, rfl, Nat.le_refl _, fun _ _ _ => rfl, fun _ _ => rfl, fun _ _ _ => rfl⟩
theorem Wr.trans {fp : List Pos} {a b c : World} (h : Wr fp a b) (k : Wr fp b c) : Wr fp a c :=
  ⟨k.os.trans h.os, k.tape.trans h.tape, k.output.trans h.output, Nat.le_trans h.size k.size, fun p hp hn => (k.cell p (Nat.lt_of_lt_of_le hp h.size) hn).trans (h.cell p hp hn),
    fun p hp => (k.frozen p (Nat.lt_of_lt_of_le hp h.size)).trans (h.frozen p hp), fun q hq hn => (k.block q (Nat.lt_of_lt_of_le hq h.size) hn).trans (h.block q hq hn)⟩
theorem Wr.sub {f1 f2 : List Pos} {w w' : World} (h : Wr f1 w w') (hs : ∀ p ∈ f1, p ∈ f2) : Wr f2 w w' :=
  ⟨h.os, h.tape, h.output, h.size, fun p hp hn => h.cell p hp (fun hm => hn (hs p hm)), h.frozen, fun k hk hn => h.block k hk fun p hp => hn p (hs p hp)⟩
theorem Wr.of_below {fp : List Pos} {w w' : World} (h : Below w.heap.size w w') : Wr fp w w' :=
  ⟨h.os, h.tape, h.output, h.size, fun p hp _ => h.cell (p := ⟨p.1, p.2, none⟩) hp, fun p hp => h.frozen (p := ⟨p.1, p.2, none⟩) hp, fun k hk _ => h.block k hk⟩
theorem Wr.below {fp : List Pos} {w w' : World} {B : Nat} (h : Wr fp w w') (hB : B ≤ w.heap.size) (hge : ∀ p ∈ fp, B ≤ p.1) : Below B w w' :=
  ⟨h.os, h.tape, h.output, h.size, fun k hk => h.block k (by omega) fun p hp e => by have := hge p hp; omega⟩
theorem Wr.setCell {fp : List Pos} (w : World) {b o : Nat} (hm : (b, o) ∈ fp) (v : Value) : Wr fp w (w.setCell ⟨b, o, none⟩ v) :=
  ⟨rfl, rfl, rfl, by simp, fun p _ hn => World.cell?_setCell_other _ _ _ _ (fun e => hn (by
      have h1 : b = p.1 := congrArg Addr.block e
      have h2 : o = p.2 := congrArg Addr.off e
      subst h1; subst h2; exact hm)), fun p _ => by simp,
    fun k _ hn => Below.heap_setCell w ⟨b, o, none⟩ v k (fun e => hn _ hm e.symm)⟩
theorem Wr.same {fp g : List Pos} {w w' : World} (h : Wr fp w w') (hl : Live w g) (hd : ∀ p ∈ g, p ∉ fp) : Same w w' g := fun p hp => h.cell p (hl.lt p hp) (hd p hp)
theorem Wr.fresh {fp g : List Pos} {w w' : World} {B : Nat} (h : Wr fp w w') (hl : Live w g) (hf : Fresh B w g) : Fresh B w' g :=
  ⟨hf.nodup, hf.ge, fun p hp => by rw [h.frozen p (hl.lt p hp)]; exact hf.free p hp⟩

/-- how many numbers a datum's marks take, and the datum with its marks, from k on -/
class GoM (α : Type) where
  cnt : α → Nat
  mrk : Int → α → α
  cnt_mk : ∀ k x, cnt (mrk k x) = cnt x
  mk_mk : ∀ k x, mrk k (mrk k x) = mrk k x
section
variable {α : Type} [GoM α]
def cntL : List α → Nat
  | [] => 0
  | x :: xs => GoM.cnt x + cntL xs
def mkL : Int → List α → List α
  | _, [] => []
  | k, x :: xs => GoM.mrk k x :: mkL (k + GoM.cnt x) xs
theorem mkL_length : ∀ (l : List α) (k : Int), (mkL k l).length = l.length
  | [], _ => rfl
  | x :: xs, k => by simp [mkL, mkL_length xs]
theorem cntL_mkL : ∀ (l : List α) (k : Int), cntL (mkL k l) = cntL l
  | [], _ => rfl
  | x :: xs, k => by simp [mkL, cntL, GoM.cnt_mk, cntL_mkL xs]
theorem mkL_mkL : ∀ (l : List α) (k : Int), mkL k (mkL k l) = mkL k l
  | [], _ => rfl
  | x :: xs, k => by simp [mkL, GoM.mk_mk, GoM.cnt_mk, mkL_mkL xs]
theorem cntL_append : ∀ (a b : List α), cntL (a ++ b) = cntL a + cntL b
  | [], b => by simp [cntL]
  | x :: xs, b => by simp [cntL, cntL_append xs]; omega
theorem mkL_append : ∀ (a b : List α) (k : Int), mkL k (a ++ b) = mkL k a ++ mkL (k + cntL a) b
  | [], b, k => by simp [cntL, mkL]
  | x :: xs, b, k => by simp [cntL, mkL, mkL_append xs, Int.add_assoc]
theorem cntL_take_succ {l : List α} {k : Nat} {x : α} (h : l[k]? = some x) : cntL (l.take (k + 1)) = cntL (l.take k) + GoM.cnt x := by
  rw [take_snoc h, cntL_append]; simp [cntL]
theorem cntL_take_le (l : List α) (k : Nat) : cntL (l.take k) ≤ cntL l := by
  have := cntL_append (l.take k) (l.drop k)
  rw [List.take_append_drop] at this
  omega
/-- marks so far, the rest as it was -/
def marked (k : Int) (l : List α) (i : Nat) : List α := mkL k (l.take i) ++ l.drop i
theorem marked_zero (k : Int) (l : List α) : marked k l 0 = l := by simp [marked, mkL]
theorem marked_all (k : Int) (l : List α) : marked k l l.length = mkL k l := by simp [marked]
theorem marked_get {k : Int} {l : List α} {i : Nat} {x : α} (h : l[i]? = some x) : (marked k l i)[i]? = some x := by
  have hlt := (List.getElem?_eq_some_iff.1 h).1
  unfold marked
  rw [List.getElem?_append_right (by simp [mkL_length]; omega), mkL_length, List.length_take, Nat.min_eq_left (by omega)]
  simpa using h
theorem marked_set {k : Int} {l : List α} {i : Nat} {x : α} (h : l[i]? = some x) : (marked k l i).set i (GoM.mrk (k + cntL (l.take i)) x) = marked k l (i + 1) := by
  have hlt := (List.getElem?_eq_some_iff.1 h).1
  unfold marked
  rw [List.set_append_right _ _ (by simp [mkL_length]; omega), mkL_length, List.length_take, Nat.min_eq_left (by omega), take_snoc h, mkL_append]
  simp only [Nat.sub_self, List.append_assoc, mkL, List.cons_append, List.nil_append]
  congr 1
  obtain ⟨h1, h2⟩ := List.getElem?_eq_some_iff.1 h
  rw [← List.getElem_cons_drop hlt, h2]
  rfl
/-- what is held: the marks -/
theorem held_get : ∀ {l : List α} {k : Int}, mkL k l = l → ∀ {i : Nat} {x : α}, l[i]? = some x → GoM.mrk (k + cntL (l.take i)) x = x
  | [], _, _, i, x, h => by simp at h
  | y :: ys, k, hm, i, x, h => by
    simp only [mkL, List.cons.injEq] at hm
    cases i with
    | zero =>
      simp only [List.getElem?_cons_zero, Option.some.injEq] at h
      subst h
      simpa [cntL] using hm.1
    | succ i =>
      simp only [List.getElem?_cons_succ] at h
      have := held_get hm.2 h
      simp only [List.take_succ_cons, cntL]
      rwa [Int.add_assoc, ← Int.natCast_add] at this
end
end Go.Proofs.Ytiahgjnpinjblaa

namespace Go.Proofs.Ytiahgjnpinjblaa
open Go.RowKit
instance : GoM Int where
  cnt := fun _ => 1
  mrk := fun k _ => k
  cnt_mk := fun _ _ => rfl
  mk_mk := fun _ _ => rfl
instance {α : Type} [GoM α] : GoM (List α) where
  cnt := cntL
  mrk := mkL
  cnt_mk := fun k x => cntL_mkL x k
  mk_mk := fun k x => mkL_mkL x k
/-- what marking leaves -/
def Marks {α : Type} [GoT α] [GoM α] (w : World) (v : Value) (k : Int) (l : List α) (fp : List Pos) (e : Ending) (w' : World) : Prop :=
  e = .returned (.int .i64 (k + cntL l)) ∧ Sl BIG w' v (mkL k l) fp ∧ Wr fp w w'
theorem cntI (l : List Int) : cntL l = l.length := by
  induction l with
  | nil => rfl
  | cons x xs ih => simp [cntL, ih, GoM.cnt]; omega

end Go.Proofs.Ytiahgjnpinjblaa

namespace Go.Proofs.Ytiahgjnpinjblaa
open Go.RowKit

/-- memory of one's own between two block numbers -/
def OwnB {α : Type} [GoT α] (C D : Nat) (w : World) (v : Value) (l : List α) : Prop := ∃ fp, Sl BIG w v l fp ∧ Fresh C w fp ∧ ∀ p ∈ fp, p.1 < D
theorem OwnS.bd {α : Type} [GoT α] {C : Nat} {w : World} {v : Value} {l : List α} (h : OwnS C w v l) : OwnB C w.heap.size w v l := let ⟨fp, h, k⟩ := h; ⟨fp, h, k, Live.lt h.live⟩
section
variable {α : Type} [GoT α] {C D : Nat} {w w' : World} {v : Value} {l : List α}
theorem OwnB.own (h : OwnB C D w v l) : OwnS C w v l := let ⟨fp, h, k, _⟩ := h; ⟨fp, h, k⟩
theorem OwnB.nil (C D : Nat) (w : World) : OwnB (α := α) C D w (.slice none 0 0) [] := ⟨[], Sl.nil, ⟨List.nodup_nil, fun _ h => (by cases h), fun _ h => (by cases h)⟩, fun _ h => (by cases h)⟩
theorem OwnS.ex {α : Type} [GoT α] {C m : Nat} {w : World} {v : Value} {l : List α} (h : OwnS C w v l) (hm : m ≤ C) (hs : C ≤ w.heap.size) : ∃ C' D', OwnB C' D' w v l ∧ m ≤ C' ∧ D' ≤ w.heap.size ∧ C' ≤ D' :=
  ⟨C, w.heap.size, h.bd, hm, Nat.le_refl _, hs⟩
theorem OwnB.block (h : OwnB C D w v l) (hs : ∀ k, C ≤ k → k < D → w'.heap[k]? = w.heap[k]?) : OwnB C D w' v l := by
  obtain ⟨fp, h, k, hd⟩ := h
  have hb : ∀ p ∈ fp, w'.heap[p.1]? = w.heap[p.1]? := fun p hp => hs p.1 (k.ge p hp) (hd p hp)
  exact ⟨fp, h.keep fun p hp => World.cell?_of_block (w := w) (a := ⟨p.1, p.2, none⟩) (hb p hp), ⟨k.nodup, k.ge, fun p hp => by
    rw [World.frozen?_of_block (w := w) (a := ⟨p.1, p.2, none⟩) (hb p hp)]; exact k.free p hp⟩, hd⟩
theorem OwnB.below (h : OwnB C D w v l) (hb : Below w.heap.size w w') : OwnB C D w' v l := by
  obtain ⟨fp, h, k, hd⟩ := h
  have hlt := Live.lt h.live
  exact ⟨fp, h.keep (Live.same_below hb hlt), k.below hb hlt, hd⟩
theorem OwnB.setCell {b o : Nat} (h : OwnB C D w v l) (hp : b < C ∨ D ≤ b) (u : Value) : OwnB C D (w.setCell ⟨b, o, none⟩ u) v l := h.block fun k h1 h2 => Below.heap_setCell w ⟨b, o, none⟩ u k (by show k ≠ b; omega)
theorem OwnB.alloc (h : OwnB C D w v l) (o : Obj) : OwnB C D (w.alloc o) v l := h.below ((Below.refl _ _).alloc (Nat.le_refl _) o)
theorem OwnB.drew (h : OwnB C D w v l) : OwnB C D w.drew v l := h.block fun _ _ _ => rfl
theorem OwnB.drewN (h : OwnB C D w v l) (n : Nat) : OwnB C D (w.drewN n) v l := h.block fun _ _ _ => rfl
theorem Fresh.join {B : Nat} {f1 f2 : List Pos} (h1 : Fresh B w f1) (h2 : Fresh B w f2) (hd : ∀ p ∈ f1, ∀ q ∈ f2, p ≠ q) : Fresh B w (f1 ++ f2) := by
  refine ⟨List.nodup_append.2 ⟨h1.nodup, h2.nodup, hd⟩, fun p hp => ?_, fun p hp => ?_⟩ <;> rcases List.mem_append.1 hp with hp | hp
  · exact h1.ge p hp
  · exact h2.ge p hp
  · exact h1.free p hp
  · exact h2.free p hp
theorem Fresh.left {B : Nat} {f1 f2 : List Pos} (h : Fresh B w (f1 ++ f2)) : Fresh B w f1 := ⟨(List.nodup_append.1 h.nodup).1, fun p hp => h.ge p (List.mem_append.2 (.inl hp)), fun p hp => h.free p (List.mem_append.2 (.inl hp))⟩
theorem Fresh.right {B : Nat} {f1 f2 : List Pos} (h : Fresh B w (f1 ++ f2)) : Fresh B w f2 := ⟨(List.nodup_append.1 h.nodup).2.1, fun p hp => h.ge p (List.mem_append.2 (.inr hp)), fun p hp => h.free p (List.mem_append.2 (.inr hp))⟩
theorem Fresh.nil (B : Nat) (w : World) : Fresh B w [] := ⟨List.nodup_nil, fun _ h => (by cases h), fun _ h => (by cases h)⟩
end

theorem inv_DPart {w : World} {cs : List Value} {x : DPart} (h : Rd w cs x) : ∃ v_signs, cs = [.int .i64 x.kind, .int .i64 x.n, v_signs] ∧ RdS w v_signs x.signs := by
  obtain ⟨fp, h⟩ := h
  obtain ⟨v_signs, f_signs, rfl, h_signs, rfl⟩ := h
  exact ⟨v_signs, rfl, ⟨_, h_signs⟩⟩
theorem mk_DPart {w : World} (x : DPart) {v_signs : Value}  (h_signs : RdS w v_signs x.signs) : Rd w [.int .i64 x.kind, .int .i64 x.n, v_signs] x := by
  obtain ⟨f_signs, h_signs⟩ := h_signs
  exact ⟨_, ⟨v_signs, f_signs, rfl, h_signs, rfl⟩⟩
theorem own_DPart {B C0 D0 : Nat} {w : World} (x : DPart) {v_signs : Value}  (h_signs : OwnB C0 D0 w v_signs x.signs)   (g0 : B ≤ C0) : Own B w [.int .i64 x.kind, .int .i64 x.n, v_signs] x := by
  obtain ⟨f_signs, s_signs, k_signs, d_signs⟩ := h_signs
  exact ⟨_, ⟨v_signs, f_signs, rfl, s_signs, rfl⟩, (k_signs.mono g0)⟩
theorem inv_own_DPart {C : Nat} {w : World} {cs : List Value} {x : DPart} (h : Own C w cs x) : ∃ v_signs, cs = [.int .i64 x.kind, .int .i64 x.n, v_signs] ∧ OwnS C w v_signs x.signs := by
  obtain ⟨fp, h, k⟩ := h
  obtain ⟨v_signs, f_signs, rfl, h_signs, rfl⟩ := h
  exact ⟨v_signs, rfl, ⟨_, h_signs, k⟩⟩

theorem inv_DEntry {w : World} {cs : List Value} {x : DEntry} (h : Rd w cs x) : ∃ v_o, cs = [.int .i64 x.client, .int .i64 x.seq, v_o] ∧ RdS w v_o x.o := by
  obtain ⟨fp, h⟩ := h
  obtain ⟨v_o, f_o, rfl, h_o, rfl⟩ := h
  exact ⟨v_o, rfl, ⟨_, h_o⟩⟩
theorem mk_DEntry {w : World} (x : DEntry) {v_o : Value}  (h_o : RdS w v_o x.o) : Rd w [.int .i64 x.client, .int .i64 x.seq, v_o] x := by
  obtain ⟨f_o, h_o⟩ := h_o
  exact ⟨_, ⟨v_o, f_o, rfl, h_o, rfl⟩⟩
theorem own_DEntry {B C0 D0 : Nat} {w : World} (x : DEntry) {v_o : Value}  (h_o : OwnB C0 D0 w v_o x.o)   (g0 : B ≤ C0) : Own B w [.int .i64 x.client, .int .i64 x.seq, v_o] x := by
  obtain ⟨f_o, s_o, k_o, d_o⟩ := h_o
  exact ⟨_, ⟨v_o, f_o, rfl, s_o, rfl⟩, (k_o.mono g0)⟩
theorem inv_own_DEntry {C : Nat} {w : World} {cs : List Value} {x : DEntry} (h : Own C w cs x) : ∃ v_o, cs = [.int .i64 x.client, .int .i64 x.seq, v_o] ∧ OwnS C w v_o x.o := by
  obtain ⟨fp, h, k⟩ := h
  obtain ⟨v_o, f_o, rfl, h_o, rfl⟩ := h
  exact ⟨v_o, rfl, ⟨_, h_o, k⟩⟩

theorem inv_DSeen {w : World} {cs : List Value} {x : DSeen} (h : Rd w cs x) : cs = [.int .i64 x.client, .int .i64 x.seq, .int .i64 x.rev] := by
  obtain ⟨fp, h⟩ := h
  obtain ⟨rfl, rfl⟩ := h
  exact rfl
theorem mk_DSeen {w : World} (x : DSeen)    : Rd w [.int .i64 x.client, .int .i64 x.seq, .int .i64 x.rev] x := by
  exact ⟨_, ⟨rfl, rfl⟩⟩
theorem own_DSeen {B : Nat} {w : World} (x : DSeen) : Own B w [.int .i64 x.client, .int .i64 x.seq, .int .i64 x.rev] x := ⟨[], ⟨rfl, rfl⟩, Fresh.nil B w⟩

theorem inv_DDoc {w : World} {cs : List Value} {x : DDoc} (h : Rd w cs x) : ∃ v_text v_list v_seen, cs = [.string x.name, .int .i64 x.from_, v_text, v_list, v_seen] ∧ x.name.size ≤ BIG ∧ RdS w v_text x.text ∧ RdS w v_list x.list ∧ RdS w v_seen x.seen := by
  obtain ⟨fp, h⟩ := h
  obtain ⟨v_text, v_list, v_seen, f_text, f_list, f_seen, rfl, n_name, h_text, h_list, h_seen, rfl⟩ := h
  exact ⟨v_text, v_list, v_seen, rfl, n_name, ⟨_, h_text⟩, ⟨_, h_list⟩, ⟨_, h_seen⟩⟩
theorem mk_DDoc {w : World} (x : DDoc) {v_text : Value} {v_list : Value} {v_seen : Value} (n_name : x.name.size ≤ BIG) (h_text : RdS w v_text x.text) (h_list : RdS w v_list x.list) (h_seen : RdS w v_seen x.seen) : Rd w [.string x.name, .int .i64 x.from_, v_text, v_list, v_seen] x := by
  obtain ⟨f_text, h_text⟩ := h_text
  obtain ⟨f_list, h_list⟩ := h_list
  obtain ⟨f_seen, h_seen⟩ := h_seen
  exact ⟨_, ⟨v_text, v_list, v_seen, f_text, f_list, f_seen, rfl, n_name, h_text, h_list, h_seen, rfl⟩⟩
theorem own_DDoc {B C0 D0 C1 D1 C2 D2 : Nat} {w : World} (x : DDoc) {v_text : Value} {v_list : Value} {v_seen : Value} (n_name : x.name.size ≤ BIG) (h_text : OwnB C0 D0 w v_text x.text) (h_list : OwnB C1 D1 w v_list x.list) (h_seen : OwnB C2 D2 w v_seen x.seen) (e0 : D0 ≤ C1) (e1 : D1 ≤ C2) (m1 : C1 ≤ D1) (g0 : B ≤ C0) (g1 : B ≤ C1) (g2 : B ≤ C2) : Own B w [.string x.name, .int .i64 x.from_, v_text, v_list, v_seen] x := by
  obtain ⟨f_text, s_text, k_text, d_text⟩ := h_text
  obtain ⟨f_list, s_list, k_list, d_list⟩ := h_list
  obtain ⟨f_seen, s_seen, k_seen, d_seen⟩ := h_seen
  exact ⟨_, ⟨v_text, v_list, v_seen, f_text, f_list, f_seen, rfl, n_name, s_text, s_list, s_seen, rfl⟩, ((k_text.mono g0).join ((k_list.mono g1).join (k_seen.mono g2) (fun p hp q hq e => by subst e; (try simp only [List.mem_append] at hp); (try simp only [List.mem_append] at hq); (first | (have := d_list _ hp; have := k_seen.ge _ hq; omega)))) (fun p hp q hq e => by subst e; (try simp only [List.mem_append] at hp); (try simp only [List.mem_append] at hq); rcases hq with hq | hq <;> (first | (have := d_text _ hp; have := k_list.ge _ hq; omega) | (have := d_text _ hp; have := k_seen.ge _ hq; omega))))⟩
theorem inv_own_DDoc {C : Nat} {w : World} {cs : List Value} {x : DDoc} (h : Own C w cs x) : ∃ v_text v_list v_seen, cs = [.string x.name, .int .i64 x.from_, v_text, v_list, v_seen] ∧ x.name.size ≤ BIG ∧ OwnS C w v_text x.text ∧ OwnS C w v_list x.list ∧ OwnS C w v_seen x.seen := by
  obtain ⟨fp, h, k⟩ := h
  obtain ⟨v_text, v_list, v_seen, f_text, f_list, f_seen, rfl, n_name, h_text, h_list, h_seen, rfl⟩ := h
  exact ⟨v_text, v_list, v_seen, rfl, n_name, ⟨_, h_text, k.left⟩, ⟨_, h_list, k.right.left⟩, ⟨_, h_seen, k.right.right⟩⟩

theorem inv_DRing {w : World} {cs : List Value} {x : DRing} (h : Rd w cs x) : ∃ v_list, cs = [.int .i64 x.cap, .int .i64 x.next, .bool x.out, v_list] ∧ RdS w v_list x.list := by
  obtain ⟨fp, h⟩ := h
  obtain ⟨v_list, f_list, rfl, h_list, rfl⟩ := h
  exact ⟨v_list, rfl, ⟨_, h_list⟩⟩
theorem mk_DRing {w : World} (x : DRing) {v_list : Value}  (h_list : RdS w v_list x.list) : Rd w [.int .i64 x.cap, .int .i64 x.next, .bool x.out, v_list] x := by
  obtain ⟨f_list, h_list⟩ := h_list
  exact ⟨_, ⟨v_list, f_list, rfl, h_list, rfl⟩⟩
theorem own_DRing {B C0 D0 : Nat} {w : World} (x : DRing) {v_list : Value}  (h_list : OwnB C0 D0 w v_list x.list)   (g0 : B ≤ C0) : Own B w [.int .i64 x.cap, .int .i64 x.next, .bool x.out, v_list] x := by
  obtain ⟨f_list, s_list, k_list, d_list⟩ := h_list
  exact ⟨_, ⟨v_list, f_list, rfl, s_list, rfl⟩, (k_list.mono g0)⟩
theorem inv_own_DRing {C : Nat} {w : World} {cs : List Value} {x : DRing} (h : Own C w cs x) : ∃ v_list, cs = [.int .i64 x.cap, .int .i64 x.next, .bool x.out, v_list] ∧ OwnS C w v_list x.list := by
  obtain ⟨fp, h, k⟩ := h
  obtain ⟨v_list, f_list, rfl, h_list, rfl⟩ := h
  exact ⟨v_list, rfl, ⟨_, h_list, k⟩⟩

theorem inv_DSub {w : World} {cs : List Value} {x : DSub} (h : Rd w cs x) : ∃ v_r_list, cs = [.int .i64 x.id, .string x.doc, .int .i64 x.r.cap, .int .i64 x.r.next, .bool x.r.out, v_r_list] ∧ x.doc.size ≤ BIG ∧ RdS w v_r_list x.r.list := by
  obtain ⟨fp, h⟩ := h
  obtain ⟨c_r, f_r, rfl, n_doc, h_r, rfl⟩ := h
  obtain ⟨v_r_list, f_r_list, rfl, h_r_list, rfl⟩ := h_r
  exact ⟨v_r_list, rfl, n_doc, ⟨_, h_r_list⟩⟩
theorem mk_DSub {w : World} (x : DSub) {v_r_list : Value} (n_doc : x.doc.size ≤ BIG) (h_r_list : RdS w v_r_list x.r.list) : Rd w [.int .i64 x.id, .string x.doc, .int .i64 x.r.cap, .int .i64 x.r.next, .bool x.r.out, v_r_list] x := by
  obtain ⟨f_r_list, h_r_list⟩ := h_r_list
  exact ⟨_, ⟨_, _, rfl, n_doc, ⟨v_r_list, f_r_list, rfl, h_r_list, rfl⟩, rfl⟩⟩
theorem own_DSub {B C0 D0 : Nat} {w : World} (x : DSub) {v_r_list : Value} (n_doc : x.doc.size ≤ BIG) (h_r_list : OwnB C0 D0 w v_r_list x.r.list)   (g0 : B ≤ C0) : Own B w [.int .i64 x.id, .string x.doc, .int .i64 x.r.cap, .int .i64 x.r.next, .bool x.r.out, v_r_list] x := by
  obtain ⟨f_r_list, s_r_list, k_r_list, d_r_list⟩ := h_r_list
  exact ⟨_, ⟨_, _, rfl, n_doc, ⟨v_r_list, f_r_list, rfl, s_r_list, rfl⟩, rfl⟩, (k_r_list.mono g0)⟩
theorem inv_own_DSub {C : Nat} {w : World} {cs : List Value} {x : DSub} (h : Own C w cs x) : ∃ v_r_list, cs = [.int .i64 x.id, .string x.doc, .int .i64 x.r.cap, .int .i64 x.r.next, .bool x.r.out, v_r_list] ∧ x.doc.size ≤ BIG ∧ OwnS C w v_r_list x.r.list := by
  obtain ⟨fp, h, k⟩ := h
  obtain ⟨c_r, f_r, rfl, n_doc, h_r, rfl⟩ := h
  obtain ⟨v_r_list, f_r_list, rfl, h_r_list, rfl⟩ := h_r
  exact ⟨v_r_list, rfl, n_doc, ⟨_, h_r_list, k⟩⟩

theorem inv_DHub {w : World} {cs : List Value} {x : DHub} (h : Rd w cs x) : ∃ v_docs v_subs, cs = [.bool x.shut, v_docs, v_subs, .int .i64 x.last] ∧ RdS w v_docs x.docs ∧ RdS w v_subs x.subs := by
  obtain ⟨fp, h⟩ := h
  obtain ⟨v_docs, v_subs, f_docs, f_subs, rfl, h_docs, h_subs, rfl⟩ := h
  exact ⟨v_docs, v_subs, rfl, ⟨_, h_docs⟩, ⟨_, h_subs⟩⟩
theorem mk_DHub {w : World} (x : DHub) {v_docs : Value} {v_subs : Value}  (h_docs : RdS w v_docs x.docs) (h_subs : RdS w v_subs x.subs) : Rd w [.bool x.shut, v_docs, v_subs, .int .i64 x.last] x := by
  obtain ⟨f_docs, h_docs⟩ := h_docs
  obtain ⟨f_subs, h_subs⟩ := h_subs
  exact ⟨_, ⟨v_docs, v_subs, f_docs, f_subs, rfl, h_docs, h_subs, rfl⟩⟩
theorem own_DHub {B C0 D0 C1 D1 : Nat} {w : World} (x : DHub) {v_docs : Value} {v_subs : Value}  (h_docs : OwnB C0 D0 w v_docs x.docs) (h_subs : OwnB C1 D1 w v_subs x.subs) (e0 : D0 ≤ C1)  (g0 : B ≤ C0) (g1 : B ≤ C1) : Own B w [.bool x.shut, v_docs, v_subs, .int .i64 x.last] x := by
  obtain ⟨f_docs, s_docs, k_docs, d_docs⟩ := h_docs
  obtain ⟨f_subs, s_subs, k_subs, d_subs⟩ := h_subs
  exact ⟨_, ⟨v_docs, v_subs, f_docs, f_subs, rfl, s_docs, s_subs, rfl⟩, ((k_docs.mono g0).join (k_subs.mono g1) (fun p hp q hq e => by subst e; (try simp only [List.mem_append] at hp); (try simp only [List.mem_append] at hq); (first | (have := d_docs _ hp; have := k_subs.ge _ hq; omega))))⟩
theorem inv_own_DHub {C : Nat} {w : World} {cs : List Value} {x : DHub} (h : Own C w cs x) : ∃ v_docs v_subs, cs = [.bool x.shut, v_docs, v_subs, .int .i64 x.last] ∧ OwnS C w v_docs x.docs ∧ OwnS C w v_subs x.subs := by
  obtain ⟨fp, h, k⟩ := h
  obtain ⟨v_docs, v_subs, f_docs, f_subs, rfl, h_docs, h_subs, rfl⟩ := h
  exact ⟨v_docs, v_subs, rfl, ⟨_, h_docs, k.left⟩, ⟨_, h_subs, k.right⟩⟩

theorem inv_DCall {w : World} {cs : List Value} {x : DCall} (h : Rd w cs x) : ∃ v_o v_text, cs = [.int .i64 x.kind, .string x.doc, .int .i64 x.client, .int .i64 x.seq, .int .i64 x.n, v_o, v_text] ∧ x.doc.size ≤ BIG ∧ RdS w v_o x.o ∧ RdS w v_text x.text := by
  obtain ⟨fp, h⟩ := h
  obtain ⟨v_o, v_text, f_o, f_text, rfl, n_doc, h_o, h_text, rfl⟩ := h
  exact ⟨v_o, v_text, rfl, n_doc, ⟨_, h_o⟩, ⟨_, h_text⟩⟩
theorem mk_DCall {w : World} (x : DCall) {v_o : Value} {v_text : Value} (n_doc : x.doc.size ≤ BIG) (h_o : RdS w v_o x.o) (h_text : RdS w v_text x.text) : Rd w [.int .i64 x.kind, .string x.doc, .int .i64 x.client, .int .i64 x.seq, .int .i64 x.n, v_o, v_text] x := by
  obtain ⟨f_o, h_o⟩ := h_o
  obtain ⟨f_text, h_text⟩ := h_text
  exact ⟨_, ⟨v_o, v_text, f_o, f_text, rfl, n_doc, h_o, h_text, rfl⟩⟩
theorem own_DCall {B C0 D0 C1 D1 : Nat} {w : World} (x : DCall) {v_o : Value} {v_text : Value} (n_doc : x.doc.size ≤ BIG) (h_o : OwnB C0 D0 w v_o x.o) (h_text : OwnB C1 D1 w v_text x.text) (e0 : D0 ≤ C1)  (g0 : B ≤ C0) (g1 : B ≤ C1) : Own B w [.int .i64 x.kind, .string x.doc, .int .i64 x.client, .int .i64 x.seq, .int .i64 x.n, v_o, v_text] x := by
  obtain ⟨f_o, s_o, k_o, d_o⟩ := h_o
  obtain ⟨f_text, s_text, k_text, d_text⟩ := h_text
  exact ⟨_, ⟨v_o, v_text, f_o, f_text, rfl, n_doc, s_o, s_text, rfl⟩, ((k_o.mono g0).join (k_text.mono g1) (fun p hp q hq e => by subst e; (try simp only [List.mem_append] at hp); (try simp only [List.mem_append] at hq); (first | (have := d_o _ hp; have := k_text.ge _ hq; omega))))⟩
theorem inv_own_DCall {C : Nat} {w : World} {cs : List Value} {x : DCall} (h : Own C w cs x) : ∃ v_o v_text, cs = [.int .i64 x.kind, .string x.doc, .int .i64 x.client, .int .i64 x.seq, .int .i64 x.n, v_o, v_text] ∧ x.doc.size ≤ BIG ∧ OwnS C w v_o x.o ∧ OwnS C w v_text x.text := by
  obtain ⟨fp, h, k⟩ := h
  obtain ⟨v_o, v_text, f_o, f_text, rfl, n_doc, h_o, h_text, rfl⟩ := h
  exact ⟨v_o, v_text, rfl, n_doc, ⟨_, h_o, k.left⟩, ⟨_, h_text, k.right⟩⟩

theorem inv_DAnswer {w : World} {cs : List Value} {x : DAnswer} (h : Rd w cs x) : ∃ v_text v_list, cs = [.int .i64 x.code, .int .i64 x.rev, v_text, v_list] ∧ RdS w v_text x.text ∧ RdS w v_list x.list := by
  obtain ⟨fp, h⟩ := h
  obtain ⟨v_text, v_list, f_text, f_list, rfl, h_text, h_list, rfl⟩ := h
  exact ⟨v_text, v_list, rfl, ⟨_, h_text⟩, ⟨_, h_list⟩⟩
theorem mk_DAnswer {w : World} (x : DAnswer) {v_text : Value} {v_list : Value}  (h_text : RdS w v_text x.text) (h_list : RdS w v_list x.list) : Rd w [.int .i64 x.code, .int .i64 x.rev, v_text, v_list] x := by
  obtain ⟨f_text, h_text⟩ := h_text
  obtain ⟨f_list, h_list⟩ := h_list
  exact ⟨_, ⟨v_text, v_list, f_text, f_list, rfl, h_text, h_list, rfl⟩⟩
theorem own_DAnswer {B C0 D0 C1 D1 : Nat} {w : World} (x : DAnswer) {v_text : Value} {v_list : Value}  (h_text : OwnB C0 D0 w v_text x.text) (h_list : OwnB C1 D1 w v_list x.list) (e0 : D0 ≤ C1)  (g0 : B ≤ C0) (g1 : B ≤ C1) : Own B w [.int .i64 x.code, .int .i64 x.rev, v_text, v_list] x := by
  obtain ⟨f_text, s_text, k_text, d_text⟩ := h_text
  obtain ⟨f_list, s_list, k_list, d_list⟩ := h_list
  exact ⟨_, ⟨v_text, v_list, f_text, f_list, rfl, s_text, s_list, rfl⟩, ((k_text.mono g0).join (k_list.mono g1) (fun p hp q hq e => by subst e; (try simp only [List.mem_append] at hp); (try simp only [List.mem_append] at hq); (first | (have := d_text _ hp; have := k_list.ge _ hq; omega))))⟩
theorem inv_own_DAnswer {C : Nat} {w : World} {cs : List Value} {x : DAnswer} (h : Own C w cs x) : ∃ v_text v_list, cs = [.int .i64 x.code, .int .i64 x.rev, v_text, v_list] ∧ OwnS C w v_text x.text ∧ OwnS C w v_list x.list := by
  obtain ⟨fp, h, k⟩ := h
  obtain ⟨v_text, v_list, f_text, f_list, rfl, h_text, h_list, rfl⟩ := h
  exact ⟨v_text, v_list, rfl, ⟨_, h_text, k.left⟩, ⟨_, h_list, k.right⟩⟩

theorem inv_DTask {w : World} {cs : List Value} {x : DTask} (h : Rd w cs x) : ∃ v_c_o v_c_text v_a_text v_a_list, cs = [.int .i64 x.c.kind, .string x.c.doc, .int .i64 x.c.client, .int .i64 x.c.seq, .int .i64 x.c.n, v_c_o, v_c_text, .int .i64 x.pc, .int .i64 x.inv, .int .i64 x.lin, .int .i64 x.res, .int .i64 x.a.code, .int .i64 x.a.rev, v_a_text, v_a_list] ∧ x.c.doc.size ≤ BIG ∧ RdS w v_c_o x.c.o ∧ RdS w v_c_text x.c.text ∧ RdS w v_a_text x.a.text ∧ RdS w v_a_list x.a.list := by
  obtain ⟨fp, h⟩ := h
  obtain ⟨c_c, c_a, f_c, f_a, rfl, h_c, h_a, rfl⟩ := h
  obtain ⟨v_c_o, v_c_text, f_c_o, f_c_text, rfl, n_c_doc, h_c_o, h_c_text, rfl⟩ := h_c
  obtain ⟨v_a_text, v_a_list, f_a_text, f_a_list, rfl, h_a_text, h_a_list, rfl⟩ := h_a
  exact ⟨v_c_o, v_c_text, v_a_text, v_a_list, rfl, n_c_doc, ⟨_, h_c_o⟩, ⟨_, h_c_text⟩, ⟨_, h_a_text⟩, ⟨_, h_a_list⟩⟩
theorem mk_DTask {w : World} (x : DTask) {v_c_o : Value} {v_c_text : Value} {v_a_text : Value} {v_a_list : Value} (n_c_doc : x.c.doc.size ≤ BIG) (h_c_o : RdS w v_c_o x.c.o) (h_c_text : RdS w v_c_text x.c.text) (h_a_text : RdS w v_a_text x.a.text) (h_a_list : RdS w v_a_list x.a.list) : Rd w [.int .i64 x.c.kind, .string x.c.doc, .int .i64 x.c.client, .int .i64 x.c.seq, .int .i64 x.c.n, v_c_o, v_c_text, .int .i64 x.pc, .int .i64 x.inv, .int .i64 x.lin, .int .i64 x.res, .int .i64 x.a.code, .int .i64 x.a.rev, v_a_text, v_a_list] x := by
  obtain ⟨f_c_o, h_c_o⟩ := h_c_o
  obtain ⟨f_c_text, h_c_text⟩ := h_c_text
  obtain ⟨f_a_text, h_a_text⟩ := h_a_text
  obtain ⟨f_a_list, h_a_list⟩ := h_a_list
  exact ⟨_, ⟨_, _, _, _, rfl, ⟨v_c_o, v_c_text, f_c_o, f_c_text, rfl, n_c_doc, h_c_o, h_c_text, rfl⟩, ⟨v_a_text, v_a_list, f_a_text, f_a_list, rfl, h_a_text, h_a_list, rfl⟩, rfl⟩⟩
theorem own_DTask {B C0 D0 C1 D1 C2 D2 C3 D3 : Nat} {w : World} (x : DTask) {v_c_o : Value} {v_c_text : Value} {v_a_text : Value} {v_a_list : Value} (n_c_doc : x.c.doc.size ≤ BIG) (h_c_o : OwnB C0 D0 w v_c_o x.c.o) (h_c_text : OwnB C1 D1 w v_c_text x.c.text) (h_a_text : OwnB C2 D2 w v_a_text x.a.text) (h_a_list : OwnB C3 D3 w v_a_list x.a.list) (e0 : D0 ≤ C1) (e1 : D1 ≤ C2) (e2 : D2 ≤ C3) (m1 : C1 ≤ D1) (m2 : C2 ≤ D2) (g0 : B ≤ C0) (g1 : B ≤ C1) (g2 : B ≤ C2) (g3 : B ≤ C3) : Own B w [.int .i64 x.c.kind, .string x.c.doc, .int .i64 x.c.client, .int .i64 x.c.seq, .int .i64 x.c.n, v_c_o, v_c_text, .int .i64 x.pc, .int .i64 x.inv, .int .i64 x.lin, .int .i64 x.res, .int .i64 x.a.code, .int .i64 x.a.rev, v_a_text, v_a_list] x := by
  obtain ⟨f_c_o, s_c_o, k_c_o, d_c_o⟩ := h_c_o
  obtain ⟨f_c_text, s_c_text, k_c_text, d_c_text⟩ := h_c_text
  obtain ⟨f_a_text, s_a_text, k_a_text, d_a_text⟩ := h_a_text
  obtain ⟨f_a_list, s_a_list, k_a_list, d_a_list⟩ := h_a_list
  exact ⟨_, ⟨_, _, _, _, rfl, ⟨v_c_o, v_c_text, f_c_o, f_c_text, rfl, n_c_doc, s_c_o, s_c_text, rfl⟩, ⟨v_a_text, v_a_list, f_a_text, f_a_list, rfl, s_a_text, s_a_list, rfl⟩, rfl⟩, (((k_c_o.mono g0).join (k_c_text.mono g1) (fun p hp q hq e => by subst e; (try simp only [List.mem_append] at hp); (try simp only [List.mem_append] at hq); (first | (have := d_c_o _ hp; have := k_c_text.ge _ hq; omega)))).join ((k_a_text.mono g2).join (k_a_list.mono g3) (fun p hp q hq e => by subst e; (try simp only [List.mem_append] at hp); (try simp only [List.mem_append] at hq); (first | (have := d_a_text _ hp; have := k_a_list.ge _ hq; omega)))) (fun p hp q hq e => by subst e; (try simp only [List.mem_append] at hp); (try simp only [List.mem_append] at hq); rcases hp with hp | hp <;> rcases hq with hq | hq <;> (first | (have := d_c_o _ hp; have := k_a_text.ge _ hq; omega) | (have := d_c_o _ hp; have := k_a_list.ge _ hq; omega) | (have := d_c_text _ hp; have := k_a_text.ge _ hq; omega) | (have := d_c_text _ hp; have := k_a_list.ge _ hq; omega))))⟩
theorem inv_own_DTask {C : Nat} {w : World} {cs : List Value} {x : DTask} (h : Own C w cs x) : ∃ v_c_o v_c_text v_a_text v_a_list, cs = [.int .i64 x.c.kind, .string x.c.doc, .int .i64 x.c.client, .int .i64 x.c.seq, .int .i64 x.c.n, v_c_o, v_c_text, .int .i64 x.pc, .int .i64 x.inv, .int .i64 x.lin, .int .i64 x.res, .int .i64 x.a.code, .int .i64 x.a.rev, v_a_text, v_a_list] ∧ x.c.doc.size ≤ BIG ∧ OwnS C w v_c_o x.c.o ∧ OwnS C w v_c_text x.c.text ∧ OwnS C w v_a_text x.a.text ∧ OwnS C w v_a_list x.a.list := by
  obtain ⟨fp, h, k⟩ := h
  obtain ⟨c_c, c_a, f_c, f_a, rfl, h_c, h_a, rfl⟩ := h
  obtain ⟨v_c_o, v_c_text, f_c_o, f_c_text, rfl, n_c_doc, h_c_o, h_c_text, rfl⟩ := h_c
  obtain ⟨v_a_text, v_a_list, f_a_text, f_a_list, rfl, h_a_text, h_a_list, rfl⟩ := h_a
  exact ⟨v_c_o, v_c_text, v_a_text, v_a_list, rfl, n_c_doc, ⟨_, h_c_o, k.left.left⟩, ⟨_, h_c_text, k.left.right⟩, ⟨_, h_a_text, k.right.left⟩, ⟨_, h_a_list, k.right.right⟩⟩

theorem inv_DQueue {w : World} {cs : List Value} {x : DQueue} (h : Rd w cs x) : ∃ v_list, cs = [.string x.doc, v_list] ∧ x.doc.size ≤ BIG ∧ RdS w v_list x.list := by
  obtain ⟨fp, h⟩ := h
  obtain ⟨v_list, f_list, rfl, n_doc, h_list, rfl⟩ := h
  exact ⟨v_list, rfl, n_doc, ⟨_, h_list⟩⟩
theorem mk_DQueue {w : World} (x : DQueue) {v_list : Value} (n_doc : x.doc.size ≤ BIG) (h_list : RdS w v_list x.list) : Rd w [.string x.doc, v_list] x := by
  obtain ⟨f_list, h_list⟩ := h_list
  exact ⟨_, ⟨v_list, f_list, rfl, n_doc, h_list, rfl⟩⟩
theorem own_DQueue {B C0 D0 : Nat} {w : World} (x : DQueue) {v_list : Value} (n_doc : x.doc.size ≤ BIG) (h_list : OwnB C0 D0 w v_list x.list)   (g0 : B ≤ C0) : Own B w [.string x.doc, v_list] x := by
  obtain ⟨f_list, s_list, k_list, d_list⟩ := h_list
  exact ⟨_, ⟨v_list, f_list, rfl, n_doc, s_list, rfl⟩, (k_list.mono g0)⟩
theorem inv_own_DQueue {C : Nat} {w : World} {cs : List Value} {x : DQueue} (h : Own C w cs x) : ∃ v_list, cs = [.string x.doc, v_list] ∧ x.doc.size ≤ BIG ∧ OwnS C w v_list x.list := by
  obtain ⟨fp, h, k⟩ := h
  obtain ⟨v_list, f_list, rfl, n_doc, h_list, rfl⟩ := h
  exact ⟨v_list, rfl, n_doc, ⟨_, h_list, k⟩⟩

theorem inv_DWorld {w : World} {cs : List Value} {x : DWorld} (h : Rd w cs x) : ∃ v_h_docs v_h_subs v_locks v_queues v_tasks, cs = [.bool x.h.shut, v_h_docs, v_h_subs, .int .i64 x.h.last, v_locks, v_queues, v_tasks, .int .i64 x.step] ∧ RdS w v_h_docs x.h.docs ∧ RdS w v_h_subs x.h.subs ∧ RdS w v_locks x.locks ∧ RdS w v_queues x.queues ∧ RdS w v_tasks x.tasks := by
  obtain ⟨fp, h⟩ := h
  obtain ⟨c_h, v_locks, v_queues, v_tasks, f_h, f_locks, f_queues, f_tasks, rfl, h_h, h_locks, h_queues, h_tasks, rfl⟩ := h
  obtain ⟨v_h_docs, v_h_subs, f_h_docs, f_h_subs, rfl, h_h_docs, h_h_subs, rfl⟩ := h_h
  exact ⟨v_h_docs, v_h_subs, v_locks, v_queues, v_tasks, rfl, ⟨_, h_h_docs⟩, ⟨_, h_h_subs⟩, ⟨_, h_locks⟩, ⟨_, h_queues⟩, ⟨_, h_tasks⟩⟩
theorem mk_DWorld {w : World} (x : DWorld) {v_h_docs : Value} {v_h_subs : Value} {v_locks : Value} {v_queues : Value} {v_tasks : Value}  (h_h_docs : RdS w v_h_docs x.h.docs) (h_h_subs : RdS w v_h_subs x.h.subs) (h_locks : RdS w v_locks x.locks) (h_queues : RdS w v_queues x.queues) (h_tasks : RdS w v_tasks x.tasks) : Rd w [.bool x.h.shut, v_h_docs, v_h_subs, .int .i64 x.h.last, v_locks, v_queues, v_tasks, .int .i64 x.step] x := by
  obtain ⟨f_h_docs, h_h_docs⟩ := h_h_docs
  obtain ⟨f_h_subs, h_h_subs⟩ := h_h_subs
  obtain ⟨f_locks, h_locks⟩ := h_locks
  obtain ⟨f_queues, h_queues⟩ := h_queues
  obtain ⟨f_tasks, h_tasks⟩ := h_tasks
  exact ⟨_, ⟨_, v_locks, v_queues, v_tasks, _, f_locks, f_queues, f_tasks, rfl, ⟨v_h_docs, v_h_subs, f_h_docs, f_h_subs, rfl, h_h_docs, h_h_subs, rfl⟩, h_locks, h_queues, h_tasks, rfl⟩⟩
theorem own_DWorld {B C0 D0 C1 D1 C2 D2 C3 D3 C4 D4 : Nat} {w : World} (x : DWorld) {v_h_docs : Value} {v_h_subs : Value} {v_locks : Value} {v_queues : Value} {v_tasks : Value}  (h_h_docs : OwnB C0 D0 w v_h_docs x.h.docs) (h_h_subs : OwnB C1 D1 w v_h_subs x.h.subs) (h_locks : OwnB C2 D2 w v_locks x.locks) (h_queues : OwnB C3 D3 w v_queues x.queues) (h_tasks : OwnB C4 D4 w v_tasks x.tasks) (e0 : D0 ≤ C1) (e1 : D1 ≤ C2) (e2 : D2 ≤ C3) (e3 : D3 ≤ C4) (m1 : C1 ≤ D1) (m2 : C2 ≤ D2) (m3 : C3 ≤ D3) (g0 : B ≤ C0) (g1 : B ≤ C1) (g2 : B ≤ C2) (g3 : B ≤ C3) (g4 : B ≤ C4) : Own B w [.bool x.h.shut, v_h_docs, v_h_subs, .int .i64 x.h.last, v_locks, v_queues, v_tasks, .int .i64 x.step] x := by
  obtain ⟨f_h_docs, s_h_docs, k_h_docs, d_h_docs⟩ := h_h_docs
  obtain ⟨f_h_subs, s_h_subs, k_h_subs, d_h_subs⟩ := h_h_subs
  obtain ⟨f_locks, s_locks, k_locks, d_locks⟩ := h_locks
  obtain ⟨f_queues, s_queues, k_queues, d_queues⟩ := h_queues
  obtain ⟨f_tasks, s_tasks, k_tasks, d_tasks⟩ := h_tasks
  exact ⟨_, ⟨_, v_locks, v_queues, v_tasks, _, f_locks, f_queues, f_tasks, rfl, ⟨v_h_docs, v_h_subs, f_h_docs, f_h_subs, rfl, s_h_docs, s_h_subs, rfl⟩, s_locks, s_queues, s_tasks, rfl⟩, (((k_h_docs.mono g0).join (k_h_subs.mono g1) (fun p hp q hq e => by subst e; (try simp only [List.mem_append] at hp); (try simp only [List.mem_append] at hq); (first | (have := d_h_docs _ hp; have := k_h_subs.ge _ hq; omega)))).join ((k_locks.mono g2).join ((k_queues.mono g3).join (k_tasks.mono g4) (fun p hp q hq e => by subst e; (try simp only [List.mem_append] at hp); (try simp only [List.mem_append] at hq); (first | (have := d_queues _ hp; have := k_tasks.ge _ hq; omega)))) (fun p hp q hq e => by subst e; (try simp only [List.mem_append] at hp); (try simp only [List.mem_append] at hq); rcases hq with hq | hq <;> (first | (have := d_locks _ hp; have := k_queues.ge _ hq; omega) | (have := d_locks _ hp; have := k_tasks.ge _ hq; omega)))) (fun p hp q hq e => by subst e; (try simp only [List.mem_append] at hp); (try simp only [List.mem_append] at hq); rcases hp with hp | hp <;> rcases hq with hq | (hq | hq) <;> (first | (have := d_h_docs _ hp; have := k_locks.ge _ hq; omega) | (have := d_h_docs _ hp; have := k_queues.ge _ hq; omega) | (have := d_h_docs _ hp; have := k_tasks.ge _ hq; omega) | (have := d_h_subs _ hp; have := k_locks.ge _ hq; omega) | (have := d_h_subs _ hp; have := k_queues.ge _ hq; omega) | (have := d_h_subs _ hp; have := k_tasks.ge _ hq; omega))))⟩
theorem inv_own_DWorld {C : Nat} {w : World} {cs : List Value} {x : DWorld} (h : Own C w cs x) : ∃ v_h_docs v_h_subs v_locks v_queues v_tasks, cs = [.bool x.h.shut, v_h_docs, v_h_subs, .int .i64 x.h.last, v_locks, v_queues, v_tasks, .int .i64 x.step] ∧ OwnS C w v_h_docs x.h.docs ∧ OwnS C w v_h_subs x.h.subs ∧ OwnS C w v_locks x.locks ∧ OwnS C w v_queues x.queues ∧ OwnS C w v_tasks x.tasks := by
  obtain ⟨fp, h, k⟩ := h
  obtain ⟨c_h, v_locks, v_queues, v_tasks, f_h, f_locks, f_queues, f_tasks, rfl, h_h, h_locks, h_queues, h_tasks, rfl⟩ := h
  obtain ⟨v_h_docs, v_h_subs, f_h_docs, f_h_subs, rfl, h_h_docs, h_h_subs, rfl⟩ := h_h
  exact ⟨v_h_docs, v_h_subs, v_locks, v_queues, v_tasks, rfl, ⟨_, h_h_docs, k.left.left⟩, ⟨_, h_h_subs, k.left.right⟩, ⟨_, h_locks, k.right.left⟩, ⟨_, h_queues, k.right.right.left⟩, ⟨_, h_tasks, k.right.right.right⟩⟩

end Go.Proofs.Ytiahgjnpinjblaa

