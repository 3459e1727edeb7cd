/- Rows of one's own, results in new memory, slices of slices. -/
import Derived.Test.YtiahgjnpinjblaaBa
import Derived.BigQuiet
import Derived.Laws.OwnMore
import Derived.Laws.IdiomCopy
import Derived.Test.YtiahgjnpinjblaaEz
import Derived.Laws.IdiomStrings
import Derived.Laws.Concat
import Derived.IntWalk
import Derived.StillTailTactics
namespace Go.Proofs.Ytiahgjnpinjblaa
open Go.RowKit
/-- the worlds behind W, as a family -/
theorem fam_of (W : World) : ∃ (X : Type) (_ : Nonempty X) (F : X → World), (∀ x, Below W.heap.size W (F x)) ∧ (∀ w', Below W.heap.size W w' → ∃ x, w' = F x) :=
  ⟨{ w' : World // Below W.heap.size W w' }, ⟨⟨W, Below.refl _ _⟩⟩, fun x => x.1, fun x => x.2, fun w' h => ⟨⟨w', h⟩, rfl⟩⟩
theorem wp_region_fam {P : Program} {id : Nat} {Q : Exit → Act → World → Prop} {a : Act} {w : World} {l : List Oper} {X : Type} {F : X → World} (hm : P.follows .mixedOrders = true) (hB : Region.lexB .any l.toArray = true)
    (h0 : ∃ x, w.drew = F x) (h : wpQuiet P l.toArray (fun w' => ∃ x, w' = F x) (fun a' => ∀ x, Q .normal a' (F x)) l a) : (Code.region id l.toArray true).wp P Q a w := by
  refine wp_region_quiet (C := fun w' => ∃ x, w' = F x) hm hB h0 ?_
  have : (fun a' => ∀ w', (∃ x, w' = F x) → Q .normal a' w') = (fun a' => ∀ x, Q .normal a' (F x)) := by
    funext a'
    exact propext ⟨fun h x => h _ ⟨x, rfl⟩, by rintro h _ ⟨x, rfl⟩; exact h x⟩
  simp only [this]
  exact h
theorem Calls.fam_tells {P : Program} {f : FuncId} {args : Array Value} {W : World} {X : Type} {F : X → World} (hF : ∀ x, Below W.heap.size W (F x)) (hs : ∀ w', Below W.heap.size W w' → ∃ x, w' = F x) {x : X} {v : Value}
    (h : Calls P f args (F x) (Tells (F x) v)) : Calls P f args (F x) fun e w'' => e = .returned v ∧ ∃ y, w'' = F y :=
  h.mono fun _ _ ⟨he, hb⟩ => ⟨he, hs _ ((hF x).trans (hb.mono (hF x).size))⟩
end Go.Proofs.Ytiahgjnpinjblaa

namespace Go.Proofs.Ytiahgjnpinjblaa
open Go.RowKit
theorem At.put {w : World} {b o : Nat} {cs : List Value} (h : At w b o cs) (j : Nat) (hj : j < cs.length) (u : Value) : At (w.setCell ⟨b, o + j, none⟩ u) b o (cs.set j u) := by
  intro i v hi
  rw [cell_setCell]
  by_cases e : i = j
  · subst e
    rw [if_pos ⟨rfl, rfl⟩, h i _ (List.getElem?_eq_getElem hj)]
    rw [List.getElem?_set_self hj] at hi
    exact hi
  · rw [if_neg (by omega)]
    rw [List.getElem?_set_ne (by omega)] at hi
    exact h i v hi
theorem At.put0 {w : World} {b o : Nat} {cs : List Value} (h : At w b o cs) (hj : 0 < cs.length) (u : Value) : At (w.setCell ⟨b, o, none⟩ u) b o (cs.set 0 u) := h.put 0 hj u
theorem Sl.put {α : Type} [GoT α] {M : Nat} {w : World} {v : Value} {l : List α} {fp : List Pos} (h : Sl M w v l fp) {b o : Nat} (hn : (b, o) ∉ fp) (u : Value) : Sl M (w.setCell ⟨b, o, none⟩ u) v l fp :=
  h.keep fun p hp => World.cell?_setCell_other _ _ _ _ (fun e => hn (by
    have e1 : b = p.1 := congrArg Addr.block e
    have e2 : o = p.2 := congrArg Addr.off e
    rw [e1, e2]; exact hp))
theorem Sl.wr {α : Type} [GoT α] {M : Nat} {w w' : World} {v : Value} {l : List α} {fp g : List Pos} (h : Sl M w v l fp) (hw : Wr g w w') (hd : ∀ p ∈ fp, p ∉ g) : Sl M w' v l fp := h.keep (hw.same h.live hd)
theorem At.wr {w w' : World} {b o : Nat} {cs : List Value} {g : List Pos} (h : At w b o cs) (hw : Wr g w w') (hd : ∀ j < cs.length, (b, o + j) ∉ g) : At w' b o cs :=
  h.keep fun j hj => hw.cell (b, o + j) (World.block_lt_of_cell? (w := w) (a := ⟨b, o + j, none⟩) (h j _ (List.getElem?_eq_getElem hj))) (hd j hj)
theorem Fresh.put {B : Nat} {w : World} {fp : List Pos} (h : Fresh B w fp) (a : Addr) (u : Value) : Fresh B (w.setCell a u) fp := ⟨h.nodup, h.ge, fun p hp => by rw [World.frozen?_setCell]; exact h.free p hp⟩
theorem Wr.put {fp : List Pos} {a w : World} (h : Wr fp a w) {b o : Nat} (hm : (b, o) ∈ fp) (v : Value) : Wr fp a (w.setCell ⟨b, o, none⟩ v) := h.trans (Wr.setCell w hm v)
theorem Sl.at_ {α : Type} [GoT α] [GoM α] {M : Nat} {w : World} {v : Value} {l : List α} {fp : List Pos} {a b : Int} (h : Sl M w v (mkL a l) fp) (e : a = b) : Sl M w v (mkL b l) fp := e ▸ h
/-- only blocks between C and D have been written, and new ones made -/
def Btw (C D : Nat) (w w' : World) : Prop := ∃ fp, Wr fp w w' ∧ ∀ p ∈ fp, C ≤ p.1 ∧ p.1 < D
theorem Btw.below {C D : Nat} {w w' : World} (h : Btw C D w w') (hC : C ≤ w.heap.size) : Below C w w' := let ⟨_, h, k⟩ := h; h.below hC fun p hp => (k p hp).1
theorem Btw.mono {C D C' D' : Nat} {w w' : World} (h : Btw C D w w') (hC : C' ≤ C) (hD : D ≤ D') : Btw C' D' w w' := let ⟨fp, h, k⟩ := h; ⟨fp, h, fun p hp => ⟨by have := k p hp; omega, by have := k p hp; omega⟩⟩
theorem Btw.own {α : Type} [GoT α] {C D C' D' : Nat} {w w' : World} {v : Value} {l : List α} (h : Btw C D w w') (ho : OwnB C' D' w v l) (hd : D' ≤ C ∨ D ≤ C') : OwnB C' D' w' v l := by
  obtain ⟨fp, h, k⟩ := h
  obtain ⟨g, s, f, d⟩ := ho
  refine ⟨g, s.wr h fun p hp hn => ?_, h.fresh s.live f, d⟩
  have := k p hn; have := d p hp; have := f.ge p hp
  omega
theorem Btw.rds {α : Type} [GoT α] {C D : Nat} {w w' : World} {v : Value} {l : List α} (h : Btw C D w w') {w0 : World} (hr : RdS w0 v l) (hb : Below w0.heap.size w0 w) (hC : w0.heap.size ≤ C) : RdS w' v l := by
  obtain ⟨fp, s⟩ := hr
  have hl := Live.lt s.live
  refine ⟨fp, (s.keep (Live.same_below hb hl)).wr h.choose_spec.1 fun p hp hn => ?_⟩
  have := h.choose_spec.2 p hn; have := hl p hp
  omega
theorem Btw.cell {C D : Nat} {w w' : World} (h : Btw C D w w') {b o : Nat} (hb : b < w.heap.size) (hd : b < C ∨ D ≤ b) : w'.cell? ⟨b, o, none⟩ = w.cell? ⟨b, o, none⟩ :=
  let ⟨_, h, k⟩ := h; h.cell (b, o) hb fun hn => by have := k _ hn; simp at this; omega
theorem Btw.frozen {C D : Nat} {w w' : World} (h : Btw C D w w') {b o : Nat} (hb : b < w.heap.size) : w'.frozen? ⟨b, o, none⟩ = w.frozen? ⟨b, o, none⟩ := let ⟨_, h, _⟩ := h; h.frozen (b, o) hb
theorem Btw.size {C D : Nat} {w w' : World} (h : Btw C D w w') : w.heap.size ≤ w'.heap.size := let ⟨_, h, _⟩ := h; h.size
/-- what marking leaves, between block numbers -/
def MarksB {α : Type} [GoT α] [GoM α] (C D : Nat) (w : World) (v : Value) (k : Int) (l : List α) (e : Ending) (w' : World) : Prop :=
  e = .returned (.int .i64 (k + cntL l)) ∧ OwnB C D w' v (mkL k l) ∧ Btw C D w w'
theorem Marks.b {α : Type} [GoT α] [GoM α] {C D : Nat} {w : World} {v : Value} {k : Int} {l : List α} {fp : List Pos} {e : Ending} {w' : World} (hl : Sl BIG w v l fp) (hf : Fresh C w fp) (hd : ∀ p ∈ fp, p.1 < D)
    (h : Marks w v k l fp e w') : MarksB C D w v k l e w' :=
  ⟨h.1, ⟨fp, h.2.1, h.2.2.fresh hl.live hf, hd⟩, ⟨fp, h.2.2, fun p hp => ⟨hf.ge p hp, hd p hp⟩⟩⟩
end Go.Proofs.Ytiahgjnpinjblaa

namespace Go.Proofs.Ytiahgjnpinjblaa
open Go.RowKit

/-- the places of a slice's own row -/
def rowP (n : Nat) : Value → List Pos
  | .slice (some a) _ cap => own a.block a.off (cap * n)
  | _ => []
/-- the slice reads as l, its row is one's own (blocks from B on), its elements meet the places fs, all outside of the row -/
def Row {α : Type} [GoT α] (B : Nat) (w : World) (v : Value) (l : List α) (fs : List Pos) : Prop :=
  Sl BIG w v l (rowP (GoT.n α) v ++ fs) ∧ Fresh B w (rowP (GoT.n α) v) ∧ ∀ p ∈ fs, p ∉ rowP (GoT.n α) v

section
variable {α : Type} [GoT α] {B : Nat} {w w' : World} {v : Value} {l xs : List α} {fs gs : List Pos}
theorem Row.rd (h : Row B w v l fs) : RdS w v l := ⟨_, h.1⟩
theorem Row.nil (B : Nat) (w : World) : Row (α := α) B w (.slice none 0 0) [] [] := ⟨Sl.nil, Fresh.nil _ _, fun _ h => (by cases h)⟩
theorem Sl.split {M : Nat} {fp : List Pos} (h : Sl M w v l fp) : ∃ fs, fp = rowP (GoT.n α) v ++ fs := by
  rcases h with ⟨ao, rfl, rfl, rfl⟩ | ⟨b, o, cap, cs, fs, rfl, _, _, _, _, _, _, rfl⟩
  · refine ⟨[], ?_⟩
    cases ao with
    | none => rfl
    | some a => simp [rowP, own]
  · exact ⟨fs, rfl⟩
theorem OwnS.row (h : OwnS B w v l) : ∃ fs, Row B w v l fs ∧ Fresh B w fs := by
  obtain ⟨fp, h, k⟩ := h
  obtain ⟨fs, rfl⟩ := h.split
  exact ⟨fs, ⟨h, k.left, fun _ hp hq => (List.nodup_append.1 k.nodup).2.2 _ hq _ hp rfl⟩, k.right⟩
theorem Row.owns (h : Row B w v l fs) (hf : Fresh B w fs) : OwnS B w v l :=
  ⟨_, h.1, h.2.1.join hf fun _ hp q hq e => h.2.2 q hq (e ▸ hp)⟩
theorem Row.live (h : Row B w v l fs) : Live w fs := (Live.append.1 h.1.live).2
theorem Row.mono {B' : Nat} (h : Row B w v l fs) (hB : B' ≤ B) : Row B' w v l fs := ⟨h.1, h.2.1.mono hB, h.2.2⟩
theorem Row.below (h : Row B w v l fs) (hb : Below w.heap.size w w') : Row B w' v l fs := by
  have hl := Live.lt h.1.live
  exact ⟨h.1.keep (Live.same_below hb hl), h.2.1.below hb fun p hp => hl p (List.mem_append.2 (.inl hp)), h.2.2⟩
theorem Row.wr {g : List Pos} (h : Row B w v l fs) (hw : Wr g w w') (hd : ∀ p ∈ rowP (GoT.n α) v ++ fs, p ∉ g) : Row B w' v l fs :=
  ⟨h.1.wr hw hd, hw.fresh (Live.append.1 h.1.live).1 h.2.1, h.2.2⟩
theorem Els.flat (hn : ∀ {M : Nat} {w : World} {c : List Value} {x : α} {f : List Pos}, GoT.rd M w c x f → f = []) : ∀ {l : List α} {cs : List Value} {fp : List Pos} {M : Nat}, Els M w cs l fp → fp = []
  | [], _, _, _, h => h.2
  | x :: xs, _, _, _, ⟨c1, c2, f1, f2, _, h1, h2, hf⟩ => by rw [hf, hn h1, Els.flat hn h2]; rfl
theorem Sl.flat (hn : ∀ {M : Nat} {w : World} {c : List Value} {x : α} {f : List Pos}, GoT.rd M w c x f → f = []) {M : Nat} {fp : List Pos} (h : Sl M w v l fp) : fp = rowP (GoT.n α) v := by
  rcases h with ⟨ao, rfl, rfl, rfl⟩ | ⟨b, o, cap, cs, fs, rfl, _, _, _, _, he, _, rfl⟩
  · cases ao with
    | none => rfl
    | some a => simp [rowP, own]
  · rw [he.flat hn, List.append_nil]; rfl

/-- the source's cells: nothing, or cells that lie at an address -/
def Src {α : Type} [GoT α] (w : World) (v : Value) (xs : List α) (gs : List Pos) : Prop :=
  ∃ ao c news, v = .slice ao xs.length c ∧ Els BIG w news xs gs ∧ ((xs = [] ∧ ao = none ∧ c = 0) ∨ ∃ a : Addr, ao = some a ∧ ∀ j u, news[j]? = some u → w.cell? (a.add j) = some u)
theorem addr_add (b o j : Nat) : (⟨b, o, none⟩ : Addr).add j = ⟨b, o + j, none⟩ := by unfold Addr.add; split <;> simp_all
theorem Sl.src {fp : List Pos} (h : Sl BIG w v l fp) : ∃ gs, Src w v l gs ∧ (∀ p ∈ gs, p ∈ fp) ∧ fp = rowP (GoT.n α) v ++ gs := by
  rcases h with ⟨ao, rfl, rfl, rfl⟩ | ⟨b, o, cap, cs, fs, rfl, _, _, _, ha, he, _, rfl⟩
  · refine ⟨[], ⟨ao, 0, [], rfl, Els.nil, ?_⟩, fun _ h => h, ?_⟩
    · cases ao with
      | none => exact .inl ⟨rfl, rfl, rfl⟩
      | some a => exact .inr ⟨a, rfl, fun j u hu => by simp at hu⟩
    · cases ao with
      | none => rfl
      | some a => simp [rowP, own]
  · exact ⟨fs, ⟨_, _, cs, rfl, he, .inr ⟨_, rfl, fun j u hu => by rw [addr_add]; exact ha j u hu⟩⟩, fun p hp => List.mem_append.2 (.inr hp), rfl⟩
theorem Src.one {x : α} {c : List Value} {b o cap : Nat} {f : List Pos} (ha : At w b o c) (hx : GoT.rd BIG w c x f) : Src w (.slice (some ⟨b, o, none⟩) 1 cap) [x] f :=
  ⟨_, cap, c, rfl, Els.single hx, .inr ⟨_, rfl, fun j u hu => by rw [addr_add]; exact ha j u hu⟩⟩

theorem setCells_wr {b : Nat} {fp : List Pos} : ∀ (vs : List Value) (o : Nat) (w : World), (∀ j < vs.length, (b, o + j) ∈ fp) → Wr fp w (w.setCells b o vs)
  | [], _, w, _ => Wr.refl _ w
  | v :: r, o, w, h => by
    rw [World.setCells]
    refine (Wr.setCell w (by simpa using h 0 (by simp)) v).trans (setCells_wr r (o + 1) _ fun j hj => ?_)
    have := h (j + 1) (by simp; omega)
    rwa [show o + (j + 1) = o + 1 + j by omega] at this
section
variable {P : Program}
theorem run_append_room_any (w : World) (T ty E : TypeId) (i : TypeInfo) (ht : P.underlying T = some (.slice E)) (hi : P.info? E = some i) (b o sLen sCap : Nat)
    (x : Value) (m : Nat) (news : List Value) (hl : news.length = m * i.size) (hx : ∃ ao c, x = .slice ao m c ∧ ((news = [] ∧ ao = none ∧ c = 0 ∧ m = 0) ∨ ∃ a : Addr, ao = some a ∧ ∀ j u, news[j]? = some u → w.cell? (a.add j) = some u)) (h1 : ∀ u ∈ news, u.oneCell' = true)
    (hroom : sLen + m ≤ sCap) (hc : ∀ j, j < news.length → (w.cell? ⟨b, o + sLen * i.size + j, none⟩).isSome = true) (hf : ∀ j, j < news.length → w.frozen? ⟨b, o + sLen * i.size + j, none⟩ = false) :
    (Builtin.append_ #[T, T] ty #[.slice (some ⟨b, o, none⟩) sLen sCap, x]).run P w = .ok (.slice (some ⟨b, o, none⟩) (sLen + m) sCap) (w.setCells b (o + sLen * i.size) news) := by
  obtain ⟨ao, c, rfl, ⟨rfl, rfl, rfl, rfl⟩ | ⟨a, rfl, hnews⟩⟩ := hx
  · have hfc := run_firstCells_none (P := P) (w := w) i.size 0 0 0
    simp [Builtin.append_, run_underlying ht, sizeOf, typeInfo, hi, Builtin.lenOf, hfc, World.setCells, storeCells]
    intro hh
    omega
  · have hfc := run_firstCells_some (P := P) w i.size m a m c news hl hnews
    have hst := run_storeCells_cells (P := P) b (o + sLen * i.size) news 0 w (by simpa using hc) (by simpa using hf) h1
    simp only [Nat.add_zero] at hst
    simp [Builtin.append_, run_underlying ht, sizeOf, typeInfo, hi, Builtin.lenOf, hroom, hfc, Addr.add_lit, hst]

/-- a new row -/
theorem row_new {E : TypeId} {os ns zs : List Value} {cap : Nat} (he : Els BIG w os l fs) (hx : Els BIG w ns xs gs) (hz : zs.length = (cap - (l.length + xs.length)) * GoT.n α) (hc : l.length + xs.length ≤ cap) (hm : cap ≤ maxLen)
    (hlen : l.length + xs.length ≤ BIG) (hB : B ≤ w.heap.size) :
    Row B (w.drew.alloc (.cells (os.toArray ++ ns.toArray ++ zs.toArray) E)) (.slice (some ⟨w.heap.size, 0, none⟩) (l.length + xs.length) cap) (l ++ xs) (fs ++ gs) := by
  have hb : Below w.heap.size w (w.drew.alloc (.cells (os.toArray ++ ns.toArray ++ zs.toArray) E)) := ((Below.refl _ _).drew).alloc (Nat.le_refl _) _
  have hg : (w.drew.alloc (.cells (os.toArray ++ ns.toArray ++ zs.toArray) E)).heap[w.heap.size]? = some (.cells (os ++ (ns ++ zs)).toArray E (0, 0)) := by
    have := heap_alloc_new w.drew (.cells (os.toArray ++ ns.toArray ++ zs.toArray) E)
    simpa using this
  have l1 := he.length
  have l2 := hx.length
  have hrow : os.length + (ns.length + zs.length) = cap * GoT.n α := by
    rw [l1, l2, hz, ← Nat.add_mul, ← Nat.add_mul]; congr 1; omega
  have hlive : ∀ p ∈ own w.heap.size 0 (cap * GoT.n α), ((w.drew.alloc (.cells (os.toArray ++ ns.toArray ++ zs.toArray) E)).cell? ⟨p.1, p.2, none⟩).isSome = true := by
    intro p hp
    obtain ⟨e1, e2, e3⟩ := mem_own.1 hp
    rw [e1, row_cell hg, List.getElem?_eq_getElem (by simp; omega)]
    rfl
  have f1 := Live.lt he.live
  have f2 := Live.lt hx.live
  have hdis : ∀ p ∈ fs ++ gs, p ∉ own w.heap.size 0 (cap * GoT.n α) := by
    intro p hp hq
    have := (mem_own.1 hq).1
    rcases List.mem_append.1 hp with hp | hp
    · have := f1 p hp; omega
    · have := f2 p hp; omega
  refine ⟨.inr ⟨w.heap.size, 0, cap, os ++ ns, fs ++ gs, by rw [List.length_append], by rw [List.length_append]; exact hc, hm, by rw [List.length_append]; exact hlen, ?_, ?_, hlive, rfl⟩, ⟨own_nodup _ _ _, fun p hp => ?_, fun p hp => ?_⟩, hdis⟩
  · have := row_at (c1 := []) (c2 := os ++ ns) (c3 := zs) (E := E) (fr := (0, 0)) (by rw [List.nil_append, List.append_assoc]; exact hg)
    simpa using this
  · exact Els.append.2 ⟨os, ns, fs, gs, rfl, he.keep (Live.same_below hb f1), hx.keep (Live.same_below hb f2), rfl⟩
  · rw [(mem_own.1 hp).1]; exact hB
  · rw [(mem_own.1 hp).1]; exact row_frozen hg

theorem zeroCells_list (z : Array Value) (n : Nat) : ∃ zs : List Value, Builtin.zeroCells z n = zs.toArray ∧ zs.length = n * z.size := ⟨(Builtin.zeroCells z n).toList, by simp, by simp [size_zeroCells]⟩

/-- append on a row of one's own -/
theorem run_append_row {T ty E : TypeId} {i : TypeInfo} {z x : Value} {bytes : Nat} (ht : P.underlying T = some (.slice E)) (hi : P.info? E = some i) (hz : i.zero = some z) (hsize : i.size = GoT.n α) (hby : i.bytes = bytes) (hzs : z.cells.size = GoT.n α)
    (h : Row B w v l fs) (hs : Src w x xs gs) (hd : ∀ p ∈ gs, p ∉ rowP (GoT.n α) v) (hlen : l.length + xs.length ≤ BIG) (hbytes : (l.length + xs.length) * bytes ≤ 140737488355328) (hB : B ≤ w.heap.size) :
    ∃ v' w', (Builtin.append_ #[T, T] ty #[v, x]).run P w = .ok v' w' ∧ Row B w' v' (l ++ xs) (fs ++ gs) ∧ Wr (rowP (GoT.n α) v) w w' ∧ (∀ p ∈ rowP (GoT.n α) v', p ∈ rowP (GoT.n α) v ∨ w.heap.size ≤ p.1) := by
  subst hby
  have hlb := BIG_le hlen
  have hlm : l.length + xs.length ≤ maxLen := by unfold maxLen; omega
  obtain ⟨ao, c, news, rfl, hen, hsrc⟩ := hs
  have hnl := hen.length
  have hone := hen.one
  have hnewb : ∀ o : Obj, Wr (rowP (GoT.n α) v) w (w.drew.alloc o) := fun o => Wr.of_below (((Below.refl _ _).drew).alloc (Nat.le_refl _) o)
  obtain ⟨hsl, hfr, hdis⟩ := h
  rcases hsl with ⟨bo, rfl, rfl, hfe⟩ | ⟨b, o, cap, cs, fs', rfl, h1, h2, h3, ha, he, hlv, hfe⟩
  · have hfs : fs = [] := (List.append_eq_nil_iff.1 hfe).2
    subst hfs
    by_cases hm : xs = []
    · subst hm
      have hn : news = [] := List.eq_nil_of_length_eq_zero (by simpa using hnl)
      subst hn
      have hgs : gs = [] := hen.2
      subst hgs
      refine ⟨.slice bo 0 0, w, ?_, ⟨.inl ⟨bo, rfl, rfl, by cases bo <;> simp [rowP, own]⟩, hfr, fun _ hp => (by cases hp)⟩, Wr.refl _ _, fun p hp => .inl hp⟩
      cases bo <;> rcases hsrc with ⟨_, rfl, rfl⟩ | ⟨a, rfl, _⟩ <;> simp [Builtin.append_, run_underlying ht, sizeOf, typeInfo, hi, Builtin.lenOf, Builtin.firstCells, loadCells, loadCellsFrom, storeCells]
    · have hpos : 0 < xs.length := List.length_pos_iff.2 hm
      rcases hsrc with ⟨hx, _⟩ | ⟨a, rfl, hnews⟩
      · exact absurd hx hm
      · simp only [List.length_nil, Nat.zero_add] at hlen hbytes hlb hlm
        obtain ⟨zs, hze, hzl⟩ := zeroCells_list z.cells (grownCap w xs.length 0 E - xs.length)
        have hge := grownCap_ge w xs.length 0 E
        have hcm := grownCap_le_maxLen w xs.length 0 E hlm
        have hrow := row_new (E := E) (l := []) (os := []) (fs := []) (B := B) (zs := zs) (cap := grownCap w xs.length 0 E) Els.nil hen (by rw [hzl, hzs]; simp) (by simpa using hge) hcm (by simpa using hlen) hB
        simp only [List.length_nil, Nat.zero_add, List.nil_append, Array.empty_append] at hrow
        have hnb : ∀ p ∈ rowP (GoT.n α) (.slice (some ⟨w.heap.size, 0, none⟩) xs.length (grownCap w xs.length 0 E)), p ∈ rowP (GoT.n α) (.slice bo 0 0) ∨ w.heap.size ≤ p.1 := fun p hp => .inr (by rw [(mem_own.1 hp).1]; exact Nat.le_refl _)
        cases bo with
        | none =>
          have hr := run_append_nil (P := P) w T ty E i z ht hi hz a xs.length c news (by rw [hnl, hsize]) hnews hpos (by omega) (by omega)
          rw [hze] at hr
          exact ⟨_, _, hr, hrow, hnewb _, hnb⟩
        | some b0 =>
          have hr := run_append_grow (P := P) w T ty E i z ht hi hz b0 0 0 [] (by simp) (fun j u hu => by simp at hu) a xs.length c news (by rw [hnl, hsize]) hnews (by omega) (by omega) (growslice_fits (by omega) (by simpa using hbytes))
          simp only [Nat.zero_add, Array.empty_append] at hr
          rw [hze] at hr
          exact ⟨_, _, hr, hrow, hnewb _, hnb⟩
  · have hfe' : fs = fs' := List.append_cancel_left hfe
    subst hfe'
    have hcl := he.length
    by_cases hroom : l.length + xs.length ≤ cap
    · have hin : ∀ j < news.length, (b, o + l.length * GoT.n α + j) ∈ own b o (cap * GoT.n α) := by
        intro j hj
        have := Nat.mul_le_mul_right (GoT.n α) hroom
        rw [Nat.add_mul] at this
        exact mem_own.2 ⟨rfl, by simp; omega, by simp; omega⟩
      have hr := run_append_room_any (P := P) w T ty E i ht hi b o l.length cap (.slice ao xs.length c) xs.length news (by rw [hnl, hsize]) ⟨ao, c, rfl, hsrc.imp (fun ⟨h1, h2, h3⟩ => ⟨List.eq_nil_of_length_eq_zero (by rw [hnl, h1]; simp), h2, h3, by rw [h1]; rfl⟩) id⟩ hone hroom
        (fun j hj => by rw [hsize]; exact hlv _ (hin j hj)) (fun j hj => by rw [hsize]; exact hfr.free _ (hin j hj))
      rw [hsize] at hr
      have hw : Wr (own b o (cap * GoT.n α)) w (w.setCells b (o + l.length * GoT.n α) news) := setCells_wr news _ w hin
      have hl2 : ∀ p ∈ fs, p ∉ own b o (cap * GoT.n α) := hdis
      have hlive' : Live (w.setCells b (o + l.length * GoT.n α) news) (own b o (cap * GoT.n α)) := by
        intro p hp
        obtain ⟨e1, e2, e3⟩ := mem_own.1 hp
        by_cases hi2 : o + l.length * GoT.n α ≤ p.2 ∧ p.2 < o + l.length * GoT.n α + news.length
        · have := World.cell?_setCells_in b news (o + l.length * GoT.n α) w (fun j hj => hlv _ (hin j hj)) (p.2 - (o + l.length * GoT.n α)) (by omega)
          rw [show o + l.length * GoT.n α + (p.2 - (o + l.length * GoT.n α)) = p.2 by omega] at this
          rw [e1, this]; rfl
        · rw [World.cell?_setCells_out b news _ w ⟨p.1, p.2, none⟩ (fun _ _ => by simp; omega)]
          exact hlv p hp
      refine ⟨_, _, hr, ⟨.inr ⟨b, o, cap, cs ++ news, fs ++ gs, by rw [List.length_append], by rw [List.length_append]; exact hroom, h2, by rw [List.length_append]; exact hlen, ?_, ?_, hlive', rfl⟩, hw.fresh hlv hfr, ?_⟩, hw, fun p hp => .inl hp⟩
      · refine At.append.2 ⟨ha.keep fun j hj => ?_, ?_⟩
        · exact World.cell?_setCells_out b news _ w ⟨b, o + j, none⟩ (fun _ _ => by simp; omega)
        · rw [hcl]
          intro j u hj
          have hjl := (List.getElem?_eq_some_iff.1 hj).1
          rw [World.cell?_setCells_in b news (o + l.length * GoT.n α) w (fun j hj => hlv _ (hin j hj)) j hjl, ← hj, List.getElem?_eq_getElem hjl]
      · exact Els.append.2 ⟨cs, news, fs, gs, rfl, he.keep (hw.same he.live hl2), hen.keep (hw.same hen.live hd), rfl⟩
      · intro p hp
        rcases List.mem_append.1 hp with hp | hp
        · exact hl2 p hp
        · exact hd p hp
    · rcases hsrc with ⟨rfl, _⟩ | ⟨a, rfl, hnews⟩
      · simp at hroom; omega
      · obtain ⟨zs, hze, hzl⟩ := zeroCells_list z.cells (grownCap w (l.length + xs.length) cap E - (l.length + xs.length))
        have hge := grownCap_ge w (l.length + xs.length) cap E
        have hcm := grownCap_le_maxLen w (l.length + xs.length) cap E hlm
        have hr := run_append_grow (P := P) w T ty E i z ht hi hz ⟨b, o, none⟩ l.length cap cs (by rw [hcl, hsize]) (fun j u hu => by rw [addr_add]; exact ha j u hu) a xs.length c news (by rw [hnl, hsize]) hnews (by omega) (by omega) (growslice_fits (by omega) hbytes)
        rw [hze] at hr
        exact ⟨_, _, hr, row_new he hen (by rw [hzl, hzs]) hge hcm hlen hB, hnewb _, fun p hp => .inr (by rw [(mem_own.1 hp).1]; exact Nat.le_refl _)⟩
end
theorem wpList_append_row {P : Program} {ops : Array Oper} {rest : List Oper} {o : Oper} {a : Act} {Q : Exit → Act → World → Prop} (hgd : o.guard = none) (s y : Operand) (T : TypeId)
    (ho : o.op = .call { callee := .builtin .append, args := #[s, y], argTypes := #[T, T] }) {E : TypeId} {i : TypeInfo} {z : Value} {bytes : Nat} (ht : P.underlying T = some (.slice E)) (hi : P.info? E = some i) (hz : i.zero = some z)
    (hsize : i.size = GoT.n α) (hby : i.bytes = bytes) (hzs : z.cells.size = GoT.n α) {x : Value} (hv : a.eval s = v) (hx : a.eval y = x)
    (h : Row B w v l fs) (hs : Src w x xs gs) (hd : ∀ p ∈ gs, p ∉ rowP (GoT.n α) v) (hlen : l.length + xs.length ≤ BIG) (hbytes : (l.length + xs.length) * bytes ≤ 140737488355328) (hB : B ≤ w.heap.size)
    (hK : ∀ v' w', Row B w' v' (l ++ xs) (fs ++ gs) → Wr (rowP (GoT.n α) v) w w' → (∀ p ∈ rowP (GoT.n α) v', p ∈ rowP (GoT.n α) v ∨ w.heap.size ≤ p.1) → wpList P ops Q rest (a.put o.dst v') w') : wpList P ops Q (o :: rest) a w := by
  refine wpList_plain hgd fun K hK' => ?_
  obtain ⟨v', w', hr, h2, h3, h4⟩ := run_append_row (P := P) (ty := o.type) ht hi hz hsize hby hzs h hs hd hlen hbytes hB
  unfold Oper.wp
  simp [execOp, ho, resolve, invoke, builtin, hv, hx, hr, Result.andThen]
  exact hK' _ _ (hK v' w' h2 h3 h4)
end
end Go.Proofs.Ytiahgjnpinjblaa

namespace Go.Proofs.Ytiahgjnpinjblaa
open Go.RowKit
/-- at the places fp w reads, and is frozen, as a was -/
def Kept (fp : List Pos) (a w : World) : Prop := ∀ p ∈ fp, w.cell? ⟨p.1, p.2, none⟩ = a.cell? ⟨p.1, p.2, none⟩ ∧ w.frozen? ⟨p.1, p.2, none⟩ = a.frozen? ⟨p.1, p.2, none⟩
theorem Kept.refl (fp : List Pos) (a : World) : Kept fp a a := fun _ _ => ⟨rfl, rfl⟩
theorem Kept.below {fp : List Pos} {a w w' : World} {C : Nat} (h : Kept fp a w) (hb : Below C w w') (hC : ∀ p ∈ fp, p.1 < C) : Kept fp a w' := fun p hp =>
  ⟨(hb.cell (p := ⟨p.1, p.2, none⟩) (hC p hp)).trans (h p hp).1, (hb.frozen (p := ⟨p.1, p.2, none⟩) (hC p hp)).trans (h p hp).2⟩
theorem Kept.wr {fp g : List Pos} {a w w' : World} (h : Kept fp a w) (hw : Wr g w w') (hl : ∀ p ∈ fp, p.1 < w.heap.size) (hd : ∀ p ∈ fp, p ∉ g) : Kept fp a w' := fun p hp =>
  ⟨(hw.cell p (hl p hp) (hd p hp)).trans (h p hp).1, (hw.frozen p (hl p hp)).trans (h p hp).2⟩
theorem Kept.sub {fp g : List Pos} {a w : World} (h : Kept fp a w) (hs : ∀ p ∈ g, p ∈ fp) : Kept g a w := fun p hp => h p (hs p hp)
theorem Sl.kept {α : Type} [GoT α] {M : Nat} {a w : World} {v : Value} {l : List α} {f fp : List Pos} (h : Sl M a v l f) (k : Kept fp a w) (hs : ∀ p ∈ f, p ∈ fp) : Sl M w v l f := h.keep fun p hp => (k p (hs p hp)).1
theorem Fresh.kept {B : Nat} {a w : World} {f fp : List Pos} (h : Fresh B a f) (k : Kept fp a w) (hs : ∀ p ∈ f, p ∈ fp) : Fresh B w f := ⟨h.nodup, h.ge, fun p hp => ((k p (hs p hp)).2).trans (h.free p hp)⟩
theorem cellb {w w' : World} {b o : Nat} {v : Value} (hb : Below w.heap.size w w') (c : w.cell? ⟨b, o, none⟩ = some v) : w'.cell? ⟨b, o, none⟩ = some v := (hb.cell (p := ⟨b, o, none⟩) (World.block_lt_of_cell? (w := w) (a := ⟨b, o, none⟩) c)).trans c
theorem cellw {w W w' : World} {g : List Pos} {b o : Nat} {v : Value} (hb : Below w.heap.size w W) (hw : Wr g W w') (c : w.cell? ⟨b, o, none⟩ = some v) (hn : (b, o) ∉ g) : w'.cell? ⟨b, o, none⟩ = some v :=
  (hw.cell (b, o) (Nat.lt_of_lt_of_le (World.block_lt_of_cell? (w := w) (a := ⟨b, o, none⟩) c) hb.size) hn).trans (cellb hb c)
theorem below_after2 {B C : Nat} {a W w1 : World} (h : Below B a W) (hb : Below C W w1) (hB : B ≤ C) : Below B a w1 := h.trans (hb.mono hB)
theorem Fresh.dis {B : Nat} {w : World} {f g : List Pos} (h : Fresh B w (f ++ g)) : ∀ p ∈ f, p ∉ g := fun _ hp hq => (List.nodup_append.1 h.nodup).2.2 _ hp _ hq rfl
theorem Fresh.dis' {B : Nat} {w : World} {f g : List Pos} (h : Fresh B w (f ++ g)) : ∀ p ∈ g, p ∉ f := fun _ hp hq => (List.nodup_append.1 h.nodup).2.2 _ hq _ hp rfl
theorem Sl.belowW {α : Type} [GoT α] {M : Nat} {w W : World} {v : Value} {l : List α} {f : List Pos} (h : Sl M w v l f) (hb : Below w.heap.size w W) : Sl M W v l f := h.keep (Live.same_below hb (Live.lt h.live))
theorem Sl.wr2 {α : Type} [GoT α] {M : Nat} {w W w' : World} {v : Value} {l : List α} {f g : List Pos} (h : Sl M w v l f) (hb : Below w.heap.size w W) (hw : Wr g W w') (hd : ∀ p ∈ f, p ∉ g) : Sl M w' v l f := (h.belowW hb).wr hw hd
theorem Fresh.belowL {B : Nat} {w W : World} {f : List Pos} (h : Fresh B w f) (hb : Below w.heap.size w W) (hl : ∀ p ∈ f, p.1 < w.heap.size) : Fresh B W f := h.below hb hl
theorem Fresh.wr2 {B : Nat} {w W w' : World} {f g : List Pos} (h : Fresh B w f) (hb : Below w.heap.size w W) (hw : Wr g W w') (hl : ∀ p ∈ f, p.1 < w.heap.size) : Fresh B w' f :=
  ⟨h.nodup, h.ge, fun p hp => (hw.frozen p (Nat.lt_of_lt_of_le (hl p hp) hb.size)).trans ((hb.frozen (p := ⟨p.1, p.2, none⟩) (hl p hp)).trans (h.free p hp))⟩
theorem Kept.wr2 {fp g : List Pos} {a w W w' : World} (h : Kept fp a w) (hb : Below w.heap.size w W) (hw : Wr g W w') (hl : ∀ p ∈ fp, p.1 < w.heap.size) (hd : ∀ p ∈ fp, p ∉ g) : Kept fp a w' :=
  (h.below hb hl).wr hw (fun p hp => Nat.lt_of_lt_of_le (hl p hp) hb.size) hd
theorem wrs {w W w' : World} {g : List Pos} (hw : Wr g W w') (hb : Below w.heap.size w W) : w.heap.size ≤ w'.heap.size := Nat.le_trans hb.size hw.size
theorem wrb {w W w' : World} {g : List Pos} {C : Nat} (hw : Wr g W w') (hb : Below w.heap.size w W) (hC : C ≤ w.heap.size) (hge : ∀ p ∈ g, C ≤ p.1) : Below C w w' := (hb.mono hC).trans (hw.below (Nat.le_trans hC hb.size) hge)
theorem Fresh.pre2 {B : Nat} {w : World} {a b c : List Pos} (h : Fresh B w (a ++ (b ++ c))) : Fresh B w (a ++ b) := by rw [← List.append_assoc] at h; exact h.left
theorem Fresh.pre3 {B : Nat} {w : World} {a b c d : List Pos} (h : Fresh B w (a ++ (b ++ (c ++ d)))) : Fresh B w (a ++ (b ++ c)) := by rw [← List.append_assoc, ← List.append_assoc] at h; have := h.left; rwa [List.append_assoc] at this
/-- the measure bounds the marks -/
class GoMS (α : Type) [GoT α] [GoM α] [GoS α] : Prop where
  le : ∀ x : α, GoM.cnt x ≤ 5 + 5 * GoS.sz x
theorem cntL_le {α : Type} [GoT α] [GoM α] [GoS α] [GoMS α] : ∀ l : List α, cntL l ≤ 5 * szL l
  | [] => by simp [cntL]
  | x :: xs => by
    have h1 := cntL_le xs
    have h2 := GoMS.le x
    simp only [cntL, szL, szs, List.length_cons] at *
    omega
instance : GoMS Int := ⟨fun _ => by show 1 ≤ 5 + 5 * 0; omega⟩
def Out_Seen_b (w : World) (y0 : DSeen) (y1 : Bool) (e : Ending) (w' : World) : Prop :=
  e = .returned (.tuple #[.agg #[.int .i64 y0.client, .int .i64 y0.seq, .int .i64 y0.rev], .bool y1]) ∧ Below w.heap.size w w'
def Out_IntS_b (w : World) (y0 : List Int) (y1 : Bool) (e : Ending) (w' : World) : Prop :=
  ∃ v0 f0, e = .returned (.tuple #[v0, .bool y1]) ∧ Sl BIG w' v0 y0 f0 ∧ Fresh w.heap.size w' f0 ∧ Below w.heap.size w w'
def Out_IntSS (w : World) (y0 : List (List Int)) (e : Ending) (w' : World) : Prop :=
  ∃ v0 f0, e = .returned (v0) ∧ Sl BIG w' v0 y0 f0 ∧ Fresh w.heap.size w' f0 ∧ Below w.heap.size w w'
def Out_PartS (w : World) (y0 : List DPart) (e : Ending) (w' : World) : Prop :=
  ∃ v0 f0, e = .returned (v0) ∧ Sl BIG w' v0 y0 f0 ∧ Fresh w.heap.size w' f0 ∧ Below w.heap.size w w'
def Out_PartS_b (w : World) (y0 : List DPart) (y1 : Bool) (e : Ending) (w' : World) : Prop :=
  ∃ v0 f0, e = .returned (.tuple #[v0, .bool y1]) ∧ Sl BIG w' v0 y0 f0 ∧ Fresh w.heap.size w' f0 ∧ Below w.heap.size w w'
def Out_PartSS_b (w : World) (y0 : List (List DPart)) (y1 : Bool) (e : Ending) (w' : World) : Prop :=
  ∃ v0 f0, e = .returned (.tuple #[v0, .bool y1]) ∧ Sl BIG w' v0 y0 f0 ∧ Fresh w.heap.size w' f0 ∧ Below w.heap.size w w'
def Out_Ring (w : World) (y0 : DRing) (e : Ending) (w' : World) : Prop :=
  ∃ v0_list f0_list, e = .returned (.agg #[.int .i64 y0.cap, .int .i64 y0.next, .bool y0.out, v0_list]) ∧ Sl BIG w' v0_list y0.list f0_list ∧ Fresh w.heap.size w' f0_list ∧ Below w.heap.size w w'
def Out_Ring_b (w : World) (y0 : DRing) (y1 : Bool) (e : Ending) (w' : World) : Prop :=
  ∃ v0_list f0_list, e = .returned (.tuple #[.agg #[.int .i64 y0.cap, .int .i64 y0.next, .bool y0.out, v0_list], .bool y1]) ∧ Sl BIG w' v0_list y0.list f0_list ∧ Fresh w.heap.size w' f0_list ∧ Below w.heap.size w w'
def Out_Ring_EntryS_i (w : World) (y0 : DRing) (y1 : List DEntry) (y2 : Int) (e : Ending) (w' : World) : Prop :=
  ∃ v0_list v1 f0_list f1, e = .returned (.tuple #[.agg #[.int .i64 y0.cap, .int .i64 y0.next, .bool y0.out, v0_list], v1, .int .i64 y2]) ∧ Sl BIG w' v0_list y0.list f0_list ∧ Sl BIG w' v1 y1 f1 ∧ Fresh w.heap.size w' (f0_list ++ f1) ∧ Below w.heap.size w w'
def Out_Doc (w : World) (y0 : DDoc) (e : Ending) (w' : World) : Prop :=
  ∃ v0_text v0_list v0_seen f0_text f0_list f0_seen, e = .returned (.agg #[.string y0.name, .int .i64 y0.from_, v0_text, v0_list, v0_seen]) ∧ Sl BIG w' v0_text y0.text f0_text ∧ Sl BIG w' v0_list y0.list f0_list ∧ Sl BIG w' v0_seen y0.seen f0_seen ∧ y0.name.size ≤ BIG ∧ Fresh w.heap.size w' (f0_text ++ (f0_list ++ f0_seen)) ∧ Below w.heap.size w w'
def Out_Doc_b (w : World) (y0 : DDoc) (y1 : Bool) (e : Ending) (w' : World) : Prop :=
  ∃ v0_text v0_list v0_seen f0_text f0_list f0_seen, e = .returned (.tuple #[.agg #[.string y0.name, .int .i64 y0.from_, v0_text, v0_list, v0_seen], .bool y1]) ∧ Sl BIG w' v0_text y0.text f0_text ∧ Sl BIG w' v0_list y0.list f0_list ∧ Sl BIG w' v0_seen y0.seen f0_seen ∧ y0.name.size ≤ BIG ∧ Fresh w.heap.size w' (f0_text ++ (f0_list ++ f0_seen)) ∧ Below w.heap.size w w'
def Out_IntS (w : World) (y0 : List Int) (e : Ending) (w' : World) : Prop :=
  ∃ v0 f0, e = .returned (v0) ∧ Sl BIG w' v0 y0 f0 ∧ Fresh w.heap.size w' f0 ∧ Below w.heap.size w w'
def Out_EntryS_i (w : World) (y0 : List DEntry) (y1 : Int) (e : Ending) (w' : World) : Prop :=
  ∃ v0 f0, e = .returned (.tuple #[v0, .int .i64 y1]) ∧ Sl BIG w' v0 y0 f0 ∧ Fresh w.heap.size w' f0 ∧ Below w.heap.size w w'
def Out_EntryS (w : World) (y0 : List DEntry) (e : Ending) (w' : World) : Prop :=
  ∃ v0 f0, e = .returned (v0) ∧ Sl BIG w' v0 y0 f0 ∧ Fresh w.heap.size w' f0 ∧ Below w.heap.size w w'
def Out_PartS_i (w : World) (y0 : List DPart) (y1 : Int) (e : Ending) (w' : World) : Prop :=
  ∃ v0 f0, e = .returned (.tuple #[v0, .int .i64 y1]) ∧ Sl BIG w' v0 y0 f0 ∧ Fresh w.heap.size w' f0 ∧ Below w.heap.size w w'
def Out_Doc_i_i (w : World) (y0 : DDoc) (y1 : Int) (y2 : Int) (e : Ending) (w' : World) : Prop :=
  ∃ v0_text v0_list v0_seen f0_text f0_list f0_seen, e = .returned (.tuple #[.agg #[.string y0.name, .int .i64 y0.from_, v0_text, v0_list, v0_seen], .int .i64 y1, .int .i64 y2]) ∧ Sl BIG w' v0_text y0.text f0_text ∧ Sl BIG w' v0_list y0.list f0_list ∧ Sl BIG w' v0_seen y0.seen f0_seen ∧ y0.name.size ≤ BIG ∧ Fresh w.heap.size w' (f0_text ++ (f0_list ++ f0_seen)) ∧ Below w.heap.size w w'
def Out_Hub (w : World) (y0 : DHub) (e : Ending) (w' : World) : Prop :=
  ∃ v0_docs v0_subs f0_docs f0_subs, e = .returned (.agg #[.bool y0.shut, v0_docs, v0_subs, .int .i64 y0.last]) ∧ Sl BIG w' v0_docs y0.docs f0_docs ∧ Sl BIG w' v0_subs y0.subs f0_subs ∧ Fresh w.heap.size w' (f0_docs ++ f0_subs) ∧ Below w.heap.size w w'
def Out_Hub_i (w : World) (y0 : DHub) (y1 : Int) (e : Ending) (w' : World) : Prop :=
  ∃ v0_docs v0_subs f0_docs f0_subs, e = .returned (.tuple #[.agg #[.bool y0.shut, v0_docs, v0_subs, .int .i64 y0.last], .int .i64 y1]) ∧ Sl BIG w' v0_docs y0.docs f0_docs ∧ Sl BIG w' v0_subs y0.subs f0_subs ∧ Fresh w.heap.size w' (f0_docs ++ f0_subs) ∧ Below w.heap.size w w'
def Out_Hub_i_i (w : World) (y0 : DHub) (y1 : Int) (y2 : Int) (e : Ending) (w' : World) : Prop :=
  ∃ v0_docs v0_subs f0_docs f0_subs, e = .returned (.tuple #[.agg #[.bool y0.shut, v0_docs, v0_subs, .int .i64 y0.last], .int .i64 y1, .int .i64 y2]) ∧ Sl BIG w' v0_docs y0.docs f0_docs ∧ Sl BIG w' v0_subs y0.subs f0_subs ∧ Fresh w.heap.size w' (f0_docs ++ f0_subs) ∧ Below w.heap.size w w'
def Out_Hub_EntryS_i (w : World) (y0 : DHub) (y1 : List DEntry) (y2 : Int) (e : Ending) (w' : World) : Prop :=
  ∃ v0_docs v0_subs v1 f0_docs f0_subs f1, e = .returned (.tuple #[.agg #[.bool y0.shut, v0_docs, v0_subs, .int .i64 y0.last], v1, .int .i64 y2]) ∧ Sl BIG w' v0_docs y0.docs f0_docs ∧ Sl BIG w' v0_subs y0.subs f0_subs ∧ Sl BIG w' v1 y1 f1 ∧ Fresh w.heap.size w' (f0_docs ++ (f0_subs ++ f1)) ∧ Below w.heap.size w w'
def Out_Hub_IntS_i_i (w : World) (y0 : DHub) (y1 : List Int) (y2 : Int) (y3 : Int) (e : Ending) (w' : World) : Prop :=
  ∃ v0_docs v0_subs v1 f0_docs f0_subs f1, e = .returned (.tuple #[.agg #[.bool y0.shut, v0_docs, v0_subs, .int .i64 y0.last], v1, .int .i64 y2, .int .i64 y3]) ∧ Sl BIG w' v0_docs y0.docs f0_docs ∧ Sl BIG w' v0_subs y0.subs f0_subs ∧ Sl BIG w' v1 y1 f1 ∧ Fresh w.heap.size w' (f0_docs ++ (f0_subs ++ f1)) ∧ Below w.heap.size w w'
def Out_Hub_Answer (w : World) (y0 : DHub) (y1 : DAnswer) (e : Ending) (w' : World) : Prop :=
  ∃ v0_docs v0_subs v1_text v1_list f0_docs f0_subs f1_text f1_list, e = .returned (.tuple #[.agg #[.bool y0.shut, v0_docs, v0_subs, .int .i64 y0.last], .agg #[.int .i64 y1.code, .int .i64 y1.rev, v1_text, v1_list]]) ∧ Sl BIG w' v0_docs y0.docs f0_docs ∧ Sl BIG w' v0_subs y0.subs f0_subs ∧ Sl BIG w' v1_text y1.text f1_text ∧ Sl BIG w' v1_list y1.list f1_list ∧ Fresh w.heap.size w' (f0_docs ++ (f0_subs ++ (f1_text ++ f1_list))) ∧ Below w.heap.size w w'
def Out_Hub_AnswerS (w : World) (y0 : DHub) (y1 : List DAnswer) (e : Ending) (w' : World) : Prop :=
  ∃ v0_docs v0_subs v1 f0_docs f0_subs f1, e = .returned (.tuple #[.agg #[.bool y0.shut, v0_docs, v0_subs, .int .i64 y0.last], v1]) ∧ Sl BIG w' v0_docs y0.docs f0_docs ∧ Sl BIG w' v0_subs y0.subs f0_subs ∧ Sl BIG w' v1 y1 f1 ∧ Fresh w.heap.size w' (f0_docs ++ (f0_subs ++ f1)) ∧ Below w.heap.size w w'
def Out_Entry (w : World) (y0 : DEntry) (e : Ending) (w' : World) : Prop :=
  ∃ v0_o f0_o, e = .returned (.agg #[.int .i64 y0.client, .int .i64 y0.seq, v0_o]) ∧ Sl BIG w' v0_o y0.o f0_o ∧ Fresh w.heap.size w' f0_o ∧ Below w.heap.size w w'
def Out_PartS_PartS_b (w : World) (y0 : List DPart) (y1 : List DPart) (y2 : Bool) (e : Ending) (w' : World) : Prop :=
  ∃ v0 v1 f0 f1, e = .returned (.tuple #[v0, v1, .bool y2]) ∧ Sl BIG w' v0 y0 f0 ∧ Sl BIG w' v1 y1 f1 ∧ Fresh w.heap.size w' (f0 ++ f1) ∧ Below w.heap.size w w'
def Out_PartSS_PartS_b (w : World) (y0 : List (List DPart)) (y1 : List DPart) (y2 : Bool) (e : Ending) (w' : World) : Prop :=
  ∃ v0 v1 f0 f1, e = .returned (.tuple #[v0, v1, .bool y2]) ∧ Sl BIG w' v0 y0 f0 ∧ Sl BIG w' v1 y1 f1 ∧ Fresh w.heap.size w' (f0 ++ f1) ∧ Below w.heap.size w w'
def Out_Call (w : World) (y0 : DCall) (e : Ending) (w' : World) : Prop :=
  ∃ v0_o v0_text f0_o f0_text, e = .returned (.agg #[.int .i64 y0.kind, .string y0.doc, .int .i64 y0.client, .int .i64 y0.seq, .int .i64 y0.n, v0_o, v0_text]) ∧ Sl BIG w' v0_o y0.o f0_o ∧ Sl BIG w' v0_text y0.text f0_text ∧ y0.doc.size ≤ BIG ∧ Fresh w.heap.size w' (f0_o ++ f0_text) ∧ Below w.heap.size w w'
def Out_Answer (w : World) (y0 : DAnswer) (e : Ending) (w' : World) : Prop :=
  ∃ v0_text v0_list f0_text f0_list, e = .returned (.agg #[.int .i64 y0.code, .int .i64 y0.rev, v0_text, v0_list]) ∧ Sl BIG w' v0_text y0.text f0_text ∧ Sl BIG w' v0_list y0.list f0_list ∧ Fresh w.heap.size w' (f0_text ++ f0_list) ∧ Below w.heap.size w w'
theorem blw2 {B : Nat} {a w : World} (h : Below B a w := by repeat' first | with_reducible (first | exact Below.refl _ _ | assumption | apply Below.setCell | apply Below.alloc | apply Below.drew | apply belowN | refine below_after2 ?_ (by assumption) ?_) | omega | (simp; done) | (simp; omega)) : Below B a w := h
theorem mc2 {w w' : World} {b0 o0 b1 o1 : Nat} {v0 v1 : Value} (h : Below w.heap.size w w') (k0 : w.cell? ⟨b0, o0, none⟩ = some v0) (k1 : w.cell? ⟨b1, o1, none⟩ = some v1) : w'.cell? ⟨b0, o0, none⟩ = some v0 ∧ w'.cell? ⟨b1, o1, none⟩ = some v1 := ⟨cellb h k0, cellb h k1⟩
theorem mc3 {w w' : World} {b0 o0 b1 o1 b2 o2 : Nat} {v0 v1 v2 : Value} (h : Below w.heap.size w w') (k0 : w.cell? ⟨b0, o0, none⟩ = some v0) (k1 : w.cell? ⟨b1, o1, none⟩ = some v1) (k2 : w.cell? ⟨b2, o2, none⟩ = some v2) : w'.cell? ⟨b0, o0, none⟩ = some v0 ∧ w'.cell? ⟨b1, o1, none⟩ = some v1 ∧ w'.cell? ⟨b2, o2, none⟩ = some v2 := ⟨cellb h k0, cellb h k1, cellb h k2⟩
theorem mc4 {w w' : World} {b0 o0 b1 o1 b2 o2 b3 o3 : Nat} {v0 v1 v2 v3 : Value} (h : Below w.heap.size w w') (k0 : w.cell? ⟨b0, o0, none⟩ = some v0) (k1 : w.cell? ⟨b1, o1, none⟩ = some v1) (k2 : w.cell? ⟨b2, o2, none⟩ = some v2) (k3 : w.cell? ⟨b3, o3, none⟩ = some v3) : w'.cell? ⟨b0, o0, none⟩ = some v0 ∧ w'.cell? ⟨b1, o1, none⟩ = some v1 ∧ w'.cell? ⟨b2, o2, none⟩ = some v2 ∧ w'.cell? ⟨b3, o3, none⟩ = some v3 := ⟨cellb h k0, cellb h k1, cellb h k2, cellb h k3⟩
theorem mc5 {w w' : World} {b0 o0 b1 o1 b2 o2 b3 o3 b4 o4 : Nat} {v0 v1 v2 v3 v4 : Value} (h : Below w.heap.size w w') (k0 : w.cell? ⟨b0, o0, none⟩ = some v0) (k1 : w.cell? ⟨b1, o1, none⟩ = some v1) (k2 : w.cell? ⟨b2, o2, none⟩ = some v2) (k3 : w.cell? ⟨b3, o3, none⟩ = some v3) (k4 : w.cell? ⟨b4, o4, none⟩ = some v4) : w'.cell? ⟨b0, o0, none⟩ = some v0 ∧ w'.cell? ⟨b1, o1, none⟩ = some v1 ∧ w'.cell? ⟨b2, o2, none⟩ = some v2 ∧ w'.cell? ⟨b3, o3, none⟩ = some v3 ∧ w'.cell? ⟨b4, o4, none⟩ = some v4 := ⟨cellb h k0, cellb h k1, cellb h k2, cellb h k3, cellb h k4⟩
theorem mc6 {w w' : World} {b0 o0 b1 o1 b2 o2 b3 o3 b4 o4 b5 o5 : Nat} {v0 v1 v2 v3 v4 v5 : Value} (h : Below w.heap.size w w') (k0 : w.cell? ⟨b0, o0, none⟩ = some v0) (k1 : w.cell? ⟨b1, o1, none⟩ = some v1) (k2 : w.cell? ⟨b2, o2, none⟩ = some v2) (k3 : w.cell? ⟨b3, o3, none⟩ = some v3) (k4 : w.cell? ⟨b4, o4, none⟩ = some v4) (k5 : w.cell? ⟨b5, o5, none⟩ = some v5) : w'.cell? ⟨b0, o0, none⟩ = some v0 ∧ w'.cell? ⟨b1, o1, none⟩ = some v1 ∧ w'.cell? ⟨b2, o2, none⟩ = some v2 ∧ w'.cell? ⟨b3, o3, none⟩ = some v3 ∧ w'.cell? ⟨b4, o4, none⟩ = some v4 ∧ w'.cell? ⟨b5, o5, none⟩ = some v5 := ⟨cellb h k0, cellb h k1, cellb h k2, cellb h k3, cellb h k4, cellb h k5⟩
theorem mc7 {w w' : World} {b0 o0 b1 o1 b2 o2 b3 o3 b4 o4 b5 o5 b6 o6 : Nat} {v0 v1 v2 v3 v4 v5 v6 : Value} (h : Below w.heap.size w w') (k0 : w.cell? ⟨b0, o0, none⟩ = some v0) (k1 : w.cell? ⟨b1, o1, none⟩ = some v1) (k2 : w.cell? ⟨b2, o2, none⟩ = some v2) (k3 : w.cell? ⟨b3, o3, none⟩ = some v3) (k4 : w.cell? ⟨b4, o4, none⟩ = some v4) (k5 : w.cell? ⟨b5, o5, none⟩ = some v5) (k6 : w.cell? ⟨b6, o6, none⟩ = some v6) : w'.cell? ⟨b0, o0, none⟩ = some v0 ∧ w'.cell? ⟨b1, o1, none⟩ = some v1 ∧ w'.cell? ⟨b2, o2, none⟩ = some v2 ∧ w'.cell? ⟨b3, o3, none⟩ = some v3 ∧ w'.cell? ⟨b4, o4, none⟩ = some v4 ∧ w'.cell? ⟨b5, o5, none⟩ = some v5 ∧ w'.cell? ⟨b6, o6, none⟩ = some v6 := ⟨cellb h k0, cellb h k1, cellb h k2, cellb h k3, cellb h k4, cellb h k5, cellb h k6⟩
theorem mc8 {w w' : World} {b0 o0 b1 o1 b2 o2 b3 o3 b4 o4 b5 o5 b6 o6 b7 o7 : Nat} {v0 v1 v2 v3 v4 v5 v6 v7 : Value} (h : Below w.heap.size w w') (k0 : w.cell? ⟨b0, o0, none⟩ = some v0) (k1 : w.cell? ⟨b1, o1, none⟩ = some v1) (k2 : w.cell? ⟨b2, o2, none⟩ = some v2) (k3 : w.cell? ⟨b3, o3, none⟩ = some v3) (k4 : w.cell? ⟨b4, o4, none⟩ = some v4) (k5 : w.cell? ⟨b5, o5, none⟩ = some v5) (k6 : w.cell? ⟨b6, o6, none⟩ = some v6) (k7 : w.cell? ⟨b7, o7, none⟩ = some v7) : w'.cell? ⟨b0, o0, none⟩ = some v0 ∧ w'.cell? ⟨b1, o1, none⟩ = some v1 ∧ w'.cell? ⟨b2, o2, none⟩ = some v2 ∧ w'.cell? ⟨b3, o3, none⟩ = some v3 ∧ w'.cell? ⟨b4, o4, none⟩ = some v4 ∧ w'.cell? ⟨b5, o5, none⟩ = some v5 ∧ w'.cell? ⟨b6, o6, none⟩ = some v6 ∧ w'.cell? ⟨b7, o7, none⟩ = some v7 := ⟨cellb h k0, cellb h k1, cellb h k2, cellb h k3, cellb h k4, cellb h k5, cellb h k6, cellb h k7⟩
end Go.Proofs.Ytiahgjnpinjblaa

namespace Go.Proofs.Ytiahgjnpinjblaa
open Go.RowKit
def Bx (w : World) (b : Nat) (vs : List Value) : Prop := b < w.heap.size ∧ ∀ j v, vs[j]? = some v → w.cell? ⟨b, j, none⟩ = some v ∧ w.frozen? ⟨b, j, none⟩ = false
section
variable {w w' : World} {b C : Nat} {vs : List Value}
theorem Bx.lt (h : Bx w b vs) : b < w.heap.size := h.1
theorem Bx.new {c : Array Value} {t : TypeId} (hb : b = w.heap.size) : Bx (w.alloc (.cells c t)) b c.toList := by
  subst hb
  exact ⟨by simp, fun j v hj => ⟨by rw [World.cell?_alloc_at _ _ _ _ rfl]; simpa using hj, World.frozen?_alloc_at _ _ _ _ rfl⟩⟩
theorem Bx.below (h : Bx w b vs) (hb : Below C w w') (hC : b < C) : Bx w' b vs :=
  ⟨Nat.lt_of_lt_of_le h.1 hb.size, fun j v hj => ⟨(hb.cell (p := ⟨b, j, none⟩) hC).trans (h.2 j v hj).1, (hb.frozen (p := ⟨b, j, none⟩) hC).trans (h.2 j v hj).2⟩⟩
theorem Bx.at (h : Bx w b vs) (hb : Below w.heap.size w w') : Bx w' b vs := h.below hb h.1
theorem Bx.alloc (h : Bx w b vs) (o : Obj) : Bx (w.alloc o) b vs := h.at ((Below.refl _ _).alloc (Nat.le_refl _) o)
theorem Bx.drew (h : Bx w b vs) : Bx w.drew b vs := h
theorem Bx.drewN (h : Bx w b vs) (n : Nat) : Bx (w.drewN n) b vs := h
theorem Bx.setO {b' o : Nat} {u : Value} (h : Bx w b vs) (hn : b ≠ b') : Bx (w.setCell ⟨b', o, none⟩ u) b vs :=
  ⟨by simpa using h.1, fun j v hj => ⟨by rw [cell_setCell, if_neg (fun e => hn e.1)]; exact (h.2 j v hj).1, by rw [World.frozen?_setCell]; exact (h.2 j v hj).2⟩⟩
theorem Bx.set (h : Bx w b vs) (k : Nat) (u : Value) : Bx (w.setCell ⟨b, k, none⟩ u) b (vs.set k u) := by
  refine ⟨by simpa using h.1, fun j v hj => ?_⟩
  rw [World.frozen?_setCell, cell_setCell]
  by_cases e : j = k
  · subst e
    have hlt : j < vs.length := by have := (List.getElem?_eq_some_iff.1 hj).1; simpa using this
    rw [List.getElem?_set_self hlt] at hj
    obtain ⟨u', hu⟩ := get_some hlt
    obtain ⟨h1, h2⟩ := h.2 j u' hu
    rw [if_pos ⟨rfl, rfl⟩, h1]
    exact ⟨by simpa using hj, h2⟩
  · rw [List.getElem?_set_ne (Ne.symm e)] at hj
    rw [if_neg (fun g => e g.2)]
    exact h.2 j v hj
theorem Bx.wr {fp : List Pos} (h : Bx w b vs) (hw : Wr fp w w') (hn : ∀ p ∈ fp, p.1 ≠ b) : Bx w' b vs :=
  ⟨Nat.lt_of_lt_of_le h.1 hw.size, fun j v hj => ⟨(hw.cell (b, j) h.1 fun hm => hn _ hm rfl).trans (h.2 j v hj).1, (hw.frozen (b, j) h.1).trans (h.2 j v hj).2⟩⟩
end
section
variable {w : World} {b : Nat} {v0 v1 v2 v3 v4 v5 v6 : Value}
theorem Bx.o1 (h : Bx w b [v0]) : b < w.heap.size ∧ w.cell? ⟨b, 0, none⟩ = some v0 := ⟨h.1, (h.2 0 _ rfl).1⟩
theorem Bx.q1 (h : Bx w b [v0]) : b < w.heap.size ∧ w.cell? ⟨b, 0, none⟩ = some v0 ∧ w.frozen? ⟨b, 0, none⟩ = false := ⟨h.1, (h.2 0 _ rfl).1, (h.2 0 _ rfl).2⟩
theorem Bx.o2 (h : Bx w b [v0, v1]) : b < w.heap.size ∧ w.cell? ⟨b, 0, none⟩ = some v0 ∧ w.cell? ⟨b, 1, none⟩ = some v1 := ⟨h.1, (h.2 0 _ rfl).1, (h.2 1 _ rfl).1⟩
theorem Bx.q2 (h : Bx w b [v0, v1]) : b < w.heap.size ∧ w.cell? ⟨b, 0, none⟩ = some v0 ∧ w.cell? ⟨b, 1, none⟩ = some v1 ∧ w.frozen? ⟨b, 0, none⟩ = false ∧ w.frozen? ⟨b, 1, none⟩ = false := ⟨h.1, (h.2 0 _ rfl).1, (h.2 1 _ rfl).1, (h.2 0 _ rfl).2, (h.2 1 _ rfl).2⟩
theorem Bx.o3 (h : Bx w b [v0, v1, v2]) : b < w.heap.size ∧ w.cell? ⟨b, 0, none⟩ = some v0 ∧ w.cell? ⟨b, 1, none⟩ = some v1 ∧ w.cell? ⟨b, 2, none⟩ = some v2 := ⟨h.1, (h.2 0 _ rfl).1, (h.2 1 _ rfl).1, (h.2 2 _ rfl).1⟩
theorem Bx.q3 (h : Bx w b [v0, v1, v2]) : b < w.heap.size ∧ w.cell? ⟨b, 0, none⟩ = some v0 ∧ w.cell? ⟨b, 1, none⟩ = some v1 ∧ w.cell? ⟨b, 2, none⟩ = some v2 ∧ w.frozen? ⟨b, 0, none⟩ = false ∧ w.frozen? ⟨b, 1, none⟩ = false ∧ w.frozen? ⟨b, 2, none⟩ = false := ⟨h.1, (h.2 0 _ rfl).1, (h.2 1 _ rfl).1, (h.2 2 _ rfl).1, (h.2 0 _ rfl).2, (h.2 1 _ rfl).2, (h.2 2 _ rfl).2⟩
theorem Bx.o4 (h : Bx w b [v0, v1, v2, v3]) : b < w.heap.size ∧ w.cell? ⟨b, 0, none⟩ = some v0 ∧ w.cell? ⟨b, 1, none⟩ = some v1 ∧ w.cell? ⟨b, 2, none⟩ = some v2 ∧ w.cell? ⟨b, 3, none⟩ = some v3 := ⟨h.1, (h.2 0 _ rfl).1, (h.2 1 _ rfl).1, (h.2 2 _ rfl).1, (h.2 3 _ rfl).1⟩
theorem Bx.q4 (h : Bx w b [v0, v1, v2, v3]) : b < w.heap.size ∧ w.cell? ⟨b, 0, none⟩ = some v0 ∧ w.cell? ⟨b, 1, none⟩ = some v1 ∧ w.cell? ⟨b, 2, none⟩ = some v2 ∧ w.cell? ⟨b, 3, none⟩ = some v3 ∧ w.frozen? ⟨b, 0, none⟩ = false ∧ w.frozen? ⟨b, 1, none⟩ = false ∧ w.frozen? ⟨b, 2, none⟩ = false ∧ w.frozen? ⟨b, 3, none⟩ = false := ⟨h.1, (h.2 0 _ rfl).1, (h.2 1 _ rfl).1, (h.2 2 _ rfl).1, (h.2 3 _ rfl).1, (h.2 0 _ rfl).2, (h.2 1 _ rfl).2, (h.2 2 _ rfl).2, (h.2 3 _ rfl).2⟩
theorem Bx.o5 (h : Bx w b [v0, v1, v2, v3, v4]) : b < w.heap.size ∧ w.cell? ⟨b, 0, none⟩ = some v0 ∧ w.cell? ⟨b, 1, none⟩ = some v1 ∧ w.cell? ⟨b, 2, none⟩ = some v2 ∧ w.cell? ⟨b, 3, none⟩ = some v3 ∧ w.cell? ⟨b, 4, none⟩ = some v4 := ⟨h.1, (h.2 0 _ rfl).1, (h.2 1 _ rfl).1, (h.2 2 _ rfl).1, (h.2 3 _ rfl).1, (h.2 4 _ rfl).1⟩
theorem Bx.q5 (h : Bx w b [v0, v1, v2, v3, v4]) : b < w.heap.size ∧ w.cell? ⟨b, 0, none⟩ = some v0 ∧ w.cell? ⟨b, 1, none⟩ = some v1 ∧ w.cell? ⟨b, 2, none⟩ = some v2 ∧ w.cell? ⟨b, 3, none⟩ = some v3 ∧ w.cell? ⟨b, 4, none⟩ = some v4 ∧ w.frozen? ⟨b, 0, none⟩ = false ∧ w.frozen? ⟨b, 1, none⟩ = false ∧ w.frozen? ⟨b, 2, none⟩ = false ∧ w.frozen? ⟨b, 3, none⟩ = false ∧ w.frozen? ⟨b, 4, none⟩ = false := ⟨h.1, (h.2 0 _ rfl).1, (h.2 1 _ rfl).1, (h.2 2 _ rfl).1, (h.2 3 _ rfl).1, (h.2 4 _ rfl).1, (h.2 0 _ rfl).2, (h.2 1 _ rfl).2, (h.2 2 _ rfl).2, (h.2 3 _ rfl).2, (h.2 4 _ rfl).2⟩
theorem Bx.o6 (h : Bx w b [v0, v1, v2, v3, v4, v5]) : b < w.heap.size ∧ w.cell? ⟨b, 0, none⟩ = some v0 ∧ w.cell? ⟨b, 1, none⟩ = some v1 ∧ w.cell? ⟨b, 2, none⟩ = some v2 ∧ w.cell? ⟨b, 3, none⟩ = some v3 ∧ w.cell? ⟨b, 4, none⟩ = some v4 ∧ w.cell? ⟨b, 5, none⟩ = some v5 := ⟨h.1, (h.2 0 _ rfl).1, (h.2 1 _ rfl).1, (h.2 2 _ rfl).1, (h.2 3 _ rfl).1, (h.2 4 _ rfl).1, (h.2 5 _ rfl).1⟩
theorem Bx.q6 (h : Bx w b [v0, v1, v2, v3, v4, v5]) : b < w.heap.size ∧ w.cell? ⟨b, 0, none⟩ = some v0 ∧ w.cell? ⟨b, 1, none⟩ = some v1 ∧ w.cell? ⟨b, 2, none⟩ = some v2 ∧ w.cell? ⟨b, 3, none⟩ = some v3 ∧ w.cell? ⟨b, 4, none⟩ = some v4 ∧ w.cell? ⟨b, 5, none⟩ = some v5 ∧ w.frozen? ⟨b, 0, none⟩ = false ∧ w.frozen? ⟨b, 1, none⟩ = false ∧ w.frozen? ⟨b, 2, none⟩ = false ∧ w.frozen? ⟨b, 3, none⟩ = false ∧ w.frozen? ⟨b, 4, none⟩ = false ∧ w.frozen? ⟨b, 5, none⟩ = false := ⟨h.1, (h.2 0 _ rfl).1, (h.2 1 _ rfl).1, (h.2 2 _ rfl).1, (h.2 3 _ rfl).1, (h.2 4 _ rfl).1, (h.2 5 _ rfl).1, (h.2 0 _ rfl).2, (h.2 1 _ rfl).2, (h.2 2 _ rfl).2, (h.2 3 _ rfl).2, (h.2 4 _ rfl).2, (h.2 5 _ rfl).2⟩
theorem Bx.o7 (h : Bx w b [v0, v1, v2, v3, v4, v5, v6]) : b < w.heap.size ∧ w.cell? ⟨b, 0, none⟩ = some v0 ∧ w.cell? ⟨b, 1, none⟩ = some v1 ∧ w.cell? ⟨b, 2, none⟩ = some v2 ∧ w.cell? ⟨b, 3, none⟩ = some v3 ∧ w.cell? ⟨b, 4, none⟩ = some v4 ∧ w.cell? ⟨b, 5, none⟩ = some v5 ∧ w.cell? ⟨b, 6, none⟩ = some v6 := ⟨h.1, (h.2 0 _ rfl).1, (h.2 1 _ rfl).1, (h.2 2 _ rfl).1, (h.2 3 _ rfl).1, (h.2 4 _ rfl).1, (h.2 5 _ rfl).1, (h.2 6 _ rfl).1⟩
theorem Bx.q7 (h : Bx w b [v0, v1, v2, v3, v4, v5, v6]) : b < w.heap.size ∧ w.cell? ⟨b, 0, none⟩ = some v0 ∧ w.cell? ⟨b, 1, none⟩ = some v1 ∧ w.cell? ⟨b, 2, none⟩ = some v2 ∧ w.cell? ⟨b, 3, none⟩ = some v3 ∧ w.cell? ⟨b, 4, none⟩ = some v4 ∧ w.cell? ⟨b, 5, none⟩ = some v5 ∧ w.cell? ⟨b, 6, none⟩ = some v6 ∧ w.frozen? ⟨b, 0, none⟩ = false ∧ w.frozen? ⟨b, 1, none⟩ = false ∧ w.frozen? ⟨b, 2, none⟩ = false ∧ w.frozen? ⟨b, 3, none⟩ = false ∧ w.frozen? ⟨b, 4, none⟩ = false ∧ w.frozen? ⟨b, 5, none⟩ = false ∧ w.frozen? ⟨b, 6, none⟩ = false := ⟨h.1, (h.2 0 _ rfl).1, (h.2 1 _ rfl).1, (h.2 2 _ rfl).1, (h.2 3 _ rfl).1, (h.2 4 _ rfl).1, (h.2 5 _ rfl).1, (h.2 6 _ rfl).1, (h.2 0 _ rfl).2, (h.2 1 _ rfl).2, (h.2 2 _ rfl).2, (h.2 3 _ rfl).2, (h.2 4 _ rfl).2, (h.2 5 _ rfl).2, (h.2 6 _ rfl).2⟩
theorem Bx.c1 (h : Bx w b [v0]) : w.cell? ⟨b, 0, none⟩ = some v0 := (h.2 0 _ rfl).1
theorem Bx.f1 (h : Bx w b [v0]) : w.frozen? ⟨b, 0, none⟩ = false := (h.2 0 _ rfl).2
theorem Bx.c2 (h : Bx w b [v0, v1]) : w.cell? ⟨b, 0, none⟩ = some v0 ∧ w.cell? ⟨b, 1, none⟩ = some v1 := ⟨(h.2 0 _ rfl).1, (h.2 1 _ rfl).1⟩
theorem Bx.f2 (h : Bx w b [v0, v1]) : w.frozen? ⟨b, 0, none⟩ = false ∧ w.frozen? ⟨b, 1, none⟩ = false := ⟨(h.2 0 _ rfl).2, (h.2 1 _ rfl).2⟩
theorem Bx.c3 (h : Bx w b [v0, v1, v2]) : w.cell? ⟨b, 0, none⟩ = some v0 ∧ w.cell? ⟨b, 1, none⟩ = some v1 ∧ w.cell? ⟨b, 2, none⟩ = some v2 := ⟨(h.2 0 _ rfl).1, (h.2 1 _ rfl).1, (h.2 2 _ rfl).1⟩
theorem Bx.f3 (h : Bx w b [v0, v1, v2]) : w.frozen? ⟨b, 0, none⟩ = false ∧ w.frozen? ⟨b, 1, none⟩ = false ∧ w.frozen? ⟨b, 2, none⟩ = false := ⟨(h.2 0 _ rfl).2, (h.2 1 _ rfl).2, (h.2 2 _ rfl).2⟩
theorem Bx.c4 (h : Bx w b [v0, v1, v2, v3]) : w.cell? ⟨b, 0, none⟩ = some v0 ∧ w.cell? ⟨b, 1, none⟩ = some v1 ∧ w.cell? ⟨b, 2, none⟩ = some v2 ∧ w.cell? ⟨b, 3, none⟩ = some v3 := ⟨(h.2 0 _ rfl).1, (h.2 1 _ rfl).1, (h.2 2 _ rfl).1, (h.2 3 _ rfl).1⟩
theorem Bx.f4 (h : Bx w b [v0, v1, v2, v3]) : w.frozen? ⟨b, 0, none⟩ = false ∧ w.frozen? ⟨b, 1, none⟩ = false ∧ w.frozen? ⟨b, 2, none⟩ = false ∧ w.frozen? ⟨b, 3, none⟩ = false := ⟨(h.2 0 _ rfl).2, (h.2 1 _ rfl).2, (h.2 2 _ rfl).2, (h.2 3 _ rfl).2⟩
theorem Bx.c5 (h : Bx w b [v0, v1, v2, v3, v4]) : w.cell? ⟨b, 0, none⟩ = some v0 ∧ w.cell? ⟨b, 1, none⟩ = some v1 ∧ w.cell? ⟨b, 2, none⟩ = some v2 ∧ w.cell? ⟨b, 3, none⟩ = some v3 ∧ w.cell? ⟨b, 4, none⟩ = some v4 := ⟨(h.2 0 _ rfl).1, (h.2 1 _ rfl).1, (h.2 2 _ rfl).1, (h.2 3 _ rfl).1, (h.2 4 _ rfl).1⟩
theorem Bx.f5 (h : Bx w b [v0, v1, v2, v3, v4]) : w.frozen? ⟨b, 0, none⟩ = false ∧ w.frozen? ⟨b, 1, none⟩ = false ∧ w.frozen? ⟨b, 2, none⟩ = false ∧ w.frozen? ⟨b, 3, none⟩ = false ∧ w.frozen? ⟨b, 4, none⟩ = false := ⟨(h.2 0 _ rfl).2, (h.2 1 _ rfl).2, (h.2 2 _ rfl).2, (h.2 3 _ rfl).2, (h.2 4 _ rfl).2⟩
theorem Bx.c6 (h : Bx w b [v0, v1, v2, v3, v4, v5]) : w.cell? ⟨b, 0, none⟩ = some v0 ∧ w.cell? ⟨b, 1, none⟩ = some v1 ∧ w.cell? ⟨b, 2, none⟩ = some v2 ∧ w.cell? ⟨b, 3, none⟩ = some v3 ∧ w.cell? ⟨b, 4, none⟩ = some v4 ∧ w.cell? ⟨b, 5, none⟩ = some v5 := ⟨(h.2 0 _ rfl).1, (h.2 1 _ rfl).1, (h.2 2 _ rfl).1, (h.2 3 _ rfl).1, (h.2 4 _ rfl).1, (h.2 5 _ rfl).1⟩
theorem Bx.f6 (h : Bx w b [v0, v1, v2, v3, v4, v5]) : w.frozen? ⟨b, 0, none⟩ = false ∧ w.frozen? ⟨b, 1, none⟩ = false ∧ w.frozen? ⟨b, 2, none⟩ = false ∧ w.frozen? ⟨b, 3, none⟩ = false ∧ w.frozen? ⟨b, 4, none⟩ = false ∧ w.frozen? ⟨b, 5, none⟩ = false := ⟨(h.2 0 _ rfl).2, (h.2 1 _ rfl).2, (h.2 2 _ rfl).2, (h.2 3 _ rfl).2, (h.2 4 _ rfl).2, (h.2 5 _ rfl).2⟩
theorem Bx.c7 (h : Bx w b [v0, v1, v2, v3, v4, v5, v6]) : w.cell? ⟨b, 0, none⟩ = some v0 ∧ w.cell? ⟨b, 1, none⟩ = some v1 ∧ w.cell? ⟨b, 2, none⟩ = some v2 ∧ w.cell? ⟨b, 3, none⟩ = some v3 ∧ w.cell? ⟨b, 4, none⟩ = some v4 ∧ w.cell? ⟨b, 5, none⟩ = some v5 ∧ w.cell? ⟨b, 6, none⟩ = some v6 := ⟨(h.2 0 _ rfl).1, (h.2 1 _ rfl).1, (h.2 2 _ rfl).1, (h.2 3 _ rfl).1, (h.2 4 _ rfl).1, (h.2 5 _ rfl).1, (h.2 6 _ rfl).1⟩
theorem Bx.f7 (h : Bx w b [v0, v1, v2, v3, v4, v5, v6]) : w.frozen? ⟨b, 0, none⟩ = false ∧ w.frozen? ⟨b, 1, none⟩ = false ∧ w.frozen? ⟨b, 2, none⟩ = false ∧ w.frozen? ⟨b, 3, none⟩ = false ∧ w.frozen? ⟨b, 4, none⟩ = false ∧ w.frozen? ⟨b, 5, none⟩ = false ∧ w.frozen? ⟨b, 6, none⟩ = false := ⟨(h.2 0 _ rfl).2, (h.2 1 _ rfl).2, (h.2 2 _ rfl).2, (h.2 3 _ rfl).2, (h.2 4 _ rfl).2, (h.2 5 _ rfl).2, (h.2 6 _ rfl).2⟩
end
section
variable {X : Type} {F : X → World} {w : World} {b : Nat} {v0 v1 v2 v3 v4 v5 v6 : Value}
theorem Bx.x1 (h : Bx w b [v0]) (hF : ∀ x, Below w.heap.size w (F x)) : (∀ x, (F x).cell? ⟨b, 0, none⟩ = some v0) := fun x => ((h.at (hF x)).2 0 _ rfl).1
theorem Bx.x2 (h : Bx w b [v0, v1]) (hF : ∀ x, Below w.heap.size w (F x)) : (∀ x, (F x).cell? ⟨b, 0, none⟩ = some v0) ∧ (∀ x, (F x).cell? ⟨b, 1, none⟩ = some v1) := ⟨fun x => ((h.at (hF x)).2 0 _ rfl).1, fun x => ((h.at (hF x)).2 1 _ rfl).1⟩
theorem Bx.x3 (h : Bx w b [v0, v1, v2]) (hF : ∀ x, Below w.heap.size w (F x)) : (∀ x, (F x).cell? ⟨b, 0, none⟩ = some v0) ∧ (∀ x, (F x).cell? ⟨b, 1, none⟩ = some v1) ∧ (∀ x, (F x).cell? ⟨b, 2, none⟩ = some v2) := ⟨fun x => ((h.at (hF x)).2 0 _ rfl).1, fun x => ((h.at (hF x)).2 1 _ rfl).1, fun x => ((h.at (hF x)).2 2 _ rfl).1⟩
theorem Bx.x4 (h : Bx w b [v0, v1, v2, v3]) (hF : ∀ x, Below w.heap.size w (F x)) : (∀ x, (F x).cell? ⟨b, 0, none⟩ = some v0) ∧ (∀ x, (F x).cell? ⟨b, 1, none⟩ = some v1) ∧ (∀ x, (F x).cell? ⟨b, 2, none⟩ = some v2) ∧ (∀ x, (F x).cell? ⟨b, 3, none⟩ = some v3) := ⟨fun x => ((h.at (hF x)).2 0 _ rfl).1, fun x => ((h.at (hF x)).2 1 _ rfl).1, fun x => ((h.at (hF x)).2 2 _ rfl).1, fun x => ((h.at (hF x)).2 3 _ rfl).1⟩
theorem Bx.x5 (h : Bx w b [v0, v1, v2, v3, v4]) (hF : ∀ x, Below w.heap.size w (F x)) : (∀ x, (F x).cell? ⟨b, 0, none⟩ = some v0) ∧ (∀ x, (F x).cell? ⟨b, 1, none⟩ = some v1) ∧ (∀ x, (F x).cell? ⟨b, 2, none⟩ = some v2) ∧ (∀ x, (F x).cell? ⟨b, 3, none⟩ = some v3) ∧ (∀ x, (F x).cell? ⟨b, 4, none⟩ = some v4) := ⟨fun x => ((h.at (hF x)).2 0 _ rfl).1, fun x => ((h.at (hF x)).2 1 _ rfl).1, fun x => ((h.at (hF x)).2 2 _ rfl).1, fun x => ((h.at (hF x)).2 3 _ rfl).1, fun x => ((h.at (hF x)).2 4 _ rfl).1⟩
theorem Bx.x6 (h : Bx w b [v0, v1, v2, v3, v4, v5]) (hF : ∀ x, Below w.heap.size w (F x)) : (∀ x, (F x).cell? ⟨b, 0, none⟩ = some v0) ∧ (∀ x, (F x).cell? ⟨b, 1, none⟩ = some v1) ∧ (∀ x, (F x).cell? ⟨b, 2, none⟩ = some v2) ∧ (∀ x, (F x).cell? ⟨b, 3, none⟩ = some v3) ∧ (∀ x, (F x).cell? ⟨b, 4, none⟩ = some v4) ∧ (∀ x, (F x).cell? ⟨b, 5, none⟩ = some v5) := ⟨fun x => ((h.at (hF x)).2 0 _ rfl).1, fun x => ((h.at (hF x)).2 1 _ rfl).1, fun x => ((h.at (hF x)).2 2 _ rfl).1, fun x => ((h.at (hF x)).2 3 _ rfl).1, fun x => ((h.at (hF x)).2 4 _ rfl).1, fun x => ((h.at (hF x)).2 5 _ rfl).1⟩
theorem Bx.x7 (h : Bx w b [v0, v1, v2, v3, v4, v5, v6]) (hF : ∀ x, Below w.heap.size w (F x)) : (∀ x, (F x).cell? ⟨b, 0, none⟩ = some v0) ∧ (∀ x, (F x).cell? ⟨b, 1, none⟩ = some v1) ∧ (∀ x, (F x).cell? ⟨b, 2, none⟩ = some v2) ∧ (∀ x, (F x).cell? ⟨b, 3, none⟩ = some v3) ∧ (∀ x, (F x).cell? ⟨b, 4, none⟩ = some v4) ∧ (∀ x, (F x).cell? ⟨b, 5, none⟩ = some v5) ∧ (∀ x, (F x).cell? ⟨b, 6, none⟩ = some v6) := ⟨fun x => ((h.at (hF x)).2 0 _ rfl).1, fun x => ((h.at (hF x)).2 1 _ rfl).1, fun x => ((h.at (hF x)).2 2 _ rfl).1, fun x => ((h.at (hF x)).2 3 _ rfl).1, fun x => ((h.at (hF x)).2 4 _ rfl).1, fun x => ((h.at (hF x)).2 5 _ rfl).1, fun x => ((h.at (hF x)).2 6 _ rfl).1⟩
end
end Go.Proofs.Ytiahgjnpinjblaa

namespace Go.Proofs.Ytiahgjnpinjblaa
open Go.RowKit
theorem addr_add0 (b : Nat) : (⟨b, 0, none⟩ : Addr).add 0 = ⟨b, 0, none⟩ := rfl
def mByte (k : Int) : UInt8 := UInt8.ofNat (48 + k % 10).toNat
/-- the decimal digits of k ahead of s; f: at most so many -/
def mDig : Nat → Int → ByteArray → ByteArray
  | 0, _, s => s
  | f + 1, k, s => if 0 < k then mDig f (k / 10) (⟨#[mByte k]⟩ ++ s) else s
def mText (k : Int) : ByteArray := if 0 < k then ⟨#[109]⟩ ++ mDig 20 k ⟨#[]⟩ else ⟨#[109, 48]⟩
theorem mDig_size : ∀ (f : Nat) (k : Int) (s : ByteArray), (mDig f k s).size ≤ f + s.size
  | 0, _, s => by simp [mDig]
  | f + 1, k, s => by
    unfold mDig
    split
    · have := mDig_size f (k / 10) (⟨#[mByte k]⟩ ++ s)
      have e : (⟨#[mByte k]⟩ ++ s : ByteArray).size = 1 + s.size := by rw [ByteArray.size_append]; rfl
      omega
    · omega
theorem mText_le (k : Int) : (mText k).size ≤ BIG := by
  unfold mText
  split
  · have := mDig_size 20 k ⟨#[]⟩
    have e : (⟨#[109]⟩ ++ mDig 20 k ⟨#[]⟩ : ByteArray).size = 1 + (mDig 20 k ⟨#[]⟩).size := by rw [ByteArray.size_append]; rfl
    have e2 : (⟨#[]⟩ : ByteArray).size = 0 := rfl
    rw [e]
    exact le_BIG (by omega)
  · exact le_BIG (by decide)
theorem mDig_zero (f : Nat) {k : Int} (s : ByteArray) (h : ¬ 0 < k) : mDig f k s = s := by cases f <;> simp [mDig, h]
theorem mDig_succ (f : Nat) {k : Int} (s : ByteArray) (h : 0 < k) : mDig (f + 1) k s = mDig f (k / 10) (⟨#[mByte k]⟩ ++ s) := by simp [mDig, h]
end Go.Proofs.Ytiahgjnpinjblaa

namespace Go.Proofs.Ytiahgjnpinjblaa
open Go.RowKit
section
variable {α : Type} [GoT α] {M : Nat} {w : World} {v : Value} {l : List α} {fp : List Pos}
theorem Els.cut {cs : List Value} {fs : List Pos} {lo hi : Nat} (h : Els M w cs l fs) (h1 : lo ≤ hi) (h2 : hi ≤ l.length) :
    ∃ c1 c2 c3 f1 f2 f3, cs = c1 ++ (c2 ++ c3) ∧ fs = f1 ++ (f2 ++ f3) ∧ Els M w c1 (l.take lo) f1 ∧ Els M w c2 ((l.take hi).drop lo) f2 ∧ Els M w c3 (l.drop hi) f3 ∧ c1.length = lo * GoT.n α := by
  have e : l = l.take lo ++ ((l.take hi).drop lo ++ l.drop hi) := by
    rw [← List.append_assoc]
    have : l.take lo ++ (l.take hi).drop lo = l.take hi := by
      have := List.take_append_drop lo (l.take hi)
      rwa [List.take_take, Nat.min_eq_left h1] at this
    rw [this, List.take_append_drop]
  rw [e] at h
  obtain ⟨c1, c23, f1, f23, rfl, k1, k23, rfl⟩ := Els.append.1 h
  obtain ⟨c2, c3, f2, f3, rfl, k2, k3, rfl⟩ := Els.append.1 k23
  exact ⟨c1, c2, c3, f1, f2, f3, rfl, rfl, k1, k2, k3, by rw [k1.length, List.length_take, Nat.min_eq_left (by omega)]⟩
/-- the value of v[lo:hi:m] -/
def cutV (v : Value) (n lo hi m : Nat) : Value := match v with
  | .slice a _ _ => .slice (if m = lo then a else a.map (·.add (lo * n))) (hi - lo) (m - lo)
  | u => u
def capV (v : Value) : Nat := match v with
  | .slice _ _ c => c
  | _ => 0
theorem Sl.cap (h : Sl M w v l fp) : l.length ≤ capV v := by
  rcases h with ⟨ao, rfl, rfl, _⟩ | ⟨b, o, cap, cs, fs, rfl, h1, _⟩
  · exact Nat.le_refl _
  · exact h1
/-- v[lo:hi:m] reads as that part, out of places of v alone -/
theorem Sl.cut (h : Sl M w v l fp) {lo hi m : Nat} (h1 : lo ≤ hi) (h2 : hi ≤ l.length) (h3 : hi ≤ m) (h4 : m ≤ capV v) :
    ∃ fq, Sl M w (cutV v (GoT.n α) lo hi m) ((l.take hi).drop lo) fq ∧ (∀ p ∈ fq, p ∈ fp) ∧ (fp.Nodup → fq.Nodup) := by
  have hlen : ((l.take hi).drop lo).length = hi - lo := by rw [List.length_drop, List.length_take, Nat.min_eq_left h2]
  rcases h with ⟨ao, rfl, rfl, rfl⟩ | ⟨b, o, cap, cs, fs, rfl, k1, k2, k3, ha, he, hlv, rfl⟩
  · simp only [List.length_nil] at h2
    simp only [capV] at h4
    obtain rfl : hi = 0 := by omega
    obtain rfl : lo = 0 := by omega
    obtain rfl : m = 0 := by omega
    exact ⟨[], .inl ⟨ao, by simp [cutV], by simp, rfl⟩, fun _ h => h, fun h => h⟩
  · simp only [capV] at h4
    obtain ⟨c1, c2, c3, f1, f2, f3, rfl, rfl, e1, e2, e3, hc1⟩ := he.cut h1 h2
    by_cases hm : m = lo
    · subst hm
      obtain rfl : hi = m := by omega
      refine ⟨[], ?_, fun _ h => (by cases h), fun _ => List.nodup_nil⟩
      refine .inl ⟨some ⟨b, o, none⟩, ?_, ?_, rfl⟩
      · simp [cutV]
      · exact List.eq_nil_of_length_eq_zero (by rw [hlen]; omega)
    · have hn := GoT.pos (α := α)
      have hmul : lo * GoT.n α + (m - lo) * GoT.n α ≤ cap * GoT.n α := by
        rw [← Nat.add_mul]; exact Nat.mul_le_mul_right _ (by omega)
      have hsub : ∀ p ∈ own b (o + lo * GoT.n α) ((m - lo) * GoT.n α), p ∈ own b o (cap * GoT.n α) := by
        intro p hp
        obtain ⟨q1, q2, q3⟩ := mem_own.1 hp
        exact mem_own.2 ⟨q1, by omega, by omega⟩
      refine ⟨own b (o + lo * GoT.n α) ((m - lo) * GoT.n α) ++ f2, .inr ⟨b, o + lo * GoT.n α, m - lo, c2, f2, ?_, by rw [hlen]; omega, by omega, by rw [hlen]; omega, ?_, e2, fun p hp => hlv p (hsub p hp), rfl⟩, ?_, ?_⟩
      · simp only [cutV, if_neg hm, Option.map_some, addr_add, hlen]
      · obtain ⟨_, a23⟩ := At.append.1 ha
        obtain ⟨a2, _⟩ := At.append.1 a23
        rw [hc1] at a2
        exact a2
      · intro p hp
        rcases List.mem_append.1 hp with hp | hp
        · exact List.mem_append.2 (.inl (hsub p hp))
        · exact List.mem_append.2 (.inr (List.mem_append.2 (.inr (List.mem_append.2 (.inl hp)))))
      · intro nd
        obtain ⟨_, nf, dis⟩ := List.nodup_append.1 nd
        obtain ⟨_, n23, _⟩ := List.nodup_append.1 nf
        obtain ⟨n2, _, _⟩ := List.nodup_append.1 n23
        exact List.nodup_append.2 ⟨own_nodup _ _ _, n2, fun p hp q hq => dis p (hsub p hp) q (by simp [hq])⟩
variable {P : Program} {T E : TypeId}
theorem Sl.isS (h : Sl M w v l fp) : ∃ a c, v = .slice a l.length c := by
  rcases h with ⟨ao, rfl, rfl, _⟩ | ⟨b, o, cap, cs, fs, rfl, _⟩ <;> exact ⟨_, _, rfl⟩
theorem Sl.run_lh (h : Sl M w v l fp) (hT : P.underlying T = some (.slice E)) (hl : ∀ w1, (sizeOf E).run P w1 = .ok (GoT.n α) w1) {lo hi : Nat} (h1 : lo ≤ hi) (h2 : hi ≤ l.length) (w1 : World) :
    (Instr.sliceAt T v (some (.int .i64 lo)) (some (.int .i64 hi)) none).run P w1 = .ok (cutV v (GoT.n α) lo hi (capV v)) w1 := by
  have hc := h.cap
  obtain ⟨a, c, rfl⟩ := h.isS
  simp only [capV] at hc
  have e1 : (Instr.sliceBound (.int .i64 (hi : Int)) c .sliceAcap).run P w1 = .ok hi w1 := by rw [run_sliceBound _ _ _ _ _ (by omega) (by omega)]; rfl
  have e2 : (Instr.sliceBound (.int .i64 (lo : Int)) hi .sliceB).run P w1 = .ok lo w1 := by rw [run_sliceBound _ _ _ _ _ (by omega) (by omega)]; rfl
  simp [Instr.sliceAt, Instr.slice, run_underlying hT, Instr.sliceBounds, e1, e2, hl, cutV, capV]
  by_cases hm : c = lo <;> simp [hm]
theorem Sl.run_l (h : Sl M w v l fp) (hT : P.underlying T = some (.slice E)) (hl : ∀ w1, (sizeOf E).run P w1 = .ok (GoT.n α) w1) {lo : Nat} (h2 : lo ≤ l.length) (w1 : World) :
    (Instr.sliceAt T v (some (.int .i64 lo)) none none).run P w1 = .ok (cutV v (GoT.n α) lo l.length (capV v)) w1 := by
  obtain ⟨a, c, rfl⟩ := h.isS
  have e2 : (Instr.sliceBound (.int .i64 (lo : Int)) l.length .sliceB).run P w1 = .ok lo w1 := by rw [run_sliceBound _ _ _ _ _ (by omega) (by omega)]; rfl
  simp [Instr.sliceAt, Instr.slice, run_underlying hT, Instr.sliceBounds, e2, hl, cutV, capV]
  by_cases hm : c = lo <;> simp [hm]
theorem Sl.run_h (h : Sl M w v l fp) (hT : P.underlying T = some (.slice E)) (hl : ∀ w1, (sizeOf E).run P w1 = .ok (GoT.n α) w1) {hi : Nat} (h2 : hi ≤ l.length) (w1 : World) :
    (Instr.sliceAt T v none (some (.int .i64 hi)) none).run P w1 = .ok (cutV v (GoT.n α) 0 hi (capV v)) w1 := by
  have hc := h.cap
  obtain ⟨a, c, rfl⟩ := h.isS
  simp only [capV] at hc
  have e1 : (Instr.sliceBound (.int .i64 (hi : Int)) c .sliceAcap).run P w1 = .ok hi w1 := by rw [run_sliceBound _ _ _ _ _ (by omega) (by omega)]; rfl
  simp [Instr.sliceAt, Instr.slice, run_underlying hT, Instr.sliceBounds, e1, hl, cutV, capV]
theorem Sl.run_hm (h : Sl M w v l fp) (hT : P.underlying T = some (.slice E)) (hl : ∀ w1, (sizeOf E).run P w1 = .ok (GoT.n α) w1) {hi m : Nat} (h2 : hi ≤ m) (h3 : m ≤ capV v) (w1 : World) :
    (Instr.sliceAt T v none (some (.int .i64 hi)) (some (.int .i64 m))).run P w1 = .ok (cutV v (GoT.n α) 0 hi m) w1 := by
  obtain ⟨a, c, rfl⟩ := h.isS
  simp only [capV] at h3
  have e0 : (Instr.sliceBound (.int .i64 (m : Int)) c .slice3Acap).run P w1 = .ok m w1 := by rw [run_sliceBound _ _ _ _ _ (by omega) (by omega)]; rfl
  have e1 : (Instr.sliceBound (.int .i64 (hi : Int)) m .slice3B).run P w1 = .ok hi w1 := by rw [run_sliceBound _ _ _ _ _ (by omega) (by omega)]; rfl
  simp [Instr.sliceAt, Instr.slice, run_underlying hT, Instr.sliceBounds, e0, e1, hl, cutV]
end
/-- v[lo:hi] of a slice that is read -/
theorem RdS.cut {α : Type} [GoT α] {w : World} {v : Value} {l : List α} (h : RdS w v l) {P : Program} {T E : TypeId} (hT : P.underlying T = some (.slice E)) (hl : ∀ w1, (sizeOf E).run P w1 = .ok (GoT.n α) w1) {lo hi : Nat} (h1 : lo ≤ hi) (h2 : hi ≤ l.length) :
    ∃ v', (∀ w1, (Instr.sliceAt T v (some (.int .i64 lo)) (some (.int .i64 hi)) none).run P w1 = .ok v' w1) ∧ RdS w v' ((l.take hi).drop lo) := by
  obtain ⟨fp, h⟩ := h
  obtain ⟨fq, k, _, _⟩ := h.cut h1 h2 (Nat.le_trans h2 h.cap) (Nat.le_refl _)
  exact ⟨_, h.run_lh hT hl h1 h2, _, k⟩
theorem RdS.cutl {α : Type} [GoT α] {w : World} {v : Value} {l : List α} (h : RdS w v l) {P : Program} {T E : TypeId} (hT : P.underlying T = some (.slice E)) (hl : ∀ w1, (sizeOf E).run P w1 = .ok (GoT.n α) w1) {lo : Nat} (h2 : lo ≤ l.length) :
    ∃ v', (∀ w1, (Instr.sliceAt T v (some (.int .i64 lo)) none none).run P w1 = .ok v' w1) ∧ RdS w v' (l.drop lo) := by
  obtain ⟨fp, h⟩ := h
  obtain ⟨fq, k, _, _⟩ := h.cut (hi := l.length) h2 (Nat.le_refl _) h.cap (Nat.le_refl _)
  rw [List.take_length] at k
  exact ⟨_, h.run_l hT hl h2, _, k⟩
theorem RdS.cuth {α : Type} [GoT α] {w : World} {v : Value} {l : List α} (h : RdS w v l) {P : Program} {T E : TypeId} (hT : P.underlying T = some (.slice E)) (hl : ∀ w1, (sizeOf E).run P w1 = .ok (GoT.n α) w1) {hi : Nat} (h2 : hi ≤ l.length) :
    ∃ v', (∀ w1, (Instr.sliceAt T v none (some (.int .i64 hi)) none).run P w1 = .ok v' w1) ∧ RdS w v' (l.take hi) := by
  obtain ⟨fp, h⟩ := h
  obtain ⟨fq, k, _, _⟩ := h.cut (lo := 0) (Nat.zero_le _) h2 (Nat.le_trans h2 h.cap) (Nat.le_refl _)
  exact ⟨_, h.run_h hT hl h2, _, by simpa using k⟩
theorem RdS.src {α : Type} [GoT α] {w : World} {v : Value} {l : List α} (h : RdS w v l) : ∃ gs, Src w v l gs := let ⟨_, h⟩ := h; let ⟨gs, k, _⟩ := h.src; ⟨gs, k⟩
end Go.Proofs.Ytiahgjnpinjblaa

namespace Go.Proofs.Ytiahgjnpinjblaa
open Go.RowKit
theorem Sl.parts {α : Type} [GoT α] {M : Nat} {w : World} {v : Value} {l : List α} {fp : List Pos} (h : Sl M w v l fp) (nd : fp.Nodup) {k : Nat} (hk : k ≤ l.length) :
    ∃ f1 f2, Sl M w (cutV v (GoT.n α) 0 k k) (l.take k) f1 ∧ Sl M w (cutV v (GoT.n α) k l.length (capV v)) (l.drop k) f2 ∧ (f1 ++ f2).Nodup ∧ ∀ p ∈ f1 ++ f2, p ∈ fp := by
  rcases h with ⟨ao, rfl, rfl, rfl⟩ | ⟨b, o, cap, cs, fs, rfl, k1, k2, k3, ha, he, hlv, rfl⟩
  · obtain rfl : k = 0 := by simpa using hk
    exact ⟨[], [], .inl ⟨ao, by simp [cutV], by simp, rfl⟩, .inl ⟨ao, by simp [cutV, capV], by simp, rfl⟩, by simp, fun _ h => h⟩
  · rw [← List.take_append_drop k l] at he
    obtain ⟨c1, c2, g1, g2, rfl, e1, e2, rfl⟩ := Els.append.1 he
    have hl1 : (l.take k).length = k := by simp; omega
    have hl2 : (l.drop k).length = l.length - k := by simp
    have hc1 := e1.length
    rw [hl1] at hc1
    obtain ⟨a1, a2⟩ := At.append.1 ha
    rw [hc1] at a2
    have hcap : cap * GoT.n α = k * GoT.n α + (cap - k) * GoT.n α := by rw [← Nat.add_mul]; congr 1; omega
    rw [hcap, own_append] at nd hlv
    rw [hcap, own_append]
    obtain ⟨v1, v2⟩ := Live.append.1 hlv
    by_cases h0 : k = 0
    · subst h0
      obtain ⟨rfl, rfl⟩ : c1 = [] ∧ g1 = [] := by have := e1; rw [List.take_zero] at this; exact this
      have e0 : own b o 0 = [] := rfl
      simp only [Nat.zero_mul, Nat.add_zero, Nat.sub_zero, e0, List.nil_append] at nd a2 v2 ⊢
      refine ⟨[], own b o (cap * GoT.n α) ++ g2, .inl ⟨some ⟨b, o, none⟩, by simp [cutV], by simp, rfl⟩, .inr ⟨b, o, cap, c2, g2, ?_, by simpa using k1, k2, by simpa using k3, by simpa using a2, e2, by simpa using v2, rfl⟩, ?_, ?_⟩
      · by_cases hc : cap = 0 <;> simp [cutV, capV, hc, addr_add]
      · exact nd
      · exact fun _ h => h
    · have s1 : Sl M w (cutV (.slice (some ⟨b, o, none⟩) l.length cap) (GoT.n α) 0 k k) (l.take k) (own b o (k * GoT.n α) ++ g1) := by
        refine .inr ⟨b, o, k, c1, g1, ?_, by rw [hl1]; exact Nat.le_refl _, by omega, by rw [hl1]; omega, a1, e1, v1, rfl⟩
        simp only [cutV, if_neg h0, Option.map_some, addr_add, hl1]
        simp
      by_cases hm : cap = k
      · obtain rfl : cap = k := hm
        have : l.length = cap := by omega
        refine ⟨_, [], s1, .inl ⟨some ⟨b, o, none⟩, ?_, by simp; omega, rfl⟩, ?_, ?_⟩
        · simp [cutV, capV, this]
        · rw [List.append_nil]
          simp only [List.nodup_append, List.mem_append] at nd ⊢
          grind
        · intro p hp
          simp only [List.append_nil, List.mem_append] at hp ⊢
          rcases hp with hp | hp <;> simp [hp]
      · refine ⟨_, own b (o + k * GoT.n α) ((cap - k) * GoT.n α) ++ g2, s1, .inr ⟨b, o + k * GoT.n α, cap - k, c2, g2, ?_, by rw [hl2]; omega, by omega, by rw [hl2]; omega, a2, e2, v2, rfl⟩, ?_, ?_⟩
        · simp only [cutV, capV, if_neg hm, Option.map_some, addr_add, hl2]
        · simp only [List.nodup_append, List.mem_append] at nd ⊢
          grind
        · intro p hp
          simp only [List.mem_append] at hp ⊢
          rcases hp with (hp | hp) | hp | hp <;> simp [hp]
end Go.Proofs.Ytiahgjnpinjblaa

namespace Go.Proofs.Ytiahgjnpinjblaa
open Go.RowKit
theorem Row.grown {α : Type} [GoT α] {B : Nat} {w0 W w1 : World} {v v' : Value} {l xs : List α} {fs gs : List Pos} (h : Row B w0 v l fs) (hf : Fresh B w0 fs) (hb : Below w0.heap.size w0 W) (hg : Fresh w0.heap.size W gs) (hgl : Live W gs) (hB : B ≤ w0.heap.size)
    (hr : Row B w1 v' (l ++ xs) (fs ++ gs)) (hw : Wr (rowP (GoT.n α) v) W w1) : OwnS B w1 v' (l ++ xs) := by
  have hl := Live.lt h.live
  refine hr.owns ((hf.wr2 hb hw hl).join ((hw.fresh hgl hg).mono hB) fun p hp q hq e => ?_)
  have h1 := hl p hp
  have h2 := hg.ge q hq
  rw [e] at h1
  omega
theorem OwnS.empty {α : Type} [GoT α] (B : Nat) (w : World) (ao : Option Addr) : OwnS (α := α) B w (.slice ao 0 0) [] := ⟨[], .inl ⟨_, rfl, rfl, rfl⟩, Fresh.nil _ _⟩
/-- a slice that lies in a block of its own -/
theorem sl_of_block {α : Type} [GoT α] {W : World} {g : Nat} {cs : List Value} {l : List α} {fs : List Pos} {E : TypeId} {fr : Nat × Nat} (hg : W.heap[g]? = some (.cells cs.toArray E fr)) (he : Els BIG W cs l fs) (hl : l.length ≤ BIG) :
    Sl BIG W (.slice (some ⟨g, 0, none⟩) l.length l.length) l (own g 0 (l.length * GoT.n α) ++ fs) := by
  have hc := he.length
  refine .inr ⟨g, 0, l.length, cs, fs, rfl, Nat.le_refl _, by have := BIG_le hl; unfold maxLen; omega, hl, ?_, he, ?_, rfl⟩
  · have := row_at (c1 := []) (c2 := cs) (c3 := []) (w := W) (E := E) (fr := fr) (by simpa using hg)
    simpa using this
  · intro p hp
    obtain ⟨e1, e2, e3⟩ := mem_own.1 hp
    rw [e1, row_cell hg, List.getElem?_eq_getElem (by omega)]
    rfl
theorem rds_built {α : Type} [GoT α] {w : World} {c : List Value} {x : α} {f : List Pos} (E : TypeId) (h : GoT.rd BIG w c x f) : RdS (w.alloc (.cells c.toArray E)) (.slice (some ⟨w.heap.size, 0, none⟩) 1 1) [x] := by
  have hb : Below w.heap.size w (w.alloc (.cells c.toArray E)) := (Below.refl _ _).alloc (Nat.le_refl _) _
  have he : Els BIG (w.alloc (.cells c.toArray E)) c [x] f := Els.single (GoT.keep h (Live.same_below hb (Live.lt (GoT.live h))))
  exact ⟨_, sl_of_block (heap_alloc_new w (.cells c.toArray E)) he (le_BIG (by simp))⟩
end Go.Proofs.Ytiahgjnpinjblaa

namespace Go.Proofs.Ytiahgjnpinjblaa
open Go.RowKit
instance : GoM DPart where
  cnt := fun x => 2 + cntL x.signs
  mrk := fun k x => ⟨k, k + 1, mkL (k + 2) x.signs⟩
  cnt_mk := fun k x => by simp [cntL_mkL]
  mk_mk := fun k x => by simp [mkL_mkL]
instance : GoMS DPart := ⟨fun x => by have : GoM.cnt x = 2 + cntL x.signs := rfl; have : GoS.sz x = szL x.signs := rfl; have := cntL_le x.signs; omega⟩
instance : GoM DEntry where
  cnt := fun x => 2 + cntL x.o
  mrk := fun k x => ⟨k, k + 1, mkL (k + 2) x.o⟩
  cnt_mk := fun k x => by simp [cntL_mkL]
  mk_mk := fun k x => by simp [mkL_mkL]
instance : GoMS DEntry := ⟨fun x => by have : GoM.cnt x = 2 + cntL x.o := rfl; have : GoS.sz x = szL x.o := rfl; have := cntL_le x.o; omega⟩
instance : GoM DSeen where
  cnt := fun _ => 3
  mrk := fun k _ => ⟨k, k + 1, k + 2⟩
  cnt_mk := fun _ _ => rfl
  mk_mk := fun _ _ => rfl
instance : GoMS DSeen := ⟨fun x => by have : GoM.cnt x = 3 := rfl; have : GoS.sz x = 0 := rfl; omega⟩
instance : GoM DDoc where
  cnt := fun x => 2 + cntL x.text + cntL x.list + cntL x.seen
  mrk := fun k x => ⟨mText (k), k + 1, mkL (k + 2) x.text, mkL (k + 2 + cntL x.text) x.list, mkL (k + 2 + cntL x.text + cntL x.list) x.seen⟩
  cnt_mk := fun k x => by simp [cntL_mkL]
  mk_mk := fun k x => by simp [cntL_mkL, mkL_mkL]
instance : GoMS DDoc := ⟨fun x => by have : GoM.cnt x = 2 + cntL x.text + cntL x.list + cntL x.seen := rfl; have : GoS.sz x = x.name.size + szL x.text + szL x.list + szL x.seen := rfl; have := cntL_le x.text; have := cntL_le x.list; have := cntL_le x.seen; omega⟩
instance : GoM DSub where
  cnt := fun x => 5 + cntL x.r.list
  mrk := fun k x => ⟨k, mText (k + 1), ⟨k + 2, k + 3, decide ((k + 4) % 3 = 0), mkL (k + 5) x.r.list⟩⟩
  cnt_mk := fun k x => by simp [cntL_mkL]
  mk_mk := fun k x => by simp [mkL_mkL]
instance : GoMS DSub := ⟨fun x => by have : GoM.cnt x = 5 + cntL x.r.list := rfl; have : GoS.sz x = x.doc.size + GoS.sz x.r := rfl; have : GoS.sz x.r = szL x.r.list := rfl; have := cntL_le x.r.list; omega⟩
end Go.Proofs.Ytiahgjnpinjblaa

