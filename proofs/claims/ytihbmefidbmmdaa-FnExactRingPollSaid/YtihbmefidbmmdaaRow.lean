/- A slice whose row is one's own (its elements may be shared): append as a law of the walk, at any row, in place or grown. -/
import Derived.Test.YtihbmefidbmmdaaMk0
import Derived.Laws.OwnMore
import Derived.Laws.IdiomCopy
namespace Go.Proofs.Ytihbmefidbmmdaa
open Go.RowKit

/-- the places of a slice's own row -/
def rowP (n : Nat) : Value → List Pos
  | .slice (some a) _ cap => own a.block a.off (cap * n)
  | _ => []
/-- the slice reads as l, its row is one's own (blocks from B on), its elements meet the places fs, all outside of the row -/
def Row {α : Type} [GoT α] (B : Nat) (w : World) (v : Value) (l : List α) (fs : List Pos) : Prop :=
  Sl BIG w v l (rowP (GoT.n α) v ++ fs) ∧ Fresh B w (rowP (GoT.n α) v) ∧ ∀ p ∈ fs, p ∉ rowP (GoT.n α) v

section
variable {α : Type} [GoT α] {B : Nat} {w w' : World} {v : Value} {l xs : List α} {fs gs : List Pos}
theorem Row.rd (h : Row B w v l fs) : RdS w v l := ⟨_, h.1⟩
theorem Row.nil (B : Nat) (w : World) : Row (α := α) B w (.slice none 0 0) [] [] := ⟨Sl.nil, Fresh.nil _ _, fun _ h => (by cases h)⟩
theorem Sl.split {M : Nat} {fp : List Pos} (h : Sl M w v l fp) : ∃ fs, fp = rowP (GoT.n α) v ++ fs := by
  rcases h with ⟨ao, rfl, rfl, rfl⟩ | ⟨b, o, cap, cs, fs, rfl, _, _, _, _, _, _, rfl⟩
  · refine ⟨[], ?_⟩
    cases ao with
    | none => rfl
    | some a => simp [rowP, own]
  · exact ⟨fs, rfl⟩
theorem OwnS.row (h : OwnS B w v l) : ∃ fs, Row B w v l fs ∧ Fresh B w fs := by
  obtain ⟨fp, h, k⟩ := h
  obtain ⟨fs, rfl⟩ := h.split
  exact ⟨fs, ⟨h, k.left, fun _ hp hq => (List.nodup_append.1 k.nodup).2.2 _ hq _ hp rfl⟩, k.right⟩
theorem Row.owns (h : Row B w v l fs) (hf : Fresh B w fs) : OwnS B w v l :=
  ⟨_, h.1, h.2.1.join hf fun _ hp q hq e => h.2.2 q hq (e ▸ hp)⟩
theorem Row.live (h : Row B w v l fs) : Live w fs := (Live.append.1 h.1.live).2
theorem Row.mono {B' : Nat} (h : Row B w v l fs) (hB : B' ≤ B) : Row B' w v l fs := ⟨h.1, h.2.1.mono hB, h.2.2⟩
theorem Row.below (h : Row B w v l fs) (hb : Below w.heap.size w w') : Row B w' v l fs := by
  have hl := Live.lt h.1.live
  exact ⟨h.1.keep (Live.same_below hb hl), h.2.1.below hb fun p hp => hl p (List.mem_append.2 (.inl hp)), h.2.2⟩
theorem Row.wr {g : List Pos} (h : Row B w v l fs) (hw : Wr g w w') (hd : ∀ p ∈ rowP (GoT.n α) v ++ fs, p ∉ g) : Row B w' v l fs :=
  ⟨h.1.wr hw hd, hw.fresh (Live.append.1 h.1.live).1 h.2.1, h.2.2⟩
theorem Els.flat (hn : ∀ {M : Nat} {w : World} {c : List Value} {x : α} {f : List Pos}, GoT.rd M w c x f → f = []) : ∀ {l : List α} {cs : List Value} {fp : List Pos} {M : Nat}, Els M w cs l fp → fp = []
  | [], _, _, _, h => h.2
  | x :: xs, _, _, _, ⟨c1, c2, f1, f2, _, h1, h2, hf⟩ => by rw [hf, hn h1, Els.flat hn h2]; rfl
theorem Sl.flat (hn : ∀ {M : Nat} {w : World} {c : List Value} {x : α} {f : List Pos}, GoT.rd M w c x f → f = []) {M : Nat} {fp : List Pos} (h : Sl M w v l fp) : fp = rowP (GoT.n α) v := by
  rcases h with ⟨ao, rfl, rfl, rfl⟩ | ⟨b, o, cap, cs, fs, rfl, _, _, _, _, he, _, rfl⟩
  · cases ao with
    | none => rfl
    | some a => simp [rowP, own]
  · rw [he.flat hn, List.append_nil]; rfl

/-- the source's cells: nothing, or cells that lie at an address -/
def Src {α : Type} [GoT α] (w : World) (v : Value) (xs : List α) (gs : List Pos) : Prop :=
  ∃ ao c news, v = .slice ao xs.length c ∧ Els BIG w news xs gs ∧ ((xs = [] ∧ ao = none ∧ c = 0) ∨ ∃ a : Addr, ao = some a ∧ ∀ j u, news[j]? = some u → w.cell? (a.add j) = some u)
theorem addr_add (b o j : Nat) : (⟨b, o, none⟩ : Addr).add j = ⟨b, o + j, none⟩ := by unfold Addr.add; split <;> simp_all
theorem Sl.src {fp : List Pos} (h : Sl BIG w v l fp) : ∃ gs, Src w v l gs ∧ (∀ p ∈ gs, p ∈ fp) ∧ fp = rowP (GoT.n α) v ++ gs := by
  rcases h with ⟨ao, rfl, rfl, rfl⟩ | ⟨b, o, cap, cs, fs, rfl, _, _, _, ha, he, _, rfl⟩
  · refine ⟨[], ⟨ao, 0, [], rfl, Els.nil, ?_⟩, fun _ h => h, ?_⟩
    · cases ao with
      | none => exact .inl ⟨rfl, rfl, rfl⟩
      | some a => exact .inr ⟨a, rfl, fun j u hu => by simp at hu⟩
    · cases ao with
      | none => rfl
      | some a => simp [rowP, own]
  · exact ⟨fs, ⟨_, _, cs, rfl, he, .inr ⟨_, rfl, fun j u hu => by rw [addr_add]; exact ha j u hu⟩⟩, fun p hp => List.mem_append.2 (.inr hp), rfl⟩
theorem Src.one {x : α} {c : List Value} {b o cap : Nat} {f : List Pos} (ha : At w b o c) (hx : GoT.rd BIG w c x f) : Src w (.slice (some ⟨b, o, none⟩) 1 cap) [x] f :=
  ⟨_, cap, c, rfl, Els.single hx, .inr ⟨_, rfl, fun j u hu => by rw [addr_add]; exact ha j u hu⟩⟩

theorem setCells_wr {b : Nat} {fp : List Pos} : ∀ (vs : List Value) (o : Nat) (w : World), (∀ j < vs.length, (b, o + j) ∈ fp) → Wr fp w (w.setCells b o vs)
  | [], _, w, _ => Wr.refl _ w
  | v :: r, o, w, h => by
    rw [World.setCells]
    refine (Wr.setCell w (by simpa using h 0 (by simp)) v).trans (setCells_wr r (o + 1) _ fun j hj => ?_)
    have := h (j + 1) (by simp; omega)
    rwa [show o + (j + 1) = o + 1 + j by omega] at this
section
variable {P : Program}
theorem run_append_room_any (w : World) (T ty E : TypeId) (i : TypeInfo) (ht : P.underlying T = some (.slice E)) (hi : P.info? E = some i) (b o sLen sCap : Nat)
    (x : Value) (m : Nat) (news : List Value) (hl : news.length = m * i.size) (hx : ∃ ao c, x = .slice ao m c ∧ ((news = [] ∧ ao = none ∧ c = 0 ∧ m = 0) ∨ ∃ a : Addr, ao = some a ∧ ∀ j u, news[j]? = some u → w.cell? (a.add j) = some u)) (h1 : ∀ u ∈ news, u.oneCell' = true)
    (hroom : sLen + m ≤ sCap) (hc : ∀ j, j < news.length → (w.cell? ⟨b, o + sLen * i.size + j, none⟩).isSome = true) (hf : ∀ j, j < news.length → w.frozen? ⟨b, o + sLen * i.size + j, none⟩ = false) :
    (Builtin.append_ #[T, T] ty #[.slice (some ⟨b, o, none⟩) sLen sCap, x]).run P w = .ok (.slice (some ⟨b, o, none⟩) (sLen + m) sCap) (w.setCells b (o + sLen * i.size) news) := by
  obtain ⟨ao, c, rfl, ⟨rfl, rfl, rfl, rfl⟩ | ⟨a, rfl, hnews⟩⟩ := hx
  · have hfc := run_firstCells_none (P := P) (w := w) i.size 0 0 0
    simp [Builtin.append_, run_underlying ht, sizeOf, typeInfo, hi, Builtin.lenOf, hfc, World.setCells, storeCells]
    intro hh
    omega
  · have hfc := run_firstCells_some (P := P) w i.size m a m c news hl hnews
    have hst := run_storeCells_cells (P := P) b (o + sLen * i.size) news 0 w (by simpa using hc) (by simpa using hf) h1
    simp only [Nat.add_zero] at hst
    simp [Builtin.append_, run_underlying ht, sizeOf, typeInfo, hi, Builtin.lenOf, hroom, hfc, Addr.add_lit, hst]

/-- a new row -/
theorem row_new {E : TypeId} {os ns zs : List Value} {cap : Nat} (he : Els BIG w os l fs) (hx : Els BIG w ns xs gs) (hz : zs.length = (cap - (l.length + xs.length)) * GoT.n α) (hc : l.length + xs.length ≤ cap) (hm : cap ≤ maxLen)
    (hlen : l.length + xs.length ≤ BIG) (hB : B ≤ w.heap.size) :
    Row B (w.drew.alloc (.cells (os.toArray ++ ns.toArray ++ zs.toArray) E)) (.slice (some ⟨w.heap.size, 0, none⟩) (l.length + xs.length) cap) (l ++ xs) (fs ++ gs) := by
  have hb : Below w.heap.size w (w.drew.alloc (.cells (os.toArray ++ ns.toArray ++ zs.toArray) E)) := ((Below.refl _ _).drew).alloc (Nat.le_refl _) _
  have hg : (w.drew.alloc (.cells (os.toArray ++ ns.toArray ++ zs.toArray) E)).heap[w.heap.size]? = some (.cells (os ++ (ns ++ zs)).toArray E (0, 0)) := by
    have := heap_alloc_new w.drew (.cells (os.toArray ++ ns.toArray ++ zs.toArray) E)
    simpa using this
  have l1 := he.length
  have l2 := hx.length
  have hrow : os.length + (ns.length + zs.length) = cap * GoT.n α := by
    rw [l1, l2, hz, ← Nat.add_mul, ← Nat.add_mul]; congr 1; omega
  have hlive : ∀ p ∈ own w.heap.size 0 (cap * GoT.n α), ((w.drew.alloc (.cells (os.toArray ++ ns.toArray ++ zs.toArray) E)).cell? ⟨p.1, p.2, none⟩).isSome = true := by
    intro p hp
    obtain ⟨e1, e2, e3⟩ := mem_own.1 hp
    rw [e1, row_cell hg, List.getElem?_eq_getElem (by simp; omega)]
    rfl
  have f1 := Live.lt he.live
  have f2 := Live.lt hx.live
  have hdis : ∀ p ∈ fs ++ gs, p ∉ own w.heap.size 0 (cap * GoT.n α) := by
    intro p hp hq
    have := (mem_own.1 hq).1
    rcases List.mem_append.1 hp with hp | hp
    · have := f1 p hp; omega
    · have := f2 p hp; omega
  refine ⟨.inr ⟨w.heap.size, 0, cap, os ++ ns, fs ++ gs, by rw [List.length_append], by rw [List.length_append]; exact hc, hm, by rw [List.length_append]; exact hlen, ?_, ?_, hlive, rfl⟩, ⟨own_nodup _ _ _, fun p hp => ?_, fun p hp => ?_⟩, hdis⟩
  · have := row_at (c1 := []) (c2 := os ++ ns) (c3 := zs) (E := E) (fr := (0, 0)) (by rw [List.nil_append, List.append_assoc]; exact hg)
    simpa using this
  · exact Els.append.2 ⟨os, ns, fs, gs, rfl, he.keep (Live.same_below hb f1), hx.keep (Live.same_below hb f2), rfl⟩
  · rw [(mem_own.1 hp).1]; exact hB
  · rw [(mem_own.1 hp).1]; exact row_frozen hg

theorem zeroCells_list (z : Array Value) (n : Nat) : ∃ zs : List Value, Builtin.zeroCells z n = zs.toArray ∧ zs.length = n * z.size := ⟨(Builtin.zeroCells z n).toList, by simp, by simp [size_zeroCells]⟩

/-- append on a row of one's own -/
theorem run_append_row {T ty E : TypeId} {i : TypeInfo} {z x : Value} {bytes : Nat} (ht : P.underlying T = some (.slice E)) (hi : P.info? E = some i) (hz : i.zero = some z) (hsize : i.size = GoT.n α) (hby : i.bytes = bytes) (hzs : z.cells.size = GoT.n α)
    (h : Row B w v l fs) (hs : Src w x xs gs) (hd : ∀ p ∈ gs, p ∉ rowP (GoT.n α) v) (hlen : l.length + xs.length ≤ BIG) (hbytes : (l.length + xs.length) * bytes ≤ 140737488355328) (hB : B ≤ w.heap.size) :
    ∃ v' w', (Builtin.append_ #[T, T] ty #[v, x]).run P w = .ok v' w' ∧ Row B w' v' (l ++ xs) (fs ++ gs) ∧ Wr (rowP (GoT.n α) v) w w' ∧ (∀ p ∈ rowP (GoT.n α) v', p ∈ rowP (GoT.n α) v ∨ w.heap.size ≤ p.1) := by
  subst hby
  have hlb := BIG_le hlen
  have hlm : l.length + xs.length ≤ maxLen := by unfold maxLen; omega
  obtain ⟨ao, c, news, rfl, hen, hsrc⟩ := hs
  have hnl := hen.length
  have hone := hen.one
  have hnewb : ∀ o : Obj, Wr (rowP (GoT.n α) v) w (w.drew.alloc o) := fun o => Wr.of_below (((Below.refl _ _).drew).alloc (Nat.le_refl _) o)
  obtain ⟨hsl, hfr, hdis⟩ := h
  rcases hsl with ⟨bo, rfl, rfl, hfe⟩ | ⟨b, o, cap, cs, fs', rfl, h1, h2, h3, ha, he, hlv, hfe⟩
  · have hfs : fs = [] := (List.append_eq_nil_iff.1 hfe).2
    subst hfs
    by_cases hm : xs = []
    · subst hm
      have hn : news = [] := List.eq_nil_of_length_eq_zero (by simpa using hnl)
      subst hn
      have hgs : gs = [] := hen.2
      subst hgs
      refine ⟨.slice bo 0 0, w, ?_, ⟨.inl ⟨bo, rfl, rfl, by cases bo <;> simp [rowP, own]⟩, hfr, fun _ hp => (by cases hp)⟩, Wr.refl _ _, fun p hp => .inl hp⟩
      cases bo <;> rcases hsrc with ⟨_, rfl, rfl⟩ | ⟨a, rfl, _⟩ <;> simp [Builtin.append_, run_underlying ht, sizeOf, typeInfo, hi, Builtin.lenOf, Builtin.firstCells, loadCells, loadCellsFrom, storeCells]
    · have hpos : 0 < xs.length := List.length_pos_iff.2 hm
      rcases hsrc with ⟨hx, _⟩ | ⟨a, rfl, hnews⟩
      · exact absurd hx hm
      · simp only [List.length_nil, Nat.zero_add] at hlen hbytes hlb hlm
        obtain ⟨zs, hze, hzl⟩ := zeroCells_list z.cells (grownCap w xs.length 0 E - xs.length)
        have hge := grownCap_ge w xs.length 0 E
        have hcm := grownCap_le_maxLen w xs.length 0 E hlm
        have hrow := row_new (E := E) (l := []) (os := []) (fs := []) (B := B) (zs := zs) (cap := grownCap w xs.length 0 E) Els.nil hen (by rw [hzl, hzs]; simp) (by simpa using hge) hcm (by simpa using hlen) hB
        simp only [List.length_nil, Nat.zero_add, List.nil_append, Array.empty_append] at hrow
        have hnb : ∀ p ∈ rowP (GoT.n α) (.slice (some ⟨w.heap.size, 0, none⟩) xs.length (grownCap w xs.length 0 E)), p ∈ rowP (GoT.n α) (.slice bo 0 0) ∨ w.heap.size ≤ p.1 := fun p hp => .inr (by rw [(mem_own.1 hp).1]; exact Nat.le_refl _)
        cases bo with
        | none =>
          have hr := run_append_nil (P := P) w T ty E i z ht hi hz a xs.length c news (by rw [hnl, hsize]) hnews hpos (by omega) (by omega)
          rw [hze] at hr
          exact ⟨_, _, hr, hrow, hnewb _, hnb⟩
        | some b0 =>
          have hr := run_append_grow (P := P) w T ty E i z ht hi hz b0 0 0 [] (by simp) (fun j u hu => by simp at hu) a xs.length c news (by rw [hnl, hsize]) hnews (by omega) (by omega) (growslice_fits (by omega) (by simpa using hbytes))
          simp only [Nat.zero_add, Array.empty_append] at hr
          rw [hze] at hr
          exact ⟨_, _, hr, hrow, hnewb _, hnb⟩
  · have hfe' : fs = fs' := List.append_cancel_left hfe
    subst hfe'
    have hcl := he.length
    by_cases hroom : l.length + xs.length ≤ cap
    · have hin : ∀ j < news.length, (b, o + l.length * GoT.n α + j) ∈ own b o (cap * GoT.n α) := by
        intro j hj
        have := Nat.mul_le_mul_right (GoT.n α) hroom
        rw [Nat.add_mul] at this
        exact mem_own.2 ⟨rfl, by simp; omega, by simp; omega⟩
      have hr := run_append_room_any (P := P) w T ty E i ht hi b o l.length cap (.slice ao xs.length c) xs.length news (by rw [hnl, hsize]) ⟨ao, c, rfl, hsrc.imp (fun ⟨h1, h2, h3⟩ => ⟨List.eq_nil_of_length_eq_zero (by rw [hnl, h1]; simp), h2, h3, by rw [h1]; rfl⟩) id⟩ hone hroom
        (fun j hj => by rw [hsize]; exact hlv _ (hin j hj)) (fun j hj => by rw [hsize]; exact hfr.free _ (hin j hj))
      rw [hsize] at hr
      have hw : Wr (own b o (cap * GoT.n α)) w (w.setCells b (o + l.length * GoT.n α) news) := setCells_wr news _ w hin
      have hl2 : ∀ p ∈ fs, p ∉ own b o (cap * GoT.n α) := hdis
      have hlive' : Live (w.setCells b (o + l.length * GoT.n α) news) (own b o (cap * GoT.n α)) := by
        intro p hp
        obtain ⟨e1, e2, e3⟩ := mem_own.1 hp
        by_cases hi2 : o + l.length * GoT.n α ≤ p.2 ∧ p.2 < o + l.length * GoT.n α + news.length
        · have := World.cell?_setCells_in b news (o + l.length * GoT.n α) w (fun j hj => hlv _ (hin j hj)) (p.2 - (o + l.length * GoT.n α)) (by omega)
          rw [show o + l.length * GoT.n α + (p.2 - (o + l.length * GoT.n α)) = p.2 by omega] at this
          rw [e1, this]; rfl
        · rw [World.cell?_setCells_out b news _ w ⟨p.1, p.2, none⟩ (fun _ _ => by simp; omega)]
          exact hlv p hp
      refine ⟨_, _, hr, ⟨.inr ⟨b, o, cap, cs ++ news, fs ++ gs, by rw [List.length_append], by rw [List.length_append]; exact hroom, h2, by rw [List.length_append]; exact hlen, ?_, ?_, hlive', rfl⟩, hw.fresh hlv hfr, ?_⟩, hw, fun p hp => .inl hp⟩
      · refine At.append.2 ⟨ha.keep fun j hj => ?_, ?_⟩
        · exact World.cell?_setCells_out b news _ w ⟨b, o + j, none⟩ (fun _ _ => by simp; omega)
        · rw [hcl]
          intro j u hj
          have hjl := (List.getElem?_eq_some_iff.1 hj).1
          rw [World.cell?_setCells_in b news (o + l.length * GoT.n α) w (fun j hj => hlv _ (hin j hj)) j hjl, ← hj, List.getElem?_eq_getElem hjl]
      · exact Els.append.2 ⟨cs, news, fs, gs, rfl, he.keep (hw.same he.live hl2), hen.keep (hw.same hen.live hd), rfl⟩
      · intro p hp
        rcases List.mem_append.1 hp with hp | hp
        · exact hl2 p hp
        · exact hd p hp
    · rcases hsrc with ⟨rfl, _⟩ | ⟨a, rfl, hnews⟩
      · simp at hroom; omega
      · obtain ⟨zs, hze, hzl⟩ := zeroCells_list z.cells (grownCap w (l.length + xs.length) cap E - (l.length + xs.length))
        have hge := grownCap_ge w (l.length + xs.length) cap E
        have hcm := grownCap_le_maxLen w (l.length + xs.length) cap E hlm
        have hr := run_append_grow (P := P) w T ty E i z ht hi hz ⟨b, o, none⟩ l.length cap cs (by rw [hcl, hsize]) (fun j u hu => by rw [addr_add]; exact ha j u hu) a xs.length c news (by rw [hnl, hsize]) hnews (by omega) (by omega) (growslice_fits (by omega) hbytes)
        rw [hze] at hr
        exact ⟨_, _, hr, row_new he hen (by rw [hzl, hzs]) hge hcm hlen hB, hnewb _, fun p hp => .inr (by rw [(mem_own.1 hp).1]; exact Nat.le_refl _)⟩
end
theorem wpList_append_row {P : Program} {ops : Array Oper} {rest : List Oper} {o : Oper} {a : Act} {Q : Exit → Act → World → Prop} (hgd : o.guard = none) (s y : Operand) (T : TypeId)
    (ho : o.op = .call { callee := .builtin .append, args := #[s, y], argTypes := #[T, T] }) {E : TypeId} {i : TypeInfo} {z : Value} {bytes : Nat} (ht : P.underlying T = some (.slice E)) (hi : P.info? E = some i) (hz : i.zero = some z)
    (hsize : i.size = GoT.n α) (hby : i.bytes = bytes) (hzs : z.cells.size = GoT.n α) {x : Value} (hv : a.eval s = v) (hx : a.eval y = x)
    (h : Row B w v l fs) (hs : Src w x xs gs) (hd : ∀ p ∈ gs, p ∉ rowP (GoT.n α) v) (hlen : l.length + xs.length ≤ BIG) (hbytes : (l.length + xs.length) * bytes ≤ 140737488355328) (hB : B ≤ w.heap.size)
    (hK : ∀ v' w', Row B w' v' (l ++ xs) (fs ++ gs) → Wr (rowP (GoT.n α) v) w w' → (∀ p ∈ rowP (GoT.n α) v', p ∈ rowP (GoT.n α) v ∨ w.heap.size ≤ p.1) → wpList P ops Q rest (a.put o.dst v') w') : wpList P ops Q (o :: rest) a w := by
  refine wpList_plain hgd fun K hK' => ?_
  obtain ⟨v', w', hr, h2, h3, h4⟩ := run_append_row (P := P) (ty := o.type) ht hi hz hsize hby hzs h hs hd hlen hbytes hB
  unfold Oper.wp
  simp [execOp, ho, resolve, invoke, builtin, hv, hx, hr, Result.andThen]
  exact hK' _ _ (hK v' w' h2 h3 h4)
end
end Go.Proofs.Ytihbmefidbmmdaa
