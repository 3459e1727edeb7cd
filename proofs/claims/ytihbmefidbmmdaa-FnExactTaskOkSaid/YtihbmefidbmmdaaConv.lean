/- What the form reads as data is what the contracts read. -/
import Derived.Test.YtihbmefidbmmdaaSz0
import Derived.Test.YtihbmefidbmmdaaChecked
import Derived.Deep.Slices
import Derived.ChangeArms
namespace Go.Proofs.Ytihbmefidbmmdaa
open Go.RowKit

theorem list2 {α : Type} : ∀ {l : List α}, l.length = 2 → ∃ x0 x1, l = [x0, x1]
  | [x0, x1], _ => ⟨x0, x1, rfl⟩
theorem list3 {α : Type} : ∀ {l : List α}, l.length = 3 → ∃ x0 x1 x2, l = [x0, x1, x2]
  | [x0, x1, x2], _ => ⟨x0, x1, x2, rfl⟩
theorem list4 {α : Type} : ∀ {l : List α}, l.length = 4 → ∃ x0 x1 x2 x3, l = [x0, x1, x2, x3]
  | [x0, x1, x2, x3], _ => ⟨x0, x1, x2, x3, rfl⟩
theorem list5 {α : Type} : ∀ {l : List α}, l.length = 5 → ∃ x0 x1 x2 x3 x4, l = [x0, x1, x2, x3, x4]
  | [x0, x1, x2, x3, x4], _ => ⟨x0, x1, x2, x3, x4, rfl⟩
theorem list6 {α : Type} : ∀ {l : List α}, l.length = 6 → ∃ x0 x1 x2 x3 x4 x5, l = [x0, x1, x2, x3, x4, x5]
  | [x0, x1, x2, x3, x4, x5], _ => ⟨x0, x1, x2, x3, x4, x5, rfl⟩
theorem list7 {α : Type} : ∀ {l : List α}, l.length = 7 → ∃ x0 x1 x2 x3 x4 x5 x6, l = [x0, x1, x2, x3, x4, x5, x6]
  | [x0, x1, x2, x3, x4, x5, x6], _ => ⟨x0, x1, x2, x3, x4, x5, x6, rfl⟩
theorem list8 {α : Type} : ∀ {l : List α}, l.length = 8 → ∃ x0 x1 x2 x3 x4 x5 x6 x7, l = [x0, x1, x2, x3, x4, x5, x6, x7]
  | [x0, x1, x2, x3, x4, x5, x6, x7], _ => ⟨x0, x1, x2, x3, x4, x5, x6, x7, rfl⟩
theorem list14 {α : Type} : ∀ {l : List α}, l.length = 14 → ∃ x0 x1 x2 x3 x4 x5 x6 x7 x8 x9 x10 x11 x12 x13, l = [x0, x1, x2, x3, x4, x5, x6, x7, x8, x9, x10, x11, x12, x13]
  | [x0, x1, x2, x3, x4, x5, x6, x7, x8, x9, x10, x11, x12, x13], _ => ⟨x0, x1, x2, x3, x4, x5, x6, x7, x8, x9, x10, x11, x12, x13, rfl⟩
theorem list15 {α : Type} : ∀ {l : List α}, l.length = 15 → ∃ x0 x1 x2 x3 x4 x5 x6 x7 x8 x9 x10 x11 x12 x13 x14, l = [x0, x1, x2, x3, x4, x5, x6, x7, x8, x9, x10, x11, x12, x13, x14]
  | [x0, x1, x2, x3, x4, x5, x6, x7, x8, x9, x10, x11, x12, x13, x14], _ => ⟨x0, x1, x2, x3, x4, x5, x6, x7, x8, x9, x10, x11, x12, x13, x14, rfl⟩
theorem list16 {α : Type} : ∀ {l : List α}, l.length = 16 → ∃ x0 x1 x2 x3 x4 x5 x6 x7 x8 x9 x10 x11 x12 x13 x14 x15, l = [x0, x1, x2, x3, x4, x5, x6, x7, x8, x9, x10, x11, x12, x13, x14, x15]
  | [x0, x1, x2, x3, x4, x5, x6, x7, x8, x9, x10, x11, x12, x13, x14, x15], _ => ⟨x0, x1, x2, x3, x4, x5, x6, x7, x8, x9, x10, x11, x12, x13, x14, x15, rfl⟩
theorem mapM_some {α β : Type} {f : α → Option β} : ∀ {l : List α} {r : List β}, l.mapM f = some r → r.length = l.length ∧ ∀ (j : Nat) (x : α), l[j]? = some x → f x = r[j]?
  | [], r, h => by
    simp at h; subst h
    exact ⟨rfl, fun j x hj => by simp at hj⟩
  | a :: l, r, h => by
    simp only [List.mapM_cons, Option.bind_eq_bind, Option.bind_eq_some_iff, Option.pure_def, Option.some.injEq] at h
    obtain ⟨y, hy, ys, hys, rfl⟩ := h
    obtain ⟨h1, h2⟩ := mapM_some hys
    refine ⟨by simp [h1], fun j x hj => ?_⟩
    cases j with
    | zero => simp only [List.getElem?_cons_zero, Option.some.injEq] at hj ⊢; subst hj; exact hy
    | succ j => simp only [List.getElem?_cons_succ] at hj ⊢; exact h2 j x hj
theorem cells_some {w : World} {base n : Nat} {a : Addr} {cs : List Value} (h : w.cells? base a n = some cs) : cs.length = n ∧ ∀ j, j < n → w.cell? (a.add j) = cs[j]? := by
  unfold World.cells? at h
  split at h
  · obtain ⟨h1, h2⟩ := mapM_some h
    rw [List.length_range] at h1
    exact ⟨h1, fun j hj => h2 j j (by rw [List.getElem?_range hj])⟩
  · cases h
/-- type t's readings are readings of α's -/
def Opens (α : Type) [GoT α] (P : Program) (t : TypeId) : Prop :=
  ∀ (H : Type) (enc : TypeId × Value → H) (w : World) (base : Nat) (held : Bool) (fuel : Nat) (cs : List Value) (x : DataW H × List MemPlace), DataW.trod enc P w base (fun _ => true) held fuel t cs = some x → ∃ d : α, RdM maxLen w cs d
theorem opens_int {P : Program} {t : TypeId} (ht : P.underlying t = some (.int .i64)) : Opens Int P t := by
  intro H enc w base held fuel cs x h
  obtain ⟨n, rfl, _, _⟩ := DataW.trod_int ht h
  exact ⟨n, [], rfl, rfl⟩
theorem choose_data {α : Type} [GoT α] {w : World} : ∀ (css : List (List Value)), (∀ cs ∈ css, ∃ d : α, RdM maxLen w cs d) → ∃ (l : List α) (fp : List Pos), l.length = css.length ∧ Els maxLen w css.flatten l fp
  | [], _ => ⟨[], [], rfl, rfl, rfl⟩
  | c :: css, h => by
    obtain ⟨d, f, hd⟩ := h c (by simp)
    obtain ⟨l, fp, hl, he⟩ := choose_data css (fun cs hc => h cs (by simp [hc]))
    exact ⟨d :: l, f ++ fp, by simp [hl], c, css.flatten, f, fp, by simp, hd, he, rfl⟩
theorem opens_slice {α : Type} [GoT α] {P : Program} {t e : TypeId} (ht : P.underlying t = some (.slice e)) (hn : P.cellsOf e = GoT.n α) (ho : Opens α P e) : Opens (List α) P t := by
  intro H enc w base held fuel cs x h
  rcases Go.Deep.open_slice ht h with ⟨rfl, _⟩ | ⟨a, len, cap, m, n, D, Pl, rfl, hb, hl, hm, hmm, _, hx⟩
  · exact ⟨[], [], _, rfl, Sl.nil⟩
  · simp only [if_true] at hmm
    subst hmm
    have hpos := GoT.pos (α := α)
    rw [hn] at hx
    by_cases hc0 : m = 0
    · subst hc0
      obtain rfl : len = 0 := by omega
      exact ⟨[], [], _, rfl, .inl ⟨_, rfl, rfl, rfl⟩⟩
    · have hspot : a.spot = none := by
        obtain ⟨cs', h1, _⟩ := hx 0 (by omega)
        obtain ⟨h2, h3⟩ := cells_some h1
        have h4 := h3 0 hpos
        rw [List.getElem?_eq_getElem (by omega)] at h4
        simp only [Nat.zero_mul, Addr.add, if_true] at h4
        unfold World.cell? at h4
        cases hsp : a.spot with
        | none => rfl
        | some s =>
          rw [hsp] at h4
          split at h4 <;> simp at h4
      obtain ⟨b, o, sp⟩ := a
      simp only at hspot
      subst hspot
      have hcell : ∀ i, i < m → ∃ cs', cs'.length = GoT.n α ∧ (∀ j, j < GoT.n α → w.cell? ⟨b, o + i * GoT.n α + j, none⟩ = cs'[j]?) ∧ ∃ d : α, RdM maxLen w cs' d := by
        intro i hi
        obtain ⟨cs', h1, h2⟩ := hx i hi
        obtain ⟨h3, h4⟩ := cells_some h1
        refine ⟨cs', h3, fun j hj => ?_, ho _ _ _ _ _ _ _ _ h2⟩
        have := h4 j hj
        rwa [Addr.add_lit, Addr.add_lit] at this
      obtain ⟨css, hcss⟩ : ∃ css : List (List Value), css.length = m ∧ ∀ i, i < m → ∃ cs', css[i]? = some cs' ∧ cs'.length = GoT.n α ∧ (∀ j, j < GoT.n α → w.cell? ⟨b, o + i * GoT.n α + j, none⟩ = cs'[j]?) ∧ ∃ d : α, RdM maxLen w cs' d := by
        refine ⟨(List.range m).map fun i => if h : i < m then Classical.choose (hcell i h) else [], by simp, fun i hi => ⟨Classical.choose (hcell i hi), ?_, Classical.choose_spec (hcell i hi)⟩⟩
        rw [List.getElem?_map, List.getElem?_range hi]
        simp [hi]
      obtain ⟨hcl, hcs⟩ := hcss
      have hlenc : ∀ c ∈ css, c.length = GoT.n α := by
        intro c hc
        obtain ⟨i, hi, rfl⟩ := List.getElem_of_mem hc
        obtain ⟨cs', h1, h2, _⟩ := hcs i (by omega)
        rw [List.getElem?_eq_getElem hi] at h1
        cases h1
        exact h2
      have hflat : ∀ (L : List (List Value)) (i : Nat) (c : List Value), (∀ c ∈ L, c.length = GoT.n α) → L[i]? = some c → ∀ j, j < GoT.n α → L.flatten[i * GoT.n α + j]? = c[j]? := by
        intro L
        induction L with
        | nil => intro i c _ h; simp at h
        | cons c0 L ih =>
          intro i c hL hi j hj
          have h0 := hL c0 (by simp)
          cases i with
          | zero =>
            simp only [List.getElem?_cons_zero, Option.some.injEq] at hi
            subst hi
            rw [List.flatten_cons, Nat.zero_mul, Nat.zero_add, List.getElem?_append_left (by omega)]
          | succ i =>
            simp only [List.getElem?_cons_succ] at hi
            rw [List.flatten_cons, List.getElem?_append_right (by rw [h0, Nat.add_mul]; omega), h0, Nat.add_mul, Nat.one_mul]
            rw [show i * GoT.n α + GoT.n α + j - GoT.n α = i * GoT.n α + j by omega]
            exact ih i c (fun c hc => hL c (by simp [hc])) hi j hj
      have hcellAll : ∀ q, q < m * GoT.n α → ∃ v, w.cell? ⟨b, o + q, none⟩ = some v ∧ css.flatten[q]? = some v := by
        intro q hq
        have hi : q / GoT.n α < m := (Nat.div_lt_iff_lt_mul hpos).2 hq
        have hj : q % GoT.n α < GoT.n α := Nat.mod_lt _ hpos
        obtain ⟨cs', h1, h2, h3, _⟩ := hcs _ hi
        have hq' : q / GoT.n α * GoT.n α + q % GoT.n α = q := by rw [Nat.mul_comm]; exact Nat.div_add_mod q _
        have h4 := h3 _ hj
        have h5 := hflat css _ cs' hlenc h1 _ hj
        rw [hq'] at h5
        rw [Nat.add_assoc, hq'] at h4
        obtain ⟨v, hv⟩ := get_some (l := cs') (k := q % GoT.n α) (by omega)
        rw [hv] at h4 h5
        exact ⟨v, h4, h5⟩
      obtain ⟨l, fp, hll, hle⟩ := choose_data (css.take len) (fun c hc => by
        obtain ⟨i, hi, rfl⟩ := List.getElem_of_mem (List.mem_of_mem_take hc)
        obtain ⟨cs', h1, _, _, h4⟩ := hcs i (by omega)
        rw [List.getElem?_eq_getElem hi] at h1
        cases h1
        exact h4)
      have hlen : l.length = len := by rw [hll, List.length_take]; omega
      refine ⟨l, own b o (m * GoT.n α) ++ fp, _, rfl, .inr ⟨b, o, m, (css.take len).flatten, fp, by rw [hlen], by omega, hm, by omega, ?_, hle, ?_, rfl⟩⟩
      · intro j v hj
        have hjl := (List.getElem?_eq_some_iff.1 hj).1
        rw [hle.length, hlen] at hjl
        have hjm : j < m * GoT.n α := Nat.lt_of_lt_of_le hjl (Nat.mul_le_mul_right _ hl)
        obtain ⟨u, h1, h2⟩ := hcellAll j hjm
        have hpre : css.flatten = (css.take len).flatten ++ (css.drop len).flatten := by rw [← List.flatten_append, List.take_append_drop]
        rw [hpre, List.getElem?_append_left (by rw [hle.length, hlen]; exact hjl), hj] at h2
        rw [h1, ← h2]
      · intro p hp
        obtain ⟨e1, e2, e3⟩ := mem_own.1 hp
        obtain ⟨v, h1, _⟩ := hcellAll (p.2 - o) (by omega)
        rw [e1, show p.2 = o + (p.2 - o) by omega, h1]
        rfl

theorem opens_DPart : Opens DPart Try.prog 114 := by
  intro H enc w base held fuel cs x h
  obtain ⟨xs, n, _, _, hc, hxs, hf⟩ := DataW.trod_struct Try.underlying114 h
  rw [show Try.prog.cellsOf 114 = 3 by kernel_rfl] at hc
  obtain ⟨c0, c1, c2, rfl⟩ := list3 hc
  have hxl : xs.length = 3 := hxs
  have f0 : DataW.trod enc Try.prog w base (fun _ => true) held n 3 (List.take (Try.prog.cellsOf 3) (List.drop 0 [c0, c1, c2])) = xs[0]? := hf 0 _ rfl
  obtain ⟨y0, hy0⟩ := get_some (l := xs) (k := 0) (by omega)
  rw [hy0, show Try.prog.cellsOf 3 = 1 by kernel_rfl] at f0
  replace f0 : DataW.trod enc Try.prog w base (fun _ => true) held n 3 [c0] = some y0 := f0
  have f1 : DataW.trod enc Try.prog w base (fun _ => true) held n 3 (List.take (Try.prog.cellsOf 3) (List.drop 1 [c0, c1, c2])) = xs[1]? := hf 1 _ rfl
  obtain ⟨y1, hy1⟩ := get_some (l := xs) (k := 1) (by omega)
  rw [hy1, show Try.prog.cellsOf 3 = 1 by kernel_rfl] at f1
  replace f1 : DataW.trod enc Try.prog w base (fun _ => true) held n 3 [c1] = some y1 := f1
  have f2 : DataW.trod enc Try.prog w base (fun _ => true) held n 48 (List.take (Try.prog.cellsOf 48) (List.drop 2 [c0, c1, c2])) = xs[2]? := hf 2 _ rfl
  obtain ⟨y2, hy2⟩ := get_some (l := xs) (k := 2) (by omega)
  rw [hy2, show Try.prog.cellsOf 48 = 1 by kernel_rfl] at f2
  replace f2 : DataW.trod enc Try.prog w base (fun _ => true) held n 48 [c2] = some y2 := f2
  obtain ⟨d0, e0, _, _⟩ := DataW.trod_int Try.underlying3 f0; simp only [List.cons.injEq, and_true] at e0; subst e0
  obtain ⟨d1, e1, _, _⟩ := DataW.trod_int Try.underlying3 f1; simp only [List.cons.injEq, and_true] at e1; subst e1
  obtain ⟨d2, f_signs, v_signs, e2, h_signs⟩ := opens_slice Try.underlying48 (by kernel_rfl) (opens_int Try.underlying3) _ _ _ _ _ _ _ _ f2; simp only [List.cons.injEq, and_true] at e2; subst e2
  exact ⟨⟨d0, d1, d2⟩, _, _, _, rfl, h_signs, rfl⟩

theorem opens_DEntry : Opens DEntry Try.prog 24 := by
  intro H enc w base held fuel cs x h
  obtain ⟨xs, n, _, _, hc, hxs, hf⟩ := DataW.trod_struct Try.underlying24 h
  rw [show Try.prog.cellsOf 24 = 3 by kernel_rfl] at hc
  obtain ⟨c0, c1, c2, rfl⟩ := list3 hc
  have hxl : xs.length = 3 := hxs
  have f0 : DataW.trod enc Try.prog w base (fun _ => true) held n 3 (List.take (Try.prog.cellsOf 3) (List.drop 0 [c0, c1, c2])) = xs[0]? := hf 0 _ rfl
  obtain ⟨y0, hy0⟩ := get_some (l := xs) (k := 0) (by omega)
  rw [hy0, show Try.prog.cellsOf 3 = 1 by kernel_rfl] at f0
  replace f0 : DataW.trod enc Try.prog w base (fun _ => true) held n 3 [c0] = some y0 := f0
  have f1 : DataW.trod enc Try.prog w base (fun _ => true) held n 3 (List.take (Try.prog.cellsOf 3) (List.drop 1 [c0, c1, c2])) = xs[1]? := hf 1 _ rfl
  obtain ⟨y1, hy1⟩ := get_some (l := xs) (k := 1) (by omega)
  rw [hy1, show Try.prog.cellsOf 3 = 1 by kernel_rfl] at f1
  replace f1 : DataW.trod enc Try.prog w base (fun _ => true) held n 3 [c1] = some y1 := f1
  have f2 : DataW.trod enc Try.prog w base (fun _ => true) held n 22 (List.take (Try.prog.cellsOf 22) (List.drop 2 [c0, c1, c2])) = xs[2]? := hf 2 _ rfl
  obtain ⟨y2, hy2⟩ := get_some (l := xs) (k := 2) (by omega)
  rw [hy2, show Try.prog.cellsOf 22 = 1 by kernel_rfl] at f2
  replace f2 : DataW.trod enc Try.prog w base (fun _ => true) held n 22 [c2] = some y2 := f2
  obtain ⟨d0, e0, _, _⟩ := DataW.trod_int Try.underlying3 f0; simp only [List.cons.injEq, and_true] at e0; subst e0
  obtain ⟨d1, e1, _, _⟩ := DataW.trod_int Try.underlying3 f1; simp only [List.cons.injEq, and_true] at e1; subst e1
  obtain ⟨d2, f_o, v_o, e2, h_o⟩ := opens_slice Try.underlying22 (by kernel_rfl) opens_DPart _ _ _ _ _ _ _ _ f2; simp only [List.cons.injEq, and_true] at e2; subst e2
  exact ⟨⟨d0, d1, d2⟩, _, _, _, rfl, h_o, rfl⟩



theorem opens_DRing : Opens DRing Try.prog 35 := by
  intro H enc w base held fuel cs x h
  obtain ⟨xs, n, _, _, hc, hxs, hf⟩ := DataW.trod_struct Try.underlying35 h
  rw [show Try.prog.cellsOf 35 = 4 by kernel_rfl] at hc
  obtain ⟨c0, c1, c2, c3, rfl⟩ := list4 hc
  have hxl : xs.length = 4 := hxs
  have f0 : DataW.trod enc Try.prog w base (fun _ => true) held n 3 (List.take (Try.prog.cellsOf 3) (List.drop 0 [c0, c1, c2, c3])) = xs[0]? := hf 0 _ rfl
  obtain ⟨y0, hy0⟩ := get_some (l := xs) (k := 0) (by omega)
  rw [hy0, show Try.prog.cellsOf 3 = 1 by kernel_rfl] at f0
  replace f0 : DataW.trod enc Try.prog w base (fun _ => true) held n 3 [c0] = some y0 := f0
  have f1 : DataW.trod enc Try.prog w base (fun _ => true) held n 3 (List.take (Try.prog.cellsOf 3) (List.drop 1 [c0, c1, c2, c3])) = xs[1]? := hf 1 _ rfl
  obtain ⟨y1, hy1⟩ := get_some (l := xs) (k := 1) (by omega)
  rw [hy1, show Try.prog.cellsOf 3 = 1 by kernel_rfl] at f1
  replace f1 : DataW.trod enc Try.prog w base (fun _ => true) held n 3 [c1] = some y1 := f1
  have f2 : DataW.trod enc Try.prog w base (fun _ => true) held n 4 (List.take (Try.prog.cellsOf 4) (List.drop 2 [c0, c1, c2, c3])) = xs[2]? := hf 2 _ rfl
  obtain ⟨y2, hy2⟩ := get_some (l := xs) (k := 2) (by omega)
  rw [hy2, show Try.prog.cellsOf 4 = 1 by kernel_rfl] at f2
  replace f2 : DataW.trod enc Try.prog w base (fun _ => true) held n 4 [c2] = some y2 := f2
  have f3 : DataW.trod enc Try.prog w base (fun _ => true) held n 33 (List.take (Try.prog.cellsOf 33) (List.drop 3 [c0, c1, c2, c3])) = xs[3]? := hf 3 _ rfl
  obtain ⟨y3, hy3⟩ := get_some (l := xs) (k := 3) (by omega)
  rw [hy3, show Try.prog.cellsOf 33 = 1 by kernel_rfl] at f3
  replace f3 : DataW.trod enc Try.prog w base (fun _ => true) held n 33 [c3] = some y3 := f3
  obtain ⟨d0, e0, _, _⟩ := DataW.trod_int Try.underlying3 f0; simp only [List.cons.injEq, and_true] at e0; subst e0
  obtain ⟨d1, e1, _, _⟩ := DataW.trod_int Try.underlying3 f1; simp only [List.cons.injEq, and_true] at e1; subst e1
  obtain ⟨d2, e2, _⟩ := DataW.trod_bool Try.underlying4 f2; simp only [List.cons.injEq, and_true] at e2; subst e2
  obtain ⟨d3, f_list, v_list, e3, h_list⟩ := opens_slice Try.underlying33 (by kernel_rfl) opens_DEntry _ _ _ _ _ _ _ _ f3; simp only [List.cons.injEq, and_true] at e3; subst e3
  exact ⟨⟨d0, d1, d2, d3⟩, _, _, _, rfl, h_list, rfl⟩



theorem opens_DCall : Opens DCall Try.prog 50 := by
  intro H enc w base held fuel cs x h
  obtain ⟨xs, n, _, _, hc, hxs, hf⟩ := DataW.trod_struct Try.underlying50 h
  rw [show Try.prog.cellsOf 50 = 7 by kernel_rfl] at hc
  obtain ⟨c0, c1, c2, c3, c4, c5, c6, rfl⟩ := list7 hc
  have hxl : xs.length = 7 := hxs
  have f0 : DataW.trod enc Try.prog w base (fun _ => true) held n 3 (List.take (Try.prog.cellsOf 3) (List.drop 0 [c0, c1, c2, c3, c4, c5, c6])) = xs[0]? := hf 0 _ rfl
  obtain ⟨y0, hy0⟩ := get_some (l := xs) (k := 0) (by omega)
  rw [hy0, show Try.prog.cellsOf 3 = 1 by kernel_rfl] at f0
  replace f0 : DataW.trod enc Try.prog w base (fun _ => true) held n 3 [c0] = some y0 := f0
  have f1 : DataW.trod enc Try.prog w base (fun _ => true) held n 9 (List.take (Try.prog.cellsOf 9) (List.drop 1 [c0, c1, c2, c3, c4, c5, c6])) = xs[1]? := hf 1 _ rfl
  obtain ⟨y1, hy1⟩ := get_some (l := xs) (k := 1) (by omega)
  rw [hy1, show Try.prog.cellsOf 9 = 1 by kernel_rfl] at f1
  replace f1 : DataW.trod enc Try.prog w base (fun _ => true) held n 9 [c1] = some y1 := f1
  have f2 : DataW.trod enc Try.prog w base (fun _ => true) held n 3 (List.take (Try.prog.cellsOf 3) (List.drop 2 [c0, c1, c2, c3, c4, c5, c6])) = xs[2]? := hf 2 _ rfl
  obtain ⟨y2, hy2⟩ := get_some (l := xs) (k := 2) (by omega)
  rw [hy2, show Try.prog.cellsOf 3 = 1 by kernel_rfl] at f2
  replace f2 : DataW.trod enc Try.prog w base (fun _ => true) held n 3 [c2] = some y2 := f2
  have f3 : DataW.trod enc Try.prog w base (fun _ => true) held n 3 (List.take (Try.prog.cellsOf 3) (List.drop 3 [c0, c1, c2, c3, c4, c5, c6])) = xs[3]? := hf 3 _ rfl
  obtain ⟨y3, hy3⟩ := get_some (l := xs) (k := 3) (by omega)
  rw [hy3, show Try.prog.cellsOf 3 = 1 by kernel_rfl] at f3
  replace f3 : DataW.trod enc Try.prog w base (fun _ => true) held n 3 [c3] = some y3 := f3
  have f4 : DataW.trod enc Try.prog w base (fun _ => true) held n 3 (List.take (Try.prog.cellsOf 3) (List.drop 4 [c0, c1, c2, c3, c4, c5, c6])) = xs[4]? := hf 4 _ rfl
  obtain ⟨y4, hy4⟩ := get_some (l := xs) (k := 4) (by omega)
  rw [hy4, show Try.prog.cellsOf 3 = 1 by kernel_rfl] at f4
  replace f4 : DataW.trod enc Try.prog w base (fun _ => true) held n 3 [c4] = some y4 := f4
  have f5 : DataW.trod enc Try.prog w base (fun _ => true) held n 22 (List.take (Try.prog.cellsOf 22) (List.drop 5 [c0, c1, c2, c3, c4, c5, c6])) = xs[5]? := hf 5 _ rfl
  obtain ⟨y5, hy5⟩ := get_some (l := xs) (k := 5) (by omega)
  rw [hy5, show Try.prog.cellsOf 22 = 1 by kernel_rfl] at f5
  replace f5 : DataW.trod enc Try.prog w base (fun _ => true) held n 22 [c5] = some y5 := f5
  have f6 : DataW.trod enc Try.prog w base (fun _ => true) held n 48 (List.take (Try.prog.cellsOf 48) (List.drop 6 [c0, c1, c2, c3, c4, c5, c6])) = xs[6]? := hf 6 _ rfl
  obtain ⟨y6, hy6⟩ := get_some (l := xs) (k := 6) (by omega)
  rw [hy6, show Try.prog.cellsOf 48 = 1 by kernel_rfl] at f6
  replace f6 : DataW.trod enc Try.prog w base (fun _ => true) held n 48 [c6] = some y6 := f6
  obtain ⟨d0, e0, _, _⟩ := DataW.trod_int Try.underlying3 f0; simp only [List.cons.injEq, and_true] at e0; subst e0
  obtain ⟨d1, e1, _, n_doc⟩ := DataW.trod_string Try.underlying9 f1; simp only [List.cons.injEq, and_true] at e1; subst e1
  obtain ⟨d2, e2, _, _⟩ := DataW.trod_int Try.underlying3 f2; simp only [List.cons.injEq, and_true] at e2; subst e2
  obtain ⟨d3, e3, _, _⟩ := DataW.trod_int Try.underlying3 f3; simp only [List.cons.injEq, and_true] at e3; subst e3
  obtain ⟨d4, e4, _, _⟩ := DataW.trod_int Try.underlying3 f4; simp only [List.cons.injEq, and_true] at e4; subst e4
  obtain ⟨d5, f_o, v_o, e5, h_o⟩ := opens_slice Try.underlying22 (by kernel_rfl) opens_DPart _ _ _ _ _ _ _ _ f5; simp only [List.cons.injEq, and_true] at e5; subst e5
  obtain ⟨d6, f_text, v_text, e6, h_text⟩ := opens_slice Try.underlying48 (by kernel_rfl) (opens_int Try.underlying3) _ _ _ _ _ _ _ _ f6; simp only [List.cons.injEq, and_true] at e6; subst e6
  exact ⟨⟨d0, d1, d2, d3, d4, d5, d6⟩, _, _, _, _, _, rfl, n_doc, h_o, h_text, rfl⟩

theorem opens_DAnswer : Opens DAnswer Try.prog 52 := by
  intro H enc w base held fuel cs x h
  obtain ⟨xs, n, _, _, hc, hxs, hf⟩ := DataW.trod_struct Try.underlying52 h
  rw [show Try.prog.cellsOf 52 = 4 by kernel_rfl] at hc
  obtain ⟨c0, c1, c2, c3, rfl⟩ := list4 hc
  have hxl : xs.length = 4 := hxs
  have f0 : DataW.trod enc Try.prog w base (fun _ => true) held n 3 (List.take (Try.prog.cellsOf 3) (List.drop 0 [c0, c1, c2, c3])) = xs[0]? := hf 0 _ rfl
  obtain ⟨y0, hy0⟩ := get_some (l := xs) (k := 0) (by omega)
  rw [hy0, show Try.prog.cellsOf 3 = 1 by kernel_rfl] at f0
  replace f0 : DataW.trod enc Try.prog w base (fun _ => true) held n 3 [c0] = some y0 := f0
  have f1 : DataW.trod enc Try.prog w base (fun _ => true) held n 3 (List.take (Try.prog.cellsOf 3) (List.drop 1 [c0, c1, c2, c3])) = xs[1]? := hf 1 _ rfl
  obtain ⟨y1, hy1⟩ := get_some (l := xs) (k := 1) (by omega)
  rw [hy1, show Try.prog.cellsOf 3 = 1 by kernel_rfl] at f1
  replace f1 : DataW.trod enc Try.prog w base (fun _ => true) held n 3 [c1] = some y1 := f1
  have f2 : DataW.trod enc Try.prog w base (fun _ => true) held n 48 (List.take (Try.prog.cellsOf 48) (List.drop 2 [c0, c1, c2, c3])) = xs[2]? := hf 2 _ rfl
  obtain ⟨y2, hy2⟩ := get_some (l := xs) (k := 2) (by omega)
  rw [hy2, show Try.prog.cellsOf 48 = 1 by kernel_rfl] at f2
  replace f2 : DataW.trod enc Try.prog w base (fun _ => true) held n 48 [c2] = some y2 := f2
  have f3 : DataW.trod enc Try.prog w base (fun _ => true) held n 33 (List.take (Try.prog.cellsOf 33) (List.drop 3 [c0, c1, c2, c3])) = xs[3]? := hf 3 _ rfl
  obtain ⟨y3, hy3⟩ := get_some (l := xs) (k := 3) (by omega)
  rw [hy3, show Try.prog.cellsOf 33 = 1 by kernel_rfl] at f3
  replace f3 : DataW.trod enc Try.prog w base (fun _ => true) held n 33 [c3] = some y3 := f3
  obtain ⟨d0, e0, _, _⟩ := DataW.trod_int Try.underlying3 f0; simp only [List.cons.injEq, and_true] at e0; subst e0
  obtain ⟨d1, e1, _, _⟩ := DataW.trod_int Try.underlying3 f1; simp only [List.cons.injEq, and_true] at e1; subst e1
  obtain ⟨d2, f_text, v_text, e2, h_text⟩ := opens_slice Try.underlying48 (by kernel_rfl) (opens_int Try.underlying3) _ _ _ _ _ _ _ _ f2; simp only [List.cons.injEq, and_true] at e2; subst e2
  obtain ⟨d3, f_list, v_list, e3, h_list⟩ := opens_slice Try.underlying33 (by kernel_rfl) opens_DEntry _ _ _ _ _ _ _ _ f3; simp only [List.cons.injEq, and_true] at e3; subst e3
  exact ⟨⟨d0, d1, d2, d3⟩, _, _, _, _, _, rfl, h_text, h_list, rfl⟩

theorem opens_DTask : Opens DTask Try.prog 54 := by
  intro H enc w base held fuel cs x h
  obtain ⟨xs, n, _, _, hc, hxs, hf⟩ := DataW.trod_struct Try.underlying54 h
  rw [show Try.prog.cellsOf 54 = 15 by kernel_rfl] at hc
  obtain ⟨c0, c1, c2, c3, c4, c5, c6, c7, c8, c9, c10, c11, c12, c13, c14, rfl⟩ := list15 hc
  have hxl : xs.length = 6 := hxs
  have f0 : DataW.trod enc Try.prog w base (fun _ => true) held n 50 (List.take (Try.prog.cellsOf 50) (List.drop 0 [c0, c1, c2, c3, c4, c5, c6, c7, c8, c9, c10, c11, c12, c13, c14])) = xs[0]? := hf 0 _ rfl
  obtain ⟨y0, hy0⟩ := get_some (l := xs) (k := 0) (by omega)
  rw [hy0, show Try.prog.cellsOf 50 = 7 by kernel_rfl] at f0
  replace f0 : DataW.trod enc Try.prog w base (fun _ => true) held n 50 [c0, c1, c2, c3, c4, c5, c6] = some y0 := f0
  have f1 : DataW.trod enc Try.prog w base (fun _ => true) held n 3 (List.take (Try.prog.cellsOf 3) (List.drop 7 [c0, c1, c2, c3, c4, c5, c6, c7, c8, c9, c10, c11, c12, c13, c14])) = xs[1]? := hf 1 _ rfl
  obtain ⟨y1, hy1⟩ := get_some (l := xs) (k := 1) (by omega)
  rw [hy1, show Try.prog.cellsOf 3 = 1 by kernel_rfl] at f1
  replace f1 : DataW.trod enc Try.prog w base (fun _ => true) held n 3 [c7] = some y1 := f1
  have f2 : DataW.trod enc Try.prog w base (fun _ => true) held n 3 (List.take (Try.prog.cellsOf 3) (List.drop 8 [c0, c1, c2, c3, c4, c5, c6, c7, c8, c9, c10, c11, c12, c13, c14])) = xs[2]? := hf 2 _ rfl
  obtain ⟨y2, hy2⟩ := get_some (l := xs) (k := 2) (by omega)
  rw [hy2, show Try.prog.cellsOf 3 = 1 by kernel_rfl] at f2
  replace f2 : DataW.trod enc Try.prog w base (fun _ => true) held n 3 [c8] = some y2 := f2
  have f3 : DataW.trod enc Try.prog w base (fun _ => true) held n 3 (List.take (Try.prog.cellsOf 3) (List.drop 9 [c0, c1, c2, c3, c4, c5, c6, c7, c8, c9, c10, c11, c12, c13, c14])) = xs[3]? := hf 3 _ rfl
  obtain ⟨y3, hy3⟩ := get_some (l := xs) (k := 3) (by omega)
  rw [hy3, show Try.prog.cellsOf 3 = 1 by kernel_rfl] at f3
  replace f3 : DataW.trod enc Try.prog w base (fun _ => true) held n 3 [c9] = some y3 := f3
  have f4 : DataW.trod enc Try.prog w base (fun _ => true) held n 3 (List.take (Try.prog.cellsOf 3) (List.drop 10 [c0, c1, c2, c3, c4, c5, c6, c7, c8, c9, c10, c11, c12, c13, c14])) = xs[4]? := hf 4 _ rfl
  obtain ⟨y4, hy4⟩ := get_some (l := xs) (k := 4) (by omega)
  rw [hy4, show Try.prog.cellsOf 3 = 1 by kernel_rfl] at f4
  replace f4 : DataW.trod enc Try.prog w base (fun _ => true) held n 3 [c10] = some y4 := f4
  have f5 : DataW.trod enc Try.prog w base (fun _ => true) held n 52 (List.take (Try.prog.cellsOf 52) (List.drop 11 [c0, c1, c2, c3, c4, c5, c6, c7, c8, c9, c10, c11, c12, c13, c14])) = xs[5]? := hf 5 _ rfl
  obtain ⟨y5, hy5⟩ := get_some (l := xs) (k := 5) (by omega)
  rw [hy5, show Try.prog.cellsOf 52 = 4 by kernel_rfl] at f5
  replace f5 : DataW.trod enc Try.prog w base (fun _ => true) held n 52 [c11, c12, c13, c14] = some y5 := f5
  obtain ⟨d0, f_c, h_c⟩ := opens_DCall _ _ _ _ _ _ _ _ f0
  obtain ⟨d1, e1, _, _⟩ := DataW.trod_int Try.underlying3 f1; simp only [List.cons.injEq, and_true] at e1; subst e1
  obtain ⟨d2, e2, _, _⟩ := DataW.trod_int Try.underlying3 f2; simp only [List.cons.injEq, and_true] at e2; subst e2
  obtain ⟨d3, e3, _, _⟩ := DataW.trod_int Try.underlying3 f3; simp only [List.cons.injEq, and_true] at e3; subst e3
  obtain ⟨d4, e4, _, _⟩ := DataW.trod_int Try.underlying3 f4; simp only [List.cons.injEq, and_true] at e4; subst e4
  obtain ⟨d5, f_a, h_a⟩ := opens_DAnswer _ _ _ _ _ _ _ _ f5
  exact ⟨⟨d0, d1, d2, d3, d4, d5⟩, _, _, _, _, _, rfl, h_c, h_a, rfl⟩



end Go.Proofs.Ytihbmefidbmmdaa
