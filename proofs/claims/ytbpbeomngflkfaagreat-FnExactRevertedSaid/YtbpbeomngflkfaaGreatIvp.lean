/- Taking an operation back: plain Lean, and the state of the reference's walk. -/
import Derived.Test.YtbpbeomngflkfaaGreatApl
import Derived.Test.YtbpbeomngflkfaaGreatNfs
import Derived.Test.YtbpbeomngflkfaaGreatCms
namespace Go.Proofs.YtbpbeomngflkfaaGreat
open Go.RowKit
/-- one part taken back: what has come out, and how far it is in the text -/
def invStep (t : List Int) (s : List DPart × Nat) (p : DPart) : List DPart × Nat :=
  if p.kind = 1 then (s.1 ++ [p], s.2 + p.n.toNat) else if p.kind = 2 then (s.1 ++ [⟨3, p.signs.length, []⟩], s.2) else (s.1 ++ [⟨2, 0, (t.take (s.2 + p.n.toNat)).drop s.2⟩], s.2 + p.n.toNat)
def invF (t : List Int) (o : List DPart) : List DPart × Nat := o.foldl (invStep t) ([], 0)
theorem invF_snoc {t : List Int} {o : List DPart} {k : Nat} {p : DPart} (h : o[k]? = some p) : invF t (o.take (k + 1)) = invStep t (invF t (o.take k)) p := by
  unfold invF
  rw [take_snoc h, List.foldl_append]
  rfl
def invert (o : List DPart) (t : List Int) : Option (List DPart) := if fits o t = true then some (normal (invF t (opNorm o)).1) else none
theorem invert_no {o : List DPart} {t : List Int} (h : fits o t = false) : invert o t = none := if_neg (by simp [h])
theorem invert_yes {o : List DPart} {t : List Int} (h : fits o t = true) : invert o t = some (normal (invF t (opNorm o)).1) := if_pos h
theorem fits_app (o : List DPart) (t : List Int) : (applyP o t).2 = fits o t := by
  cases h : fits o t
  · rw [fits_no h]
  · rw [fits_yes h]
theorem invF_at (t : List Int) {o : List DPart} (hall : o.all partOk = true) : ∀ k, k ≤ o.length → ((invF t (o.take k)).2 : Int) = sumBut 2 (o.take k)
  | 0, _ => by simp [invF, sumBut]
  | k + 1, hk => by
    obtain ⟨x, hx⟩ := get_some (l := o) (k := k) (by omega)
    have ih := invF_at t hall k (by omega)
    rw [invF_snoc hx, sumBut_snoc 2 hx, ← ih]
    rcases partOk_cases (all_at hall hx) with ⟨kx, g1, g2, g3⟩ | ⟨kx, g1, g2, _⟩ | ⟨kx, g1, g2, g3⟩
    · simp [invStep, kx, psize, g3]; omega
    · simp [invStep, kx]
    · simp [invStep, kx, psize, g3]; omega
theorem invF_fits {t : List Int} {o : List DPart} {k : Nat} {p : DPart} (hall : o.all partOk = true) (hfr : sumBut 2 o = t.length) (hp : o[k]? = some p) (hk : ¬ p.kind = 2) : (invF t (o.take k)).2 + p.n.toNat ≤ t.length := by
  have hlt := (List.getElem?_eq_some_iff.1 hp).1
  have ha := invF_at t hall (k + 1) (by omega)
  have hm := sumBut_mono hall 2 (k + 1)
  rw [invF_snoc hp] at ha
  unfold invStep at ha
  rw [if_neg hk] at ha
  split at ha <;> (simp only at ha; omega)
theorem invF_len (t : List Int) {o : List DPart} : ∀ k, k ≤ o.length → (invF t (o.take k)).1.length = k
  | 0, _ => by simp [invF]
  | k + 1, hk => by
    obtain ⟨x, hx⟩ := get_some (l := o) (k := k) (by omega)
    have ih := invF_len t (o := o) k (by omega)
    rw [invF_snoc hx]
    unfold invStep
    split
    · simp [ih]
    · split <;> simp [ih]
theorem invF_ok {t : List Int} {o : List DPart} (hall : o.all partOk = true) (ht : t.all signOk = true) (hfr : sumBut 2 o = t.length) : ∀ k, k ≤ o.length → (invF t (o.take k)).1.all partOk = true ∧ sumBut 2 (invF t (o.take k)).1 = sumBut 3 (o.take k) ∧ sumBut 3 (invF t (o.take k)).1 = sumBut 2 (o.take k)
  | 0, _ => by simp [invF, sumBut]
  | k + 1, hk => by
    obtain ⟨x, hx⟩ := get_some (l := o) (k := k) (by omega)
    obtain ⟨i1, i2, i3⟩ := invF_ok hall ht hfr k (by omega)
    have hf := fun h => invF_fits (t := t) hall hfr hx h
    have hxo := all_at hall hx
    rw [invF_snoc hx, sumBut_snoc 2 hx, sumBut_snoc 3 hx, ← i2, ← i3]
    rcases partOk_cases hxo with ⟨kx, g1, g2, g3⟩ | ⟨kx, g1, g2, _⟩ | ⟨kx, g1, g2, g3⟩
    · have e : invStep t (invF t (o.take k)) x = ((invF t (o.take k)).1 ++ [x], (invF t (o.take k)).2 + x.n.toNat) := by unfold invStep; rw [if_pos kx]
      rw [e]
      simp only [List.all_append, i1, List.all_cons, hxo, List.all_nil, Bool.and_self, sumBut_append, sumBut_cons, sumBut_nil, kx]
      simp
    · have e : invStep t (invF t (o.take k)) x = ((invF t (o.take k)).1 ++ [⟨3, x.signs.length, []⟩], (invF t (o.take k)).2) := by unfold invStep; rw [if_neg (by omega), if_pos kx]
      have hp : partOk ⟨3, x.signs.length, []⟩ = true := by simp [partOk, within]; omega
      have hs : psize x = x.signs.length := by simp [psize, g1]
      rw [e]
      simp only [List.all_append, i1, List.all_cons, hp, List.all_nil, Bool.and_self, sumBut_append, sumBut_cons, sumBut_nil, kx, hs]
      simp [psize]
    · have e : invStep t (invF t (o.take k)) x = ((invF t (o.take k)).1 ++ [⟨2, 0, (t.take ((invF t (o.take k)).2 + x.n.toNat)).drop (invF t (o.take k)).2⟩], (invF t (o.take k)).2 + x.n.toNat) := by unfold invStep; rw [if_neg (by omega), if_neg (by omega)]
      have hl : ((t.take ((invF t (o.take k)).2 + x.n.toNat)).drop (invF t (o.take k)).2).length = x.n.toNat := by have := hf (by omega); simp; omega
      have hso : ((t.take ((invF t (o.take k)).2 + x.n.toNat)).drop (invF t (o.take k)).2).all signOk = true := all_drop (all_take ht _) _
      rw [e]
      generalize (t.take ((invF t (o.take k)).2 + x.n.toNat)).drop (invF t (o.take k)).2 = S at hl hso ⊢
      have hp : partOk ⟨2, 0, S⟩ = true := by simp [partOk, signsOk, hso]; omega
      have hs : psize x = x.n := by simp [psize, g3]
      simp only [List.all_append, i1, List.all_cons, hp, List.all_nil, Bool.and_self, sumBut_append, sumBut_cons, sumBut_nil, kx, hs]
      simp [psize, hl]
      omega
theorem invF_all {t : List Int} {o : List DPart} (ho : opOk o = true) (ht : t.all signOk = true) (hfr : sumBut 2 o = t.length) : opOk (invF t o).1 = true := by
  obtain ⟨h1, h2, h3, h4⟩ := opOk_iff.1 ho
  have h := invF_ok h1 ht hfr o.length (Nat.le_refl _)
  have hl := invF_len t (o := o) o.length (Nat.le_refl _)
  rw [List.take_length] at h hl
  exact opOk_iff.2 ⟨h.1, by omega, by omega, by omega⟩
/-- a list that is read and a builder that is laid -/
structure IS (w0 : World) (bx : Nat) (vn : Value) (o : List DPart) (fn : List Pos) (w : World) (s : Bst) : Prop where
  o1 : w0.heap.size ≤ bx
  o2 : bx < w.heap.size
  n : Sl BIG w vn o fn
  x : ∃ fx, Bld bx w (bx, 0) (bx, 1) (bx, 2) s fx ∧ (∀ p ∈ fx, p.1 < w.heap.size) ∧ ∀ p ∈ fx, p ∉ fn
  bel : Below w0.heap.size w0 w
section
variable {w0 w : World} {bx : Nat} {vn : Value} {o : List DPart} {fn : List Pos} {s : Bst}
theorem IS.below {w' : World} (h : IS w0 bx vn o fn w s) (hb : Below w.heap.size w w') : IS w0 bx vn o fn w' s := by
  obtain ⟨fx, h1, h2, h3⟩ := h.x
  have hs := hb.size
  exact ⟨h.o1, Nat.lt_of_lt_of_le h.o2 hs, h.n.belowW hb, ⟨fx, h1.below hb, fun p hp => Nat.lt_of_lt_of_le (h2 p hp) hs, h3⟩, h.bel.trans (hb.mono h.bel.size)⟩
theorem IS.step (h : IS w0 bx vn o fn w s) : ∃ fx, Bld bx w (bx, 0) (bx, 1) (bx, 2) s fx ∧ (∀ p ∈ fx, p.1 < w.heap.size) ∧ ∀ (W : World), Below w.heap.size w W → ∀ (s' : Bst) (e : Ending) (w' : World), BStep bx W (bx, 0) (bx, 1) (bx, 2) s' fx e w' → e = .returned (.tuple #[]) ∧ IS w0 bx vn o fn w' s' ∧ Wr fx W w' := by
  obtain ⟨fx, h1, h2, h3⟩ := h.x
  refine ⟨fx, h1, h2, fun W hb s' e w' hbs => ?_⟩
  obtain ⟨he, f, k1, k2, k3⟩ := hbs
  have hW := hb.size
  have hs := k2.size
  have o1 := h.o1
  have o2 := h.o2
  have hn := h.n.belowW hb
  obtain ⟨vl, vp, fl, fq, hbl, _, _, sq, hf, _⟩ := k1.open
  have hl : ∀ p ∈ f, p.1 < w'.heap.size := by
    intro p hp
    rw [hf] at hp
    rcases List.mem_append.1 hp with hp | hp
    · exact Live.lt hbl.live p (List.mem_append.2 (.inl hp))
    · rcases List.mem_append.1 hp with hp | hp
      · exact Live.lt hbl.live p (List.mem_append.2 (.inr hp))
      · exact Live.lt sq.live p hp
  have hge := h1.fr.ge
  refine ⟨he, ⟨o1, by omega, hn.wr k2 fun p hp hq => h3 p hq hp, ⟨f, k1, hl, fun p hp hq => ?_⟩, (h.bel.trans (hb.mono h.bel.size)).trans (k2.below (by have := h.bel.size; omega) fun p hp => by have := hge p hp; omega)⟩, k2⟩
  rcases k3 p hp with hp | hp
  · exact h3 p hp hq
  · have := Live.lt hn.live p hq; omega
end
theorem IS.new {w0 w1 w2 : World} {E : TypeId} {v : Value} {o : List DPart} {fn : List Pos} (hb : Below w0.heap.size w0 w1) (hb2 : Below (w1.alloc (.cells #[.slice none 0 0, .slice none 0 0, .int .i64 0] E)).heap.size (w1.alloc (.cells #[.slice none 0 0, .slice none 0 0, .int .i64 0] E)) w2) (hn : Sl BIG w2 v o fn) (hf : Fresh (w1.alloc (.cells #[.slice none 0 0, .slice none 0 0, .int .i64 0] E)).heap.size w2 fn) : IS w0 w1.heap.size v o fn w2 (bstOf []) := by
  have k1 := bld_new w1 E w1.heap.size (Nat.le_refl _)
  have e1 : (w1.alloc (.cells #[.slice none 0 0, .slice none 0 0, .int .i64 0] E)).heap.size = w1.heap.size + 1 := by simp
  have hs := hb2.size
  rw [e1] at hs hf
  refine ⟨hb.size, by omega, hn, ⟨_, k1.below hb2, ?_, ?_⟩, (hb.alloc hb.size _).trans (hb2.mono (by rw [e1]; have := hb.size; omega))⟩
  · intro p hp
    simp only [bpl, List.append_nil, List.mem_cons, List.not_mem_nil, or_false] at hp
    rcases hp with rfl | rfl | rfl <;> simp <;> omega
  · intro p hp hq
    have := hf.ge p hq
    simp only [bpl, List.append_nil, List.mem_cons, List.not_mem_nil, or_false] at hp
    rcases hp with rfl | rfl | rfl <;> simp at this <;> omega
theorem step_dropI (s : Bst) (n : Int) : s.step ⟨3, n, []⟩ = s.drops n := step_drop s rfl
theorem step_putI (s : Bst) (l : List Int) : s.step ⟨2, 0, l⟩ = s.puts l := step_put s rfl
end Go.Proofs.YtbpbeomngflkfaaGreat
