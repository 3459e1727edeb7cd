/- Flushing a builder: the reference's way. -/
import Derived.Test.YtihbmefidbmmdaaBld
import Derived.Deep.RegionHeld3
import Derived.Deep.RegionLaw
namespace Go.Proofs.Ytihbmefidbmmdaa
open Go.RowKit
theorem step_append_row {α : Type} [GoT α] {P : Program} {ops : Array Oper} {o : Oper} {a : Act} {w : World} {K : Act → World → Prop} {Q : Exit → Act → World → Prop} {E : Prop} (hg : o.guard = none) (s y : Operand) (T : TypeId)
    (ho : o.op = Op.call { callee := Callee.builtin Builtin.append, args := #[s, y], argTypes := #[T, T] }) {F : TypeId} {i : TypeInfo} {z : Value} {bytes : Nat} (ht : P.underlying T = some (.slice F)) (hi : P.info? F = some i) (hz : i.zero = some z)
    (hsize : i.size = GoT.n α) (hby : i.bytes = bytes) (hzs : z.cells.size = GoT.n α) {v x : Value} {l xs : List α} {B : Nat} {fs gs : List Pos} (hv : a.eval s = v) (hx : a.eval y = x)
    (h : Row B w v l fs) (hs : Src w x xs gs) (hd : ∀ p ∈ gs, p ∉ rowP (GoT.n α) v) (hlen : l.length + xs.length ≤ BIG) (hbytes : (l.length + xs.length) * bytes ≤ 140737488355328) (hB : B ≤ w.heap.size)
    (hK : ∀ v' w', Row B w' v' (l ++ xs) (fs ++ gs) → Wr (rowP (GoT.n α) v) w w' → (∀ p ∈ rowP (GoT.n α) v', p ∈ rowP (GoT.n α) v ∨ w.heap.size ≤ p.1) → K (a.put o.dst v') w') :
    if Region.wanted o (yielded ops a.tmps) = true then Oper.wp P o a w K Q else E := by
  have hw : Region.wanted o (yielded ops a.tmps) = true := by simp [Region.wanted, hg]
  rw [if_pos hw]
  obtain ⟨v', w', hr, h2, h3, h4⟩ := run_append_row (P := P) (ty := o.type) ht hi hz hsize hby hzs h hs hd hlen hbytes hB
  unfold Oper.wp
  simp [execOp, ho, resolve, invoke, builtin, hv, hx, hr, Result.andThen]
  exact hK v' w' h2 h3 h4
theorem part_built (w : World) (k n : Int) (v : Value) (l : List Int) (f : List Pos) (E : TypeId) (h : Sl BIG w v l f) : Src (w.alloc (.cells #[.int .i64 k, .int .i64 n, v] E)) (.slice (some ⟨w.heap.size, 0, none⟩) 1 1) [(⟨k, n, l⟩ : DPart)] f := by
  refine Src.one (c := [.int .i64 k, .int .i64 n, v]) ?_ ⟨v, f, rfl, h.belowW ((Below.refl _ _).alloc (Nat.le_refl _) _), rfl⟩
  intro j u hj
  match j, hj with
  | 0, hj => simp at hj; subst hj; simp
  | 1, hj => simp at hj; subst hj; simp
  | 2, hj => simp at hj; subst hj; simp
theorem info_part : (Try.prog.info? 116).map (fun i => (i.zero, i.size, i.bytes)) = some (some (.agg #[.int .i64 0, .int .i64 0, .slice none 0 0]), 3, 40) := by kernel_rfl
/-- a builder's state in its cells -/
structure Bld (B : Nat) (w : World) (pl pp pd : Pos) (s : Bst) (fp : List Pos) : Prop where
  ex : ∃ vl vp fl fq, w.cell? ⟨pl.1, pl.2, none⟩ = some vl ∧ w.cell? ⟨pp.1, pp.2, none⟩ = some vp ∧ w.cell? ⟨pd.1, pd.2, none⟩ = some (.int .i64 s.drop) ∧ Sl BIG w vl s.list fl ∧ Sl BIG w vp s.put fq ∧ fp = bpl pl pp pd ++ (fl ++ fq)
  fr : Fresh B w fp
/-- what a step of a builder leaves -/
def BStep (B : Nat) (w : World) (pl pp pd : Pos) (s : Bst) (fp : List Pos) (e : Ending) (w' : World) : Prop :=
  e = .returned (.tuple #[]) ∧ ∃ fp', Bld B w' pl pp pd s fp' ∧ Wr fp w w' ∧ ∀ p ∈ fp', p ∈ fp ∨ w.heap.size ≤ p.1
theorem BL.close {B : Nat} {w : World} {pl pp pd : Pos} {vl : Value} {L : List DPart} {fl : List Pos} (h : BL B w pl pp pd vl L fl) :
    Bld B ((w.setCell ⟨pp.1, pp.2, none⟩ (.slice none 0 0)).setCell ⟨pd.1, pd.2, none⟩ (.int .i64 0)) pl pp pd ⟨L, [], 0⟩ (bpl pl pp pd ++ (fl ++ [])) ∧
      Wr (bpl pl pp pd) w ((w.setCell ⟨pp.1, pp.2, none⟩ (.slice none 0 0)).setCell ⟨pd.1, pd.2, none⟩ (.int .i64 0)) := by
  obtain ⟨n3, nf, dis⟩ := List.nodup_append.1 h.fr.nodup
  simp only [bpl, List.nodup_cons, List.mem_cons, List.not_mem_nil, or_false, not_or] at n3
  have o1 : ∀ p : Pos, p ≠ pp → p ≠ pd → ((w.setCell ⟨pp.1, pp.2, none⟩ (.slice none 0 0)).setCell ⟨pd.1, pd.2, none⟩ (.int .i64 0)).cell? ⟨p.1, p.2, none⟩ = w.cell? ⟨p.1, p.2, none⟩ := by
    intro p h1 h2
    rw [cell_setCell, if_neg (by rintro ⟨q1, q2⟩; exact h2 (Prod.ext q1 q2)), cell_setCell, if_neg (by rintro ⟨q1, q2⟩; exact h1 (Prod.ext q1 q2))]
  obtain ⟨u, hu⟩ := Option.isSome_iff_exists.1 h.cp
  obtain ⟨u2, hu2⟩ := Option.isSome_iff_exists.1 h.cd
  have hne : ∀ p ∈ fl, p ≠ pp ∧ p ≠ pd := fun p hp => ⟨fun e => dis pp (by simp [bpl]) p hp e.symm, fun e => dis pd (by simp [bpl]) p hp e.symm⟩
  refine ⟨⟨⟨vl, .slice none 0 0, fl, [], ?_, ?_, ?_, ?_, Sl.nil, rfl⟩, ?_⟩, ?_⟩
  · rw [o1 pl n3.1.1 n3.1.2]; exact h.cl
  · rw [cell_setCell, if_neg (by rintro ⟨q1, q2⟩; exact n3.2.1 (Prod.ext q1 q2)), cell_setCell, if_pos ⟨rfl, rfl⟩, hu]; rfl
  · rw [cell_setCell, if_pos ⟨rfl, rfl⟩, cell_setCell, if_neg (by rintro ⟨q1, q2⟩; exact n3.2.1 (Prod.ext q1 q2).symm), hu2]; rfl
  · exact h.sl.keep fun p hp => o1 p (hne p hp).1 (hne p hp).2
  · rw [List.append_nil]; exact (h.fr.put _ _).put _ _
  · exact ((Wr.refl _ _).put (by simp [bpl]) _).put (by simp [bpl]) _
theorem BL.row {B : Nat} {w : World} {pl pp pd : Pos} {vl : Value} {L : List DPart} {fl : List Pos} (h : BL B w pl pp pd vl L fl) : ∃ fs, fl = rowP 3 vl ++ fs ∧ Row B w vl L fs := by
  obtain ⟨fs, e⟩ := h.sl.split
  refine ⟨fs, e, ?_, ?_, ?_⟩
  · rw [← e]; exact h.sl
  · have := h.fr; rw [e] at this; exact this.right.left
  · have := h.fr.nodup; rw [e] at this
    obtain ⟨_, nf, _⟩ := List.nodup_append.1 this
    exact fun p hp hq => (List.nodup_append.1 nf).2.2 p hq p hp rfl
theorem Bld.open {B : Nat} {w : World} {pl pp pd : Pos} {s : Bst} {fp : List Pos} (h : Bld B w pl pp pd s fp) :
    ∃ vl vp fl fq, BL B w pl pp pd vl s.list fl ∧ w.cell? ⟨pp.1, pp.2, none⟩ = some vp ∧ w.cell? ⟨pd.1, pd.2, none⟩ = some (.int .i64 s.drop) ∧ Sl BIG w vp s.put fq ∧ fp = bpl pl pp pd ++ (fl ++ fq) ∧ Fresh B w fp := by
  obtain ⟨⟨vl, vp, fl, fq, h1, h2, h3, h4, h5, rfl⟩, hf⟩ := h
  have : Fresh B w (bpl pl pp pd ++ fl) := hf.pre2
  exact ⟨vl, vp, fl, fq, ⟨h1, by rw [h2]; rfl, by rw [h3]; rfl, h4, this⟩, h2, h3, h5, rfl, hf⟩
theorem Wr.trans2 {gs hs : List Pos} {a b c : World} (h : Wr gs a b) (k : Wr hs b c) (hn : ∀ p ∈ hs, p ∈ gs ∨ a.heap.size ≤ p.1) : Wr gs a c :=
  ⟨k.os.trans h.os, k.tape.trans h.tape, k.output.trans h.output, Nat.le_trans h.size k.size,
    fun p hp hq => (k.cell p (Nat.lt_of_lt_of_le hp h.size) fun hm => (hn p hm).elim hq fun h => by omega).trans (h.cell p hp hq),
    fun p hp => (k.frozen p (Nat.lt_of_lt_of_le hp h.size)).trans (h.frozen p hp),
    fun q hq hm => (k.block q (Nat.lt_of_lt_of_le hq h.size) fun p hp => (hn p hp).elim (hm p) fun h => by omega).trans (h.block q hq hm)⟩
theorem mem_l {p : Pos} {b l q : List Pos} (h : p ∈ b ++ l) : p ∈ b ++ (l ++ q) := by
  rcases List.mem_append.1 h with h | h <;> simp [h]
theorem mem_n {p : Pos} {b l q : List Pos} (h : p ∈ b ++ (l ++ [])) : p ∈ b ++ (l ++ q) := by
  rw [List.append_nil] at h
  exact mem_l h
theorem Src.drew {α : Type} [GoT α] {w : World} {v : Value} {xs : List α} {gs : List Pos} (h : Src w v xs gs) : Src w.drew v xs gs := by
  obtain ⟨ao, c, news, h1, h2, h3⟩ := h
  exact ⟨ao, c, news, h1, h2.keep fun _ _ => rfl, h3⟩
/-- a part more, told from the world before its cells were laid -/
theorem BL.app2 {B : Nat} {w W w1 : World} {pl pp pd : Pos} {vl v' : Value} {L : List DPart} {fl fs fx : List Pos} {x : DPart} (h : BL B w pl pp pd vl L fl) (hfr : Fresh B w (bpl pl pp pd ++ (fl ++ fx))) (hfx : Live w fx) (hb : Below w.heap.size w W)
    (he : fl = rowP 3 vl ++ fs) (hr : Row B w1 v' (L ++ [x]) (fs ++ fx)) (hw : Wr (rowP 3 vl) W w1) (hn : ∀ p ∈ rowP 3 v', p ∈ rowP 3 vl ∨ W.heap.size ≤ p.1) :
    ∃ fl', BL B (w1.setCell ⟨pl.1, pl.2, none⟩ v') pl pp pd v' (L ++ [x]) fl' ∧ Wr (bpl pl pp pd ++ (fl ++ fx)) w (w1.setCell ⟨pl.1, pl.2, none⟩ v') ∧ ∀ p ∈ fl', p ∈ fl ++ fx ∨ w.heap.size ≤ p.1 := by
  have hl : ∀ p ∈ bpl pl pp pd ++ (fl ++ fx), p.1 < w.heap.size := by
    intro p hp
    rcases List.mem_append.1 hp with hp | hp
    · exact Live.lt h.live p (List.mem_append.2 (.inl hp))
    · rcases List.mem_append.1 hp with hp | hp
      · exact Live.lt h.live p (List.mem_append.2 (.inr hp))
      · exact Live.lt hfx p hp
  obtain ⟨fl', k1, k2, k3, _, _⟩ := h.app hb (hfr.belowL hb hl) (hfx.keep (Live.same_below hb (Live.lt hfx))) he hr hw hn
  refine ⟨fl', k1, (Wr.of_below hb).trans (k2.sub fun _ hp => mem_l hp), fun p hp => ?_⟩
  rcases k3 p hp with k | k | k
  · exact .inl (List.mem_append.2 (.inl k))
  · exact .inl (List.mem_append.2 (.inr k))
  · exact .inr (Nat.le_trans hb.size k)
theorem BStep.done {B : Nat} {w w2 : World} {pl pp pd : Pos} {vl : Value} {L : List DPart} {fl' gs : List Pos} {s : Bst} (hs : s = ⟨L, [], 0⟩) (h : BL B w2 pl pp pd vl L fl') (hw : Wr (bpl pl pp pd ++ gs) w w2) (hn : ∀ p ∈ fl', p ∈ gs ∨ w.heap.size ≤ p.1) :
    BStep B w pl pp pd s (bpl pl pp pd ++ gs) (.returned (.tuple #[])) ((w2.setCell ⟨pp.1, pp.2, none⟩ (.slice none 0 0)).setCell ⟨pd.1, pd.2, none⟩ (.int .i64 0)) := by
  subst hs
  obtain ⟨k1, k2⟩ := h.close
  refine ⟨rfl, _, k1, hw.trans (k2.sub fun _ hp => List.mem_append.2 (.inl hp)), fun p hp => ?_⟩
  rcases List.mem_append.1 hp with hp | hp
  · exact .inl (List.mem_append.2 (.inl hp))
  · rw [List.append_nil] at hp
    rcases hn p hp with k | k
    · exact .inl (List.mem_append.2 (.inr k))
    · exact .inr k
end Go.Proofs.Ytihbmefidbmmdaa
