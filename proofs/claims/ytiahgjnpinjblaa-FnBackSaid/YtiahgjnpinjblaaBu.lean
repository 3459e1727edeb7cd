/- The normal form of an operation; entries. -/
import Derived.Test.YtiahgjnpinjblaaRo
import Derived.Test.YtiahgjnpinjblaaPr
import Derived.Deep.RegionHeld3
import Derived.Deep.RegionLaw
import Derived.BigRegion
import Derived.StillTailTactics
import Derived.IntWalk
import Derived.Deep.RegionWith
import Derived.Test.YtiahgjnpinjblaaCm
namespace Go.Proofs.Ytiahgjnpinjblaa
open Go.RowKit
/-- what a builder holds -/
structure Bst where
  list : List DPart
  put : List Int
  drop : Int
def Bst.flush (s : Bst) : Bst := ⟨s.list ++ (if s.put = [] then [] else [⟨2, 0, s.put⟩]) ++ (if 0 < s.drop then [⟨3, s.drop, []⟩] else []), [], 0⟩
/-- a keep at the end of a list -/
def keepOn (l : List DPart) (n : Int) : List DPart := match l.getLast? with
  | some p => if p.kind = 1 then l.dropLast ++ [⟨p.kind, p.n + n, p.signs⟩] else l ++ [⟨1, n, []⟩]
  | none => l ++ [⟨1, n, []⟩]
def Bst.keep (s : Bst) (n : Int) : Bst := if n = 0 then s else ⟨keepOn s.flush.list n, [], 0⟩
def Bst.puts (s : Bst) (l : List Int) : Bst := ⟨s.list, s.put ++ l, s.drop⟩
def Bst.drops (s : Bst) (n : Int) : Bst := ⟨s.list, s.put, s.drop + n⟩
def Bst.step (s : Bst) (p : DPart) : Bst := if p.kind = 1 then s.keep p.n else if p.kind = 2 then s.puts p.signs else s.drops p.n
def normal (o : List DPart) : List DPart := (o.foldl Bst.step ⟨[], [], 0⟩).flush.list
def opNorm (o : List DPart) : List DPart := if opOk o = true then normal o else []
def isNorm (o : List DPart) : Bool := opOk o && decide (opNorm o = o)

/-- the places of the three cells -/
def bpl (pl pp pd : Pos) : List Pos := [pl, pp, pd]
/-- the list cell holds vl, which reads as L out of fl; the two other cells are there; all is one's own, no place met twice -/
structure BL (B : Nat) (w : World) (pl pp pd : Pos) (vl : Value) (L : List DPart) (fl : List Pos) : Prop where
  cl : w.cell? ⟨pl.1, pl.2, none⟩ = some vl
  cp : (w.cell? ⟨pp.1, pp.2, none⟩).isSome = true
  cd : (w.cell? ⟨pd.1, pd.2, none⟩).isSome = true
  sl : Sl BIG w vl L fl
  fr : Fresh B w (bpl pl pp pd ++ fl)
theorem BL.live {B : Nat} {w : World} {pl pp pd : Pos} {vl : Value} {L : List DPart} {fl : List Pos} (h : BL B w pl pp pd vl L fl) : Live w (bpl pl pp pd ++ fl) := by
  refine Live.append.2 ⟨fun p hp => ?_, h.sl.live⟩
  simp only [bpl, List.mem_cons, List.not_mem_nil, or_false] at hp
  rcases hp with rfl | rfl | rfl
  · rw [h.cl]; rfl
  · exact h.cp
  · exact h.cd
theorem BL.below {B : Nat} {w w' : World} {pl pp pd : Pos} {vl : Value} {L : List DPart} {fl : List Pos} (h : BL B w pl pp pd vl L fl) (hb : Below w.heap.size w w') : BL B w' pl pp pd vl L fl := by
  have hl := Live.lt h.live
  have hc : ∀ p ∈ bpl pl pp pd, w'.cell? ⟨p.1, p.2, none⟩ = w.cell? ⟨p.1, p.2, none⟩ := fun p hp => hb.cell (p := ⟨p.1, p.2, none⟩) (hl p (List.mem_append.2 (.inl hp)))
  exact ⟨(hc pl (by simp [bpl])).trans h.cl, by rw [hc pp (by simp [bpl])]; exact h.cp, by rw [hc pd (by simp [bpl])]; exact h.cd, h.sl.belowW hb, h.fr.belowL hb hl⟩
/-- a part more -/
theorem BL.app {B : Nat} {w W w1 : World} {pl pp pd : Pos} {vl v' : Value} {L : List DPart} {fl fs fx : List Pos} {x : DPart} (h : BL B w pl pp pd vl L fl) (hb : Below w.heap.size w W) (hx : Fresh B W (bpl pl pp pd ++ (fl ++ fx))) (hxl : Live W fx)
    (he : fl = rowP 3 vl ++ fs) (hr : Row B w1 v' (L ++ [x]) (fs ++ fx)) (hw : Wr (rowP 3 vl) W w1) (hn : ∀ p ∈ rowP 3 v', p ∈ rowP 3 vl ∨ W.heap.size ≤ p.1) :
    ∃ fl', BL B (w1.setCell ⟨pl.1, pl.2, none⟩ v') pl pp pd v' (L ++ [x]) fl' ∧ Wr (bpl pl pp pd ++ fl) W (w1.setCell ⟨pl.1, pl.2, none⟩ v') ∧ (∀ p ∈ fl', p ∈ fl ∨ p ∈ fx ∨ W.heap.size ≤ p.1) ∧
      (w1.setCell ⟨pl.1, pl.2, none⟩ v').cell? ⟨pp.1, pp.2, none⟩ = w.cell? ⟨pp.1, pp.2, none⟩ ∧ (w1.setCell ⟨pl.1, pl.2, none⟩ v').cell? ⟨pd.1, pd.2, none⟩ = w.cell? ⟨pd.1, pd.2, none⟩ := by
  subst he
  have hlw := Live.lt h.live
  have hlW : ∀ p ∈ bpl pl pp pd ++ (rowP 3 vl ++ fs), p.1 < W.heap.size := fun p hp => Nat.lt_of_lt_of_le (hlw p hp) hb.size
  have nd := hx.nodup
  obtain ⟨n3, nf, dis⟩ := List.nodup_append.1 nd
  have hout : ∀ p ∈ bpl pl pp pd, p ∉ rowP 3 vl := fun p hp hq => dis p hp p (by simp [hq]) rfl
  have hpl := hout pl (by simp [bpl])
  have hpp := hout pp (by simp [bpl])
  have hpd := hout pd (by simp [bpl])
  have c1 : ∀ p ∈ bpl pl pp pd, w1.cell? ⟨p.1, p.2, none⟩ = w.cell? ⟨p.1, p.2, none⟩ := fun p hp =>
    (hw.cell p (hlW p (List.mem_append.2 (.inl hp))) (hout p hp)).trans (hb.cell (p := ⟨p.1, p.2, none⟩) (hlw p (List.mem_append.2 (.inl hp))))
  have e1 : pl ≠ pp := by intro e; simp only [bpl, List.nodup_cons, List.mem_cons, not_or] at n3; exact n3.1.1 e
  have e2 : pl ≠ pd := by intro e; simp only [bpl, List.nodup_cons, List.mem_cons, not_or] at n3; exact n3.1.2.1 e
  have ot : ∀ p : Pos, p ≠ pl → (w1.setCell ⟨pl.1, pl.2, none⟩ v').cell? ⟨p.1, p.2, none⟩ = w1.cell? ⟨p.1, p.2, none⟩ := by
    intro p hp
    rw [cell_setCell, if_neg]
    rintro ⟨q1, q2⟩
    exact hp (Prod.ext q1 q2)
  have hnew : ∀ p ∈ rowP 3 v' ++ (fs ++ fx), p ≠ pl := by
    intro p hp e
    subst e
    rcases List.mem_append.1 hp with hp | hp
    · rcases hn p hp with hp | hp
      · exact hpl hp
      · have := hlW p (by simp [bpl]); omega
    · exact dis p (by simp [bpl]) p (by rcases List.mem_append.1 hp with hp | hp <;> simp [hp]) rfl
  have hcl : w1.cell? ⟨pl.1, pl.2, none⟩ = some vl := (c1 pl (by simp [bpl])).trans h.cl
  refine ⟨rowP 3 v' ++ (fs ++ fx), ⟨?_, ?_, ?_, ?_, ?_⟩, ?_, ?_, ?_, ?_⟩
  · exact World.cell?_setCell_same w1 ⟨pl.1, pl.2, none⟩ v' hcl
  · rw [ot pp (Ne.symm e1), c1 pp (by simp [bpl])]; exact h.cp
  · rw [ot pd (Ne.symm e2), c1 pd (by simp [bpl])]; exact h.cd
  · exact hr.1.keep fun p hp => ot p (hnew p hp)
  · have f3 : Fresh B w1 (bpl pl pp pd) := hw.fresh (fun p hp => by
      have := h.live p (List.mem_append.2 (.inl hp))
      rw [hb.cell (p := ⟨p.1, p.2, none⟩) (hlw p (List.mem_append.2 (.inl hp)))]
      exact this) hx.left
    have f4 : Fresh B w1 (fs ++ fx) := by
      refine hw.fresh (Live.append.2 ⟨fun p hp => ?_, hxl⟩) ⟨?_, ?_, ?_⟩
      · have := h.sl.live p (List.mem_append.2 (.inr hp))
        rw [hb.cell (p := ⟨p.1, p.2, none⟩) (hlw p (by simp [hp]))]
        exact this
      · rw [List.append_assoc] at nf
        exact (List.nodup_append.1 nf).2.1
      · exact fun p hp => hx.ge p (by rcases List.mem_append.1 hp with hp | hp <;> simp [hp])
      · exact fun p hp => hx.free p (by rcases List.mem_append.1 hp with hp | hp <;> simp [hp])
    refine ((f3.join (hr.2.1.join f4 fun p hp q hq e => hr.2.2 q hq (e ▸ hp)) fun p hp q hq e => ?_).put _ _)
    subst e
    rcases List.mem_append.1 hq with hq | hq
    · rcases hn p hq with hq | hq
      · exact hout p hp hq
      · have := hlW p (List.mem_append.2 (.inl hp)); omega
    · exact dis p hp p (by rcases List.mem_append.1 hq with hq | hq <;> simp [hq]) rfl
  · exact (hw.sub fun p hp => by simp [hp]).put (by simp [bpl]) _
  · intro p hp
    rcases List.mem_append.1 hp with hp | hp
    · rcases hn p hp with hp | hp
      · exact .inl (List.mem_append.2 (.inl hp))
      · exact .inr (.inr hp)
    · rcases List.mem_append.1 hp with hp | hp
      · exact .inl (List.mem_append.2 (.inr hp))
      · exact .inr (.inl hp)
  · rw [ot pp (Ne.symm e1), c1 pp (by simp [bpl])]
  · rw [ot pd (Ne.symm e2), c1 pd (by simp [bpl])]
end Go.Proofs.Ytiahgjnpinjblaa

namespace Go.Proofs.Ytiahgjnpinjblaa
open Go.RowKit
theorem step_append_row {α : Type} [GoT α] {P : Program} {ops : Array Oper} {o : Oper} {a : Act} {w : World} {K : Act → World → Prop} {Q : Exit → Act → World → Prop} {E : Prop} (hg : o.guard = none) (s y : Operand) (T : TypeId)
    (ho : o.op = Op.call { callee := Callee.builtin Builtin.append, args := #[s, y], argTypes := #[T, T] }) {F : TypeId} {i : TypeInfo} {z : Value} {bytes : Nat} (ht : P.underlying T = some (.slice F)) (hi : P.info? F = some i) (hz : i.zero = some z)
    (hsize : i.size = GoT.n α) (hby : i.bytes = bytes) (hzs : z.cells.size = GoT.n α) {v x : Value} {l xs : List α} {B : Nat} {fs gs : List Pos} (hv : a.eval s = v) (hx : a.eval y = x)
    (h : Row B w v l fs) (hs : Src w x xs gs) (hd : ∀ p ∈ gs, p ∉ rowP (GoT.n α) v) (hlen : l.length + xs.length ≤ BIG) (hbytes : (l.length + xs.length) * bytes ≤ 140737488355328) (hB : B ≤ w.heap.size)
    (hK : ∀ v' w', Row B w' v' (l ++ xs) (fs ++ gs) → Wr (rowP (GoT.n α) v) w w' → (∀ p ∈ rowP (GoT.n α) v', p ∈ rowP (GoT.n α) v ∨ w.heap.size ≤ p.1) → K (a.put o.dst v') w') :
    if Region.wanted o (yielded ops a.tmps) = true then Oper.wp P o a w K Q else E := by
  have hw : Region.wanted o (yielded ops a.tmps) = true := by simp [Region.wanted, hg]
  rw [if_pos hw]
  obtain ⟨v', w', hr, h2, h3, h4⟩ := run_append_row (P := P) (ty := o.type) ht hi hz hsize hby hzs h hs hd hlen hbytes hB
  unfold Oper.wp
  simp [execOp, ho, resolve, invoke, builtin, hv, hx, hr, Result.andThen]
  exact hK v' w' h2 h3 h4
theorem part_built (w : World) (k n : Int) (v : Value) (l : List Int) (f : List Pos) (E : TypeId) (h : Sl BIG w v l f) : Src (w.alloc (.cells #[.int .i64 k, .int .i64 n, v] E)) (.slice (some ⟨w.heap.size, 0, none⟩) 1 1) [(⟨k, n, l⟩ : DPart)] f := by
  refine Src.one (c := [.int .i64 k, .int .i64 n, v]) ?_ ⟨v, f, rfl, h.belowW ((Below.refl _ _).alloc (Nat.le_refl _) _), rfl⟩
  intro j u hj
  match j, hj with
  | 0, hj => simp at hj; subst hj; simp
  | 1, hj => simp at hj; subst hj; simp
  | 2, hj => simp at hj; subst hj; simp
theorem info_part : (Try.prog.info? 60).map (fun i => (i.zero, i.size, i.bytes)) = some (some (.agg #[.int .i64 0, .int .i64 0, .slice none 0 0]), 3, 40) := by kernel_rfl
/-- a builder's state in its cells -/
structure Bld (B : Nat) (w : World) (pl pp pd : Pos) (s : Bst) (fp : List Pos) : Prop where
  ex : ∃ vl vp fl fq, w.cell? ⟨pl.1, pl.2, none⟩ = some vl ∧ w.cell? ⟨pp.1, pp.2, none⟩ = some vp ∧ w.cell? ⟨pd.1, pd.2, none⟩ = some (.int .i64 s.drop) ∧ Sl BIG w vl s.list fl ∧ Sl BIG w vp s.put fq ∧ fp = bpl pl pp pd ++ (fl ++ fq)
  fr : Fresh B w fp
/-- what a step of a builder leaves -/
def BStep (B : Nat) (w : World) (pl pp pd : Pos) (s : Bst) (fp : List Pos) (e : Ending) (w' : World) : Prop :=
  e = .returned (.tuple #[]) ∧ ∃ fp', Bld B w' pl pp pd s fp' ∧ Wr fp w w' ∧ ∀ p ∈ fp', p ∈ fp ∨ w.heap.size ≤ p.1
theorem BL.close {B : Nat} {w : World} {pl pp pd : Pos} {vl : Value} {L : List DPart} {fl : List Pos} (h : BL B w pl pp pd vl L fl) :
    Bld B ((w.setCell ⟨pp.1, pp.2, none⟩ (.slice none 0 0)).setCell ⟨pd.1, pd.2, none⟩ (.int .i64 0)) pl pp pd ⟨L, [], 0⟩ (bpl pl pp pd ++ (fl ++ [])) ∧
      Wr (bpl pl pp pd) w ((w.setCell ⟨pp.1, pp.2, none⟩ (.slice none 0 0)).setCell ⟨pd.1, pd.2, none⟩ (.int .i64 0)) := by
  obtain ⟨n3, nf, dis⟩ := List.nodup_append.1 h.fr.nodup
  simp only [bpl, List.nodup_cons, List.mem_cons, List.not_mem_nil, or_false, not_or] at n3
  have o1 : ∀ p : Pos, p ≠ pp → p ≠ pd → ((w.setCell ⟨pp.1, pp.2, none⟩ (.slice none 0 0)).setCell ⟨pd.1, pd.2, none⟩ (.int .i64 0)).cell? ⟨p.1, p.2, none⟩ = w.cell? ⟨p.1, p.2, none⟩ := by
    intro p h1 h2
    rw [cell_setCell, if_neg (by rintro ⟨q1, q2⟩; exact h2 (Prod.ext q1 q2)), cell_setCell, if_neg (by rintro ⟨q1, q2⟩; exact h1 (Prod.ext q1 q2))]
  obtain ⟨u, hu⟩ := Option.isSome_iff_exists.1 h.cp
  obtain ⟨u2, hu2⟩ := Option.isSome_iff_exists.1 h.cd
  have hne : ∀ p ∈ fl, p ≠ pp ∧ p ≠ pd := fun p hp => ⟨fun e => dis pp (by simp [bpl]) p hp e.symm, fun e => dis pd (by simp [bpl]) p hp e.symm⟩
  refine ⟨⟨⟨vl, .slice none 0 0, fl, [], ?_, ?_, ?_, ?_, Sl.nil, rfl⟩, ?_⟩, ?_⟩
  · rw [o1 pl n3.1.1 n3.1.2]; exact h.cl
  · rw [cell_setCell, if_neg (by rintro ⟨q1, q2⟩; exact n3.2.1 (Prod.ext q1 q2)), cell_setCell, if_pos ⟨rfl, rfl⟩, hu]; rfl
  · rw [cell_setCell, if_pos ⟨rfl, rfl⟩, cell_setCell, if_neg (by rintro ⟨q1, q2⟩; exact n3.2.1 (Prod.ext q1 q2).symm), hu2]; rfl
  · exact h.sl.keep fun p hp => o1 p (hne p hp).1 (hne p hp).2
  · rw [List.append_nil]; exact (h.fr.put _ _).put _ _
  · exact ((Wr.refl _ _).put (by simp [bpl]) _).put (by simp [bpl]) _
theorem BL.row {B : Nat} {w : World} {pl pp pd : Pos} {vl : Value} {L : List DPart} {fl : List Pos} (h : BL B w pl pp pd vl L fl) : ∃ fs, fl = rowP 3 vl ++ fs ∧ Row B w vl L fs := by
  obtain ⟨fs, e⟩ := h.sl.split
  refine ⟨fs, e, ?_, ?_, ?_⟩
  · rw [← e]; exact h.sl
  · have := h.fr; rw [e] at this; exact this.right.left
  · have := h.fr.nodup; rw [e] at this
    obtain ⟨_, nf, _⟩ := List.nodup_append.1 this
    exact fun p hp hq => (List.nodup_append.1 nf).2.2 p hq p hp rfl
theorem Bld.open {B : Nat} {w : World} {pl pp pd : Pos} {s : Bst} {fp : List Pos} (h : Bld B w pl pp pd s fp) :
    ∃ vl vp fl fq, BL B w pl pp pd vl s.list fl ∧ w.cell? ⟨pp.1, pp.2, none⟩ = some vp ∧ w.cell? ⟨pd.1, pd.2, none⟩ = some (.int .i64 s.drop) ∧ Sl BIG w vp s.put fq ∧ fp = bpl pl pp pd ++ (fl ++ fq) ∧ Fresh B w fp := by
  obtain ⟨⟨vl, vp, fl, fq, h1, h2, h3, h4, h5, rfl⟩, hf⟩ := h
  have : Fresh B w (bpl pl pp pd ++ fl) := hf.pre2
  exact ⟨vl, vp, fl, fq, ⟨h1, by rw [h2]; rfl, by rw [h3]; rfl, h4, this⟩, h2, h3, h5, rfl, hf⟩
theorem Wr.trans2 {gs hs : List Pos} {a b c : World} (h : Wr gs a b) (k : Wr hs b c) (hn : ∀ p ∈ hs, p ∈ gs ∨ a.heap.size ≤ p.1) : Wr gs a c :=
  ⟨k.os.trans h.os, k.tape.trans h.tape, k.output.trans h.output, Nat.le_trans h.size k.size,
    fun p hp hq => (k.cell p (Nat.lt_of_lt_of_le hp h.size) fun hm => (hn p hm).elim hq fun h => by omega).trans (h.cell p hp hq),
    fun p hp => (k.frozen p (Nat.lt_of_lt_of_le hp h.size)).trans (h.frozen p hp),
    fun q hq hm => (k.block q (Nat.lt_of_lt_of_le hq h.size) fun p hp => (hn p hp).elim (hm p) fun h => by omega).trans (h.block q hq hm)⟩
theorem mem_l {p : Pos} {b l q : List Pos} (h : p ∈ b ++ l) : p ∈ b ++ (l ++ q) := by
  rcases List.mem_append.1 h with h | h <;> simp [h]
theorem mem_n {p : Pos} {b l q : List Pos} (h : p ∈ b ++ (l ++ [])) : p ∈ b ++ (l ++ q) := by
  rw [List.append_nil] at h
  exact mem_l h
theorem Src.drew {α : Type} [GoT α] {w : World} {v : Value} {xs : List α} {gs : List Pos} (h : Src w v xs gs) : Src w.drew v xs gs := by
  obtain ⟨ao, c, news, h1, h2, h3⟩ := h
  exact ⟨ao, c, news, h1, h2.keep fun _ _ => rfl, h3⟩
/-- a part more, told from the world before its cells were laid -/
theorem BL.app2 {B : Nat} {w W w1 : World} {pl pp pd : Pos} {vl v' : Value} {L : List DPart} {fl fs fx : List Pos} {x : DPart} (h : BL B w pl pp pd vl L fl) (hfr : Fresh B w (bpl pl pp pd ++ (fl ++ fx))) (hfx : Live w fx) (hb : Below w.heap.size w W)
    (he : fl = rowP 3 vl ++ fs) (hr : Row B w1 v' (L ++ [x]) (fs ++ fx)) (hw : Wr (rowP 3 vl) W w1) (hn : ∀ p ∈ rowP 3 v', p ∈ rowP 3 vl ∨ W.heap.size ≤ p.1) :
    ∃ fl', BL B (w1.setCell ⟨pl.1, pl.2, none⟩ v') pl pp pd v' (L ++ [x]) fl' ∧ Wr (bpl pl pp pd ++ (fl ++ fx)) w (w1.setCell ⟨pl.1, pl.2, none⟩ v') ∧ ∀ p ∈ fl', p ∈ fl ++ fx ∨ w.heap.size ≤ p.1 := by
  have hl : ∀ p ∈ bpl pl pp pd ++ (fl ++ fx), p.1 < w.heap.size := by
    intro p hp
    rcases List.mem_append.1 hp with hp | hp
    · exact Live.lt h.live p (List.mem_append.2 (.inl hp))
    · rcases List.mem_append.1 hp with hp | hp
      · exact Live.lt h.live p (List.mem_append.2 (.inr hp))
      · exact Live.lt hfx p hp
  obtain ⟨fl', k1, k2, k3, _, _⟩ := h.app hb (hfr.belowL hb hl) (hfx.keep (Live.same_below hb (Live.lt hfx))) he hr hw hn
  refine ⟨fl', k1, (Wr.of_below hb).trans (k2.sub fun _ hp => mem_l hp), fun p hp => ?_⟩
  rcases k3 p hp with k | k | k
  · exact .inl (List.mem_append.2 (.inl k))
  · exact .inl (List.mem_append.2 (.inr k))
  · exact .inr (Nat.le_trans hb.size k)
theorem BStep.done {B : Nat} {w w2 : World} {pl pp pd : Pos} {vl : Value} {L : List DPart} {fl' gs : List Pos} {s : Bst} (hs : s = ⟨L, [], 0⟩) (h : BL B w2 pl pp pd vl L fl') (hw : Wr (bpl pl pp pd ++ gs) w w2) (hn : ∀ p ∈ fl', p ∈ gs ∨ w.heap.size ≤ p.1) :
    BStep B w pl pp pd s (bpl pl pp pd ++ gs) (.returned (.tuple #[])) ((w2.setCell ⟨pp.1, pp.2, none⟩ (.slice none 0 0)).setCell ⟨pd.1, pd.2, none⟩ (.int .i64 0)) := by
  subst hs
  obtain ⟨k1, k2⟩ := h.close
  refine ⟨rfl, _, k1, hw.trans (k2.sub fun _ hp => List.mem_append.2 (.inl hp)), fun p hp => ?_⟩
  rcases List.mem_append.1 hp with hp | hp
  · exact .inl (List.mem_append.2 (.inl hp))
  · rw [List.append_nil] at hp
    rcases hn p hp with k | k
    · exact .inl (List.mem_append.2 (.inr k))
    · exact .inr k
end Go.Proofs.Ytiahgjnpinjblaa

namespace Go.Proofs.Ytiahgjnpinjblaa
open Go.RowKit
set_option maxHeartbeats 4000000 in
set_option maxRecDepth 100000 in
theorem spec_l02Flush_c (B g : Nat) (s : Bst) (fp : List Pos) (w : World) (h : Bld B w (g, 0) (g, 1) (g, 2) s fp) (hB : B ≤ w.heap.size) (hl : s.list.length ≤ 1000000) (hd0 : 0 ≤ s.drop) (hd1 : s.drop ≤ 1000000) :
    Calls Try.prog 100 #[.pointer (some ⟨g, 0, none⟩)] w (BStep B w (g, 0) (g, 1) (g, 2) s.flush fp) := by
  obtain ⟨i0, hi, hz0, hz1, hz2⟩ := info_parts info_part
  obtain ⟨vl, vp, fl, fq, hbl, hp_, hd_, sq, rfl, hfr⟩ := h.open
  have rq : RdS w vp s.put := ⟨_, sq⟩
  have hlen := fun w1 ty => rq.len Try.underlying23 w1 ty
  obtain ⟨ap, cp, rfl⟩ := rq.isSlice
  have hlb := sq.leM
  have hlw := Live.lt hbl.live
  have hgl : g < w.heap.size := hlw (g, 0) (by simp [bpl])
  have z0 : w.frozen? ⟨g, 0, none⟩ = false := hfr.free (g, 0) (by simp [bpl])
  have z1 : w.frozen? ⟨g, 1, none⟩ = false := hfr.free (g, 1) (by simp [bpl])
  have z2 : w.frozen? ⟨g, 2, none⟩ = false := hfr.free (g, 2) (by simp [bpl])
  have c0 : w.cell? ⟨g, 0, none⟩ = some vl := hbl.cl
  have hp : w.cell? ⟨g, 1, none⟩ = some (.slice ap s.put.length cp) := hp_
  have hd : w.cell? ⟨g, 2, none⟩ = some (.int .i64 s.drop) := hd_
  clear hp_ hd_
  obtain ⟨fs, hfe_, hrow⟩ := hbl.row
  have HFE := Lib.hid hfe_
  clear hfe_
  by_cases hp0 : s.put = []
  · by_cases hd2 : 0 < s.drop
    · have HF : Hid (s.flush = ⟨s.list ++ [⟨3, s.drop, []⟩], [], 0⟩) := Lib.hid (by simp [Bst.flush, hp0, hd2])
      have hln : ¬ 0 < s.put.length := by rw [hp0]; simp
      have hWA : Below w.heap.size w (w.alloc (.cells #[.int .i64 3, .int .i64 s.drop, .slice none 0 0] 60)).drew := ((Below.refl _ _).alloc (Nat.le_refl _) _).drew
      have hsrcA := Lib.hid (part_built w 3 s.drop _ [] [] 60 Sl.nil).drew
      have k1A : s.list.length + [(⟨3, s.drop, []⟩ : DPart)].length ≤ BIG := le_BIG (by simp; omega)
      have k2A : (s.list.length + [(⟨3, s.drop, []⟩ : DPart)].length) * 40 ≤ 140737488355328 := by simp; omega
      have k3A : B ≤ (w.alloc (.cells #[.int .i64 3, .int .i64 s.drop, .slice none 0 0] 60)).drew.heap.size := by simp; omega
      have K1A := Lib.hid k1A
      have K2A := Lib.hid k2A
      have K3A := Lib.hid k3A
      clear k1A k2A k3A
      have n0A : ((g, 0) : Pos) ∉ rowP (GoT.n DPart) (vl) := fun hm => (List.nodup_append.1 hfr.nodup).2.2 (g, 0) (by simp [bpl]) (g, 0) (by rw [HFE.out]; first | exact List.mem_append.2 (.inl (List.mem_append.2 (.inl hm))) | exact List.mem_append.2 (.inl hm)) rfl
      have n1A : ((g, 1) : Pos) ∉ rowP (GoT.n DPart) (vl) := fun hm => (List.nodup_append.1 hfr.nodup).2.2 (g, 1) (by simp [bpl]) (g, 1) (by rw [HFE.out]; first | exact List.mem_append.2 (.inl (List.mem_append.2 (.inl hm))) | exact List.mem_append.2 (.inl hm)) rfl
      have n2A : ((g, 2) : Pos) ∉ rowP (GoT.n DPart) (vl) := fun hm => (List.nodup_append.1 hfr.nodup).2.2 (g, 2) (by simp [bpl]) (g, 2) (by rw [HFE.out]; first | exact List.mem_append.2 (.inl (List.mem_append.2 (.inl hm))) | exact List.mem_append.2 (.inl hm)) rfl
      have hdisA : ∀ p ∈ ([] : List Pos), p ∉ rowP (GoT.n DPart) vl := fun _ h => (by cases h)
      have hfr2 : Fresh B w (bpl (g, 0) (g, 1) (g, 2) ++ (fl ++ [])) := by rw [List.append_nil]; exact hfr.pre2
      have HROWA := Lib.hid hrow
      clear hp0 h hrow hlen
      go_enter Try.func100, Try.ntmps100
      go_wp2
      go_region_law ((refine step_append_row (by rfl) (.tmp 31) (.tmp 37) 32 (by rfl) Try.underlying32 hi hz0 hz1 hz2 rfl (by rfl) (by rfl) (HROWA.out.below hWA) hsrcA.out hdisA K1A.out K2A.out K3A.out ?_; intro vA wA hrA hwA hnA; obtain ⟨aA, cA, rfl⟩ := hrA.rd.isSlice; have q0A : wA.cell? ⟨g, 0, none⟩ = some vl := cellw hWA hwA c0 n0A; have q1A : wA.frozen? ⟨g, 0, none⟩ = false := (hwA.frozen (g, 0) (Nat.lt_of_lt_of_le hgl hWA.size)).trans ((hWA.frozen (p := ⟨g, 0, none⟩) hgl).trans z0); have q2A : wA.cell? ⟨g, 1, none⟩ = some (.slice ap s.put.length cp) := cellw hWA hwA hp n1A; have q3A : wA.frozen? ⟨g, 1, none⟩ = false := (hwA.frozen (g, 1) (Nat.lt_of_lt_of_le hgl hWA.size)).trans ((hWA.frozen (p := ⟨g, 1, none⟩) hgl).trans z1); have q4A : wA.cell? ⟨g, 2, none⟩ = some (.int .i64 s.drop) := cellw hWA hwA hd n2A; have q5A : wA.frozen? ⟨g, 2, none⟩ = false := (hwA.frozen (g, 2) (Nat.lt_of_lt_of_le hgl hWA.size)).trans ((hWA.frozen (p := ⟨g, 2, none⟩) hgl).trans z2)))
      all_goals
        obtain ⟨fl', kb, kw, kn⟩ := hbl.app2 hfr2 (Live.nil _) hWA HFE.out hrA hwA hnA
        simp only [List.length_append, List.length_singleton] at kb kw
        have KB := Lib.hid kb
        have KW := Lib.hid kw
        have KN := Lib.hid kn
        clear kb kw kn hrA hwA hnA
        go_wp2
        go_end0
        exact BStep.done HF.out KB.out (KW.out.sub fun _ hp => mem_n hp) (fun p hp => (KN.out p hp).imp (fun h => by rw [List.append_nil] at h; exact List.mem_append.2 (.inl h)) id)
    · have hd3 : s.drop = 0 := by omega
      have HF : Hid (s.flush = ⟨s.list, [], 0⟩) := Lib.hid (by simp [Bst.flush, hp0, hd2])
      have hln : ¬ 0 < s.put.length := by rw [hp0]; simp
      rw [hd3] at hd
      clear hp0 hd2 hd3 h hlen
      go_enter Try.func100, Try.ntmps100
      go_wp2
      go_end0
      exact BStep.done HF.out hbl (Wr.refl _ _) (fun _ hp => .inl (List.mem_append.2 (.inl hp)))
  · have hln : 0 < s.put.length := List.length_pos_iff.2 hp0
    by_cases hd2 : 0 < s.drop
    · have HF : Hid (s.flush = ⟨s.list ++ [⟨2, 0, s.put⟩] ++ [⟨3, s.drop, []⟩], [], 0⟩) := Lib.hid (by simp [Bst.flush, hp0, hd2])
      have hWA : Below w.heap.size w (w.alloc (.cells #[.int .i64 2, .int .i64 0, .slice ap s.put.length cp] 60)).drew := ((Below.refl _ _).alloc (Nat.le_refl _) _).drew
      have hsrcA := Lib.hid (part_built w 2 0 _ s.put fq 60 sq).drew
      have k1A : s.list.length + [(⟨2, 0, s.put⟩ : DPart)].length ≤ BIG := le_BIG (by simp; omega)
      have k2A : (s.list.length + [(⟨2, 0, s.put⟩ : DPart)].length) * 40 ≤ 140737488355328 := by simp; omega
      have k3A : B ≤ (w.alloc (.cells #[.int .i64 2, .int .i64 0, .slice ap s.put.length cp] 60)).drew.heap.size := by simp; omega
      have K1A := Lib.hid k1A
      have K2A := Lib.hid k2A
      have K3A := Lib.hid k3A
      clear k1A k2A k3A
      have n0A : ((g, 0) : Pos) ∉ rowP (GoT.n DPart) (vl) := fun hm => (List.nodup_append.1 hfr.nodup).2.2 (g, 0) (by simp [bpl]) (g, 0) (by rw [HFE.out]; first | exact List.mem_append.2 (.inl (List.mem_append.2 (.inl hm))) | exact List.mem_append.2 (.inl hm)) rfl
      have n1A : ((g, 1) : Pos) ∉ rowP (GoT.n DPart) (vl) := fun hm => (List.nodup_append.1 hfr.nodup).2.2 (g, 1) (by simp [bpl]) (g, 1) (by rw [HFE.out]; first | exact List.mem_append.2 (.inl (List.mem_append.2 (.inl hm))) | exact List.mem_append.2 (.inl hm)) rfl
      have n2A : ((g, 2) : Pos) ∉ rowP (GoT.n DPart) (vl) := fun hm => (List.nodup_append.1 hfr.nodup).2.2 (g, 2) (by simp [bpl]) (g, 2) (by rw [HFE.out]; first | exact List.mem_append.2 (.inl (List.mem_append.2 (.inl hm))) | exact List.mem_append.2 (.inl hm)) rfl
      have hdisA : ∀ p ∈ fq, p ∉ rowP (GoT.n DPart) vl := fun p hp hq => (List.nodup_append.1 (List.nodup_append.1 hfr.nodup).2.1).2.2 p (by rw [HFE.out]; exact List.mem_append.2 (.inl hq)) p hp rfl
      have HROWA := Lib.hid hrow
      have hbnd : s.drop ≤ 1000000 := hd1
      clear hp0 h hrow
      go_enter Try.func100, Try.ntmps100
      go_wp2
      go_region_law ((refine step_append_row (by rfl) (.tmp 12) (.tmp 18) 32 (by rfl) Try.underlying32 hi hz0 hz1 hz2 rfl (by rfl) (by rfl) (HROWA.out.below hWA) hsrcA.out hdisA K1A.out K2A.out K3A.out ?_; intro vA wA hrA hwA hnA; obtain ⟨aA, cA, rfl⟩ := hrA.rd.isSlice; have q0A : wA.cell? ⟨g, 0, none⟩ = some vl := cellw hWA hwA c0 n0A; have q1A : wA.frozen? ⟨g, 0, none⟩ = false := (hwA.frozen (g, 0) (Nat.lt_of_lt_of_le hgl hWA.size)).trans ((hWA.frozen (p := ⟨g, 0, none⟩) hgl).trans z0); have q2A : wA.cell? ⟨g, 1, none⟩ = some (.slice ap s.put.length cp) := cellw hWA hwA hp n1A; have q3A : wA.frozen? ⟨g, 1, none⟩ = false := (hwA.frozen (g, 1) (Nat.lt_of_lt_of_le hgl hWA.size)).trans ((hWA.frozen (p := ⟨g, 1, none⟩) hgl).trans z1); have q4A : wA.cell? ⟨g, 2, none⟩ = some (.int .i64 s.drop) := cellw hWA hwA hd n2A; have q5A : wA.frozen? ⟨g, 2, none⟩ = false := (hwA.frozen (g, 2) (Nat.lt_of_lt_of_le hgl hWA.size)).trans ((hWA.frozen (p := ⟨g, 2, none⟩) hgl).trans z2)))
      all_goals
        obtain ⟨fl', kb, kw, kn⟩ := hbl.app2 hfr sq.live hWA HFE.out hrA hwA hnA
        simp only [List.length_append, List.length_singleton] at kb kw
        have hLL : (s.list ++ [(⟨2, 0, s.put⟩ : DPart)]).length ≤ 1000001 := by simp; omega
        have sBA : w.heap.size ≤ wA.heap.size := Nat.le_trans hWA.size hwA.size
        have c0B : (wA.setCell ⟨g, 0, none⟩ (.slice aA (s.list.length + 1) cA)).cell? ⟨g, 0, none⟩ = some (.slice aA (s.list.length + 1) cA) := kb.cl
        have cpB : (wA.setCell ⟨g, 0, none⟩ (.slice aA (s.list.length + 1) cA)).cell? ⟨g, 1, none⟩ = some (.slice ap s.put.length cp) := by rw [cell_setCell, if_neg (by simp)]; exact q2A
        have cdB : (wA.setCell ⟨g, 0, none⟩ (.slice aA (s.list.length + 1) cA)).cell? ⟨g, 2, none⟩ = some (.int .i64 s.drop) := by rw [cell_setCell, if_neg (by simp)]; exact q4A
        have z0B : (wA.setCell ⟨g, 0, none⟩ (.slice aA (s.list.length + 1) cA)).frozen? ⟨g, 0, none⟩ = false := by rw [World.frozen?_setCell]; exact q1A
        have z1B : (wA.setCell ⟨g, 0, none⟩ (.slice aA (s.list.length + 1) cA)).frozen? ⟨g, 1, none⟩ = false := by rw [World.frozen?_setCell]; exact q3A
        have z2B : (wA.setCell ⟨g, 0, none⟩ (.slice aA (s.list.length + 1) cA)).frozen? ⟨g, 2, none⟩ = false := by rw [World.frozen?_setCell]; exact q5A
        clear q0A q1A q2A q3A q4A q5A hrA hwA hnA n0A n1A n2A hsrcA K1A K2A K3A HROWA hdisA
        clear c0 hp hd z0 z1 z2
        generalize hw2 : wA.setCell ⟨g, 0, none⟩ (.slice aA (s.list.length + 1) cA) = w2 at kb kw c0B cpB cdB z0B z1B z2B ⊢
        have hs2 : w.heap.size ≤ w2.heap.size := by rw [← hw2]; simpa using sBA
        have hglB : g < w2.heap.size := Nat.lt_of_lt_of_le hgl hs2
        have hB2 : B ≤ w2.heap.size := Nat.le_trans hB hs2
        clear hw2
        obtain ⟨fs2, hfe2, hrow2⟩ := kb.row
        have HFE2 := Lib.hid hfe2
        have HROWB := Lib.hid hrow2
        have KB := Lib.hid kb
        have KW := Lib.hid kw
        have KN := Lib.hid kn
        have hfrB := kb.fr
        clear hfe2 hrow2 kw kn
        have hWB : Below w2.heap.size w2 (w2.alloc (.cells #[.int .i64 3, .int .i64 s.drop, .slice none 0 0] 60)).drew := ((Below.refl _ _).alloc (Nat.le_refl _) _).drew
        have hsrcB := Lib.hid (part_built w2 3 s.drop _ [] [] 60 Sl.nil).drew
        have k1B : (s.list ++ [(⟨2, 0, s.put⟩ : DPart)]).length + [(⟨3, s.drop, []⟩ : DPart)].length ≤ BIG := le_BIG (by have := hLL; simp at this ⊢; omega)
        have k2B : ((s.list ++ [(⟨2, 0, s.put⟩ : DPart)]).length + [(⟨3, s.drop, []⟩ : DPart)].length) * 40 ≤ 140737488355328 := by have := hLL; simp at this ⊢; omega
        have k3B : B ≤ (w2.alloc (.cells #[.int .i64 3, .int .i64 s.drop, .slice none 0 0] 60)).drew.heap.size := by have := hLL; simp at this ⊢; omega
        have K1B := Lib.hid k1B
        have K2B := Lib.hid k2B
        have K3B := Lib.hid k3B
        clear k1B k2B k3B
        have n0B : ((g, 0) : Pos) ∉ rowP (GoT.n DPart) (.slice aA (s.list.length + 1) cA) := fun hm => (List.nodup_append.1 hfrB.nodup).2.2 (g, 0) (by simp [bpl]) (g, 0) (by rw [HFE2.out]; first | exact List.mem_append.2 (.inl (List.mem_append.2 (.inl hm))) | exact List.mem_append.2 (.inl hm)) rfl
        have n1B : ((g, 1) : Pos) ∉ rowP (GoT.n DPart) (.slice aA (s.list.length + 1) cA) := fun hm => (List.nodup_append.1 hfrB.nodup).2.2 (g, 1) (by simp [bpl]) (g, 1) (by rw [HFE2.out]; first | exact List.mem_append.2 (.inl (List.mem_append.2 (.inl hm))) | exact List.mem_append.2 (.inl hm)) rfl
        have n2B : ((g, 2) : Pos) ∉ rowP (GoT.n DPart) (.slice aA (s.list.length + 1) cA) := fun hm => (List.nodup_append.1 hfrB.nodup).2.2 (g, 2) (by simp [bpl]) (g, 2) (by rw [HFE2.out]; first | exact List.mem_append.2 (.inl (List.mem_append.2 (.inl hm))) | exact List.mem_append.2 (.inl hm)) rfl
        have hdisB : ∀ p ∈ ([] : List Pos), p ∉ rowP (GoT.n DPart) (.slice aA (s.list.length + 1) cA) := fun _ h => (by cases h)
        have hfr2 : Fresh B w2 (bpl (g, 0) (g, 1) (g, 2) ++ (fl' ++ [])) := by rw [List.append_nil]; exact hfrB
        clear hLL kb hfrB hfr
        go_wp2
        go_region_law ((refine step_append_row (by rfl) (.tmp 31) (.tmp 37) 32 (by rfl) Try.underlying32 hi hz0 hz1 hz2 rfl (by rfl) (by rfl) (HROWB.out.below hWB) hsrcB.out hdisB K1B.out K2B.out K3B.out ?_; intro vB wB hrB hwB hnB; obtain ⟨aB, cB, rfl⟩ := hrB.rd.isSlice; have q0B : wB.cell? ⟨g, 0, none⟩ = some (.slice aA (s.list.length + 1) cA) := cellw hWB hwB c0B n0B; have q1B : wB.frozen? ⟨g, 0, none⟩ = false := (hwB.frozen (g, 0) (Nat.lt_of_lt_of_le hglB hWB.size)).trans ((hWB.frozen (p := ⟨g, 0, none⟩) hglB).trans z0B); have q2B : wB.cell? ⟨g, 1, none⟩ = some (.slice ap s.put.length cp) := cellw hWB hwB cpB n1B; have q3B : wB.frozen? ⟨g, 1, none⟩ = false := (hwB.frozen (g, 1) (Nat.lt_of_lt_of_le hglB hWB.size)).trans ((hWB.frozen (p := ⟨g, 1, none⟩) hglB).trans z1B); have q4B : wB.cell? ⟨g, 2, none⟩ = some (.int .i64 s.drop) := cellw hWB hwB cdB n2B; have q5B : wB.frozen? ⟨g, 2, none⟩ = false := (hwB.frozen (g, 2) (Nat.lt_of_lt_of_le hglB hWB.size)).trans ((hWB.frozen (p := ⟨g, 2, none⟩) hglB).trans z2B)))
        all_goals
          obtain ⟨fl2, kb, kw, kn⟩ := KB.out.app2 hfr2 (Live.nil _) hWB HFE2.out hrB hwB hnB
          simp only [List.length_append, List.length_singleton] at kb kw
          have KB2 := Lib.hid kb
          have KW2 := Lib.hid (KW.out.trans2 kw fun p hp => by
            rw [List.append_nil] at hp
            rcases List.mem_append.1 hp with hp | hp
            · exact .inl (List.mem_append.2 (.inl hp))
            · exact (KN.out p hp).imp (fun h => List.mem_append.2 (.inr h)) id)
          have KN2 : Hid (∀ p ∈ fl2, p ∈ fl ++ fq ∨ w.heap.size ≤ p.1) := Lib.hid fun p hp => by
            rcases kn p hp with k | k
            · rw [List.append_nil] at k; exact KN.out p k
            · exact .inr (Nat.le_trans hs2 k)
          clear kb kw kn hrB hwB hnB
          go_wp2
          go_end0
          exact BStep.done HF.out KB2.out KW2.out KN2.out
    · have hd3 : s.drop = 0 := by omega
      have HF : Hid (s.flush = ⟨s.list ++ [⟨2, 0, s.put⟩], [], 0⟩) := Lib.hid (by simp [Bst.flush, hp0, hd2])
      rw [hd3] at hd
      clear hd3
      have hWA : Below w.heap.size w (w.alloc (.cells #[.int .i64 2, .int .i64 0, .slice ap s.put.length cp] 60)).drew := ((Below.refl _ _).alloc (Nat.le_refl _) _).drew
      have hsrcA := Lib.hid (part_built w 2 0 _ s.put fq 60 sq).drew
      have k1A : s.list.length + [(⟨2, 0, s.put⟩ : DPart)].length ≤ BIG := le_BIG (by simp; omega)
      have k2A : (s.list.length + [(⟨2, 0, s.put⟩ : DPart)].length) * 40 ≤ 140737488355328 := by simp; omega
      have k3A : B ≤ (w.alloc (.cells #[.int .i64 2, .int .i64 0, .slice ap s.put.length cp] 60)).drew.heap.size := by simp; omega
      have K1A := Lib.hid k1A
      have K2A := Lib.hid k2A
      have K3A := Lib.hid k3A
      clear k1A k2A k3A
      have n0A : ((g, 0) : Pos) ∉ rowP (GoT.n DPart) (vl) := fun hm => (List.nodup_append.1 hfr.nodup).2.2 (g, 0) (by simp [bpl]) (g, 0) (by rw [HFE.out]; first | exact List.mem_append.2 (.inl (List.mem_append.2 (.inl hm))) | exact List.mem_append.2 (.inl hm)) rfl
      have n1A : ((g, 1) : Pos) ∉ rowP (GoT.n DPart) (vl) := fun hm => (List.nodup_append.1 hfr.nodup).2.2 (g, 1) (by simp [bpl]) (g, 1) (by rw [HFE.out]; first | exact List.mem_append.2 (.inl (List.mem_append.2 (.inl hm))) | exact List.mem_append.2 (.inl hm)) rfl
      have n2A : ((g, 2) : Pos) ∉ rowP (GoT.n DPart) (vl) := fun hm => (List.nodup_append.1 hfr.nodup).2.2 (g, 2) (by simp [bpl]) (g, 2) (by rw [HFE.out]; first | exact List.mem_append.2 (.inl (List.mem_append.2 (.inl hm))) | exact List.mem_append.2 (.inl hm)) rfl
      have hdisA : ∀ p ∈ fq, p ∉ rowP (GoT.n DPart) vl := fun p hp hq => (List.nodup_append.1 (List.nodup_append.1 hfr.nodup).2.1).2.2 p (by rw [HFE.out]; exact List.mem_append.2 (.inl hq)) p hp rfl
      have HROWA := Lib.hid hrow
      clear hp0 hd2 h hrow
      go_enter Try.func100, Try.ntmps100
      go_wp2
      go_region_law ((refine step_append_row (by rfl) (.tmp 12) (.tmp 18) 32 (by rfl) Try.underlying32 hi hz0 hz1 hz2 rfl (by rfl) (by rfl) (HROWA.out.below hWA) hsrcA.out hdisA K1A.out K2A.out K3A.out ?_; intro vA wA hrA hwA hnA; obtain ⟨aA, cA, rfl⟩ := hrA.rd.isSlice; have q0A : wA.cell? ⟨g, 0, none⟩ = some vl := cellw hWA hwA c0 n0A; have q1A : wA.frozen? ⟨g, 0, none⟩ = false := (hwA.frozen (g, 0) (Nat.lt_of_lt_of_le hgl hWA.size)).trans ((hWA.frozen (p := ⟨g, 0, none⟩) hgl).trans z0); have q2A : wA.cell? ⟨g, 1, none⟩ = some (.slice ap s.put.length cp) := cellw hWA hwA hp n1A; have q3A : wA.frozen? ⟨g, 1, none⟩ = false := (hwA.frozen (g, 1) (Nat.lt_of_lt_of_le hgl hWA.size)).trans ((hWA.frozen (p := ⟨g, 1, none⟩) hgl).trans z1); have q4A : wA.cell? ⟨g, 2, none⟩ = some (.int .i64 0) := cellw hWA hwA hd n2A; have q5A : wA.frozen? ⟨g, 2, none⟩ = false := (hwA.frozen (g, 2) (Nat.lt_of_lt_of_le hgl hWA.size)).trans ((hWA.frozen (p := ⟨g, 2, none⟩) hgl).trans z2)))
      all_goals
        obtain ⟨fl', kb, kw, kn⟩ := hbl.app2 hfr sq.live hWA HFE.out hrA hwA hnA
        simp only [List.length_append, List.length_singleton] at kb kw
        have KB := Lib.hid kb
        have KW := Lib.hid kw
        have KN := Lib.hid kn
        clear kb kw kn hrA hwA hnA
        go_wp2
        go_end0
        exact BStep.done HF.out KB.out KW.out KN.out
end Go.Proofs.Ytiahgjnpinjblaa

namespace Go.Proofs.Ytiahgjnpinjblaa
open Go.RowKit
theorem info_int2 : (Try.prog.info? 3).map (fun i => (i.zero, i.size, i.bytes)) = some (some (.int .i64 0), 1, 8) := by kernel_rfl
theorem rdInt_fp2 {M : Nat} {w : World} {c : List Value} {x : Int} {f : List Pos} (h : GoT.rd M w c x f) : f = [] := h.2
theorem Src.ints2 {w : World} {v : Value} {l : List Int} (h : RdS w v l) : Src w v l [] := by
  obtain ⟨gs, ao, c, news, h1, h2, h3⟩ := h.src
  have := Els.flat (α := Int) rdInt_fp2 h2
  subst this
  exact ⟨ao, c, news, h1, h2, h3⟩
/-- signs more -/
theorem Bld.puts {B : Nat} {w w1 : World} {pl pp pd : Pos} {s : Bst} {fl fq : List Pos} {vl vp v' : Value} {l : List Int} (hbl : BL B w pl pp pd vl s.list fl) (hd : w.cell? ⟨pd.1, pd.2, none⟩ = some (.int .i64 s.drop)) (sq : Sl BIG w vp s.put fq)
    (hfr : Fresh B w (bpl pl pp pd ++ (fl ++ fq))) (hr : Row B w1 v' (s.put ++ l) []) (hw : Wr (rowP 1 vp) w w1) (hn : ∀ p ∈ rowP 1 v', p ∈ rowP 1 vp ∨ w.heap.size ≤ p.1) (he : fq = rowP 1 vp) :
    ∃ fp', Bld B (w1.setCell ⟨pp.1, pp.2, none⟩ v') pl pp pd (s.puts l) fp' ∧ Wr (bpl pl pp pd ++ (fl ++ fq)) w (w1.setCell ⟨pp.1, pp.2, none⟩ v') ∧ ∀ p ∈ fp', p ∈ bpl pl pp pd ++ (fl ++ fq) ∨ w.heap.size ≤ p.1 := by
  subst he
  have hl : ∀ p ∈ bpl pl pp pd ++ (fl ++ rowP 1 vp), p.1 < w.heap.size := by
    intro p hp
    rcases List.mem_append.1 hp with hp | hp
    · exact Live.lt hbl.live p (List.mem_append.2 (.inl hp))
    · rcases List.mem_append.1 hp with hp | hp
      · exact Live.lt hbl.live p (List.mem_append.2 (.inr hp))
      · exact Live.lt sq.live p hp
  obtain ⟨n3, nf, dis⟩ := List.nodup_append.1 hfr.nodup
  obtain ⟨nl, _, dlq⟩ := List.nodup_append.1 nf
  have e1 : pl ≠ pp := by intro e; simp only [bpl, List.nodup_cons, List.mem_cons, not_or] at n3; exact n3.1.1 e
  have e2 : pp ≠ pd := by intro e; simp only [bpl, List.nodup_cons, List.mem_cons, List.not_mem_nil, or_false, not_or] at n3; exact n3.2.1 e
  have ho : ∀ p ∈ bpl pl pp pd ++ fl, p ∉ rowP 1 vp := by
    intro p hp hq
    rcases List.mem_append.1 hp with hp | hp
    · exact dis p hp p (by simp [hq]) rfl
    · exact dlq p hp p hq rfl
  have c1 : ∀ p ∈ bpl pl pp pd ++ fl, w1.cell? ⟨p.1, p.2, none⟩ = w.cell? ⟨p.1, p.2, none⟩ := fun p hp => hw.cell p (hl p (mem_l hp)) (ho p hp)
  have ot : ∀ p : Pos, p ≠ pp → (w1.setCell ⟨pp.1, pp.2, none⟩ v').cell? ⟨p.1, p.2, none⟩ = w1.cell? ⟨p.1, p.2, none⟩ := by
    intro p hp
    rw [cell_setCell, if_neg]
    rintro ⟨q1, q2⟩
    exact hp (Prod.ext q1 q2)
  have hpr : ∀ p ∈ rowP 1 v', p ≠ pp := by
    rintro p hp rfl
    rcases hn p hp with hp | hp
    · exact ho p (by simp [bpl]) hp
    · have := hl p (by simp [bpl]); omega
  have hpl : ∀ p ∈ fl, p ≠ pp := by
    rintro p hp rfl
    exact dis p (by simp [bpl]) p (by simp [hp]) rfl
  obtain ⟨u, hu⟩ := Option.isSome_iff_exists.1 hbl.cp
  refine ⟨bpl pl pp pd ++ (fl ++ rowP 1 v'), ⟨⟨vl, v', fl, rowP 1 v', ?_, ?_, ?_, ?_, ?_, rfl⟩, ?_⟩, ?_, ?_⟩
  · rw [ot pl e1, c1 pl (by simp [bpl])]; exact hbl.cl
  · rw [cell_setCell, if_pos ⟨rfl, rfl⟩, c1 pp (by simp [bpl]), hu]; rfl
  · rw [ot pd (Ne.symm e2), c1 pd (by simp [bpl])]; exact hd
  · exact hbl.sl.keep fun p hp => (ot p (hpl p hp)).trans (c1 p (by simp [hp]))
  · have := hr.1
    rw [List.append_nil] at this
    exact this.keep fun p hp => ot p (hpr p hp)
  · refine Fresh.put ?_ _ _
    have f1 : Fresh B w1 (bpl pl pp pd ++ fl) := hfr.pre2.wr2 (Below.refl _ _) hw fun p hp => hl p (mem_l hp)
    rw [← List.append_assoc]
    refine f1.join hr.2.1 fun p hp q hq e => ?_
    subst e
    rcases hn p hq with hq | hq
    · exact ho p hp hq
    · have := hl p (mem_l hp); omega
  · exact (hw.sub fun p hp => by simp [hp]).put (by simp [bpl]) _
  · intro p hp
    rw [← List.append_assoc] at hp
    rcases List.mem_append.1 hp with hp | hp
    · exact .inl (mem_l hp)
    · exact (hn p hp).imp (fun h => by simp [h]) id
set_option maxHeartbeats 1000000 in
theorem spec_l02Put_c (B g : Nat) (s : Bst) (fp : List Pos) (v : Value) (l : List Int) (w : World) (h : Bld B w (g, 0) (g, 1) (g, 2) s fp) (hB : B ≤ w.heap.size) (hv : RdS w v l) (hl : s.put.length + l.length ≤ 1000000) :
    Calls Try.prog 93 #[.pointer (some ⟨g, 0, none⟩), v] w (BStep B w (g, 0) (g, 1) (g, 2) (s.puts l) fp) := by
  obtain ⟨i0, hi, hz0, hz1, hz2⟩ := info_parts info_int2
  obtain ⟨vl, vp, fl, fq, hbl, hp_, hd_, sq, rfl, hfr⟩ := h.open
  have hgl : g < w.heap.size := Live.lt hbl.live (g, 0) (by simp [bpl])
  have hp : w.cell? ⟨g, 1, none⟩ = some vp := hp_
  have z1 : w.frozen? ⟨g, 1, none⟩ = false := hfr.free (g, 1) (by simp [bpl])
  have hfe : fq = rowP 1 vp := sq.flat (α := Int) rdInt_fp2
  have hrow : Row B w vp s.put [] := by
    refine ⟨?_, ?_, fun _ h => (by cases h)⟩
    · rw [List.append_nil]; show Sl BIG w vp s.put (rowP 1 vp); rw [← hfe]; exact sq
    · have := hfr.right.right; rw [hfe] at this; exact this
  have n1 : ((g, 1) : Pos) ∉ rowP 1 vp := fun hm => (List.nodup_append.1 hfr.nodup).2.2 (g, 1) (by simp [bpl]) (g, 1) (by rw [hfe]; simp [hm]) rfl
  have HFE := Lib.hid hfe
  have HROW := Lib.hid hrow
  have HSRC := Lib.hid (Src.ints2 hv)
  have HD := Lib.hid hd_
  clear hfe hrow hd_ hp_ h
  go_enter Try.func93, Try.ntmps93
  go_wp2_with (at_builtin; refine wpList_append_row rfl _ _ 23 rfl Try.underlying23 hi hz0 hz1 hz2 rfl rfl rfl HROW.out HSRC.out (fun _ h => by cases h) ?c1 ?c2 ?c3 ?_)
  case c1 => exact le_BIG (by omega)
  case c2 => omega
  intro v' w1 hr hw hn
  obtain ⟨a1, c1, rfl⟩ := hr.rd.isSlice
  have q0 : w1.cell? ⟨g, 1, none⟩ = some vp := cellw (Below.refl _ _) hw hp n1
  have q1 : w1.frozen? ⟨g, 1, none⟩ = false := (hw.frozen (g, 1) hgl).trans z1
  have HX := Lib.hid (Bld.puts hbl HD.out sq hfr hr hw (fun p hp => hn p.1 p.2 hp) HFE.out)
  simp only [List.length_append] at HX
  clear hr hw hn
  go_wp2
  go_end0
  exact ⟨rfl, HX.out⟩
theorem Bld.dropd {B : Nat} {w : World} {pl pp pd : Pos} {s : Bst} {fp : List Pos} (h : Bld B w pl pp pd s fp) (n : Int) : Bld B (w.setCell ⟨pd.1, pd.2, none⟩ (.int .i64 (s.drop + n))) pl pp pd (s.drops n) fp ∧ Wr fp w (w.setCell ⟨pd.1, pd.2, none⟩ (.int .i64 (s.drop + n))) := by
  obtain ⟨⟨vl, vp, fl, fq, h1, h2, h3, h4, h5, rfl⟩, hf⟩ := h
  obtain ⟨n3, nf, dis⟩ := List.nodup_append.1 hf.nodup
  have e1 : pl ≠ pd := by intro e; simp only [bpl, List.nodup_cons, List.mem_cons, not_or] at n3; exact n3.1.2.1 e
  have e2 : pp ≠ pd := by intro e; simp only [bpl, List.nodup_cons, List.mem_cons, List.not_mem_nil, or_false, not_or] at n3; exact n3.2.1 e
  have ot : ∀ p : Pos, p ≠ pd → (w.setCell ⟨pd.1, pd.2, none⟩ (.int .i64 (s.drop + n))).cell? ⟨p.1, p.2, none⟩ = w.cell? ⟨p.1, p.2, none⟩ := by
    intro p hp
    rw [cell_setCell, if_neg]
    rintro ⟨q1, q2⟩
    exact hp (Prod.ext q1 q2)
  have hn : ∀ p ∈ fl ++ fq, p ≠ pd := by
    rintro p hp rfl
    exact dis p (by simp [bpl]) p hp rfl
  refine ⟨⟨⟨vl, vp, fl, fq, (ot pl e1).trans h1, (ot pp e2).trans h2, ?_, h4.keep fun p hp => ot p (hn p (by simp [hp])), h5.keep fun p hp => ot p (hn p (by simp [hp])), rfl⟩, hf.put _ _⟩, Wr.setCell w (by simp [bpl]) _⟩
  rw [cell_setCell, if_pos ⟨rfl, rfl⟩, h3]; rfl
theorem spec_l02Drop_c (B g : Nat) (s : Bst) (fp : List Pos) (n : Int) (w : World) (h : Bld B w (g, 0) (g, 1) (g, 2) s fp) (h0 : 0 ≤ s.drop) (h1 : s.drop ≤ 1000000) (h2 : 0 ≤ n) (h3 : n ≤ 1000000) :
    Calls Try.prog 94 #[.pointer (some ⟨g, 0, none⟩), .int .i64 n] w (BStep B w (g, 0) (g, 1) (g, 2) (s.drops n) fp) := by
  have HD := Lib.hid (h.dropd n)
  obtain ⟨vl, vp, fl, fq, hbl, hp_, hd_, sq, rfl, hfr⟩ := h.open
  have hd : w.cell? ⟨g, 2, none⟩ = some (.int .i64 s.drop) := hd_
  have z2 : w.frozen? ⟨g, 2, none⟩ = false := hfr.free (g, 2) (by simp [bpl])
  clear hp_ hd_
  go_enter Try.func94, Try.ntmps94
  go_wp2
  go_end0
  exact ⟨rfl, _, HD.out.1, HD.out.2, fun _ hp => .inl hp⟩
theorem spec_l02Done_c (B g : Nat) (s : Bst) (fp : List Pos) (w : World) (h : Bld B w (g, 0) (g, 1) (g, 2) s fp) (hB : B ≤ w.heap.size) (hl : s.list.length ≤ 1000000) (hd0 : 0 ≤ s.drop) (hd1 : s.drop ≤ 1000000) :
    Calls Try.prog 95 #[.pointer (some ⟨g, 0, none⟩)] w (fun e w' => ∃ v, e = .returned v ∧ OwnS B w' v s.flush.list ∧ Wr fp w w') := by
  go_enter Try.func95, Try.ntmps95
  go_wp2_with fail
  refine (spec_l02Flush_c B g s fp _ h hB hl hd0 hd1).mono ?_
  rintro e w1 ⟨rfl, fp', hb', hw', hn'⟩
  obtain ⟨vl, vp, fl, fq, hbl, hp_, hd_, sq, rfl, hfr⟩ := hb'.open
  have c0 : w1.cell? ⟨g, 0, none⟩ = some vl := hbl.cl
  have HO : Hid (OwnS B w1 vl s.flush.list) := Lib.hid ⟨fl, hbl.sl, hbl.fr.right⟩
  have HW := Lib.hid hw'
  clear hp_ hd_ hw' hn' hb'
  go_wp2
  go_ret
  exact ⟨_, rfl, HO.out, HW.out⟩
end Go.Proofs.Ytiahgjnpinjblaa

namespace Go.Proofs.Ytiahgjnpinjblaa
open Go.RowKit
/-- a part without signs more -/
theorem Bld.app {B : Nat} {w W w1 : World} {pl pp pd : Pos} {vl vp v' : Value} {s : Bst} {fl fq fs : List Pos} {x : DPart} (h : BL B w pl pp pd vl s.list fl) (hp : w.cell? ⟨pp.1, pp.2, none⟩ = some vp) (hd : w.cell? ⟨pd.1, pd.2, none⟩ = some (.int .i64 s.drop))
    (sq : Sl BIG w vp s.put fq) (hfr : Fresh B w (bpl pl pp pd ++ (fl ++ fq))) (hb : Below w.heap.size w W) (he : fl = rowP 3 vl ++ fs) (hr : Row B w1 v' (s.list ++ [x]) (fs ++ [])) (hw : Wr (rowP 3 vl) W w1) (hn : ∀ p ∈ rowP 3 v', p ∈ rowP 3 vl ∨ W.heap.size ≤ p.1) :
    ∃ fp', Bld B (w1.setCell ⟨pl.1, pl.2, none⟩ v') pl pp pd ⟨s.list ++ [x], s.put, s.drop⟩ fp' ∧ Wr (bpl pl pp pd ++ (fl ++ fq)) w (w1.setCell ⟨pl.1, pl.2, none⟩ v') ∧ ∀ p ∈ fp', p ∈ bpl pl pp pd ++ (fl ++ fq) ∨ w.heap.size ≤ p.1 := by
  have hl : ∀ p ∈ bpl pl pp pd ++ (fl ++ fq), p.1 < w.heap.size := by
    intro p hp
    rcases List.mem_append.1 hp with hp | hp
    · exact Live.lt h.live p (List.mem_append.2 (.inl hp))
    · rcases List.mem_append.1 hp with hp | hp
      · exact Live.lt h.live p (List.mem_append.2 (.inr hp))
      · exact Live.lt sq.live p hp
  have hfx : Fresh B W (bpl pl pp pd ++ (fl ++ [])) := by rw [List.append_nil]; exact hfr.pre2.belowL hb fun p hp => hl p (mem_l hp)
  obtain ⟨fl', k1, k2, k3, k4, k5⟩ := h.app hb hfx (Live.nil _) he hr hw hn
  obtain ⟨n3, nf, dis⟩ := List.nodup_append.1 hfr.nodup
  obtain ⟨_, _, dlq⟩ := List.nodup_append.1 nf
  have hqd : ∀ p ∈ fq, p ∉ bpl pl pp pd ++ fl := by
    intro p hp hq
    rcases List.mem_append.1 hq with hq | hq
    · exact dis p hq p (by simp [hp]) rfl
    · exact dlq p hq p hp rfl
  have sq' := sq.wr2 hb k2 hqd
  have k3' : ∀ p ∈ fl', p ∈ fl ∨ w.heap.size ≤ p.1 := fun p hp => by
    rcases k3 p hp with k | k | k
    · exact .inl k
    · cases k
    · exact .inr (Nat.le_trans hb.size k)
  refine ⟨bpl pl pp pd ++ (fl' ++ fq), ⟨⟨v', vp, fl', fq, k1.cl, k4.trans hp, k5.trans hd, k1.sl, sq', rfl⟩, ?_⟩, (Wr.of_below hb).trans (k2.sub fun _ hp => mem_l hp), ?_⟩
  · have f1 := k1.fr
    have f2 : Fresh B (w1.setCell ⟨pl.1, pl.2, none⟩ v') fq := hfr.right.right.wr2 hb k2 (Live.lt sq.live)
    rw [← List.append_assoc]
    refine f1.join f2 fun p hp q hq e => ?_
    subst e
    rcases List.mem_append.1 hp with hp | hp
    · exact dis p hp p (by simp [hq]) rfl
    · rcases k3' p hp with k | k
      · exact dlq p k p hq rfl
      · have := Live.lt sq.live p hq; omega
  · intro p hp
    rcases List.mem_append.1 hp with hp | hp
    · exact .inl (List.mem_append.2 (.inl hp))
    · rcases List.mem_append.1 hp with hp | hp
      · exact (k3' p hp).imp (fun k => by simp [k]) id
      · exact .inl (by simp [hp])
/-- the last part's number may be written -/
theorem Bld.lastN {B : Nat} {w : World} {pl pp pd : Pos} {vl vp : Value} {s : Bst} {fl fq : List Pos} {m : List DPart} {p : DPart} (h : BL B w pl pp pd vl s.list fl) (hp : w.cell? ⟨pp.1, pp.2, none⟩ = some vp) (hd : w.cell? ⟨pd.1, pd.2, none⟩ = some (.int .i64 s.drop))
    (sq : Sl BIG w vp s.put fq) (hfr : Fresh B w (bpl pl pp pd ++ (fl ++ fq))) (hs : s.list = m ++ [p]) :
    ∃ b o, (∀ w1, (Instr.indexAt 32 vl (.int .i64 m.length)).run Try.prog w1 = .ok (.pointer (some ⟨b, o, none⟩)) w1) ∧ w.cell? ⟨b, o, none⟩ = some (.int .i64 p.kind) ∧ w.cell? ⟨b, o + 1, none⟩ = some (.int .i64 p.n) ∧ w.frozen? ⟨b, o + 1, none⟩ = false ∧
      ∀ n', Bld B (w.setCell ⟨b, o + 1, none⟩ (.int .i64 n')) pl pp pd ⟨m ++ [⟨p.kind, n', p.signs⟩], s.put, s.drop⟩ (bpl pl pp pd ++ (fl ++ fq)) ∧ Wr (bpl pl pp pd ++ (fl ++ fq)) w (w.setCell ⟨b, o + 1, none⟩ (.int .i64 n')) := by
  have hsl := h.sl
  rw [hs] at hsl
  obtain ⟨n3, nf, dis⟩ := List.nodup_append.1 hfr.nodup
  obtain ⟨nl, _, dlq⟩ := List.nodup_append.1 nf
  obtain ⟨b, o, cs, f, g1, g2, ⟨vs, fs, rfl, ss, rfl⟩, g4, g5, gnd, g7⟩ := hsl.lens nl Try.underlying32 szi_DPart m.length (x := p) (by simp)
  have h1 := g4 1 (by decide)
  have hm : ((b, o + 1) : Pos) ∈ bpl pl pp pd ++ (fl ++ fq) := by simp [h1.1]
  have hout : ∀ q : Pos, q ≠ (b, o + 1) → ∀ n', (w.setCell ⟨b, o + 1, none⟩ (.int .i64 n')).cell? ⟨q.1, q.2, none⟩ = w.cell? ⟨q.1, q.2, none⟩ := by
    intro q hq n'
    rw [cell_setCell, if_neg]
    rintro ⟨q1, q2⟩
    exact hq (Prod.ext q1 q2)
  have hb3 : ∀ q ∈ bpl pl pp pd, q ≠ (b, o + 1) := by
    rintro q hq rfl
    exact dis _ hq _ (by simp [h1.1]) rfl
  refine ⟨b, o, g1, g2.zero, g2 1 _ rfl, hfr.free _ hm, fun n' => ⟨⟨⟨vl, vp, fl, fq, ?_, ?_, ?_, ?_, ?_, rfl⟩, hfr.put _ _⟩, Wr.setCell w hm _⟩⟩
  · rw [hout pl (hb3 pl (by simp [bpl]))]; exact h.cl
  · rw [hout pp (hb3 pp (by simp [bpl]))]; exact hp
  · rw [hout pd (hb3 pd (by simp [bpl]))]; exact hd
  · have hset : (m ++ [p]).set m.length ⟨p.kind, n', p.signs⟩ = m ++ [⟨p.kind, n', p.signs⟩] := by simp
    rw [← hset]
    refine g7 _ _ _ (g2.put 1 (by simp) _) ⟨vs, _, rfl, ss.put h1.2 _, rfl⟩ fun q _ _ hn => hout q (hn 1 (by decide)) n'
  · refine sq.keep fun q hq => hout q ?_ n'
    rintro rfl
    exact dlq _ h1.1 _ hq rfl
theorem Bld.drew {B : Nat} {w : World} {pl pp pd : Pos} {s : Bst} {fp : List Pos} (h : Bld B w pl pp pd s fp) : Bld B w.drew pl pp pd s fp := by
  obtain ⟨⟨vl, vp, fl, fq, h1, h2, h3, h4, h5, e⟩, hf⟩ := h
  exact ⟨⟨vl, vp, fl, fq, h1, h2, h3, h4.keep fun _ _ => rfl, h5.keep fun _ _ => rfl, e⟩, hf.nodup, hf.ge, hf.free⟩
theorem Wr.drew {fp : List Pos} {a w : World} (h : Wr fp a w) : Wr fp a w.drew := ⟨h.os, h.tape, h.output, h.size, h.cell, h.frozen, h.block⟩
theorem BStep.of {B : Nat} {w w1 w' : World} {pl pp pd : Pos} {s s' : Bst} {fp f1 f2 : List Pos} (hs : s = s') (hw : Wr fp w w1) (hn : ∀ p ∈ f1, p ∈ fp ∨ w.heap.size ≤ p.1) (hb : Bld B w' pl pp pd s' f2) (hw2 : Wr f1 w1 w') (hn2 : ∀ p ∈ f2, p ∈ f1 ∨ w1.heap.size ≤ p.1) :
    BStep B w pl pp pd s fp (.returned (.tuple #[])) w' := by
  subst hs
  refine ⟨rfl, f2, hb, hw.trans2 hw2 hn, fun p hp => ?_⟩
  rcases hn2 p hp with k | k
  · exact hn p k
  · exact .inr (Nat.le_trans hw.size k)
theorem keepOn_nil (n : Int) : keepOn [] n = [⟨1, n, []⟩] := rfl
theorem keepOn_keep (m : List DPart) (p : DPart) (n : Int) (h : p.kind = 1) : keepOn (m ++ [p]) n = m ++ [⟨p.kind, p.n + n, p.signs⟩] := by simp [keepOn, h]
theorem keepOn_other (m : List DPart) (p : DPart) (n : Int) (h : ¬ p.kind = 1) : keepOn (m ++ [p]) n = m ++ [p] ++ [⟨1, n, []⟩] := by simp [keepOn, h]
theorem flush_len (s : Bst) : s.flush.list.length ≤ s.list.length + 2 := by
  unfold Bst.flush
  simp only [List.length_append]
  split <;> split <;> simp
set_option maxHeartbeats 4000000 in
set_option maxRecDepth 100000 in
theorem spec_l02Keep_c (B g : Nat) (s : Bst) (fp : List Pos) (n : Int) (w : World) (h : Bld B w (g, 0) (g, 1) (g, 2) s fp) (hB : B ≤ w.heap.size) (hl : s.list.length ≤ 900000) (hd0 : 0 ≤ s.drop) (hd1 : s.drop ≤ 1000000) (h0 : 0 ≤ n) (h1 : n ≤ 1000000)
    (hbd : ∀ p ∈ s.flush.list, 0 ≤ p.n ∧ p.n ≤ 1000000) :
    Calls Try.prog 92 #[.pointer (some ⟨g, 0, none⟩), .int .i64 n] w (BStep B w (g, 0) (g, 1) (g, 2) (s.keep n) fp) := by
  by_cases hn0 : n = 0
  · have HK : Hid (s.keep n = s) := Lib.hid (if_pos hn0)
    have e0 : (n == 0) = true := by simp [hn0]
    clear hn0
    go_enter Try.func92, Try.ntmps92
    go_wp2
    go_end0
    rw [HK.out]
    exact ⟨rfl, _, h, Wr.refl _ _, fun _ hp => .inl hp⟩
  · have HK : Hid (s.keep n = ⟨keepOn s.flush.list n, [], 0⟩) := Lib.hid (if_neg hn0)
    have e0 : (n == 0) = false := by simpa using hn0
    have HF : Hid (s.flush = ⟨s.flush.list, [], 0⟩) := Lib.hid rfl
    have hfl := flush_len s
    obtain ⟨i0, hi, hz0, hz1, hz2⟩ := info_parts info_part
    clear hn0
    go_enter Try.func92, Try.ntmps92
    go_wp2_with fail
    refine (spec_l02Flush_c B g s fp _ h hB (by omega) hd0 hd1).mono ?_
    rintro e w1 ⟨rfl, fp', hb', hw', hn'⟩
    obtain ⟨L, hL⟩ : ∃ L, s.flush.list = L := ⟨_, rfl⟩
    have hfs : s.flush = ⟨L, [], 0⟩ := by rw [HF.out, hL]
    rw [hfs] at hb'
    rw [hL] at hfl hbd
    have HK2 : Hid (s.keep n = ⟨keepOn L n, [], 0⟩) := by rw [← hL]; exact HK
    obtain ⟨vl, vp, fl, fq, hbl, hp_, hd_, sq, rfl, hfr⟩ := hb'.open
    simp only at hbl hp_ hd_ sq
    have hw1 : w.heap.size ≤ w1.heap.size := hw'.size
    have hgl : g < w1.heap.size := Live.lt hbl.live (g, 0) (by simp [bpl])
    have c0 : w1.cell? ⟨g, 0, none⟩ = some vl := hbl.cl
    have z0 : w1.frozen? ⟨g, 0, none⟩ = false := hfr.free (g, 0) (by simp [bpl])
    have hrl : RdS w1 vl L := ⟨_, hbl.sl⟩
    have HW := Lib.hid hw'
    have HN := Lib.hid hn'
    have HBD := Lib.hid hbd
    clear hfs hb' HK HF hL hw' hn' hbd h
    rcases List.eq_nil_or_concat L with rfl | ⟨m, p, rfl⟩
    · have HK3 : Hid (s.keep n = ⟨[] ++ [⟨1, n, []⟩], [], 0⟩) := Lib.hid (by rw [HK2.out, keepOn_nil]; rfl)
      have hlen : ∀ w2 ty, (Builtin.len_ #[32] ty #[vl]).run Try.prog w2 = .ok (.int .i64 0) w2 := fun w2 ty => hrl.len Try.underlying32 w2 ty
      obtain ⟨fs, hfe, hrow⟩ := hbl.row
      have HFE := Lib.hid hfe
      have HROW := Lib.hid hrow
      have n0 : ((g, 0) : Pos) ∉ rowP (GoT.n DPart) vl := fun hm => (List.nodup_append.1 hfr.nodup).2.2 (g, 0) (by simp [bpl]) (g, 0) (by rw [hfe]; simp [show (g, 0) ∈ rowP 3 vl from hm]) rfl
      have hW : Below w1.heap.size w1 (w1.alloc (.cells #[.int .i64 1, .int .i64 n, .slice none 0 0] 60)) := (Below.refl _ _).alloc (Nat.le_refl _) _
      have hsrc := Lib.hid (part_built w1 1 n _ [] [] 60 Sl.nil)
      have HPP := Lib.hid hp_
      have HPD := Lib.hid hd_
      clear hfe hrow hp_ hd_
      go_wp2_with (at_builtin; refine wpList_append_row rfl _ _ 32 rfl Try.underlying32 hi hz0 hz1 hz2 rfl rfl rfl (HROW.out.below hW) hsrc.out (fun _ h => by cases h) ?c1 ?c2 ?c3 ?_)
      case c1 => exact le_BIG (by simp at hfl ⊢; try omega)
      case c2 => simp at hfl ⊢; try omega
      case c3 => simp; omega
      intro v1 w2 hr hw hn
      obtain ⟨a1, c1, rfl⟩ := hr.rd.isSlice
      have q0 : w2.cell? ⟨g, 0, none⟩ = some vl := cellw hW hw c0 n0
      have q1 : w2.frozen? ⟨g, 0, none⟩ = false := (hw.frozen (g, 0) (Nat.lt_of_lt_of_le hgl hW.size)).trans ((hW.frozen (p := ⟨g, 0, none⟩) hgl).trans z0)
      obtain ⟨fx, b1, b2, b3⟩ := Bld.app (s := ⟨[], [], 0⟩) (x := ⟨1, n, []⟩) hbl HPP.out HPD.out sq hfr hW HFE.out (by simpa using hr) hw (fun p hp => (hn p.1 p.2 hp).imp id (fun h => by simpa using h))
      simp only [List.nil_append, List.length_singleton] at b1 b2
      have B1 := Lib.hid b1
      have B2 := Lib.hid b2
      have B3 := Lib.hid b3
      clear b1 b2 b3 hr hw hn hbl sq hfr
      go_wp2
      go_end0
      exact BStep.of HK3.out HW.out HN.out B1.out B2.out B3.out
    · simp only [List.concat_eq_append] at *
      by_cases hk : p.kind = 1
      · obtain ⟨b, o, g1, g2, g3, g4, g5⟩ := Bld.lastN (s := ⟨m ++ [p], [], 0⟩) (m := m) (p := p) hbl hp_ hd_ sq hfr rfl
        have hlen : ∀ w2 ty, (Builtin.len_ #[32] ty #[vl]).run Try.prog w2 = .ok (.int .i64 ((m.length : Int) + 1)) w2 := fun w2 ty => by
          have := hrl.len Try.underlying32 w2 ty
          simpa using this
        have hpb := HBD.out p (by simp)
        have HK3 : Hid (s.keep n = ⟨m ++ [⟨p.kind, p.n + n, p.signs⟩], [], 0⟩) := Lib.hid (by rw [HK2.out, keepOn_keep m p n hk])
        have hml : m.length ≤ 1000000 := by simp at hfl; omega
        rw [hk] at g2
        have G5 := Lib.hid (g5 (p.n + n))
        clear hbl hp_ hd_ sq hfr g5 hk
        have hs1 : IntKind.i64.wrap (m.length : Int) = (m.length : Int) := IntWalk.i64_in _ (by omega)
        have hs2 : IntKind.i64.wrap (p.n + n) = p.n + n := IntWalk.i64_in _ (by omega)
        go_wp2
        go_region_law (fail)
        all_goals
          clear hs1 hs2
          go_wp2
          go_end0
          exact BStep.of HK3.out HW.out HN.out G5.out.1.drew G5.out.2.drew (fun _ hp => .inl hp)
      · obtain ⟨b, o, g1, g2, g3, g4, g5⟩ := Bld.lastN (s := ⟨m ++ [p], [], 0⟩) (m := m) (p := p) hbl hp_ hd_ sq hfr rfl
        have hlen : ∀ w2 ty, (Builtin.len_ #[32] ty #[vl]).run Try.prog w2 = .ok (.int .i64 ((m.length : Int) + 1)) w2 := fun w2 ty => by
          have := hrl.len Try.underlying32 w2 ty
          simpa using this
        have HK3 : Hid (s.keep n = ⟨m ++ [p] ++ [⟨1, n, []⟩], [], 0⟩) := Lib.hid (by rw [HK2.out, keepOn_other m p n hk])
        have hml : m.length ≤ 1000000 := by simp at hfl; omega
        have e1 : (p.kind == 1) = false := by simpa using hk
        clear g5 hk g3 g4
        obtain ⟨fs, hfe, hrow⟩ := hbl.row
        have HFE := Lib.hid hfe
        have HROW := Lib.hid hrow
        have n0 : ((g, 0) : Pos) ∉ rowP (GoT.n DPart) vl := fun hm => (List.nodup_append.1 hfr.nodup).2.2 (g, 0) (by simp [bpl]) (g, 0) (by rw [hfe]; simp [show (g, 0) ∈ rowP 3 vl from hm]) rfl
        have hW : Below w1.heap.size w1 (w1.alloc (.cells #[.int .i64 1, .int .i64 n, .slice none 0 0] 60)) := (Below.refl _ _).alloc (Nat.le_refl _) _
        have hsrc := Lib.hid (part_built w1 1 n _ [] [] 60 Sl.nil)
        have HPP := Lib.hid hp_
        have HPD := Lib.hid hd_
        clear hfe hrow hp_ hd_
        go_wp2_with (at_builtin; refine wpList_append_row rfl _ _ 32 rfl Try.underlying32 hi hz0 hz1 hz2 rfl rfl rfl (HROW.out.below hW) hsrc.out (fun _ h => by cases h) ?c1 ?c2 ?c3 ?_)
        case c1 => exact le_BIG (by simp at hfl ⊢; try omega)
        case c2 => simp at hfl ⊢; try omega
        case c3 => simp; omega
        intro v1 w2 hr hw hn
        obtain ⟨a1, c1, rfl⟩ := hr.rd.isSlice
        have q0 : w2.cell? ⟨g, 0, none⟩ = some vl := cellw hW hw c0 n0
        have q1 : w2.frozen? ⟨g, 0, none⟩ = false := (hw.frozen (g, 0) (Nat.lt_of_lt_of_le hgl hW.size)).trans ((hW.frozen (p := ⟨g, 0, none⟩) hgl).trans z0)
        obtain ⟨fx, b1, b2, b3⟩ := Bld.app (s := ⟨m ++ [p], [], 0⟩) (x := ⟨1, n, []⟩) hbl HPP.out HPD.out sq hfr hW HFE.out (by simpa using hr) hw (fun p hp => (hn p.1 p.2 hp).imp id (fun h => by simpa using h))
        simp only [List.length_append] at b1 b2
        have B1 := Lib.hid b1
        have B2 := Lib.hid b2
        have B3 := Lib.hid b3
        clear b1 b2 b3 hr hw hn hbl sq hfr
        go_wp2
        go_end0
        exact BStep.of HK3.out HW.out HN.out B1.out B2.out B3.out
end Go.Proofs.Ytiahgjnpinjblaa

namespace Go.Proofs.Ytiahgjnpinjblaa
open Go.RowKit
theorem opOk_iff' {o : List DPart} : opOk o = true ↔ o.all partOk = true ∧ o.length ≤ 600 ∧ sumBut 2 o ≤ 200 ∧ sumBut 3 o ≤ 200 := by
  unfold opOk opFrom opTo sizeBut
  constructor
  · intro h
    simp only [Bool.and_eq_true, decide_eq_true_eq] at h
    obtain ⟨⟨h1, h2⟩, h3⟩ := h
    rw [if_pos h1] at h2 h3
    obtain ⟨h4, h5⟩ := partsOk_iff.1 h1
    exact ⟨h4, h5, h2, h3⟩
  · rintro ⟨h1, h2, h3, h4⟩
    have hp := partsOk_iff.2 ⟨h1, h2⟩
    simp only [Bool.and_eq_true, decide_eq_true_eq]
    rw [if_pos hp, if_pos hp]
    exact ⟨⟨hp, h3⟩, h4⟩
/-- what holds of a builder after k steps -/
structure Bst.inv (s : Bst) (k : Nat) : Prop where
  len : s.list.length ≤ 3 * k
  put : s.put.length ≤ 200 * k
  d0 : 0 ≤ s.drop
  d1 : s.drop ≤ 200 * k
  bd : ∀ p ∈ s.list, 0 ≤ p.n ∧ p.n ≤ 400 * k
theorem Bst.inv0 : Bst.inv ⟨[], [], 0⟩ 0 := ⟨by simp, by simp, by simp, by simp, fun _ h => (by cases h)⟩
theorem Bst.inv.flushed {s : Bst} {k : Nat} (h : s.inv k) : ∀ p ∈ s.flush.list, 0 ≤ p.n ∧ p.n ≤ 400 * k := by
  have h0 := h.d0
  have h1 := h.d1
  intro p hp
  unfold Bst.flush at hp
  simp only [List.mem_append] at hp
  rcases hp with (hp | hp) | hp
  · exact h.bd p hp
  · split at hp
    · cases hp
    · simp at hp; subst hp; simp; omega
  · split at hp
    · simp at hp; subst hp; simp; omega
    · cases hp
theorem Bst.inv.keep {s : Bst} {k : Nat} (h : s.inv k) {n : Int} (h0 : 0 ≤ n) (h1 : n ≤ 200) : (s.keep n).inv (k + 1) := by
  unfold Bst.keep
  split
  · exact ⟨by have := h.len; omega, by have := h.put; omega, h.d0, by have := h.d1; omega, fun p hp => by have := h.bd p hp; omega⟩
  · have hf := h.flushed
    have hl := flush_len s
    have hk := h.len
    have hx : (keepOn s.flush.list n).length ≤ s.flush.list.length + 1 ∧ ∀ p ∈ keepOn s.flush.list n, 0 ≤ p.n ∧ p.n ≤ 400 * k + 200 := by
      rcases List.eq_nil_or_concat s.flush.list with e | ⟨m, q, e⟩
      · rw [e, keepOn_nil]
        refine ⟨by simp, fun p hp => ?_⟩
        simp at hp; subst hp; simp; omega
      · rw [List.concat_eq_append] at e
        rw [e] at hf ⊢
        by_cases hq : q.kind = 1
        · rw [keepOn_keep m q n hq]
          refine ⟨by simp, fun p hp => ?_⟩
          rcases List.mem_append.1 hp with hp | hp
          · have := hf p (by simp [hp]); omega
          · simp at hp; subst hp
            have := hf q (by simp)
            simp; omega
        · rw [keepOn_other m q n hq]
          refine ⟨by simp, fun p hp => ?_⟩
          rcases List.mem_append.1 hp with hp | hp
          · have := hf p hp; omega
          · simp at hp; subst hp; simp; omega
    exact ⟨by have := hx.1; simp only; omega, by simp, by simp, by simp; omega, fun p hp => by have := hx.2 p hp; omega⟩
theorem Bst.inv.puts {s : Bst} {k : Nat} (h : s.inv k) {l : List Int} (hl : l.length ≤ 200) : (s.puts l).inv (k + 1) :=
  ⟨by have := h.len; simp only [Bst.puts]; omega, by have := h.put; simp [Bst.puts]; omega, h.d0, by have := h.d1; simp only [Bst.puts]; omega, fun p hp => by have := h.bd p hp; omega⟩
theorem Bst.inv.drops {s : Bst} {k : Nat} (h : s.inv k) {n : Int} (h0 : 0 ≤ n) (h1 : n ≤ 200) : (s.drops n).inv (k + 1) :=
  ⟨by have := h.len; simp only [Bst.drops]; omega, by have := h.put; simp only [Bst.drops]; omega, by have := h.d0; simp only [Bst.drops]; omega, by have := h.d1; simp only [Bst.drops]; omega, fun p hp => by have := h.bd p hp; omega⟩
def bstTo (o : List DPart) (k : Nat) : Bst := (o.take k).foldl Bst.step ⟨[], [], 0⟩
theorem bstTo_succ {o : List DPart} {k : Nat} {p : DPart} (h : o[k]? = some p) : bstTo o (k + 1) = (bstTo o k).step p := by
  unfold bstTo
  rw [take_snoc h, List.foldl_append]
  rfl
theorem bstTo_inv {o : List DPart} (hall : o.all partOk = true) : ∀ k, k ≤ o.length → (bstTo o k).inv k
  | 0, _ => by unfold bstTo; simpa using Bst.inv0
  | k + 1, hk => by
    obtain ⟨p, hp⟩ := get_some (l := o) (k := k) (by omega)
    have ih := bstTo_inv hall k (by omega)
    rw [bstTo_succ hp]
    unfold Bst.step
    rcases partOk_cases (all_at hall hp) with ⟨kx, g1, g2, g3⟩ | ⟨kx, g1, g2, _⟩ | ⟨kx, g1, g2, g3⟩
    · rw [if_pos kx]; exact ih.keep g1 g2
    · rw [if_neg (by omega), if_pos kx]; exact ih.puts g2
    · rw [if_neg (by omega), if_neg (by omega)]; exact ih.drops g1 g2
theorem Bld.below {B : Nat} {w w' : World} {pl pp pd : Pos} {s : Bst} {fp : List Pos} (h : Bld B w pl pp pd s fp) (hb : Below w.heap.size w w') : Bld B w' pl pp pd s fp := by
  obtain ⟨vl, vp, fl, fq, hbl, hp, hd, sq, rfl, hfr⟩ := h.open
  have hl : ∀ p ∈ bpl pl pp pd ++ (fl ++ fq), p.1 < w.heap.size := by
    intro p hp
    rcases List.mem_append.1 hp with hp | hp
    · exact Live.lt hbl.live p (List.mem_append.2 (.inl hp))
    · rcases List.mem_append.1 hp with hp | hp
      · exact Live.lt hbl.live p (List.mem_append.2 (.inr hp))
      · exact Live.lt sq.live p hp
  have hb2 := hbl.below hb
  exact ⟨⟨vl, vp, fl, fq, hb2.cl, (hb.cell (p := ⟨pp.1, pp.2, none⟩) (hl pp (by simp [bpl]))).trans hp, (hb.cell (p := ⟨pd.1, pd.2, none⟩) (hl pd (by simp [bpl]))).trans hd, hb2.sl, sq.belowW hb, rfl⟩, hfr.belowL hb hl⟩
theorem bld_new (w : World) (E : TypeId) (B : Nat) (hB : B ≤ w.heap.size) : Bld B (w.alloc (.cells #[.slice none 0 0, .slice none 0 0, .int .i64 0] E)) (w.heap.size, 0) (w.heap.size, 1) (w.heap.size, 2) ⟨[], [], 0⟩ (bpl (w.heap.size, 0) (w.heap.size, 1) (w.heap.size, 2) ++ ([] ++ [])) := by
  have hg := heap_alloc_new w (.cells #[.slice none 0 0, .slice none 0 0, .int .i64 0] E)
  refine ⟨⟨.slice none 0 0, .slice none 0 0, [], [], by simp, by simp, by simp, Sl.nil, Sl.nil, rfl⟩, ?_⟩
  refine ⟨by simp [bpl], fun p hp => ?_, fun p hp => ?_⟩
  · simp only [bpl, List.append_nil, List.mem_cons, List.not_mem_nil, or_false] at hp
    rcases hp with rfl | rfl | rfl <;> exact hB
  · simp only [bpl, List.append_nil, List.mem_cons, List.not_mem_nil, or_false] at hp
    rcases hp with rfl | rfl | rfl <;> exact row_frozen hg
theorem opNorm_yes {o : List DPart} (h : opOk o = true) : opNorm o = (bstTo o o.length).flush.list := by unfold opNorm; rw [if_pos h]; unfold normal bstTo; rw [List.take_length]
theorem opNorm_no {o : List DPart} (h : ¬ opOk o = true) : opNorm o = [] := if_neg h
set_option maxHeartbeats 4000000 in
set_option maxRecDepth 100000 in
theorem spec_OpNorm_c (v : Value) (o : List DPart) (w : World) (h : RdS w v o) : Calls Try.prog 89 #[v] w (GivesS w (opNorm o)) := by
  have hl := fun w1 ty => h.len Try.underlying32 w1 ty
  have ba := h.le
  by_cases hp : opOk o = true
  · obtain ⟨hall, h600, _, _⟩ := opOk_iff'.1 hp
    have HALL := Lib.hid hall
    have HV := Lib.hid (opNorm_yes hp)
    clear hall
    go_enter Try.func89, Try.ntmps89
    go_wp2_with fail
    refine (spec_OpOk_c _ o _ (h.below blw)).mono ?_
    rintro e w1 ⟨rfl, hb1⟩
    have s1 := hb1.size
    (try simp at s1)
    obtain ⟨hc1, hf1⟩ := bcell hb1
    clear hc1 hf1
    go_wp2
    go_loopw [13] (fun i wr => ∃ (k : Nat) (fp : List Pos), k ≤ o.length ∧ i = .int .i64 k ∧ Bld w.heap.size wr (w1.heap.size, 0) (w1.heap.size, 1) (w1.heap.size, 2) (bstTo o k) fp ∧ Below w.heap.size w wr) (fun i _ => o.length - (intOf i).toNat)
    case atStart => exact ⟨0, _, Nat.zero_le _, rfl, bld_new w1 _ _ s1, blw⟩
    case round =>
      obtain ⟨k, fp, hk, rfl, hb, hbw⟩ := hrel
      have hsz := hbw.size
      have inv := bstTo_inv HALL.out k hk
      have i1 := inv.len
      have i2 := inv.put
      have i3 := inv.d0
      have i4 := inv.d1
      by_cases hlt : k < o.length
      · obtain ⟨p, hx⟩ := get_some hlt
        obtain ⟨b1, o1, cs, g1, g2, g3⟩ := (h.below hbw).idx Try.underlying32 szi_DPart k hx
        obtain ⟨v_signs, rfl, r_signs⟩ := inv_DPart g3
        have q0 := g2.zero
        have q1 := g2 1 _ rfl
        have q2 := g2 2 _ rfl
        obtain ⟨aa, ca, rfl⟩ := r_signs.isSlice
        have hst := bstTo_succ hx
        have hpo := all_at HALL.out hx
        clear hx
        rcases partOk_cases hpo with ⟨kx, n1, n2, n3⟩ | ⟨kx, n1, n2, _⟩ | ⟨kx, n1, n2, n3⟩
        · rw [kx] at q0
          have HS : Hid (bstTo o (k + 1) = (bstTo o k).keep p.n) := Lib.hid (by rw [hst]; unfold Bst.step; rw [if_pos kx])
          have HFL := Lib.hid inv.flushed
          clear hst hpo kx inv
          go_wp2_with fail
          refine (spec_l02Keep_c w.heap.size w1.heap.size (bstTo o k) fp p.n _ (hb.below blw) (by simp; omega) (by omega) i3 (by omega) n1 (by omega) (fun q hq => by have := HFL.out q hq; omega)).mono ?_
          rintro e w2 ⟨rfl, fp', hb', hw', hn'⟩
          have HB := Lib.hid hb'
          have HBW : Hid (Below w.heap.size w w2) := Lib.hid (hbw.trans ((((Below.refl wr.heap.size wr).alloc (Nat.le_refl _) _).mono hsz).trans (hw'.below (by simp; omega) hb.fr.ge)))
          clear hb' hw' hn'
          go_wp2
          go_roundw
          case rel => exact ⟨k + 1, fp', by omega, by go_num, by rw [HS.out]; exact HB.out, HBW.out⟩
          case measure => simp [intOf]; omega
        · rw [kx] at q0
          have HS : Hid (bstTo o (k + 1) = (bstTo o k).puts p.signs) := Lib.hid (by rw [hst]; unfold Bst.step; rw [if_neg (by omega), if_pos kx])
          clear hst hpo kx inv
          go_wp2_with fail
          refine (spec_l02Put_c w.heap.size w1.heap.size (bstTo o k) fp _ p.signs _ (hb.below blw) (by simp; omega) (r_signs.below blw) (by omega)).mono ?_
          rintro e w2 ⟨rfl, fp', hb', hw', hn'⟩
          have HB := Lib.hid hb'
          have HBW : Hid (Below w.heap.size w w2) := Lib.hid (hbw.trans ((((Below.refl wr.heap.size wr).alloc (Nat.le_refl _) _).mono hsz).trans (hw'.below (by simp; omega) hb.fr.ge)))
          clear hb' hw' hn'
          go_wp2
          go_roundw
          case rel => exact ⟨k + 1, fp', by omega, by go_num, by rw [HS.out]; exact HB.out, HBW.out⟩
          case measure => simp [intOf]; omega
        · rw [kx] at q0
          have HS : Hid (bstTo o (k + 1) = (bstTo o k).drops p.n) := Lib.hid (by rw [hst]; unfold Bst.step; rw [if_neg (by omega), if_neg (by omega)])
          clear hst hpo kx inv
          go_wp2_with fail
          refine (spec_l02Drop_c w.heap.size w1.heap.size (bstTo o k) fp p.n _ (hb.below blw) i3 (by omega) n1 (by omega)).mono ?_
          rintro e w2 ⟨rfl, fp', hb', hw', hn'⟩
          have HB := Lib.hid hb'
          have HBW : Hid (Below w.heap.size w w2) := Lib.hid (hbw.trans ((((Below.refl wr.heap.size wr).alloc (Nat.le_refl _) _).mono hsz).trans (hw'.below (by simp; omega) hb.fr.ge)))
          clear hb' hw' hn'
          go_wp2
          go_roundw
          case rel => exact ⟨k + 1, fp', by omega, by go_num, by rw [HS.out]; exact HB.out, HBW.out⟩
          case measure => simp [intOf]; omega
      · obtain rfl : k = o.length := by omega
        go_wp2_with fail
        refine (spec_l02Done_c w.heap.size w1.heap.size (bstTo o o.length) fp _ hb hsz (by omega) i3 (by omega)).mono ?_
        rintro e w2 ⟨v2, rfl, ho, hw'⟩
        have HO := Lib.hid ho
        have HBW : Hid (Below w.heap.size w w2) := Lib.hid (hbw.trans (hw'.below hsz hb.fr.ge))
        clear ho hw'
        go_wp2
        go_ret
        rw [HV.out]
        exact ⟨_, rfl, HO.out, HBW.out⟩
  · have HV := Lib.hid (opNorm_no hp)
    have hp : opOk o = false := by simpa using hp
    go_enter Try.func89, Try.ntmps89
    go_wp2_with fail
    refine (spec_OpOk_c _ o _ (h.below blw)).mono ?_
    rintro e w1 ⟨rfl, hb1⟩
    have s1 := hb1.size
    (try simp at s1)
    obtain ⟨hc1, hf1⟩ := bcell hb1
    go_wp2
    go_ret
    rw [HV.out]
    exact ⟨_, rfl, OwnS.nil, blw⟩
end Go.Proofs.Ytiahgjnpinjblaa

namespace Go.Proofs.Ytiahgjnpinjblaa
open Go.RowKit
set_option maxHeartbeats 4000000 in
set_option maxRecDepth 100000 in
theorem impl_flush_c (B go gp gd : Nat) (s : Bst) (fp : List Pos) (w : World) (h : Bld B w (go, 0) (gp, 0) (gd, 0) s fp) (hB : B ≤ w.heap.size) (hl : s.list.length ≤ 1000000) (hd0 : 0 ≤ s.drop) (hd1 : s.drop ≤ 1000000) :
    Calls Try.prog 77 #[.pointer (some ⟨gp, 0, none⟩), .pointer (some ⟨go, 0, none⟩), .pointer (some ⟨gd, 0, none⟩)] w (BStep B w (go, 0) (gp, 0) (gd, 0) s.flush fp) := by
  obtain ⟨i0, hi, hz0, hz1, hz2⟩ := info_parts info_part
  obtain ⟨vl, vp, fl, fq, hbl, hp_, hd_, sq, rfl, hfr⟩ := h.open
  have rq : RdS w vp s.put := ⟨_, sq⟩
  have hlen := fun w1 ty => rq.len Try.underlying23 w1 ty
  obtain ⟨ap, cp, rfl⟩ := rq.isSlice
  have hlb := BIG_le sq.leM
  have hlw := Live.lt hbl.live
  have z0l : go < w.heap.size := hlw (go, 0) (by simp [bpl])
  have z1l : gp < w.heap.size := hlw (gp, 0) (by simp [bpl])
  have z2l : gd < w.heap.size := hlw (gd, 0) (by simp [bpl])
  have z0 : w.frozen? ⟨go, 0, none⟩ = false := hfr.free (go, 0) (by simp [bpl])
  have z1 : w.frozen? ⟨gp, 0, none⟩ = false := hfr.free (gp, 0) (by simp [bpl])
  have z2 : w.frozen? ⟨gd, 0, none⟩ = false := hfr.free (gd, 0) (by simp [bpl])
  have c0 : w.cell? ⟨go, 0, none⟩ = some vl := hbl.cl
  have hp : w.cell? ⟨gp, 0, none⟩ = some (.slice ap s.put.length cp) := hp_
  have hd : w.cell? ⟨gd, 0, none⟩ = some (.int .i64 s.drop) := hd_
  have npd : gp ≠ gd := fun e => by have := hfr.nodup; simp [bpl, e] at this
  have npo_ : gp ≠ go := fun e => by have := hfr.nodup; simp [bpl, e] at this
  have ndo_ : gd ≠ go := fun e => by have := hfr.nodup; simp [bpl, e] at this
  clear hp_ hd_
  obtain ⟨fs, hfe_, hrow⟩ := hbl.row
  have HFE := Lib.hid hfe_
  clear hfe_
  by_cases hp0 : s.put = []
  · by_cases hd2 : 0 < s.drop
    · have HF : Hid (s.flush = ⟨s.list ++ [⟨3, s.drop, []⟩], [], 0⟩) := Lib.hid (by simp [Bst.flush, hp0, hd2])
      have hln : ¬ 0 < s.put.length := by rw [hp0]; simp
      have hWA : Below w.heap.size w (w.alloc (.cells #[.int .i64 3, .int .i64 s.drop, .slice none 0 0] 60)) := (Below.refl _ _).alloc (Nat.le_refl _) _
      have hsrcA := Lib.hid (part_built w 3 s.drop _ [] [] 60 Sl.nil)
      have k1A : s.list.length + [(⟨3, s.drop, []⟩ : DPart)].length ≤ BIG := le_BIG (by simp; omega)
      have k2A : (s.list.length + [(⟨3, s.drop, []⟩ : DPart)].length) * 40 ≤ 140737488355328 := by simp; omega
      have k3A : B ≤ (w.alloc (.cells #[.int .i64 3, .int .i64 s.drop, .slice none 0 0] 60)).heap.size := by simp; omega
      have K1A := Lib.hid k1A
      have K2A := Lib.hid k2A
      have K3A := Lib.hid k3A
      clear k1A k2A k3A
      have n0A : ((go, 0) : Pos) ∉ rowP (GoT.n DPart) (vl) := fun hm => (List.nodup_append.1 hfr.nodup).2.2 (go, 0) (by simp [bpl]) (go, 0) (by rw [HFE.out]; first | exact List.mem_append.2 (.inl (List.mem_append.2 (.inl hm))) | exact List.mem_append.2 (.inl hm)) rfl
      have n1A : ((gp, 0) : Pos) ∉ rowP (GoT.n DPart) (vl) := fun hm => (List.nodup_append.1 hfr.nodup).2.2 (gp, 0) (by simp [bpl]) (gp, 0) (by rw [HFE.out]; first | exact List.mem_append.2 (.inl (List.mem_append.2 (.inl hm))) | exact List.mem_append.2 (.inl hm)) rfl
      have n2A : ((gd, 0) : Pos) ∉ rowP (GoT.n DPart) (vl) := fun hm => (List.nodup_append.1 hfr.nodup).2.2 (gd, 0) (by simp [bpl]) (gd, 0) (by rw [HFE.out]; first | exact List.mem_append.2 (.inl (List.mem_append.2 (.inl hm))) | exact List.mem_append.2 (.inl hm)) rfl
      have hdisA : ∀ p ∈ ([] : List Pos), p ∉ rowP (GoT.n DPart) vl := fun _ h => (by cases h)
      have hfr2 : Fresh B w (bpl (go, 0) (gp, 0) (gd, 0) ++ (fl ++ [])) := by rw [List.append_nil]; exact hfr.pre2
      have HROWA := Lib.hid hrow
      clear hp0 h hrow hlen
      go_enter Try.func77, Try.ntmps77
      go_wp2_with (at_builtin; refine wpList_append_row rfl _ _ 32 rfl Try.underlying32 hi hz0 hz1 hz2 rfl rfl rfl (HROWA.out.below hWA) hsrcA.out hdisA K1A.out K2A.out K3A.out ?_)
      intro vA wA hrA hwA hnA
      replace hnA := fun (p : Pos) (hp : p ∈ rowP 3 vA) => (hnA p.1 p.2 hp)
      obtain ⟨aA, cA, rfl⟩ := hrA.rd.isSlice
      have q0A : wA.cell? ⟨go, 0, none⟩ = some vl := cellw hWA hwA c0 n0A
      have q1A : wA.frozen? ⟨go, 0, none⟩ = false := (hwA.frozen (go, 0) (Nat.lt_of_lt_of_le z0l hWA.size)).trans ((hWA.frozen (p := ⟨go, 0, none⟩) z0l).trans z0)
      have q2A : wA.cell? ⟨gp, 0, none⟩ = some (.slice ap s.put.length cp) := cellw hWA hwA hp n1A
      have q3A : wA.frozen? ⟨gp, 0, none⟩ = false := (hwA.frozen (gp, 0) (Nat.lt_of_lt_of_le z1l hWA.size)).trans ((hWA.frozen (p := ⟨gp, 0, none⟩) z1l).trans z1)
      have q4A : wA.cell? ⟨gd, 0, none⟩ = some (.int .i64 s.drop) := cellw hWA hwA hd n2A
      have q5A : wA.frozen? ⟨gd, 0, none⟩ = false := (hwA.frozen (gd, 0) (Nat.lt_of_lt_of_le z2l hWA.size)).trans ((hWA.frozen (p := ⟨gd, 0, none⟩) z2l).trans z2)
      obtain ⟨fl', kb, kw, kn⟩ := BL.app2 (L := s.list) (x := ⟨3, s.drop, []⟩) hbl hfr2 (Live.nil _) hWA HFE.out (by simpa using hrA) hwA (fun p hp => (hnA p hp).imp id (fun h => by simpa using h))
      simp only [List.length_append, List.length_singleton] at kb kw
      have KB := Lib.hid kb
      have KW := Lib.hid kw
      have KN := Lib.hid kn
      clear kb kw kn hrA hwA hnA
      go_wp2
      go_end0
      exact BStep.done HF.out KB.out (KW.out.sub fun _ hp => mem_n hp) (fun p hp => (KN.out p hp).imp (fun h => by rw [List.append_nil] at h; exact List.mem_append.2 (.inl h)) id)
    · have hd3 : s.drop = 0 := by omega
      have HF : Hid (s.flush = ⟨s.list, [], 0⟩) := Lib.hid (by simp [Bst.flush, hp0, hd2])
      have hln : ¬ 0 < s.put.length := by rw [hp0]; simp
      rw [hd3] at hd
      clear hp0 hd2 hd3 h hlen
      go_enter Try.func77, Try.ntmps77
      go_wp2
      go_end0
      exact BStep.done HF.out hbl (Wr.refl _ _) (fun _ hp => .inl (List.mem_append.2 (.inl hp)))
  · have hln : 0 < s.put.length := List.length_pos_iff.2 hp0
    by_cases hd2 : 0 < s.drop
    · have HF : Hid (s.flush = ⟨s.list ++ [⟨2, 0, s.put⟩] ++ [⟨3, s.drop, []⟩], [], 0⟩) := Lib.hid (by simp [Bst.flush, hp0, hd2])
      have hWA : Below w.heap.size w (w.alloc (.cells #[.int .i64 2, .int .i64 0, .slice ap s.put.length cp] 60)) := (Below.refl _ _).alloc (Nat.le_refl _) _
      have hsrcA := Lib.hid (part_built w 2 0 _ s.put fq 60 sq)
      have k1A : s.list.length + [(⟨2, 0, s.put⟩ : DPart)].length ≤ BIG := le_BIG (by simp; omega)
      have k2A : (s.list.length + [(⟨2, 0, s.put⟩ : DPart)].length) * 40 ≤ 140737488355328 := by simp; omega
      have k3A : B ≤ (w.alloc (.cells #[.int .i64 2, .int .i64 0, .slice ap s.put.length cp] 60)).heap.size := by simp; omega
      have K1A := Lib.hid k1A
      have K2A := Lib.hid k2A
      have K3A := Lib.hid k3A
      clear k1A k2A k3A
      have n0A : ((go, 0) : Pos) ∉ rowP (GoT.n DPart) (vl) := fun hm => (List.nodup_append.1 hfr.nodup).2.2 (go, 0) (by simp [bpl]) (go, 0) (by rw [HFE.out]; first | exact List.mem_append.2 (.inl (List.mem_append.2 (.inl hm))) | exact List.mem_append.2 (.inl hm)) rfl
      have n1A : ((gp, 0) : Pos) ∉ rowP (GoT.n DPart) (vl) := fun hm => (List.nodup_append.1 hfr.nodup).2.2 (gp, 0) (by simp [bpl]) (gp, 0) (by rw [HFE.out]; first | exact List.mem_append.2 (.inl (List.mem_append.2 (.inl hm))) | exact List.mem_append.2 (.inl hm)) rfl
      have n2A : ((gd, 0) : Pos) ∉ rowP (GoT.n DPart) (vl) := fun hm => (List.nodup_append.1 hfr.nodup).2.2 (gd, 0) (by simp [bpl]) (gd, 0) (by rw [HFE.out]; first | exact List.mem_append.2 (.inl (List.mem_append.2 (.inl hm))) | exact List.mem_append.2 (.inl hm)) rfl
      have hdisA : ∀ p ∈ fq, p ∉ rowP (GoT.n DPart) vl := fun p hp hq => (List.nodup_append.1 (List.nodup_append.1 hfr.nodup).2.1).2.2 p (by rw [HFE.out]; exact List.mem_append.2 (.inl hq)) p hp rfl
      have HROWA := Lib.hid hrow
      clear hp0 h hrow
      go_enter Try.func77, Try.ntmps77
      go_wp2_with (at_builtin; refine wpList_append_row rfl _ _ 32 rfl Try.underlying32 hi hz0 hz1 hz2 rfl rfl rfl (HROWA.out.below hWA) hsrcA.out hdisA K1A.out K2A.out K3A.out ?_)
      intro vA wA hrA hwA hnA
      replace hnA := fun (p : Pos) (hp : p ∈ rowP 3 vA) => (hnA p.1 p.2 hp)
      obtain ⟨aA, cA, rfl⟩ := hrA.rd.isSlice
      have q0A : wA.cell? ⟨go, 0, none⟩ = some vl := cellw hWA hwA c0 n0A
      have q1A : wA.frozen? ⟨go, 0, none⟩ = false := (hwA.frozen (go, 0) (Nat.lt_of_lt_of_le z0l hWA.size)).trans ((hWA.frozen (p := ⟨go, 0, none⟩) z0l).trans z0)
      have q2A : wA.cell? ⟨gp, 0, none⟩ = some (.slice ap s.put.length cp) := cellw hWA hwA hp n1A
      have q3A : wA.frozen? ⟨gp, 0, none⟩ = false := (hwA.frozen (gp, 0) (Nat.lt_of_lt_of_le z1l hWA.size)).trans ((hWA.frozen (p := ⟨gp, 0, none⟩) z1l).trans z1)
      have q4A : wA.cell? ⟨gd, 0, none⟩ = some (.int .i64 s.drop) := cellw hWA hwA hd n2A
      have q5A : wA.frozen? ⟨gd, 0, none⟩ = false := (hwA.frozen (gd, 0) (Nat.lt_of_lt_of_le z2l hWA.size)).trans ((hWA.frozen (p := ⟨gd, 0, none⟩) z2l).trans z2)
      obtain ⟨fl', kb, kw, kn⟩ := BL.app2 (L := s.list) (x := ⟨2, 0, s.put⟩) hbl hfr sq.live hWA HFE.out (by simpa using hrA) hwA (fun p hp => (hnA p hp).imp id (fun h => by simpa using h))
      simp only [List.length_append, List.length_singleton] at kb kw
      have hLL : (s.list ++ [(⟨2, 0, s.put⟩ : DPart)]).length ≤ 1000001 := by simp; omega
      have sBA : w.heap.size ≤ wA.heap.size := Nat.le_trans hWA.size hwA.size
      have npo : gp ≠ go := fun e => by have := hfr.nodup; simp [bpl, e] at this
      have ndo : gd ≠ go := fun e => by have := hfr.nodup; simp [bpl, e] at this
      have c0B : (wA.setCell ⟨go, 0, none⟩ (.slice aA (s.list.length + 1) cA)).cell? ⟨go, 0, none⟩ = some (.slice aA (s.list.length + 1) cA) := kb.cl
      have cpB : (wA.setCell ⟨go, 0, none⟩ (.slice aA (s.list.length + 1) cA)).cell? ⟨gp, 0, none⟩ = some (.slice ap s.put.length cp) := by rw [cell_setCell, if_neg (by simp [npo])]; exact q2A
      have cdB : (wA.setCell ⟨go, 0, none⟩ (.slice aA (s.list.length + 1) cA)).cell? ⟨gd, 0, none⟩ = some (.int .i64 s.drop) := by rw [cell_setCell, if_neg (by simp [ndo])]; exact q4A
      have z0B : (wA.setCell ⟨go, 0, none⟩ (.slice aA (s.list.length + 1) cA)).frozen? ⟨go, 0, none⟩ = false := by rw [World.frozen?_setCell]; exact q1A
      have z1B : (wA.setCell ⟨go, 0, none⟩ (.slice aA (s.list.length + 1) cA)).frozen? ⟨gp, 0, none⟩ = false := by rw [World.frozen?_setCell]; exact q3A
      have z2B : (wA.setCell ⟨go, 0, none⟩ (.slice aA (s.list.length + 1) cA)).frozen? ⟨gd, 0, none⟩ = false := by rw [World.frozen?_setCell]; exact q5A
      clear hrA hwA hnA n0A n1A n2A hsrcA K1A K2A K3A HROWA hdisA
      clear c0 hp hd z0 z1 z2
      have hs2 : w.heap.size ≤ (wA.setCell ⟨go, 0, none⟩ (.slice aA (s.list.length + 1) cA)).heap.size := by simpa using sBA
      have z0Bl : go < (wA.setCell ⟨go, 0, none⟩ (.slice aA (s.list.length + 1) cA)).heap.size := Nat.lt_of_lt_of_le z0l hs2
      have z1Bl : gp < (wA.setCell ⟨go, 0, none⟩ (.slice aA (s.list.length + 1) cA)).heap.size := Nat.lt_of_lt_of_le z1l hs2
      have z2Bl : gd < (wA.setCell ⟨go, 0, none⟩ (.slice aA (s.list.length + 1) cA)).heap.size := Nat.lt_of_lt_of_le z2l hs2
      have hB2 : B ≤ (wA.setCell ⟨go, 0, none⟩ (.slice aA (s.list.length + 1) cA)).heap.size := Nat.le_trans hB hs2
      obtain ⟨fs2, hfe2, hrow2⟩ := kb.row
      have HFE2 := Lib.hid hfe2
      have HROWB := Lib.hid hrow2
      have KB := Lib.hid kb
      have KW := Lib.hid kw
      have KN := Lib.hid kn
      have hfrB := kb.fr
      clear hfe2 hrow2 kw kn
      have hWB : Below (wA.setCell ⟨go, 0, none⟩ (.slice aA (s.list.length + 1) cA)).heap.size (wA.setCell ⟨go, 0, none⟩ (.slice aA (s.list.length + 1) cA)) ((wA.setCell ⟨go, 0, none⟩ (.slice aA (s.list.length + 1) cA)).alloc (.cells #[.int .i64 3, .int .i64 s.drop, .slice none 0 0] 60)) := (Below.refl _ _).alloc (Nat.le_refl _) _
      have eB : (wA.setCell ⟨go, 0, none⟩ (.slice aA (s.list.length + 1) cA)).heap.size = wA.heap.size := by simp
      have hsrcB_ := part_built (wA.setCell ⟨go, 0, none⟩ (.slice aA (s.list.length + 1) cA)) 3 s.drop _ [] [] 60 Sl.nil
      rw [eB] at hsrcB_
      have hsrcB := Lib.hid hsrcB_
      clear eB hsrcB_
      have k1B : (s.list ++ [(⟨2, 0, s.put⟩ : DPart)]).length + [(⟨3, s.drop, []⟩ : DPart)].length ≤ BIG := le_BIG (by have := hLL; simp at this ⊢; omega)
      have k2B : ((s.list ++ [(⟨2, 0, s.put⟩ : DPart)]).length + [(⟨3, s.drop, []⟩ : DPart)].length) * 40 ≤ 140737488355328 := by have := hLL; simp at this ⊢; omega
      have k3B : B ≤ ((wA.setCell ⟨go, 0, none⟩ (.slice aA (s.list.length + 1) cA)).alloc (.cells #[.int .i64 3, .int .i64 s.drop, .slice none 0 0] 60)).heap.size := by have := hLL; simp at this ⊢; omega
      have K1B := Lib.hid k1B
      have K2B := Lib.hid k2B
      have K3B := Lib.hid k3B
      clear k1B k2B k3B
      have n0B : ((go, 0) : Pos) ∉ rowP (GoT.n DPart) (.slice aA (s.list.length + 1) cA) := fun hm => (List.nodup_append.1 hfrB.nodup).2.2 (go, 0) (by simp [bpl]) (go, 0) (by rw [HFE2.out]; first | exact List.mem_append.2 (.inl (List.mem_append.2 (.inl hm))) | exact List.mem_append.2 (.inl hm)) rfl
      have n1B : ((gp, 0) : Pos) ∉ rowP (GoT.n DPart) (.slice aA (s.list.length + 1) cA) := fun hm => (List.nodup_append.1 hfrB.nodup).2.2 (gp, 0) (by simp [bpl]) (gp, 0) (by rw [HFE2.out]; first | exact List.mem_append.2 (.inl (List.mem_append.2 (.inl hm))) | exact List.mem_append.2 (.inl hm)) rfl
      have n2B : ((gd, 0) : Pos) ∉ rowP (GoT.n DPart) (.slice aA (s.list.length + 1) cA) := fun hm => (List.nodup_append.1 hfrB.nodup).2.2 (gd, 0) (by simp [bpl]) (gd, 0) (by rw [HFE2.out]; first | exact List.mem_append.2 (.inl (List.mem_append.2 (.inl hm))) | exact List.mem_append.2 (.inl hm)) rfl
      have hdisB : ∀ p ∈ ([] : List Pos), p ∉ rowP (GoT.n DPart) (.slice aA (s.list.length + 1) cA) := fun _ h => (by cases h)
      have hfr2 : Fresh B (wA.setCell ⟨go, 0, none⟩ (.slice aA (s.list.length + 1) cA)) (bpl (go, 0) (gp, 0) (gd, 0) ++ (fl' ++ [])) := by rw [List.append_nil]; exact hfrB
      clear hLL kb hfrB hfr
      go_wp2_with (at_builtin; refine wpList_append_row rfl _ _ 32 rfl Try.underlying32 hi hz0 hz1 hz2 rfl rfl rfl (HROWB.out.below hWB) hsrcB.out hdisB K1B.out K2B.out K3B.out ?_)
      intro vB wB hrB hwB hnB
      replace hnB := fun (p : Pos) (hp : p ∈ rowP 3 vB) => (hnB p.1 p.2 hp)
      obtain ⟨aB, cB, rfl⟩ := hrB.rd.isSlice
      have q0B : wB.cell? ⟨go, 0, none⟩ = some (.slice aA (s.list.length + 1) cA) := cellw hWB hwB c0B n0B
      have q1B : wB.frozen? ⟨go, 0, none⟩ = false := (hwB.frozen (go, 0) (Nat.lt_of_lt_of_le z0Bl hWB.size)).trans ((hWB.frozen (p := ⟨go, 0, none⟩) z0Bl).trans z0B)
      have q2B : wB.cell? ⟨gp, 0, none⟩ = some (.slice ap s.put.length cp) := cellw hWB hwB cpB n1B
      have q3B : wB.frozen? ⟨gp, 0, none⟩ = false := (hwB.frozen (gp, 0) (Nat.lt_of_lt_of_le z1Bl hWB.size)).trans ((hWB.frozen (p := ⟨gp, 0, none⟩) z1Bl).trans z1B)
      have q4B : wB.cell? ⟨gd, 0, none⟩ = some (.int .i64 s.drop) := cellw hWB hwB cdB n2B
      have q5B : wB.frozen? ⟨gd, 0, none⟩ = false := (hwB.frozen (gd, 0) (Nat.lt_of_lt_of_le z2Bl hWB.size)).trans ((hWB.frozen (p := ⟨gd, 0, none⟩) z2Bl).trans z2B)
      obtain ⟨fl2, kb, kw, kn⟩ := BL.app2 (L := (s.list ++ [(⟨2, 0, s.put⟩ : DPart)])) (x := ⟨3, s.drop, []⟩) KB.out hfr2 (Live.nil _) hWB HFE2.out (by simpa using hrB) hwB (fun p hp => (hnB p hp).imp id (fun h => by simpa using h))
      simp only [List.length_append] at kb kw
      have KB2 := Lib.hid kb
      have KW2 := Lib.hid (KW.out.trans2 kw fun p hp => by
        rw [List.append_nil] at hp
        rcases List.mem_append.1 hp with hp | hp
        · exact .inl (List.mem_append.2 (.inl hp))
        · exact (KN.out p hp).imp (fun h => List.mem_append.2 (.inr h)) id)
      have KN2 : Hid (∀ p ∈ fl2, p ∈ fl ++ fq ∨ w.heap.size ≤ p.1) := Lib.hid fun p hp => by
        rcases kn p hp with k | k
        · rw [List.append_nil] at k; exact KN.out p k
        · exact .inr (Nat.le_trans hs2 k)
      clear kb kw kn hrB hwB hnB
      go_wp2
      go_end0
      exact BStep.done HF.out KB2.out KW2.out KN2.out
    · have hd3 : s.drop = 0 := by omega
      have HF : Hid (s.flush = ⟨s.list ++ [⟨2, 0, s.put⟩], [], 0⟩) := Lib.hid (by simp [Bst.flush, hp0, hd2])
      rw [hd3] at hd
      clear hd3
      have hWA : Below w.heap.size w (w.alloc (.cells #[.int .i64 2, .int .i64 0, .slice ap s.put.length cp] 60)) := (Below.refl _ _).alloc (Nat.le_refl _) _
      have hsrcA := Lib.hid (part_built w 2 0 _ s.put fq 60 sq)
      have k1A : s.list.length + [(⟨2, 0, s.put⟩ : DPart)].length ≤ BIG := le_BIG (by simp; omega)
      have k2A : (s.list.length + [(⟨2, 0, s.put⟩ : DPart)].length) * 40 ≤ 140737488355328 := by simp; omega
      have k3A : B ≤ (w.alloc (.cells #[.int .i64 2, .int .i64 0, .slice ap s.put.length cp] 60)).heap.size := by simp; omega
      have K1A := Lib.hid k1A
      have K2A := Lib.hid k2A
      have K3A := Lib.hid k3A
      clear k1A k2A k3A
      have n0A : ((go, 0) : Pos) ∉ rowP (GoT.n DPart) (vl) := fun hm => (List.nodup_append.1 hfr.nodup).2.2 (go, 0) (by simp [bpl]) (go, 0) (by rw [HFE.out]; first | exact List.mem_append.2 (.inl (List.mem_append.2 (.inl hm))) | exact List.mem_append.2 (.inl hm)) rfl
      have n1A : ((gp, 0) : Pos) ∉ rowP (GoT.n DPart) (vl) := fun hm => (List.nodup_append.1 hfr.nodup).2.2 (gp, 0) (by simp [bpl]) (gp, 0) (by rw [HFE.out]; first | exact List.mem_append.2 (.inl (List.mem_append.2 (.inl hm))) | exact List.mem_append.2 (.inl hm)) rfl
      have n2A : ((gd, 0) : Pos) ∉ rowP (GoT.n DPart) (vl) := fun hm => (List.nodup_append.1 hfr.nodup).2.2 (gd, 0) (by simp [bpl]) (gd, 0) (by rw [HFE.out]; first | exact List.mem_append.2 (.inl (List.mem_append.2 (.inl hm))) | exact List.mem_append.2 (.inl hm)) rfl
      have hdisA : ∀ p ∈ fq, p ∉ rowP (GoT.n DPart) vl := fun p hp hq => (List.nodup_append.1 (List.nodup_append.1 hfr.nodup).2.1).2.2 p (by rw [HFE.out]; exact List.mem_append.2 (.inl hq)) p hp rfl
      have HROWA := Lib.hid hrow
      clear hp0 hd2 h hrow
      go_enter Try.func77, Try.ntmps77
      go_wp2_with (at_builtin; refine wpList_append_row rfl _ _ 32 rfl Try.underlying32 hi hz0 hz1 hz2 rfl rfl rfl (HROWA.out.below hWA) hsrcA.out hdisA K1A.out K2A.out K3A.out ?_)
      intro vA wA hrA hwA hnA
      replace hnA := fun (p : Pos) (hp : p ∈ rowP 3 vA) => (hnA p.1 p.2 hp)
      obtain ⟨aA, cA, rfl⟩ := hrA.rd.isSlice
      have q0A : wA.cell? ⟨go, 0, none⟩ = some vl := cellw hWA hwA c0 n0A
      have q1A : wA.frozen? ⟨go, 0, none⟩ = false := (hwA.frozen (go, 0) (Nat.lt_of_lt_of_le z0l hWA.size)).trans ((hWA.frozen (p := ⟨go, 0, none⟩) z0l).trans z0)
      have q2A : wA.cell? ⟨gp, 0, none⟩ = some (.slice ap s.put.length cp) := cellw hWA hwA hp n1A
      have q3A : wA.frozen? ⟨gp, 0, none⟩ = false := (hwA.frozen (gp, 0) (Nat.lt_of_lt_of_le z1l hWA.size)).trans ((hWA.frozen (p := ⟨gp, 0, none⟩) z1l).trans z1)
      have q4A : wA.cell? ⟨gd, 0, none⟩ = some (.int .i64 0) := cellw hWA hwA hd n2A
      have q5A : wA.frozen? ⟨gd, 0, none⟩ = false := (hwA.frozen (gd, 0) (Nat.lt_of_lt_of_le z2l hWA.size)).trans ((hWA.frozen (p := ⟨gd, 0, none⟩) z2l).trans z2)
      obtain ⟨fl', kb, kw, kn⟩ := BL.app2 (L := s.list) (x := ⟨2, 0, s.put⟩) hbl hfr sq.live hWA HFE.out (by simpa using hrA) hwA (fun p hp => (hnA p hp).imp id (fun h => by simpa using h))
      simp only [List.length_append, List.length_singleton] at kb kw
      have KB := Lib.hid kb
      have KW := Lib.hid kw
      have KN := Lib.hid kn
      clear kb kw kn hrA hwA hnA
      go_wp2
      go_end0
      exact BStep.done HF.out KB.out KW.out KN.out
end Go.Proofs.Ytiahgjnpinjblaa

namespace Go.Proofs.Ytiahgjnpinjblaa
open Go.RowKit
theorem bld_new3 (w : World) (E1 E2 E3 : TypeId) (B : Nat) (hB : B ≤ w.heap.size) :
    Bld B (((w.alloc (.cells #[.slice none 0 0] E1)).alloc (.cells #[.slice none 0 0] E2)).alloc (.cells #[.int .i64 0] E3)) (w.heap.size, 0) (w.heap.size + 1, 0) (w.heap.size + 2, 0) ⟨[], [], 0⟩ (bpl (w.heap.size, 0) (w.heap.size + 1, 0) (w.heap.size + 2, 0) ++ ([] ++ [])) := by
  refine ⟨⟨.slice none 0 0, .slice none 0 0, [], [], by simp [go_sem], by simp [go_sem], by simp [go_sem], Sl.nil, Sl.nil, rfl⟩, ?_⟩
  refine ⟨by simp [bpl], fun p hp => ?_, fun p hp => ?_⟩
  · simp only [bpl, List.append_nil, List.mem_cons, List.not_mem_nil, or_false] at hp
    rcases hp with rfl | rfl | rfl <;> simp <;> omega
  · simp only [bpl, List.append_nil, List.mem_cons, List.not_mem_nil, or_false] at hp
    rcases hp with rfl | rfl | rfl <;> simp [go_sem]
theorem normal_to (o : List DPart) : normal o = (bstTo o o.length).flush.list := by unfold normal bstTo; rw [List.take_length]
theorem Bld.lt {B : Nat} {w : World} {pl pp pd : Pos} {s : Bst} {fp : List Pos} (h : Bld B w pl pp pd s fp) : ∀ p ∈ fp, p.1 < w.heap.size := by
  obtain ⟨vl, vp, fl, fq, hbl, hp, hd, sq, rfl, hfr⟩ := h.open
  intro p hp
  rcases List.mem_append.1 hp with hp | hp
  · exact Live.lt hbl.live p (List.mem_append.2 (.inl hp))
  · rcases List.mem_append.1 hp with hp | hp
    · exact Live.lt hbl.live p (List.mem_append.2 (.inr hp))
    · exact Live.lt sq.live p hp
theorem BStep.below {B : Nat} {w0 w w' : World} {pl pp pd : Pos} {s s0 : Bst} {fp : List Pos} {e : Ending} (h : BStep B w pl pp pd s fp e w') (hb : Bld B w pl pp pd s0 fp) (h0 : Below B w0 w) (hB : B ≤ w.heap.size) : Below B w0 w' := by
  obtain ⟨_, fp', _, hw, _⟩ := h
  exact h0.trans (hw.below hB hb.fr.ge)
set_option maxHeartbeats 8000000 in
set_option maxRecDepth 100000 in
theorem impl_normal_c (v : Value) (o : List DPart) (w : World) (h : RdS w v o) (hall : o.all partOk = true) (h2 : o.length ≤ 3000) : Calls Try.prog 61 #[v] w (GivesS w (normal o)) := by
  have hl := fun w1 ty => h.len Try.underlying32 w1 ty
  have ba := h.le
  obtain ⟨i0, hi, hz0, hz1, hz2⟩ := info_parts info_part
  obtain ⟨j0, hj, jz0, jz1, jz2⟩ := info_parts info_int2
  have HALL := Lib.hid hall
  have HV := Lib.hid (normal_to o)
  clear hall
  go_enter Try.func61, Try.ntmps61
  go_wp2
  go_loopw [13] (fun i wr => ∃ (k : Nat) (fp : List Pos), k ≤ o.length ∧ i = .int .i64 k ∧ Bld w.heap.size wr (w.heap.size, 0) (w.heap.size + 1, 0) (w.heap.size + 2, 0) (bstTo o k) fp ∧ Below w.heap.size w wr) (fun i _ => o.length - (intOf i).toNat)
  case atStart => exact ⟨0, _, Nat.zero_le _, rfl, bld_new3 w _ _ _ _ (Nat.le_refl _), blw⟩
  case round =>
    obtain ⟨k, fp, hk, rfl, hb, hbw⟩ := hrel
    have hsz := hbw.size
    have inv := bstTo_inv HALL.out k hk
    have i1 := inv.len
    have i2 := inv.put
    have i3 := inv.d0
    have i4 := inv.d1
    by_cases hlt : k < o.length
    · obtain ⟨p, hx⟩ := get_some hlt
      obtain ⟨b1, o1, cs, g1, g2, g3⟩ := (h.below hbw).idx Try.underlying32 szi_DPart k hx
      obtain ⟨v_signs, rfl, r_signs⟩ := inv_DPart g3
      have q0 := g2.zero
      have q1 := g2 1 _ rfl
      have q2 := g2 2 _ rfl
      obtain ⟨aa, ca, rfl⟩ := r_signs.isSlice
      have hst := bstTo_succ hx
      have hpo := all_at HALL.out hx
      clear hx
      rcases partOk_cases hpo with ⟨kx, n1, n2, n3⟩ | ⟨kx, n1, n2, _⟩ | ⟨kx, n1, n2, n3⟩
      · rw [kx] at q0
        by_cases hn0 : p.n = 0
        · have HS : Hid (bstTo o (k + 1) = bstTo o k) := Lib.hid (by rw [hst]; unfold Bst.step Bst.keep; rw [if_pos kx, if_pos hn0])
          have hn1 : ¬ 0 < p.n := by omega
          have hn2 : decide (0 < p.n) = false := by simpa using hn1
          have HB := Lib.hid hb
          clear hst hpo kx inv hn0 hb
          go_wp2
          go_roundw
          case rel => exact ⟨k + 1, fp, by omega, by go_num, by rw [HS.out]; exact HB.out.below blw, blw⟩
          case measure => simp [intOf]; omega
        · have hn1 : 0 < p.n := by omega
          have HFL := Lib.hid inv.flushed
          have HK0 : Hid (bstTo o (k + 1) = ⟨keepOn (bstTo o k).flush.list p.n, [], 0⟩) := Lib.hid (by rw [hst]; unfold Bst.step Bst.keep; rw [if_pos kx, if_neg hn0])
          have hfl := flush_len (bstTo o k)
          have hfpl := hb.lt
          have HFP := Lib.hid hfpl
          clear hst hpo kx inv hn0 hfpl
          go_wp2_with fail
          refine (impl_flush_c w.heap.size w.heap.size (w.heap.size + 1) (w.heap.size + 2) (bstTo o k) fp _ (hb.below blw) (by simp; omega) (by omega) i3 (by omega)).mono ?_
          intro e w1 hstep
          have HBW1 : Hid (Below w.heap.size w w1) := Lib.hid (hstep.below (hb.below blw) blw (by simp; omega))
          obtain ⟨rfl, fp', hb', hw', hn'⟩ := hstep
          have c1 : w1.cell? ⟨wr.heap.size, 1, none⟩ = some (.int .i64 p.n) := by
            rw [hw'.cell (wr.heap.size, 1) (by simp) (fun hm => by have := HFP.out _ hm; simp at this)]
            simp
          have zb : wr.heap.size < w1.heap.size := Nat.lt_of_lt_of_le (by simp) hw'.size
          obtain ⟨L, hL⟩ : ∃ L, (bstTo o k).flush.list = L := ⟨_, rfl⟩
          have hfs : (bstTo o k).flush = ⟨L, [], 0⟩ := by rw [← hL]; rfl
          rw [hfs] at hb'
          have HBD : Hid (∀ q ∈ L, 0 ≤ q.n ∧ q.n ≤ 400 * (k : Int)) := Lib.hid (by rw [← hL]; exact HFL.out)
          have HK2 : Hid (bstTo o (k + 1) = ⟨keepOn L p.n, [], 0⟩) := Lib.hid (by rw [← hL]; exact HK0.out)
          rw [hL] at hfl
          have HB' := Lib.hid hb'
          obtain ⟨vl, vp, fl, fq, hbl, hp_, hd_, sq, rfl, hfr⟩ := hb'.open
          simp only at hbl hp_ hd_ sq
          have hw1 : w.heap.size ≤ w1.heap.size := by omega
          have hgl : w.heap.size < w1.heap.size := Live.lt hbl.live (w.heap.size, 0) (by simp [bpl])
          have c0 : w1.cell? ⟨w.heap.size, 0, none⟩ = some vl := hbl.cl
          have z0 : w1.frozen? ⟨w.heap.size, 0, none⟩ = false := hfr.free (w.heap.size, 0) (by simp [bpl])
          have hrl : RdS w1 vl L := ⟨_, hbl.sl⟩
          have HPP := Lib.hid hp_
          have HPD := Lib.hid hd_
          clear hfs hb' HK0 HFL hL hw' hn' hb hp_ hd_
          rcases List.eq_nil_or_concat L with rfl | ⟨m, q, rfl⟩
          · have HK3 : Hid (bstTo o (k + 1) = ⟨[] ++ [⟨1, p.n, []⟩], [], 0⟩) := Lib.hid (by rw [HK2.out, keepOn_nil]; rfl)
            have hlen : ∀ w2 ty, (Builtin.len_ #[32] ty #[vl]).run Try.prog w2 = .ok (.int .i64 0) w2 := fun w2 ty => hrl.len Try.underlying32 w2 ty
            obtain ⟨fs, hfe, hrow⟩ := hbl.row
            have HFE := Lib.hid hfe
            have HROW := Lib.hid hrow
            have n0 : ((w.heap.size, 0) : Pos) ∉ rowP (GoT.n DPart) vl := fun hm => (List.nodup_append.1 hfr.nodup).2.2 (w.heap.size, 0) (by simp [bpl]) (w.heap.size, 0) (by rw [hfe]; simp [show (w.heap.size, 0) ∈ rowP 3 vl from hm]) rfl
            have hW : Below w1.heap.size w1 (w1.alloc (.cells #[.int .i64 1, .int .i64 p.n, .slice none 0 0] 60)) := (Below.refl _ _).alloc (Nat.le_refl _) _
            have hsrc := Lib.hid (part_built w1 1 p.n _ [] [] 60 Sl.nil)
            clear hfe hrow
            go_wp2_with (at_builtin; refine wpList_append_row rfl _ _ 32 rfl Try.underlying32 hi hz0 hz1 hz2 rfl rfl rfl (HROW.out.below hW) hsrc.out (fun _ h => by cases h) ?c1 ?c2 ?c3 ?_)
            case c1 => exact le_BIG (by simp at hfl ⊢; try omega)
            case c2 => simp at hfl ⊢; try omega
            case c3 => simp; omega
            intro v1 w2 hr hw hn
            obtain ⟨a1, cc1, rfl⟩ := hr.rd.isSlice
            have q0 : w2.cell? ⟨w.heap.size, 0, none⟩ = some vl := cellw hW hw c0 n0
            have q1 : w2.frozen? ⟨w.heap.size, 0, none⟩ = false := (hw.frozen (w.heap.size, 0) (Nat.lt_of_lt_of_le hgl hW.size)).trans ((hW.frozen (p := ⟨w.heap.size, 0, none⟩) hgl).trans z0)
            obtain ⟨fx, b1, b2, b3⟩ := Bld.app (s := ⟨[], [], 0⟩) (x := ⟨1, p.n, []⟩) hbl HPP.out HPD.out sq hfr hW HFE.out (by simpa using hr) hw (fun p hp => (hn p.1 p.2 hp).imp id (fun h => by simpa using h))
            simp only [List.nil_append, List.length_singleton] at b1 b2
            have B1 := Lib.hid b1
            have B2 := Lib.hid (HBW1.out.trans (b2.below hw1 hfr.ge))
            clear b1 b2 b3 hr hw hn hbl sq hfr
            go_wp2
            go_roundw
            case rel => exact ⟨k + 1, _, by omega, by go_num, by rw [HK3.out]; exact B1.out, B2.out⟩
            case measure => simp [intOf]; omega
          · simp only [List.concat_eq_append] at *
            by_cases hk1 : q.kind = 1
            · obtain ⟨b, oo, g1, g2, g3, g4, g5⟩ := Bld.lastN (s := ⟨m ++ [q], [], 0⟩) (m := m) (p := q) hbl HPP.out HPD.out sq hfr rfl
              have hlen : ∀ w2 ty, (Builtin.len_ #[32] ty #[vl]).run Try.prog w2 = .ok (.int .i64 ((m.length : Int) + 1)) w2 := fun w2 ty => by
                have := hrl.len Try.underlying32 w2 ty
                simpa using this
              have hpb := HBD.out q (by simp)
              have HK3 : Hid (bstTo o (k + 1) = ⟨m ++ [⟨q.kind, q.n + p.n, q.signs⟩], [], 0⟩) := Lib.hid (by rw [HK2.out, keepOn_keep m q p.n hk1])
              have hml : m.length ≤ 1000000 := by simp at hfl; omega
              rw [hk1] at g2
              have G5 := Lib.hid (g5 (q.n + p.n))
              have HFR := Lib.hid hfr.ge
              clear hbl sq hfr g5 hk1
              have hs1 : IntKind.i64.wrap (m.length : Int) = (m.length : Int) := IntWalk.i64_in _ (by omega)
              have hs2 : IntKind.i64.wrap (q.n + p.n) = q.n + p.n := IntWalk.i64_in _ (by omega)
              go_wp2
              go_region_law (fail)
              all_goals
                clear hs1 hs2
                have B2 : Hid (Below w.heap.size w (w1.setCell ⟨b, oo + 1, none⟩ (.int .i64 (q.n + p.n))).drew) := Lib.hid (HBW1.out.trans (G5.out.2.below hw1 HFR.out)).drew
                go_wp2
                go_roundw
                case rel => exact ⟨k + 1, _, by omega, by go_num, by rw [HK3.out]; exact G5.out.1.drew, B2.out⟩
                case measure => simp [intOf]; omega
            · obtain ⟨b, oo, g1, g2, g3, g4, g5⟩ := Bld.lastN (s := ⟨m ++ [q], [], 0⟩) (m := m) (p := q) hbl HPP.out HPD.out sq hfr rfl
              have hlen : ∀ w2 ty, (Builtin.len_ #[32] ty #[vl]).run Try.prog w2 = .ok (.int .i64 ((m.length : Int) + 1)) w2 := fun w2 ty => by
                have := hrl.len Try.underlying32 w2 ty
                simpa using this
              have HK3 : Hid (bstTo o (k + 1) = ⟨m ++ [q] ++ [⟨1, p.n, []⟩], [], 0⟩) := Lib.hid (by rw [HK2.out, keepOn_other m q p.n hk1])
              have hml : m.length ≤ 1000000 := by simp at hfl; omega
              have e1 : (q.kind == 1) = false := by simpa using hk1
              clear g5 hk1 g3 g4
              obtain ⟨fs, hfe, hrow⟩ := hbl.row
              have HFE := Lib.hid hfe
              have HROW := Lib.hid hrow
              have n0 : ((w.heap.size, 0) : Pos) ∉ rowP (GoT.n DPart) vl := fun hm => (List.nodup_append.1 hfr.nodup).2.2 (w.heap.size, 0) (by simp [bpl]) (w.heap.size, 0) (by rw [hfe]; simp [show (w.heap.size, 0) ∈ rowP 3 vl from hm]) rfl
              have hW : Below w1.heap.size w1 (w1.alloc (.cells #[.int .i64 1, .int .i64 p.n, .slice none 0 0] 60)) := (Below.refl _ _).alloc (Nat.le_refl _) _
              have hsrc := Lib.hid (part_built w1 1 p.n _ [] [] 60 Sl.nil)
              clear hfe hrow
              go_wp2_with (at_builtin; refine wpList_append_row rfl _ _ 32 rfl Try.underlying32 hi hz0 hz1 hz2 rfl rfl rfl (HROW.out.below hW) hsrc.out (fun _ h => by cases h) ?c1 ?c2 ?c3 ?_)
              case c1 => exact le_BIG (by simp at hfl ⊢; try omega)
              case c2 => simp at hfl ⊢; try omega
              case c3 => simp; omega
              intro v1 w2 hr hw hn
              obtain ⟨a1, cc1, rfl⟩ := hr.rd.isSlice
              have q0 : w2.cell? ⟨w.heap.size, 0, none⟩ = some vl := cellw hW hw c0 n0
              have q1 : w2.frozen? ⟨w.heap.size, 0, none⟩ = false := (hw.frozen (w.heap.size, 0) (Nat.lt_of_lt_of_le hgl hW.size)).trans ((hW.frozen (p := ⟨w.heap.size, 0, none⟩) hgl).trans z0)
              obtain ⟨fx, b1, b2, b3⟩ := Bld.app (s := ⟨m ++ [q], [], 0⟩) (x := ⟨1, p.n, []⟩) hbl HPP.out HPD.out sq hfr hW HFE.out (by simpa using hr) hw (fun p hp => (hn p.1 p.2 hp).imp id (fun h => by simpa using h))
              simp only [List.length_append] at b1 b2
              have B1 := Lib.hid b1
              have B2 := Lib.hid (HBW1.out.trans (b2.below hw1 hfr.ge))
              clear b1 b2 b3 hr hw hn hbl sq hfr
              go_wp2
              go_roundw
              case rel => exact ⟨k + 1, _, by omega, by go_num, by rw [HK3.out]; exact B1.out, B2.out⟩
              case measure => simp [intOf]; omega
      · rw [kx] at q0
        have HS : Hid (bstTo o (k + 1) = (bstTo o k).puts p.signs) := Lib.hid (by rw [hst]; unfold Bst.step; rw [if_neg (by omega), if_pos kx])
        have hW : Below wr.heap.size wr (wr.alloc (.cells #[.int .i64 2, .int .i64 p.n, .slice aa p.signs.length ca] 60)) := (Below.refl _ _).alloc (Nat.le_refl _) _
        have hb2 := hb.below hW
        obtain ⟨vl, vp, fl, fq, hbl, hp_, hd_, sq, hfe0, hfr⟩ := hb2.open
        have hp : wr.cell? ⟨w.heap.size + 1, 0, none⟩ = some vp := by
          rw [← hW.cell (p := ⟨w.heap.size + 1, 0, none⟩) (hb.lt (w.heap.size + 1, 0) (by rw [hfe0]; simp [bpl]))]; exact hp_
        have z1 : wr.frozen? ⟨w.heap.size + 1, 0, none⟩ = false := hb.fr.free (w.heap.size + 1, 0) (by rw [hfe0]; simp [bpl])
        have hgl : w.heap.size + 1 < wr.heap.size := hb.lt (w.heap.size + 1, 0) (by rw [hfe0]; simp [bpl])
        subst hfe0
        have hfe : fq = rowP 1 vp := sq.flat (α := Int) rdInt_fp2
        have hrow : Row w.heap.size (wr.alloc (.cells #[.int .i64 2, .int .i64 p.n, .slice aa p.signs.length ca] 60)) vp (bstTo o k).put [] := by
          refine ⟨?_, ?_, fun _ h => (by cases h)⟩
          · rw [List.append_nil]; show Sl BIG _ vp _ (rowP 1 vp); rw [← hfe]; exact sq
          · have := hfr.right.right; rw [hfe] at this; exact this
        have n1_ : ((w.heap.size + 1, 0) : Pos) ∉ rowP 1 vp := fun hm => (List.nodup_append.1 hfr.nodup).2.2 (w.heap.size + 1, 0) (by simp [bpl]) (w.heap.size + 1, 0) (by rw [hfe]; simp [hm]) rfl
        have HFE := Lib.hid hfe
        have HROW := Lib.hid hrow
        have HSRC := Lib.hid (Src.ints2 (r_signs.below hW))
        have HD := Lib.hid hd_
        clear hfe hrow hd_ hp_ hb hb2 hst hpo kx inv n1
        go_wp2_with (at_builtin; refine wpList_append_row rfl _ _ 23 rfl Try.underlying23 hj jz0 jz1 jz2 rfl rfl rfl HROW.out HSRC.out (fun _ h => by cases h) ?c1 ?c2 ?c3 ?_)
        case c1 => exact le_BIG (by omega)
        case c2 => omega
        case c3 => first | omega | (simp; omega)
        intro v' w1 hr hw hn
        obtain ⟨a1, cc1, rfl⟩ := hr.rd.isSlice
        have q0' : w1.cell? ⟨w.heap.size + 1, 0, none⟩ = some vp := cellw hW hw hp n1_
        have q1' : w1.frozen? ⟨w.heap.size + 1, 0, none⟩ = false := (hw.frozen (w.heap.size + 1, 0) (by simp; omega)).trans ((hW.frozen (p := ⟨w.heap.size + 1, 0, none⟩) hgl).trans z1)
        obtain ⟨fx, x1, x2, x3⟩ := Bld.puts hbl HD.out sq hfr hr hw (fun p hp => (hn p.1 p.2 hp).imp id (fun h => by simpa using h)) HFE.out
        simp only [List.length_append] at x1 x2
        have X1 := Lib.hid x1
        have X2 := Lib.hid ((hbw.trans (hW.mono hsz)).trans (x2.below (by simp; omega) hfr.ge))
        clear hr hw hn x1 x2 x3 hbl sq hfr
        go_wp2
        go_roundw
        case rel => exact ⟨k + 1, _, by omega, by go_num, by rw [HS.out]; exact X1.out, X2.out⟩
        case measure => simp [intOf]; omega
      · rw [kx] at q0
        have HS : Hid (bstTo o (k + 1) = (bstTo o k).drops p.n) := Lib.hid (by rw [hst]; unfold Bst.step; rw [if_neg (by omega), if_neg (by omega)])
        have HD := Lib.hid (hb.dropd p.n)
        obtain ⟨vl, vp, fl, fq, hbl, hp_, hd_, sq, hfe0, hfr⟩ := hb.open
        have hd : wr.cell? ⟨w.heap.size + 2, 0, none⟩ = some (.int .i64 (bstTo o k).drop) := hd_
        have z2 : wr.frozen? ⟨w.heap.size + 2, 0, none⟩ = false := hfr.free (w.heap.size + 2, 0) (by rw [hfe0]; simp [bpl])
        have zl : w.heap.size + 2 < wr.heap.size := hb.lt (w.heap.size + 2, 0) (by rw [hfe0]; simp [bpl])
        have X2 := Lib.hid (hbw.trans (HD.out.2.below hsz hfr.ge))
        clear hp_ hd_ hb hbl sq hfr hst hpo kx inv n3
        go_wp2
        go_roundw
        case rel => exact ⟨k + 1, _, by omega, by go_num, by rw [HS.out]; exact HD.out.1.below ((Below.refl _ _).alloc (Nat.le_refl _) _), X2.out.alloc (by simp; omega) _⟩
        case measure => simp [intOf]; omega
    · obtain rfl : k = o.length := by omega
      have HB := Lib.hid hb
      go_wp2_with fail
      refine (impl_flush_c w.heap.size w.heap.size (w.heap.size + 1) (w.heap.size + 2) (bstTo o o.length) fp _ hb hsz (by omega) i3 (by omega)).mono ?_
      intro e w1 hstep
      have HBW1 : Hid (Below w.heap.size w w1) := Lib.hid (hstep.below HB.out hbw hsz)
      obtain ⟨rfl, fp', hb', hw', hn'⟩ := hstep
      obtain ⟨vl, vp, fl, fq, hbl, hp_, hd_, sq, rfl, hfr⟩ := hb'.open
      have c0 : w1.cell? ⟨w.heap.size, 0, none⟩ = some vl := hbl.cl
      have HO : Hid (OwnS w.heap.size w1 vl (bstTo o o.length).flush.list) := Lib.hid ⟨fl, hbl.sl, hbl.fr.right⟩
      clear hp_ hd_ hw' hn' hb' hb
      go_wp2
      go_ret
      rw [HV.out]
      exact ⟨_, rfl, HO.out, HBW1.out⟩
theorem impl_OpNorm_c (v : Value) (o : List DPart) (w : World) (h : RdS w v o) : Calls Try.prog 43 #[v] w (GivesS w (opNorm o)) := by
  by_cases hp : opOk o = true
  · obtain ⟨hall, h600, _, _⟩ := opOk_iff'.1 hp
    have HALL := Lib.hid hall
    have HV : Hid (opNorm o = normal o) := Lib.hid (by unfold opNorm; rw [if_pos hp])
    clear hall
    go_enter Try.func43, Try.ntmps43
    go_wp2_with fail
    refine (impl_OpOk_c _ o _ (h.below blw)).mono ?_
    rintro e w1 ⟨rfl, hb1⟩
    have s1 := hb1.size
    (try simp at s1)
    obtain ⟨hc1, hf1⟩ := bcell hb1
    clear hc1 hf1
    go_wp2_with fail
    refine (impl_normal_c _ o _ (h.below blw) HALL.out (by omega)).mono ?_
    rintro e w2 ⟨v2, rfl, ho, hb2⟩
    have HO := Lib.hid (ho.mono (B' := w.heap.size) s1)
    clear ho
    go_wp2
    go_ret
    rw [HV.out]
    exact ⟨_, rfl, HO.out, blw⟩
  · have HV := Lib.hid (opNorm_no hp)
    have hp : opOk o = false := by simpa using hp
    go_enter Try.func43, Try.ntmps43
    go_wp2_with fail
    refine (impl_OpOk_c _ o _ (h.below blw)).mono ?_
    rintro e w1 ⟨rfl, hb1⟩
    have s1 := hb1.size
    (try simp at s1)
    obtain ⟨hc1, hf1⟩ := bcell hb1
    go_wp2
    go_ret
    rw [HV.out]
    exact ⟨_, rfl, OwnS.nil, blw⟩
end Go.Proofs.Ytiahgjnpinjblaa

namespace Go.Proofs.Ytiahgjnpinjblaa
open Go.RowKit
def entryOk (e : DEntry) : Bool := within e.client 1 8 && within e.seq 1 1000000000 && isNorm e.o
theorem isNorm_yes {o : List DPart} (h : opOk o = true) : isNorm o = decide (opNorm o = o) := by simp [isNorm, h]
theorem isNorm_no {o : List DPart} (h : opOk o = false) : isNorm o = false := by simp [isNorm, h]
theorem isNorm_iff {o : List DPart} : isNorm o = true ↔ opOk o = true ∧ opNorm o = o := by simp [isNorm]
theorem spec_IsNorm_c (v : Value) (o : List DPart) (w : World) (h : RdS w v o) : Calls Try.prog 79 #[v] w (Tells w (.bool (isNorm o))) := by
  by_cases h1 : opOk o = true
  · have HV := Lib.hid (isNorm_yes h1)
    go_enter Try.func79, Try.ntmps79
    go_wp2_with fail
    refine (spec_OpOk_c _ o _ (h.below blw)).mono ?_
    rintro e w1 ⟨rfl, hb1⟩
    have s1 := hb1.size
    (try simp at s1)
    obtain ⟨hc1, hf1⟩ := bcell hb1
    go_wp2_with fail
    refine (spec_OpNorm_c _ o _ (h.below blw)).mono ?_
    rintro e w2 ⟨v2, rfl, ho, hb2⟩
    have s2 := hb2.size
    go_wp2_with fail
    refine (spec_OpSame_c _ _ _ _ _ (ho.rd.below blw) (h.below blw)).mono ?_
    rintro e w3 ⟨rfl, hb3⟩
    have s3 := hb3.size
    (try simp at s3)
    obtain ⟨hc3, hf3⟩ := bcell hb3
    go_wp2
    go_ret
    exact ⟨ret_bool (by rw [HV.out]), blw⟩
  · have h1 : opOk o = false := by simpa using h1
    have HV := Lib.hid (isNorm_no h1)
    go_enter Try.func79, Try.ntmps79
    go_wp2_with fail
    refine (spec_OpOk_c _ o _ (h.below blw)).mono ?_
    rintro e w1 ⟨rfl, hb1⟩
    have s1 := hb1.size
    (try simp at s1)
    obtain ⟨hc1, hf1⟩ := bcell hb1
    go_wp2
    go_ret
    exact ⟨ret_bool HV.out.symm, blw⟩
set_option maxRecDepth 100000 in
theorem spec_EntryOk_c (e : DEntry) (v_o : Value) (w : World) (h_o : RdS w v_o e.o) : Calls Try.prog 66 #[.agg #[.int .i64 e.client, .int .i64 e.seq, v_o]] w (Tells w (.bool (entryOk e))) := by
  by_cases h1 : within e.client 1 8 = true
  rotate_left
  · have h1 : within e.client 1 8 = false := by simpa using h1
    have HV : Hid (entryOk e = false) := Lib.hid (by simp [entryOk, h1])
    go_enter Try.func66, Try.ntmps66
    go_wp2_with fail
    refine (spec_within_c _ _ _ _).mono ?_
    rintro e w1 ⟨rfl, hb1⟩
    have s1 := hb1.size
    (try simp at s1)
    obtain ⟨hc1, hf1⟩ := bcell hb1
    have z1 : w.heap.size < w1.heap.size := by omega
    go_wp2
    go_ret
    exact ⟨ret_bool HV.out.symm, blw⟩
  by_cases h2 : within e.seq 1 1000000000 = true
  rotate_left
  · have h2 : within e.seq 1 1000000000 = false := by simpa using h2
    have HV : Hid (entryOk e = false) := Lib.hid (by simp [entryOk, h2])
    go_enter Try.func66, Try.ntmps66
    go_wp2_with fail
    refine (spec_within_c _ _ _ _).mono ?_
    rintro e w1 ⟨rfl, hb1⟩
    have s1 := hb1.size
    (try simp at s1)
    obtain ⟨hc1, hf1⟩ := bcell hb1
    have z1 : w.heap.size < w1.heap.size := by omega
    go_wp2_with fail
    refine (spec_within_c _ _ _ _).mono ?_
    rintro e w2 ⟨rfl, hb2⟩
    have s2 := hb2.size
    (try simp at s2)
    obtain ⟨hc2, hf2⟩ := bcell hb2
    have z2 : w.heap.size < w2.heap.size := by omega
    go_wp2
    go_ret
    exact ⟨ret_bool HV.out.symm, blw⟩
  have HV : Hid (entryOk e = isNorm e.o) := Lib.hid (by simp [entryOk, h1, h2])
  go_enter Try.func66, Try.ntmps66
  go_wp2_with fail
  refine (spec_within_c _ _ _ _).mono ?_
  rintro e w1 ⟨rfl, hb1⟩
  have s1 := hb1.size
  (try simp at s1)
  obtain ⟨hc1, hf1⟩ := bcell hb1
  have z1 : w.heap.size < w1.heap.size := by omega
  go_wp2_with fail
  refine (spec_within_c _ _ _ _).mono ?_
  rintro e w2 ⟨rfl, hb2⟩
  have s2 := hb2.size
  (try simp at s2)
  obtain ⟨hc2, hf2⟩ := bcell hb2
  have z2 : w.heap.size < w2.heap.size := by omega
  go_wp2_with fail
  refine (spec_IsNorm_c _ e.o _ (h_o.below blw)).mono ?_
  rintro e w3 ⟨rfl, hb3⟩
  have s3 := hb3.size
  (try simp at s3)
  obtain ⟨hc3, hf3⟩ := bcell hb3
  go_wp2
  go_ret
  exact ⟨ret_bool HV.out.symm, blw⟩
theorem impl_IsNorm_c (v : Value) (o : List DPart) (w : World) (h : RdS w v o) : Calls Try.prog 56 #[v] w (Tells w (.bool (isNorm o))) := by
  by_cases h1 : opOk o = true
  · have HV := Lib.hid (isNorm_yes h1)
    go_enter Try.func56, Try.ntmps56
    go_wp2_with fail
    refine (impl_OpOk_c _ o _ (h.below blw)).mono ?_
    rintro e w1 ⟨rfl, hb1⟩
    have s1 := hb1.size
    (try simp at s1)
    obtain ⟨hc1, hf1⟩ := bcell hb1
    go_wp2_with fail
    refine (impl_OpNorm_c _ o _ (h.below blw)).mono ?_
    rintro e w2 ⟨v2, rfl, ho, hb2⟩
    have s2 := hb2.size
    go_wp2_with fail
    refine (impl_OpSame_c _ _ _ _ _ (h.below blw) (ho.rd.below blw)).mono ?_
    rintro e w3 ⟨rfl, hb3⟩
    have s3 := hb3.size
    (try simp at s3)
    obtain ⟨hc3, hf3⟩ := bcell hb3
    go_wp2
    go_ret
    exact ⟨ret_bool (by rw [HV.out]; exact decide_eq_decide.2 eq_comm), blw⟩
  · have h1 : opOk o = false := by simpa using h1
    have HV := Lib.hid (isNorm_no h1)
    go_enter Try.func56, Try.ntmps56
    go_wp2_with fail
    refine (impl_OpOk_c _ o _ (h.below blw)).mono ?_
    rintro e w1 ⟨rfl, hb1⟩
    have s1 := hb1.size
    (try simp at s1)
    obtain ⟨hc1, hf1⟩ := bcell hb1
    go_wp2
    go_ret
    exact ⟨ret_bool HV.out.symm, blw⟩
set_option maxRecDepth 100000 in
theorem impl_EntryOk_c (e : DEntry) (v_o : Value) (w : World) (h_o : RdS w v_o e.o) : Calls Try.prog 38 #[.agg #[.int .i64 e.client, .int .i64 e.seq, v_o]] w (Tells w (.bool (entryOk e))) := by
  by_cases h1 : within e.client 1 8 = true
  rotate_left
  · have h1 : within e.client 1 8 = false := by simpa using h1
    have HV : Hid (entryOk e = false) := Lib.hid (by simp [entryOk, h1])
    go_enter Try.func38, Try.ntmps38
    go_wp2_with fail
    refine (impl_within_c _ _ _ _).mono ?_
    rintro e w1 ⟨rfl, hb1⟩
    have s1 := hb1.size
    (try simp at s1)
    obtain ⟨hc1, hf1⟩ := bcell hb1
    have z1 : w.heap.size < w1.heap.size := by omega
    go_wp2
    go_ret
    exact ⟨ret_bool HV.out.symm, blw⟩
  by_cases h2 : within e.seq 1 1000000000 = true
  rotate_left
  · have h2 : within e.seq 1 1000000000 = false := by simpa using h2
    have HV : Hid (entryOk e = false) := Lib.hid (by simp [entryOk, h2])
    go_enter Try.func38, Try.ntmps38
    go_wp2_with fail
    refine (impl_within_c _ _ _ _).mono ?_
    rintro e w1 ⟨rfl, hb1⟩
    have s1 := hb1.size
    (try simp at s1)
    obtain ⟨hc1, hf1⟩ := bcell hb1
    have z1 : w.heap.size < w1.heap.size := by omega
    go_wp2_with fail
    refine (impl_within_c _ _ _ _).mono ?_
    rintro e w2 ⟨rfl, hb2⟩
    have s2 := hb2.size
    (try simp at s2)
    obtain ⟨hc2, hf2⟩ := bcell hb2
    have z2 : w.heap.size < w2.heap.size := by omega
    go_wp2
    go_ret
    exact ⟨ret_bool HV.out.symm, blw⟩
  have HV : Hid (entryOk e = isNorm e.o) := Lib.hid (by simp [entryOk, h1, h2])
  go_enter Try.func38, Try.ntmps38
  go_wp2_with fail
  refine (impl_within_c _ _ _ _).mono ?_
  rintro e w1 ⟨rfl, hb1⟩
  have s1 := hb1.size
  (try simp at s1)
  obtain ⟨hc1, hf1⟩ := bcell hb1
  have z1 : w.heap.size < w1.heap.size := by omega
  go_wp2_with fail
  refine (impl_within_c _ _ _ _).mono ?_
  rintro e w2 ⟨rfl, hb2⟩
  have s2 := hb2.size
  (try simp at s2)
  obtain ⟨hc2, hf2⟩ := bcell hb2
  have z2 : w.heap.size < w2.heap.size := by omega
  go_wp2_with fail
  refine (impl_IsNorm_c _ e.o _ (h_o.below blw)).mono ?_
  rintro e w3 ⟨rfl, hb3⟩
  have s3 := hb3.size
  (try simp at s3)
  obtain ⟨hc3, hf3⟩ := bcell hb3
  go_wp2
  go_ret
  exact ⟨ret_bool HV.out.symm, blw⟩
end Go.Proofs.Ytiahgjnpinjblaa

