/- Builders of operations: a row of parts that grows, signs that are put, a number of drops; kept in cells of one's own. -/
import Derived.Test.YtihbmefidbmmdaaRow
import Derived.Test.YtihbmefidbmmdaaOut
import Derived.Test.YtihbmefidbmmdaaCut
import Derived.Test.YtihbmefidbmmdaaPl
namespace Go.Proofs.Ytihbmefidbmmdaa
open Go.RowKit
/-- what a builder holds -/
structure Bst where
  list : List DPart
  put : List Int
  drop : Int
def Bst.flush (s : Bst) : Bst := ⟨s.list ++ (if s.put = [] then [] else [⟨2, 0, s.put⟩]) ++ (if 0 < s.drop then [⟨3, s.drop, []⟩] else []), [], 0⟩
/-- a keep at the end of a list -/
def keepOn (l : List DPart) (n : Int) : List DPart := match l.getLast? with
  | some p => if p.kind = 1 then l.dropLast ++ [⟨p.kind, p.n + n, p.signs⟩] else l ++ [⟨1, n, []⟩]
  | none => l ++ [⟨1, n, []⟩]
def Bst.keep (s : Bst) (n : Int) : Bst := if n = 0 then s else ⟨keepOn s.flush.list n, [], 0⟩
def Bst.puts (s : Bst) (l : List Int) : Bst := ⟨s.list, s.put ++ l, s.drop⟩
def Bst.drops (s : Bst) (n : Int) : Bst := ⟨s.list, s.put, s.drop + n⟩
def Bst.step (s : Bst) (p : DPart) : Bst := if p.kind = 1 then s.keep p.n else if p.kind = 2 then s.puts p.signs else s.drops p.n
def normal (o : List DPart) : List DPart := (o.foldl Bst.step ⟨[], [], 0⟩).flush.list
def opNorm (o : List DPart) : List DPart := if opOk o = true then normal o else []
def isNorm (o : List DPart) : Bool := opOk o && decide (opNorm o = o)

/-- the places of the three cells -/
def bpl (pl pp pd : Pos) : List Pos := [pl, pp, pd]
/-- the list cell holds vl, which reads as L out of fl; the two other cells are there; all is one's own, no place met twice -/
structure BL (B : Nat) (w : World) (pl pp pd : Pos) (vl : Value) (L : List DPart) (fl : List Pos) : Prop where
  cl : w.cell? ⟨pl.1, pl.2, none⟩ = some vl
  cp : (w.cell? ⟨pp.1, pp.2, none⟩).isSome = true
  cd : (w.cell? ⟨pd.1, pd.2, none⟩).isSome = true
  sl : Sl BIG w vl L fl
  fr : Fresh B w (bpl pl pp pd ++ fl)
theorem BL.live {B : Nat} {w : World} {pl pp pd : Pos} {vl : Value} {L : List DPart} {fl : List Pos} (h : BL B w pl pp pd vl L fl) : Live w (bpl pl pp pd ++ fl) := by
  refine Live.append.2 ⟨fun p hp => ?_, h.sl.live⟩
  simp only [bpl, List.mem_cons, List.not_mem_nil, or_false] at hp
  rcases hp with rfl | rfl | rfl
  · rw [h.cl]; rfl
  · exact h.cp
  · exact h.cd
theorem BL.below {B : Nat} {w w' : World} {pl pp pd : Pos} {vl : Value} {L : List DPart} {fl : List Pos} (h : BL B w pl pp pd vl L fl) (hb : Below w.heap.size w w') : BL B w' pl pp pd vl L fl := by
  have hl := Live.lt h.live
  have hc : ∀ p ∈ bpl pl pp pd, w'.cell? ⟨p.1, p.2, none⟩ = w.cell? ⟨p.1, p.2, none⟩ := fun p hp => hb.cell (p := ⟨p.1, p.2, none⟩) (hl p (List.mem_append.2 (.inl hp)))
  exact ⟨(hc pl (by simp [bpl])).trans h.cl, by rw [hc pp (by simp [bpl])]; exact h.cp, by rw [hc pd (by simp [bpl])]; exact h.cd, h.sl.belowW hb, h.fr.belowL hb hl⟩
/-- a part more -/
theorem BL.app {B : Nat} {w W w1 : World} {pl pp pd : Pos} {vl v' : Value} {L : List DPart} {fl fs fx : List Pos} {x : DPart} (h : BL B w pl pp pd vl L fl) (hb : Below w.heap.size w W) (hx : Fresh B W (bpl pl pp pd ++ (fl ++ fx))) (hxl : Live W fx)
    (he : fl = rowP 3 vl ++ fs) (hr : Row B w1 v' (L ++ [x]) (fs ++ fx)) (hw : Wr (rowP 3 vl) W w1) (hn : ∀ p ∈ rowP 3 v', p ∈ rowP 3 vl ∨ W.heap.size ≤ p.1) :
    ∃ fl', BL B (w1.setCell ⟨pl.1, pl.2, none⟩ v') pl pp pd v' (L ++ [x]) fl' ∧ Wr (bpl pl pp pd ++ fl) W (w1.setCell ⟨pl.1, pl.2, none⟩ v') ∧ (∀ p ∈ fl', p ∈ fl ∨ p ∈ fx ∨ W.heap.size ≤ p.1) ∧
      (w1.setCell ⟨pl.1, pl.2, none⟩ v').cell? ⟨pp.1, pp.2, none⟩ = w.cell? ⟨pp.1, pp.2, none⟩ ∧ (w1.setCell ⟨pl.1, pl.2, none⟩ v').cell? ⟨pd.1, pd.2, none⟩ = w.cell? ⟨pd.1, pd.2, none⟩ := by
  subst he
  have hlw := Live.lt h.live
  have hlW : ∀ p ∈ bpl pl pp pd ++ (rowP 3 vl ++ fs), p.1 < W.heap.size := fun p hp => Nat.lt_of_lt_of_le (hlw p hp) hb.size
  have nd := hx.nodup
  obtain ⟨n3, nf, dis⟩ := List.nodup_append.1 nd
  have hout : ∀ p ∈ bpl pl pp pd, p ∉ rowP 3 vl := fun p hp hq => dis p hp p (by simp [hq]) rfl
  have hpl := hout pl (by simp [bpl])
  have hpp := hout pp (by simp [bpl])
  have hpd := hout pd (by simp [bpl])
  have c1 : ∀ p ∈ bpl pl pp pd, w1.cell? ⟨p.1, p.2, none⟩ = w.cell? ⟨p.1, p.2, none⟩ := fun p hp =>
    (hw.cell p (hlW p (List.mem_append.2 (.inl hp))) (hout p hp)).trans (hb.cell (p := ⟨p.1, p.2, none⟩) (hlw p (List.mem_append.2 (.inl hp))))
  have e1 : pl ≠ pp := by intro e; simp only [bpl, List.nodup_cons, List.mem_cons, not_or] at n3; exact n3.1.1 e
  have e2 : pl ≠ pd := by intro e; simp only [bpl, List.nodup_cons, List.mem_cons, not_or] at n3; exact n3.1.2.1 e
  have ot : ∀ p : Pos, p ≠ pl → (w1.setCell ⟨pl.1, pl.2, none⟩ v').cell? ⟨p.1, p.2, none⟩ = w1.cell? ⟨p.1, p.2, none⟩ := by
    intro p hp
    rw [cell_setCell, if_neg]
    rintro ⟨q1, q2⟩
    exact hp (Prod.ext q1 q2)
  have hnew : ∀ p ∈ rowP 3 v' ++ (fs ++ fx), p ≠ pl := by
    intro p hp e
    subst e
    rcases List.mem_append.1 hp with hp | hp
    · rcases hn p hp with hp | hp
      · exact hpl hp
      · have := hlW p (by simp [bpl]); omega
    · exact dis p (by simp [bpl]) p (by rcases List.mem_append.1 hp with hp | hp <;> simp [hp]) rfl
  have hcl : w1.cell? ⟨pl.1, pl.2, none⟩ = some vl := (c1 pl (by simp [bpl])).trans h.cl
  refine ⟨rowP 3 v' ++ (fs ++ fx), ⟨?_, ?_, ?_, ?_, ?_⟩, ?_, ?_, ?_, ?_⟩
  · exact World.cell?_setCell_same w1 ⟨pl.1, pl.2, none⟩ v' hcl
  · rw [ot pp (Ne.symm e1), c1 pp (by simp [bpl])]; exact h.cp
  · rw [ot pd (Ne.symm e2), c1 pd (by simp [bpl])]; exact h.cd
  · exact hr.1.keep fun p hp => ot p (hnew p hp)
  · have f3 : Fresh B w1 (bpl pl pp pd) := hw.fresh (fun p hp => by
      have := h.live p (List.mem_append.2 (.inl hp))
      rw [hb.cell (p := ⟨p.1, p.2, none⟩) (hlw p (List.mem_append.2 (.inl hp)))]
      exact this) hx.left
    have f4 : Fresh B w1 (fs ++ fx) := by
      refine hw.fresh (Live.append.2 ⟨fun p hp => ?_, hxl⟩) ⟨?_, ?_, ?_⟩
      · have := h.sl.live p (List.mem_append.2 (.inr hp))
        rw [hb.cell (p := ⟨p.1, p.2, none⟩) (hlw p (by simp [hp]))]
        exact this
      · rw [List.append_assoc] at nf
        exact (List.nodup_append.1 nf).2.1
      · exact fun p hp => hx.ge p (by rcases List.mem_append.1 hp with hp | hp <;> simp [hp])
      · exact fun p hp => hx.free p (by rcases List.mem_append.1 hp with hp | hp <;> simp [hp])
    refine ((f3.join (hr.2.1.join f4 fun p hp q hq e => hr.2.2 q hq (e ▸ hp)) fun p hp q hq e => ?_).put _ _)
    subst e
    rcases List.mem_append.1 hq with hq | hq
    · rcases hn p hq with hq | hq
      · exact hout p hp hq
      · have := hlW p (List.mem_append.2 (.inl hp)); omega
    · exact dis p hp p (by rcases List.mem_append.1 hq with hq | hq <;> simp [hq]) rfl
  · exact (hw.sub fun p hp => by simp [hp]).put (by simp [bpl]) _
  · intro p hp
    rcases List.mem_append.1 hp with hp | hp
    · rcases hn p hp with hp | hp
      · exact .inl (List.mem_append.2 (.inl hp))
      · exact .inr (.inr hp)
    · rcases List.mem_append.1 hp with hp | hp
      · exact .inl (List.mem_append.2 (.inr hp))
      · exact .inr (.inl hp)
  · rw [ot pp (Ne.symm e1), c1 pp (by simp [bpl])]
  · rw [ot pd (Ne.symm e2), c1 pd (by simp [bpl])]
end Go.Proofs.Ytihbmefidbmmdaa
