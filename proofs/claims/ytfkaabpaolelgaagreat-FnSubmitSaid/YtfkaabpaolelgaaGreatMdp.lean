/- Drawn documents (plain), and a document's block beside a cursor. -/
import Derived.Test.YtfkaabpaolelgaaGreatDw
import Derived.Test.YtfkaabpaolelgaaGreatDcm
import Derived.Test.YtfkaabpaolelgaaGreatSbh
import Derived.Test.YtfkaabpaolelgaaGreatRbs
namespace Go.Proofs.YtfkaabpaolelgaaGreat
open Go.RowKit
/-- a document as it is drawn -/
structure DrD (d : DDoc) : Prop where
  ok : docOk d = true
  cl : ∀ s ∈ d.seen, s.client ≤ 3
theorem DrD.name {d : DDoc} (h : DrD d) : d.name.size ≤ BIG := by
  have h1 := (docOk_iff.1 h.ok).name
  simp only [nameOk, Bool.and_eq_true] at h1
  have := (within_iff.1 h1.2).2
  exact le_BIG (by omega)
theorem DrD.new {nm : ByteArray} {t : List Int} (hn : nameOk nm = true) (ht : t.length ≤ 8) (hs : signsOk t = true) : DrD ⟨nm, 0, t, [], []⟩ :=
  ⟨docOk_iff.2 ⟨hn, Int.le_refl _, by show (0 : Int) ≤ 999999000; decide, by simp [textOk, hs]; omega, Nat.zero_le _, rfl, ⟨t, rfl⟩, rfl⟩, fun _ h => by cases h⟩
theorem DrD.step {d : DDoc} {client base : Int} {o : List DPart} (h : DrD d) (h3 : client ≤ 3) (hc : (submit d client ((seenOf d client).1.seq + 1) base o).2.2 = 0) : DrD (submit d client ((seenOf d client).1.seq + 1) base o).1 := by
  by_cases g : docOk d = true ∧ within client 1 8 = true ∧ within ((seenOf d client).1.seq + 1) 1 1000000000 = true ∧ opOk o = true
  · have n1 : ¬ (seenOf d client).1.seq = (seenOf d client).1.seq + 1 := by omega
    by_cases g3 : (rebase d base o).2 = 0
    · by_cases g4 : headRev d < 999999000
      · rw [submit_yes g n1 rfl g3 g4]
        obtain ⟨r1, r2, r3⟩ := rebase_ok g3
        obtain ⟨c1, _, _, c4, _⟩ := commit_ok (client := client) (seq := (seenOf d client).1.seq + 1) h.ok g.2.1 g.2.2.1 r2 r3 g4
        refine ⟨c1, fun s hs => ?_⟩
        simp only at hs
        rw [c4] at hs
        rcases seenSet_mem hs with rfl | hs
        · exact h3
        · exact h.cl s hs
      · rw [submit_large g n1 rfl g3 g4] at hc
        exact absurd hc (by decide)
    · rw [submit_code g n1 rfl g3] at hc
      exact absurd hc g3
  · rw [submit_no g] at hc
    exact absurd hc (by decide)
/-- the document in its block b7, beside the cursor and the result's block -/
structure DW (w0 : World) (bc : Nat) (vb : Value) (bs : List DByte) (w wr : World) (b7 : Nat) (d : DDoc) (vt vl vs : Value) : Prop where
  cu : CuOut w0 bc vb bs w wr
  lc : bc < w.heap.size
  x6 : Bx wr w.heap.size [.string ⟨#[]⟩, .int .i64 0, .slice none 0 0, .slice none 0 0, .slice none 0 0]
  x7 : Bx wr b7 [.string d.name, .int .i64 d.from_, vt, vl, vs]
  lt : w.heap.size < b7
  rd : ∃ f1 f2 f3, Sl BIG wr vt d.text f1 ∧ Sl BIG wr vl d.list f2 ∧ Sl BIG wr vs d.seen f3 ∧ ∀ p ∈ f1 ++ (f2 ++ f3), w.heap.size < p.1 ∧ p.1 ≠ b7
  ok : DrD d
section
variable {w0 w wr w' : World} {bc b7 : Nat} {vb vt vl vs : Value} {bs : List DByte} {d : DDoc}
theorem DW.t (h : DW w0 bc vb bs w wr b7 d vt vl vs) : RdS wr vt d.text := let ⟨f1, _, _, a, _⟩ := h.rd; ⟨f1, a⟩
theorem DW.l (h : DW w0 bc vb bs w wr b7 d vt vl vs) : RdS wr vl d.list := let ⟨_, f2, _, _, a, _⟩ := h.rd; ⟨f2, a⟩
theorem DW.s (h : DW w0 bc vb bs w wr b7 d vt vl vs) : RdS wr vs d.seen := let ⟨_, _, f3, _, _, a, _⟩ := h.rd; ⟨f3, a⟩
theorem DW.below (h : DW w0 bc vb bs w wr b7 d vt vl vs) (hb : Below wr.heap.size wr w') : DW w0 bc vb bs w w' b7 d vt vl vs :=
  let ⟨f1, f2, f3, a1, a2, a3, a4⟩ := h.rd
  ⟨⟨h.cu.1.below hb, h.cu.2.trans (Wr.of_below hb)⟩, h.lc, h.x6.at hb, h.x7.at hb, h.lt, ⟨f1, f2, f3, a1.belowW hb, a2.belowW hb, a3.belowW hb, a4⟩, h.ok⟩
theorem DW.draw (h : DW w0 bc vb bs w wr b7 d vt vl vs) (hc : CuOut w0 bc vb bs wr w') : DW w0 bc vb bs w w' b7 d vt vl vs := by
  obtain ⟨f1, f2, f3, a1, a2, a3, a4⟩ := h.rd
  have hq : ∀ p ∈ [(bc, 1), (bc, 2)], p.1 = bc := fun p hp => by simp only [List.mem_cons, List.not_mem_nil, or_false] at hp; rcases hp with rfl | rfl <;> rfl
  have lc := h.lc
  have lt := h.lt
  refine ⟨h.cu.trans hc, h.lc, h.x6.wr hc.2 fun p hp => by have := hq p hp; omega, h.x7.wr hc.2 fun p hp => by have := hq p hp; omega, h.lt, ⟨f1, f2, f3, a1.wr hc.2 fun p hp hm => ?_, a2.wr hc.2 fun p hp hm => ?_, a3.wr hc.2 fun p hp hm => ?_, a4⟩, h.ok⟩
  · have := a4 p (by simp [hp]); have := hq p hm; omega
  · have := a4 p (by simp [hp]); have := hq p hm; omega
  · have := a4 p (by simp [hp]); have := hq p hm; omega
/-- another document takes its place -/
theorem DW.put (h : DW w0 bc vb bs w wr b7 d vt vl vs) {x : DDoc} {ut ul us : Value} {f1 f2 f3 : List Pos} (hx : DrD x) (a1 : Sl BIG wr ut x.text f1) (a2 : Sl BIG wr ul x.list f2) (a3 : Sl BIG wr us x.seen f3) (a4 : ∀ p ∈ f1 ++ (f2 ++ f3), w.heap.size < p.1 ∧ p.1 ≠ b7) :
    DW w0 bc vb bs w (((((wr.setCell ⟨b7, 0, none⟩ (.string x.name)).setCell ⟨b7, 1, none⟩ (.int .i64 x.from_)).setCell ⟨b7, 2, none⟩ ut).setCell ⟨b7, 3, none⟩ ul).setCell ⟨b7, 4, none⟩ us) b7 x ut ul us := by
  have hw : Wr [(b7, 0), (b7, 1), (b7, 2), (b7, 3), (b7, 4)] wr (((((wr.setCell ⟨b7, 0, none⟩ (.string x.name)).setCell ⟨b7, 1, none⟩ (.int .i64 x.from_)).setCell ⟨b7, 2, none⟩ ut).setCell ⟨b7, 3, none⟩ ul).setCell ⟨b7, 4, none⟩ us) :=
    (((((Wr.refl _ wr).put (b := b7) (o := 0) (by simp) _).put (b := b7) (o := 1) (by simp) _).put (b := b7) (o := 2) (by simp) _).put (b := b7) (o := 3) (by simp) _).put (b := b7) (o := 4) (by simp) _
  have hq : ∀ p ∈ [(b7, 0), (b7, 1), (b7, 2), (b7, 3), (b7, 4)], p.1 = b7 := fun p hp => by simp only [List.mem_cons, List.not_mem_nil, or_false] at hp; rcases hp with rfl | rfl | rfl | rfl | rfl <;> rfl
  have lt := h.lt
  have lc := h.lc
  have lo := h.cu.1.o
  refine ⟨⟨h.cu.1.wr hw fun p hp => by have := hq p hp; omega, wr_cu h.cu.2 hw fun p hp => by have := hq p hp; omega⟩, lc, h.x6.wr hw fun p hp => by have := hq p hp; omega,
    ((((h.x7.set 0 (.string x.name)).set 1 (.int .i64 x.from_)).set 2 ut).set 3 ul).set 4 us, lt, ⟨f1, f2, f3, a1.wr hw fun p hp hm => ?_, a2.wr hw fun p hp hm => ?_, a3.wr hw fun p hp hm => ?_, a4⟩, hx⟩
  · have := a4 p (by simp [hp]); have := hq p hm; omega
  · have := a4 p (by simp [hp]); have := hq p hm; omega
  · have := a4 p (by simp [hp]); have := hq p hm; omega
end
end Go.Proofs.YtfkaabpaolelgaaGreat
