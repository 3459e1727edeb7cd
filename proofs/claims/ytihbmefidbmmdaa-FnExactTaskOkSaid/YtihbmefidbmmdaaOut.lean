/- What calls give back in memory of one's own; how such memory is kept from world to world. -/
import Derived.Test.YtihbmefidbmmdaaMk0
import Derived.Test.YtihbmefidbmmdaaSz0
namespace Go.Proofs.Ytihbmefidbmmdaa
open Go.RowKit
/-- at the places fp w reads, and is frozen, as a was -/
def Kept (fp : List Pos) (a w : World) : Prop := ∀ p ∈ fp, w.cell? ⟨p.1, p.2, none⟩ = a.cell? ⟨p.1, p.2, none⟩ ∧ w.frozen? ⟨p.1, p.2, none⟩ = a.frozen? ⟨p.1, p.2, none⟩
theorem Kept.refl (fp : List Pos) (a : World) : Kept fp a a := fun _ _ => ⟨rfl, rfl⟩
theorem Kept.below {fp : List Pos} {a w w' : World} {C : Nat} (h : Kept fp a w) (hb : Below C w w') (hC : ∀ p ∈ fp, p.1 < C) : Kept fp a w' := fun p hp =>
  ⟨(hb.cell (p := ⟨p.1, p.2, none⟩) (hC p hp)).trans (h p hp).1, (hb.frozen (p := ⟨p.1, p.2, none⟩) (hC p hp)).trans (h p hp).2⟩
theorem Kept.wr {fp g : List Pos} {a w w' : World} (h : Kept fp a w) (hw : Wr g w w') (hl : ∀ p ∈ fp, p.1 < w.heap.size) (hd : ∀ p ∈ fp, p ∉ g) : Kept fp a w' := fun p hp =>
  ⟨(hw.cell p (hl p hp) (hd p hp)).trans (h p hp).1, (hw.frozen p (hl p hp)).trans (h p hp).2⟩
theorem Kept.sub {fp g : List Pos} {a w : World} (h : Kept fp a w) (hs : ∀ p ∈ g, p ∈ fp) : Kept g a w := fun p hp => h p (hs p hp)
theorem Sl.kept {α : Type} [GoT α] {M : Nat} {a w : World} {v : Value} {l : List α} {f fp : List Pos} (h : Sl M a v l f) (k : Kept fp a w) (hs : ∀ p ∈ f, p ∈ fp) : Sl M w v l f := h.keep fun p hp => (k p (hs p hp)).1
theorem Fresh.kept {B : Nat} {a w : World} {f fp : List Pos} (h : Fresh B a f) (k : Kept fp a w) (hs : ∀ p ∈ f, p ∈ fp) : Fresh B w f := ⟨h.nodup, h.ge, fun p hp => ((k p (hs p hp)).2).trans (h.free p hp)⟩
theorem cellb {w w' : World} {b o : Nat} {v : Value} (hb : Below w.heap.size w w') (c : w.cell? ⟨b, o, none⟩ = some v) : w'.cell? ⟨b, o, none⟩ = some v := (hb.cell (p := ⟨b, o, none⟩) (World.block_lt_of_cell? (w := w) (a := ⟨b, o, none⟩) c)).trans c
theorem cellw {w W w' : World} {g : List Pos} {b o : Nat} {v : Value} (hb : Below w.heap.size w W) (hw : Wr g W w') (c : w.cell? ⟨b, o, none⟩ = some v) (hn : (b, o) ∉ g) : w'.cell? ⟨b, o, none⟩ = some v :=
  (hw.cell (b, o) (Nat.lt_of_lt_of_le (World.block_lt_of_cell? (w := w) (a := ⟨b, o, none⟩) c) hb.size) hn).trans (cellb hb c)
theorem below_after2 {B C : Nat} {a W w1 : World} (h : Below B a W) (hb : Below C W w1) (hB : B ≤ C) : Below B a w1 := h.trans (hb.mono hB)
theorem Fresh.dis {B : Nat} {w : World} {f g : List Pos} (h : Fresh B w (f ++ g)) : ∀ p ∈ f, p ∉ g := fun _ hp hq => (List.nodup_append.1 h.nodup).2.2 _ hp _ hq rfl
theorem Fresh.dis' {B : Nat} {w : World} {f g : List Pos} (h : Fresh B w (f ++ g)) : ∀ p ∈ g, p ∉ f := fun _ hp hq => (List.nodup_append.1 h.nodup).2.2 _ hq _ hp rfl
theorem Sl.belowW {α : Type} [GoT α] {M : Nat} {w W : World} {v : Value} {l : List α} {f : List Pos} (h : Sl M w v l f) (hb : Below w.heap.size w W) : Sl M W v l f := h.keep (Live.same_below hb (Live.lt h.live))
theorem Sl.wr2 {α : Type} [GoT α] {M : Nat} {w W w' : World} {v : Value} {l : List α} {f g : List Pos} (h : Sl M w v l f) (hb : Below w.heap.size w W) (hw : Wr g W w') (hd : ∀ p ∈ f, p ∉ g) : Sl M w' v l f := (h.belowW hb).wr hw hd
theorem Fresh.belowL {B : Nat} {w W : World} {f : List Pos} (h : Fresh B w f) (hb : Below w.heap.size w W) (hl : ∀ p ∈ f, p.1 < w.heap.size) : Fresh B W f := h.below hb hl
theorem Fresh.wr2 {B : Nat} {w W w' : World} {f g : List Pos} (h : Fresh B w f) (hb : Below w.heap.size w W) (hw : Wr g W w') (hl : ∀ p ∈ f, p.1 < w.heap.size) : Fresh B w' f :=
  ⟨h.nodup, h.ge, fun p hp => (hw.frozen p (Nat.lt_of_lt_of_le (hl p hp) hb.size)).trans ((hb.frozen (p := ⟨p.1, p.2, none⟩) (hl p hp)).trans (h.free p hp))⟩
theorem Kept.wr2 {fp g : List Pos} {a w W w' : World} (h : Kept fp a w) (hb : Below w.heap.size w W) (hw : Wr g W w') (hl : ∀ p ∈ fp, p.1 < w.heap.size) (hd : ∀ p ∈ fp, p ∉ g) : Kept fp a w' :=
  (h.below hb hl).wr hw (fun p hp => Nat.lt_of_lt_of_le (hl p hp) hb.size) hd
theorem wrs {w W w' : World} {g : List Pos} (hw : Wr g W w') (hb : Below w.heap.size w W) : w.heap.size ≤ w'.heap.size := Nat.le_trans hb.size hw.size
theorem wrb {w W w' : World} {g : List Pos} {C : Nat} (hw : Wr g W w') (hb : Below w.heap.size w W) (hC : C ≤ w.heap.size) (hge : ∀ p ∈ g, C ≤ p.1) : Below C w w' := (hb.mono hC).trans (hw.below (Nat.le_trans hC hb.size) hge)
theorem Fresh.pre2 {B : Nat} {w : World} {a b c : List Pos} (h : Fresh B w (a ++ (b ++ c))) : Fresh B w (a ++ b) := by rw [← List.append_assoc] at h; exact h.left
theorem Fresh.pre3 {B : Nat} {w : World} {a b c d : List Pos} (h : Fresh B w (a ++ (b ++ (c ++ d)))) : Fresh B w (a ++ (b ++ c)) := by rw [← List.append_assoc, ← List.append_assoc] at h; have := h.left; rwa [List.append_assoc] at this
/-- the measure bounds the marks -/
class GoMS (α : Type) [GoT α] [GoM α] [GoS α] : Prop where
  le : ∀ x : α, GoM.cnt x ≤ 5 + 5 * GoS.sz x
theorem cntL_le {α : Type} [GoT α] [GoM α] [GoS α] [GoMS α] : ∀ l : List α, cntL l ≤ 5 * szL l
  | [] => by simp [cntL]
  | x :: xs => by
    have h1 := cntL_le xs
    have h2 := GoMS.le x
    simp only [cntL, szL, szs, List.length_cons] at *
    omega
instance : GoMS Int := ⟨fun _ => by show 1 ≤ 5 + 5 * 0; omega⟩
def Out_Seen_b (w : World) (y0 : DSeen) (y1 : Bool) (e : Ending) (w' : World) : Prop :=
  e = .returned (.tuple #[.agg #[.int .i64 y0.client, .int .i64 y0.seq, .int .i64 y0.rev], .bool y1]) ∧ Below w.heap.size w w'
def Out_IntS_b (w : World) (y0 : List Int) (y1 : Bool) (e : Ending) (w' : World) : Prop :=
  ∃ v0 f0, e = .returned (.tuple #[v0, .bool y1]) ∧ Sl BIG w' v0 y0 f0 ∧ Fresh w.heap.size w' f0 ∧ Below w.heap.size w w'
def Out_IntSS (w : World) (y0 : List (List Int)) (e : Ending) (w' : World) : Prop :=
  ∃ v0 f0, e = .returned (v0) ∧ Sl BIG w' v0 y0 f0 ∧ Fresh w.heap.size w' f0 ∧ Below w.heap.size w w'
def Out_PartS (w : World) (y0 : List DPart) (e : Ending) (w' : World) : Prop :=
  ∃ v0 f0, e = .returned (v0) ∧ Sl BIG w' v0 y0 f0 ∧ Fresh w.heap.size w' f0 ∧ Below w.heap.size w w'
def Out_PartS_b (w : World) (y0 : List DPart) (y1 : Bool) (e : Ending) (w' : World) : Prop :=
  ∃ v0 f0, e = .returned (.tuple #[v0, .bool y1]) ∧ Sl BIG w' v0 y0 f0 ∧ Fresh w.heap.size w' f0 ∧ Below w.heap.size w w'
def Out_PartSS_b (w : World) (y0 : List (List DPart)) (y1 : Bool) (e : Ending) (w' : World) : Prop :=
  ∃ v0 f0, e = .returned (.tuple #[v0, .bool y1]) ∧ Sl BIG w' v0 y0 f0 ∧ Fresh w.heap.size w' f0 ∧ Below w.heap.size w w'
def Out_Ring (w : World) (y0 : DRing) (e : Ending) (w' : World) : Prop :=
  ∃ v0_list f0_list, e = .returned (.agg #[.int .i64 y0.cap, .int .i64 y0.next, .bool y0.out, v0_list]) ∧ Sl BIG w' v0_list y0.list f0_list ∧ Fresh w.heap.size w' f0_list ∧ Below w.heap.size w w'
def Out_Ring_b (w : World) (y0 : DRing) (y1 : Bool) (e : Ending) (w' : World) : Prop :=
  ∃ v0_list f0_list, e = .returned (.tuple #[.agg #[.int .i64 y0.cap, .int .i64 y0.next, .bool y0.out, v0_list], .bool y1]) ∧ Sl BIG w' v0_list y0.list f0_list ∧ Fresh w.heap.size w' f0_list ∧ Below w.heap.size w w'
def Out_Ring_EntryS_i (w : World) (y0 : DRing) (y1 : List DEntry) (y2 : Int) (e : Ending) (w' : World) : Prop :=
  ∃ v0_list v1 f0_list f1, e = .returned (.tuple #[.agg #[.int .i64 y0.cap, .int .i64 y0.next, .bool y0.out, v0_list], v1, .int .i64 y2]) ∧ Sl BIG w' v0_list y0.list f0_list ∧ Sl BIG w' v1 y1 f1 ∧ Fresh w.heap.size w' (f0_list ++ f1) ∧ Below w.heap.size w w'
def Out_Doc (w : World) (y0 : DDoc) (e : Ending) (w' : World) : Prop :=
  ∃ v0_text v0_list v0_seen f0_text f0_list f0_seen, e = .returned (.agg #[.string y0.name, .int .i64 y0.from_, v0_text, v0_list, v0_seen]) ∧ Sl BIG w' v0_text y0.text f0_text ∧ Sl BIG w' v0_list y0.list f0_list ∧ Sl BIG w' v0_seen y0.seen f0_seen ∧ y0.name.size ≤ BIG ∧ Fresh w.heap.size w' (f0_text ++ (f0_list ++ f0_seen)) ∧ Below w.heap.size w w'
def Out_Doc_b (w : World) (y0 : DDoc) (y1 : Bool) (e : Ending) (w' : World) : Prop :=
  ∃ v0_text v0_list v0_seen f0_text f0_list f0_seen, e = .returned (.tuple #[.agg #[.string y0.name, .int .i64 y0.from_, v0_text, v0_list, v0_seen], .bool y1]) ∧ Sl BIG w' v0_text y0.text f0_text ∧ Sl BIG w' v0_list y0.list f0_list ∧ Sl BIG w' v0_seen y0.seen f0_seen ∧ y0.name.size ≤ BIG ∧ Fresh w.heap.size w' (f0_text ++ (f0_list ++ f0_seen)) ∧ Below w.heap.size w w'
def Out_IntS (w : World) (y0 : List Int) (e : Ending) (w' : World) : Prop :=
  ∃ v0 f0, e = .returned (v0) ∧ Sl BIG w' v0 y0 f0 ∧ Fresh w.heap.size w' f0 ∧ Below w.heap.size w w'
def Out_EntryS_i (w : World) (y0 : List DEntry) (y1 : Int) (e : Ending) (w' : World) : Prop :=
  ∃ v0 f0, e = .returned (.tuple #[v0, .int .i64 y1]) ∧ Sl BIG w' v0 y0 f0 ∧ Fresh w.heap.size w' f0 ∧ Below w.heap.size w w'
def Out_EntryS (w : World) (y0 : List DEntry) (e : Ending) (w' : World) : Prop :=
  ∃ v0 f0, e = .returned (v0) ∧ Sl BIG w' v0 y0 f0 ∧ Fresh w.heap.size w' f0 ∧ Below w.heap.size w w'
def Out_PartS_i (w : World) (y0 : List DPart) (y1 : Int) (e : Ending) (w' : World) : Prop :=
  ∃ v0 f0, e = .returned (.tuple #[v0, .int .i64 y1]) ∧ Sl BIG w' v0 y0 f0 ∧ Fresh w.heap.size w' f0 ∧ Below w.heap.size w w'
def Out_Doc_i_i (w : World) (y0 : DDoc) (y1 : Int) (y2 : Int) (e : Ending) (w' : World) : Prop :=
  ∃ v0_text v0_list v0_seen f0_text f0_list f0_seen, e = .returned (.tuple #[.agg #[.string y0.name, .int .i64 y0.from_, v0_text, v0_list, v0_seen], .int .i64 y1, .int .i64 y2]) ∧ Sl BIG w' v0_text y0.text f0_text ∧ Sl BIG w' v0_list y0.list f0_list ∧ Sl BIG w' v0_seen y0.seen f0_seen ∧ y0.name.size ≤ BIG ∧ Fresh w.heap.size w' (f0_text ++ (f0_list ++ f0_seen)) ∧ Below w.heap.size w w'
def Out_Hub (w : World) (y0 : DHub) (e : Ending) (w' : World) : Prop :=
  ∃ v0_docs v0_subs f0_docs f0_subs, e = .returned (.agg #[.bool y0.shut, v0_docs, v0_subs, .int .i64 y0.last]) ∧ Sl BIG w' v0_docs y0.docs f0_docs ∧ Sl BIG w' v0_subs y0.subs f0_subs ∧ Fresh w.heap.size w' (f0_docs ++ f0_subs) ∧ Below w.heap.size w w'
def Out_Hub_i (w : World) (y0 : DHub) (y1 : Int) (e : Ending) (w' : World) : Prop :=
  ∃ v0_docs v0_subs f0_docs f0_subs, e = .returned (.tuple #[.agg #[.bool y0.shut, v0_docs, v0_subs, .int .i64 y0.last], .int .i64 y1]) ∧ Sl BIG w' v0_docs y0.docs f0_docs ∧ Sl BIG w' v0_subs y0.subs f0_subs ∧ Fresh w.heap.size w' (f0_docs ++ f0_subs) ∧ Below w.heap.size w w'
def Out_Hub_i_i (w : World) (y0 : DHub) (y1 : Int) (y2 : Int) (e : Ending) (w' : World) : Prop :=
  ∃ v0_docs v0_subs f0_docs f0_subs, e = .returned (.tuple #[.agg #[.bool y0.shut, v0_docs, v0_subs, .int .i64 y0.last], .int .i64 y1, .int .i64 y2]) ∧ Sl BIG w' v0_docs y0.docs f0_docs ∧ Sl BIG w' v0_subs y0.subs f0_subs ∧ Fresh w.heap.size w' (f0_docs ++ f0_subs) ∧ Below w.heap.size w w'
def Out_Hub_EntryS_i (w : World) (y0 : DHub) (y1 : List DEntry) (y2 : Int) (e : Ending) (w' : World) : Prop :=
  ∃ v0_docs v0_subs v1 f0_docs f0_subs f1, e = .returned (.tuple #[.agg #[.bool y0.shut, v0_docs, v0_subs, .int .i64 y0.last], v1, .int .i64 y2]) ∧ Sl BIG w' v0_docs y0.docs f0_docs ∧ Sl BIG w' v0_subs y0.subs f0_subs ∧ Sl BIG w' v1 y1 f1 ∧ Fresh w.heap.size w' (f0_docs ++ (f0_subs ++ f1)) ∧ Below w.heap.size w w'
def Out_Hub_IntS_i_i (w : World) (y0 : DHub) (y1 : List Int) (y2 : Int) (y3 : Int) (e : Ending) (w' : World) : Prop :=
  ∃ v0_docs v0_subs v1 f0_docs f0_subs f1, e = .returned (.tuple #[.agg #[.bool y0.shut, v0_docs, v0_subs, .int .i64 y0.last], v1, .int .i64 y2, .int .i64 y3]) ∧ Sl BIG w' v0_docs y0.docs f0_docs ∧ Sl BIG w' v0_subs y0.subs f0_subs ∧ Sl BIG w' v1 y1 f1 ∧ Fresh w.heap.size w' (f0_docs ++ (f0_subs ++ f1)) ∧ Below w.heap.size w w'
def Out_Hub_Answer (w : World) (y0 : DHub) (y1 : DAnswer) (e : Ending) (w' : World) : Prop :=
  ∃ v0_docs v0_subs v1_text v1_list f0_docs f0_subs f1_text f1_list, e = .returned (.tuple #[.agg #[.bool y0.shut, v0_docs, v0_subs, .int .i64 y0.last], .agg #[.int .i64 y1.code, .int .i64 y1.rev, v1_text, v1_list]]) ∧ Sl BIG w' v0_docs y0.docs f0_docs ∧ Sl BIG w' v0_subs y0.subs f0_subs ∧ Sl BIG w' v1_text y1.text f1_text ∧ Sl BIG w' v1_list y1.list f1_list ∧ Fresh w.heap.size w' (f0_docs ++ (f0_subs ++ (f1_text ++ f1_list))) ∧ Below w.heap.size w w'
def Out_Hub_AnswerS (w : World) (y0 : DHub) (y1 : List DAnswer) (e : Ending) (w' : World) : Prop :=
  ∃ v0_docs v0_subs v1 f0_docs f0_subs f1, e = .returned (.tuple #[.agg #[.bool y0.shut, v0_docs, v0_subs, .int .i64 y0.last], v1]) ∧ Sl BIG w' v0_docs y0.docs f0_docs ∧ Sl BIG w' v0_subs y0.subs f0_subs ∧ Sl BIG w' v1 y1 f1 ∧ Fresh w.heap.size w' (f0_docs ++ (f0_subs ++ f1)) ∧ Below w.heap.size w w'
def Out_Entry (w : World) (y0 : DEntry) (e : Ending) (w' : World) : Prop :=
  ∃ v0_o f0_o, e = .returned (.agg #[.int .i64 y0.client, .int .i64 y0.seq, v0_o]) ∧ Sl BIG w' v0_o y0.o f0_o ∧ Fresh w.heap.size w' f0_o ∧ Below w.heap.size w w'
def Out_PartS_PartS_b (w : World) (y0 : List DPart) (y1 : List DPart) (y2 : Bool) (e : Ending) (w' : World) : Prop :=
  ∃ v0 v1 f0 f1, e = .returned (.tuple #[v0, v1, .bool y2]) ∧ Sl BIG w' v0 y0 f0 ∧ Sl BIG w' v1 y1 f1 ∧ Fresh w.heap.size w' (f0 ++ f1) ∧ Below w.heap.size w w'
def Out_PartSS_PartS_b (w : World) (y0 : List (List DPart)) (y1 : List DPart) (y2 : Bool) (e : Ending) (w' : World) : Prop :=
  ∃ v0 v1 f0 f1, e = .returned (.tuple #[v0, v1, .bool y2]) ∧ Sl BIG w' v0 y0 f0 ∧ Sl BIG w' v1 y1 f1 ∧ Fresh w.heap.size w' (f0 ++ f1) ∧ Below w.heap.size w w'
def Out_Call (w : World) (y0 : DCall) (e : Ending) (w' : World) : Prop :=
  ∃ v0_o v0_text f0_o f0_text, e = .returned (.agg #[.int .i64 y0.kind, .string y0.doc, .int .i64 y0.client, .int .i64 y0.seq, .int .i64 y0.n, v0_o, v0_text]) ∧ Sl BIG w' v0_o y0.o f0_o ∧ Sl BIG w' v0_text y0.text f0_text ∧ y0.doc.size ≤ BIG ∧ Fresh w.heap.size w' (f0_o ++ f0_text) ∧ Below w.heap.size w w'
def Out_Answer (w : World) (y0 : DAnswer) (e : Ending) (w' : World) : Prop :=
  ∃ v0_text v0_list f0_text f0_list, e = .returned (.agg #[.int .i64 y0.code, .int .i64 y0.rev, v0_text, v0_list]) ∧ Sl BIG w' v0_text y0.text f0_text ∧ Sl BIG w' v0_list y0.list f0_list ∧ Fresh w.heap.size w' (f0_text ++ f0_list) ∧ Below w.heap.size w w'
end Go.Proofs.Ytihbmefidbmmdaa
