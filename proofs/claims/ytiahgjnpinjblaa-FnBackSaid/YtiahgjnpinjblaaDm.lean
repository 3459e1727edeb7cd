/- Drawn documents. -/
import Derived.Test.YtiahgjnpinjblaaSbp
import Derived.Test.YtiahgjnpinjblaaSeen
import Derived.Test.YtiahgjnpinjblaaDw
import Derived.Test.YtiahgjnpinjblaaSbh
import Derived.Test.YtiahgjnpinjblaaRbs
namespace Go.Proofs.Ytiahgjnpinjblaa
open Go.RowKit
theorem seenOk_pw {hd : Int} {l : List DSeen} : seenOk hd l = true ↔ (∀ s ∈ l, within s.client 1 8 = true ∧ within s.seq 1 1000000000 = true ∧ within s.rev 1 hd = true) ∧ l.Pairwise (fun a b => a.client < b.client) := by
  constructor
  · intro h
    refine ⟨fun s hs => ?_, List.pairwise_iff_getElem.2 fun i j hi hj hij => ?_⟩
    · obtain ⟨k, hk⟩ := List.getElem?_of_mem hs
      have h1 := seenOk_iff.1 h k s hk
      unfold seenI at h1
      simp only [Bool.and_eq_true] at h1
      exact ⟨h1.1.1.1, h1.1.1.2, h1.1.2⟩
    · have := seen_lt h (j - i - 1) i _ _ (List.getElem?_eq_getElem hi) (by rw [show i + (j - i - 1) + 1 = j by omega]; exact List.getElem?_eq_getElem hj)
      omega
  · rintro ⟨h1, h2⟩
    refine seenOk_iff.2 fun j y hy => ?_
    obtain ⟨a, b, c⟩ := h1 y (List.mem_of_getElem? hy)
    cases j with
    | zero => exact seenI_zero a b c
    | succ j =>
      obtain ⟨hj, e⟩ := List.getElem?_eq_some_iff.1 hy
      have := List.pairwise_iff_getElem.1 h2 j (j + 1) (by omega) hj (by omega)
      exact seenI_succ (List.getElem?_eq_getElem (by omega)) a b c (by rw [← e]; exact this)
theorem seenSet_mem {s y : DSeen} : ∀ {l : List DSeen}, y ∈ seenSet l s → y = s ∨ y ∈ l
  | [], h => by simp [seenSet] at h; exact .inl h
  | x :: l, h => by
    unfold seenSet at h
    split at h
    · rcases List.mem_cons.1 h with h | h
      · exact .inr (h ▸ List.mem_cons_self)
      · exact (seenSet_mem h).imp id (List.mem_cons_of_mem _)
    · split at h
      · exact (List.mem_cons.1 h).imp id (List.mem_cons_of_mem _)
      · exact List.mem_cons.1 h
theorem seenSet_pw {s : DSeen} : ∀ {l : List DSeen}, l.Pairwise (fun a b => a.client < b.client) → (seenSet l s).Pairwise (fun a b => a.client < b.client)
  | [], _ => by simp [seenSet]
  | x :: l, h => by
    obtain ⟨h1, h2⟩ := List.pairwise_cons.1 h
    unfold seenSet
    split
    · rename_i hx
      refine List.pairwise_cons.2 ⟨fun y hy => ?_, seenSet_pw h2⟩
      rcases seenSet_mem hy with rfl | hy
      · exact hx
      · exact h1 y hy
    · split
      · rename_i he
        exact List.pairwise_cons.2 ⟨fun y hy => he ▸ h1 y hy, h2⟩
      · refine List.pairwise_cons.2 ⟨fun y hy => ?_, h⟩
        rcases List.mem_cons.1 hy with rfl | hy
        · omega
        · have := h1 y hy
          omega
theorem seenSet_ok {hd : Int} {l : List DSeen} {s : DSeen} (h : seenOk hd l = true) (hc : within s.client 1 8 = true) (hs : within s.seq 1 1000000000 = true) (hr : s.rev = hd + 1) (h0 : 0 ≤ hd) : seenOk (hd + 1) (seenSet l s) = true := by
  obtain ⟨h1, h2⟩ := seenOk_pw.1 h
  refine seenOk_pw.2 ⟨fun y hy => ?_, seenSet_pw h2⟩
  rcases seenSet_mem hy with rfl | hy
  · exact ⟨hc, hs, within_iff.2 (by omega)⟩
  · obtain ⟨a, b, c⟩ := h1 y hy
    have := within_iff.1 c
    exact ⟨a, b, within_iff.2 (by omega)⟩
theorem seenSet_has {s : DSeen} : ∀ {l : List DSeen}, l.Pairwise (fun a b => a.client < b.client) → (seenSet l s).find? (fun y => decide (y.client = s.client)) = some s
  | [], _ => by simp [seenSet]
  | x :: l, h => by
    unfold seenSet
    split
    · rename_i hx
      rw [List.find?_cons_of_neg (by simp; omega)]
      exact seenSet_has (List.pairwise_cons.1 h).2
    · split <;> exact List.find?_cons_of_pos (by simp)
section
variable {d : DDoc} {client seq : Int} {x : List DPart}
theorem appTo_cons {o : List DPart} {l : List (List DPart)} {t u : List Int} (h : appTo (o :: l) t = some u) : (applyP o t).2 = true ∧ appTo l (applyP o t).1 = some u := by
  unfold appTo at h
  rw [List.foldl_cons] at h
  by_cases hy : (applyP o t).2 = true
  · have e : stepA (some t) o = some (applyP o t).1 := if_pos hy
    rw [e] at h
    exact ⟨hy, h⟩
  · have e : stepA (some t) o = none := if_neg hy
    rw [e, foldA_none] at h
    cases h
theorem appTo_one {o : List DPart} {t : List Int} (h : (applyP o t).2 = true) : appTo [o] t = some (applyP o t).1 := if_pos h
theorem headText_of {u : List Int} (h : docOk d = true) (hu : appTo (opsL d.list) d.text = some u) : headText d = u := Option.some.inj ((headText_yes h).1.symm.trans hu)
theorem commit_ok (h : docOk d = true) (hc : within client 1 8 = true) (hs : within seq 1 1000000000 = true) (hx : isNorm x = true) (hf : (applyP x (headText d)).2 = true) (hr : headRev d < 999999000) :
    docOk (commit d client seq x) = true ∧ headRev (commit d client seq x) = headRev d + 1 ∧ headText (commit d client seq x) = (applyP x (headText d)).1 ∧ (commit d client seq x).seen = seenSet d.seen ⟨client, seq, headRev d + 1⟩ ∧ 1 ≤ (commit d client seq x).list.length ∧ (commit d client seq x).list.getLast? = some (entry1 client seq x) := by
  have hp := docOk_iff.1 h
  have he : entryOk (entry1 client seq x) = true := by simp only [entryOk, entry1, hc, hs, hx, Bool.and_self]
  have hall : (d.list ++ [entry1 client seq x]).all entryOk = true := by rw [List.all_append, hp.ents]; simp [he]
  have happ : appTo (opsL (d.list ++ [entry1 client seq x])) d.text = some (applyP x (headText d)).1 := by
    have e : opsL (d.list ++ [entry1 client seq x]) = opsL d.list ++ [x] := by simp [opsL, entry1]
    rw [e, appTo_append, (headText_yes h).1]
    exact appTo_one hf
  have h0 : 0 ≤ headRev d := by have := hp.f0; unfold headRev; omega
  have hse := seenSet_ok (s := ⟨client, seq, headRev d + 1⟩) hp.seen hc hs rfl h0
  have hhr : headRev d = d.from_ + d.list.length := rfl
  have hf0 := hp.f0
  unfold commit
  split
  · rename_i hl
    rw [List.length_append, List.length_singleton] at hl
    rcases hd : d.list with _ | ⟨e0, l⟩
    · rw [hd] at hl; simp at hl
    · rw [hd] at happ hall hl hhr
      rw [List.length_cons] at hl hhr
      have h8 := hp.len
      rw [hd, List.length_cons] at h8
      simp only [List.cons_append, List.headD_cons, List.drop_succ_cons, List.drop_zero]
      obtain ⟨a1, a2⟩ := appTo_cons (o := e0.o) (l := opsL (l ++ [entry1 client seq x])) happ
      have hlen : (l ++ [entry1 client seq x]).length = l.length + 1 := by simp
      have hh : headRev (⟨d.name, d.from_ + 1, (applyP e0.o d.text).1, l ++ [entry1 client seq x], seenSet d.seen ⟨client, seq, headRev d + 1⟩⟩ : DDoc) = headRev d + 1 := by
        show d.from_ + 1 + ((l ++ [entry1 client seq x]).length : Int) = _
        rw [hlen, hhr]; omega
      have hok : docOk (⟨d.name, d.from_ + 1, (applyP e0.o d.text).1, l ++ [entry1 client seq x], seenSet d.seen ⟨client, seq, headRev d + 1⟩⟩ : DDoc) = true := by
        refine docOk_iff.2 ⟨hp.name, by show 0 ≤ d.from_ + 1; omega, by show d.from_ + 1 ≤ 999999000; omega, (applyP_text a1).1, by show (l ++ [entry1 client seq x]).length ≤ 8; rw [hlen]; omega, ?_, ⟨_, a2⟩, by rw [hh]; exact hse⟩
        rw [List.cons_append, List.all_cons, Bool.and_eq_true] at hall
        exact hall.2
      exact ⟨hok, hh, headText_of hok a2, by trivial, by show 1 ≤ (l ++ [entry1 client seq x]).length; omega, by show (l ++ [entry1 client seq x]).getLast? = _; simp⟩
  · rename_i hl
    rw [List.length_append, List.length_singleton] at hl
    have hlen : (d.list ++ [entry1 client seq x]).length = d.list.length + 1 := by simp
    have hh : headRev (⟨d.name, d.from_, d.text, d.list ++ [entry1 client seq x], seenSet d.seen ⟨client, seq, headRev d + 1⟩⟩ : DDoc) = headRev d + 1 := by
      show d.from_ + ((d.list ++ [entry1 client seq x]).length : Int) = _
      rw [hlen]; omega
    have hok : docOk (⟨d.name, d.from_, d.text, d.list ++ [entry1 client seq x], seenSet d.seen ⟨client, seq, headRev d + 1⟩⟩ : DDoc) = true :=
      docOk_iff.2 ⟨hp.name, hp.f0, hp.f1, hp.text, by show (d.list ++ [entry1 client seq x]).length ≤ 8; omega, hall, ⟨_, happ⟩, by rw [hh]; exact hse⟩
    exact ⟨hok, hh, headText_of hok happ, rfl, by show 1 ≤ (d.list ++ [entry1 client seq x]).length; omega, by show (d.list ++ [entry1 client seq x]).getLast? = _; simp⟩
end
end Go.Proofs.Ytiahgjnpinjblaa

namespace Go.Proofs.Ytiahgjnpinjblaa
open Go.RowKit
/-- a document as it is drawn -/
structure DrD (d : DDoc) : Prop where
  ok : docOk d = true
  cl : ∀ s ∈ d.seen, s.client ≤ 3
theorem DrD.name {d : DDoc} (h : DrD d) : d.name.size ≤ BIG := by
  have h1 := (docOk_iff.1 h.ok).name
  simp only [nameOk, Bool.and_eq_true] at h1
  have := (within_iff.1 h1.2).2
  exact le_BIG (by omega)
theorem DrD.new {nm : ByteArray} {t : List Int} (hn : nameOk nm = true) (ht : t.length ≤ 8) (hs : signsOk t = true) : DrD ⟨nm, 0, t, [], []⟩ :=
  ⟨docOk_iff.2 ⟨hn, Int.le_refl _, by show (0 : Int) ≤ 999999000; decide, by simp [textOk, hs]; omega, Nat.zero_le _, rfl, ⟨t, rfl⟩, rfl⟩, fun _ h => by cases h⟩
theorem DrD.step {d : DDoc} {client base : Int} {o : List DPart} (h : DrD d) (h3 : client ≤ 3) (hc : (submit d client ((seenOf d client).1.seq + 1) base o).2.2 = 0) : DrD (submit d client ((seenOf d client).1.seq + 1) base o).1 := by
  by_cases g : docOk d = true ∧ within client 1 8 = true ∧ within ((seenOf d client).1.seq + 1) 1 1000000000 = true ∧ opOk o = true
  · have n1 : ¬ (seenOf d client).1.seq = (seenOf d client).1.seq + 1 := by omega
    by_cases g3 : (rebase d base o).2 = 0
    · by_cases g4 : headRev d < 999999000
      · rw [submit_yes g n1 rfl g3 g4]
        obtain ⟨r1, r2, r3⟩ := rebase_ok g3
        obtain ⟨c1, _, _, c4, _⟩ := commit_ok (client := client) (seq := (seenOf d client).1.seq + 1) h.ok g.2.1 g.2.2.1 r2 r3 g4
        refine ⟨c1, fun s hs => ?_⟩
        simp only at hs
        rw [c4] at hs
        rcases seenSet_mem hs with rfl | hs
        · exact h3
        · exact h.cl s hs
      · rw [submit_large g n1 rfl g3 g4] at hc
        exact absurd hc (by decide)
    · rw [submit_code g n1 rfl g3] at hc
      exact absurd hc g3
  · rw [submit_no g] at hc
    exact absurd hc (by decide)
/-- the document in its block b7, beside the cursor and the result's block -/
structure DW (w0 : World) (bc : Nat) (vb : Value) (bs : List DByte) (w wr : World) (b7 : Nat) (d : DDoc) (vt vl vs : Value) : Prop where
  cu : CuOut w0 bc vb bs w wr
  lc : bc < w.heap.size
  x6 : Bx wr w.heap.size [.string ⟨#[]⟩, .int .i64 0, .slice none 0 0, .slice none 0 0, .slice none 0 0]
  x7 : Bx wr b7 [.string d.name, .int .i64 d.from_, vt, vl, vs]
  lt : w.heap.size < b7
  rd : ∃ f1 f2 f3, Sl BIG wr vt d.text f1 ∧ Sl BIG wr vl d.list f2 ∧ Sl BIG wr vs d.seen f3 ∧ ∀ p ∈ f1 ++ (f2 ++ f3), w.heap.size < p.1 ∧ p.1 ≠ b7
  ok : DrD d
section
variable {w0 w wr w' : World} {bc b7 : Nat} {vb vt vl vs : Value} {bs : List DByte} {d : DDoc}
theorem DW.t (h : DW w0 bc vb bs w wr b7 d vt vl vs) : RdS wr vt d.text := let ⟨f1, _, _, a, _⟩ := h.rd; ⟨f1, a⟩
theorem DW.l (h : DW w0 bc vb bs w wr b7 d vt vl vs) : RdS wr vl d.list := let ⟨_, f2, _, _, a, _⟩ := h.rd; ⟨f2, a⟩
theorem DW.s (h : DW w0 bc vb bs w wr b7 d vt vl vs) : RdS wr vs d.seen := let ⟨_, _, f3, _, _, a, _⟩ := h.rd; ⟨f3, a⟩
theorem DW.below (h : DW w0 bc vb bs w wr b7 d vt vl vs) (hb : Below wr.heap.size wr w') : DW w0 bc vb bs w w' b7 d vt vl vs :=
  let ⟨f1, f2, f3, a1, a2, a3, a4⟩ := h.rd
  ⟨⟨h.cu.1.below hb, h.cu.2.trans (Wr.of_below hb)⟩, h.lc, h.x6.at hb, h.x7.at hb, h.lt, ⟨f1, f2, f3, a1.belowW hb, a2.belowW hb, a3.belowW hb, a4⟩, h.ok⟩
theorem DW.draw (h : DW w0 bc vb bs w wr b7 d vt vl vs) (hc : CuOut w0 bc vb bs wr w') : DW w0 bc vb bs w w' b7 d vt vl vs := by
  obtain ⟨f1, f2, f3, a1, a2, a3, a4⟩ := h.rd
  have hq : ∀ p ∈ [(bc, 1), (bc, 2)], p.1 = bc := fun p hp => by simp only [List.mem_cons, List.not_mem_nil, or_false] at hp; rcases hp with rfl | rfl <;> rfl
  have lc := h.lc
  have lt := h.lt
  refine ⟨h.cu.trans hc, h.lc, h.x6.wr hc.2 fun p hp => by have := hq p hp; omega, h.x7.wr hc.2 fun p hp => by have := hq p hp; omega, h.lt, ⟨f1, f2, f3, a1.wr hc.2 fun p hp hm => ?_, a2.wr hc.2 fun p hp hm => ?_, a3.wr hc.2 fun p hp hm => ?_, a4⟩, h.ok⟩
  · have := a4 p (by simp [hp]); have := hq p hm; omega
  · have := a4 p (by simp [hp]); have := hq p hm; omega
  · have := a4 p (by simp [hp]); have := hq p hm; omega
/-- another document takes its place -/
theorem DW.put (h : DW w0 bc vb bs w wr b7 d vt vl vs) {x : DDoc} {ut ul us : Value} {f1 f2 f3 : List Pos} (hx : DrD x) (a1 : Sl BIG wr ut x.text f1) (a2 : Sl BIG wr ul x.list f2) (a3 : Sl BIG wr us x.seen f3) (a4 : ∀ p ∈ f1 ++ (f2 ++ f3), w.heap.size < p.1 ∧ p.1 ≠ b7) :
    DW w0 bc vb bs w (((((wr.setCell ⟨b7, 0, none⟩ (.string x.name)).setCell ⟨b7, 1, none⟩ (.int .i64 x.from_)).setCell ⟨b7, 2, none⟩ ut).setCell ⟨b7, 3, none⟩ ul).setCell ⟨b7, 4, none⟩ us) b7 x ut ul us := by
  have hw : Wr [(b7, 0), (b7, 1), (b7, 2), (b7, 3), (b7, 4)] wr (((((wr.setCell ⟨b7, 0, none⟩ (.string x.name)).setCell ⟨b7, 1, none⟩ (.int .i64 x.from_)).setCell ⟨b7, 2, none⟩ ut).setCell ⟨b7, 3, none⟩ ul).setCell ⟨b7, 4, none⟩ us) :=
    (((((Wr.refl _ wr).put (b := b7) (o := 0) (by simp) _).put (b := b7) (o := 1) (by simp) _).put (b := b7) (o := 2) (by simp) _).put (b := b7) (o := 3) (by simp) _).put (b := b7) (o := 4) (by simp) _
  have hq : ∀ p ∈ [(b7, 0), (b7, 1), (b7, 2), (b7, 3), (b7, 4)], p.1 = b7 := fun p hp => by simp only [List.mem_cons, List.not_mem_nil, or_false] at hp; rcases hp with rfl | rfl | rfl | rfl | rfl <;> rfl
  have lt := h.lt
  have lc := h.lc
  have lo := h.cu.1.o
  refine ⟨⟨h.cu.1.wr hw fun p hp => by have := hq p hp; omega, wr_cu h.cu.2 hw fun p hp => by have := hq p hp; omega⟩, lc, h.x6.wr hw fun p hp => by have := hq p hp; omega,
    ((((h.x7.set 0 (.string x.name)).set 1 (.int .i64 x.from_)).set 2 ut).set 3 ul).set 4 us, lt, ⟨f1, f2, f3, a1.wr hw fun p hp hm => ?_, a2.wr hw fun p hp hm => ?_, a3.wr hw fun p hp hm => ?_, a4⟩, hx⟩
  · have := a4 p (by simp [hp]); have := hq p hm; omega
  · have := a4 p (by simp [hp]); have := hq p hm; omega
  · have := a4 p (by simp [hp]); have := hq p hm; omega
end
end Go.Proofs.Ytiahgjnpinjblaa

