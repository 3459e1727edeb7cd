/- A right document with one entry more is right (plain). -/
import Derived.Test.YtfkaabpaolelgaaGreatSbp
import Derived.Test.YtfkaabpaolelgaaGreatSeen
namespace Go.Proofs.YtfkaabpaolelgaaGreat
open Go.RowKit
theorem seenOk_pw {hd : Int} {l : List DSeen} : seenOk hd l = true ↔ (∀ s ∈ l, within s.client 1 8 = true ∧ within s.seq 1 1000000000 = true ∧ within s.rev 1 hd = true) ∧ l.Pairwise (fun a b => a.client < b.client) := by
  constructor
  · intro h
    refine ⟨fun s hs => ?_, List.pairwise_iff_getElem.2 fun i j hi hj hij => ?_⟩
    · obtain ⟨k, hk⟩ := List.getElem?_of_mem hs
      have h1 := seenOk_iff.1 h k s hk
      unfold seenI at h1
      simp only [Bool.and_eq_true] at h1
      exact ⟨h1.1.1.1, h1.1.1.2, h1.1.2⟩
    · have := seen_lt h (j - i - 1) i _ _ (List.getElem?_eq_getElem hi) (by rw [show i + (j - i - 1) + 1 = j by omega]; exact List.getElem?_eq_getElem hj)
      omega
  · rintro ⟨h1, h2⟩
    refine seenOk_iff.2 fun j y hy => ?_
    obtain ⟨a, b, c⟩ := h1 y (List.mem_of_getElem? hy)
    cases j with
    | zero => exact seenI_zero a b c
    | succ j =>
      obtain ⟨hj, e⟩ := List.getElem?_eq_some_iff.1 hy
      have := List.pairwise_iff_getElem.1 h2 j (j + 1) (by omega) hj (by omega)
      exact seenI_succ (List.getElem?_eq_getElem (by omega)) a b c (by rw [← e]; exact this)
theorem seenSet_mem {s y : DSeen} : ∀ {l : List DSeen}, y ∈ seenSet l s → y = s ∨ y ∈ l
  | [], h => by simp [seenSet] at h; exact .inl h
  | x :: l, h => by
    unfold seenSet at h
    split at h
    · rcases List.mem_cons.1 h with h | h
      · exact .inr (h ▸ List.mem_cons_self)
      · exact (seenSet_mem h).imp id (List.mem_cons_of_mem _)
    · split at h
      · exact (List.mem_cons.1 h).imp id (List.mem_cons_of_mem _)
      · exact List.mem_cons.1 h
theorem seenSet_pw {s : DSeen} : ∀ {l : List DSeen}, l.Pairwise (fun a b => a.client < b.client) → (seenSet l s).Pairwise (fun a b => a.client < b.client)
  | [], _ => by simp [seenSet]
  | x :: l, h => by
    obtain ⟨h1, h2⟩ := List.pairwise_cons.1 h
    unfold seenSet
    split
    · rename_i hx
      refine List.pairwise_cons.2 ⟨fun y hy => ?_, seenSet_pw h2⟩
      rcases seenSet_mem hy with rfl | hy
      · exact hx
      · exact h1 y hy
    · split
      · rename_i he
        exact List.pairwise_cons.2 ⟨fun y hy => he ▸ h1 y hy, h2⟩
      · refine List.pairwise_cons.2 ⟨fun y hy => ?_, h⟩
        rcases List.mem_cons.1 hy with rfl | hy
        · omega
        · have := h1 y hy
          omega
theorem seenSet_ok {hd : Int} {l : List DSeen} {s : DSeen} (h : seenOk hd l = true) (hc : within s.client 1 8 = true) (hs : within s.seq 1 1000000000 = true) (hr : s.rev = hd + 1) (h0 : 0 ≤ hd) : seenOk (hd + 1) (seenSet l s) = true := by
  obtain ⟨h1, h2⟩ := seenOk_pw.1 h
  refine seenOk_pw.2 ⟨fun y hy => ?_, seenSet_pw h2⟩
  rcases seenSet_mem hy with rfl | hy
  · exact ⟨hc, hs, within_iff.2 (by omega)⟩
  · obtain ⟨a, b, c⟩ := h1 y hy
    have := within_iff.1 c
    exact ⟨a, b, within_iff.2 (by omega)⟩
theorem seenSet_has {s : DSeen} : ∀ {l : List DSeen}, l.Pairwise (fun a b => a.client < b.client) → (seenSet l s).find? (fun y => decide (y.client = s.client)) = some s
  | [], _ => by simp [seenSet]
  | x :: l, h => by
    unfold seenSet
    split
    · rename_i hx
      rw [List.find?_cons_of_neg (by simp; omega)]
      exact seenSet_has (List.pairwise_cons.1 h).2
    · split <;> exact List.find?_cons_of_pos (by simp)
section
variable {d : DDoc} {client seq : Int} {x : List DPart}
theorem appTo_cons {o : List DPart} {l : List (List DPart)} {t u : List Int} (h : appTo (o :: l) t = some u) : (applyP o t).2 = true ∧ appTo l (applyP o t).1 = some u := by
  unfold appTo at h
  rw [List.foldl_cons] at h
  by_cases hy : (applyP o t).2 = true
  · have e : stepA (some t) o = some (applyP o t).1 := if_pos hy
    rw [e] at h
    exact ⟨hy, h⟩
  · have e : stepA (some t) o = none := if_neg hy
    rw [e, foldA_none] at h
    cases h
theorem appTo_one {o : List DPart} {t : List Int} (h : (applyP o t).2 = true) : appTo [o] t = some (applyP o t).1 := if_pos h
theorem headText_of {u : List Int} (h : docOk d = true) (hu : appTo (opsL d.list) d.text = some u) : headText d = u := Option.some.inj ((headText_yes h).1.symm.trans hu)
theorem commit_ok (h : docOk d = true) (hc : within client 1 8 = true) (hs : within seq 1 1000000000 = true) (hx : isNorm x = true) (hf : (applyP x (headText d)).2 = true) (hr : headRev d < 999999000) :
    docOk (commit d client seq x) = true ∧ headRev (commit d client seq x) = headRev d + 1 ∧ headText (commit d client seq x) = (applyP x (headText d)).1 ∧ (commit d client seq x).seen = seenSet d.seen ⟨client, seq, headRev d + 1⟩ ∧ 1 ≤ (commit d client seq x).list.length ∧ (commit d client seq x).list.getLast? = some (entry1 client seq x) := by
  have hp := docOk_iff.1 h
  have he : entryOk (entry1 client seq x) = true := by simp only [entryOk, entry1, hc, hs, hx, Bool.and_self]
  have hall : (d.list ++ [entry1 client seq x]).all entryOk = true := by rw [List.all_append, hp.ents]; simp [he]
  have happ : appTo (opsL (d.list ++ [entry1 client seq x])) d.text = some (applyP x (headText d)).1 := by
    have e : opsL (d.list ++ [entry1 client seq x]) = opsL d.list ++ [x] := by simp [opsL, entry1]
    rw [e, appTo_append, (headText_yes h).1]
    exact appTo_one hf
  have h0 : 0 ≤ headRev d := by have := hp.f0; unfold headRev; omega
  have hse := seenSet_ok (s := ⟨client, seq, headRev d + 1⟩) hp.seen hc hs rfl h0
  have hhr : headRev d = d.from_ + d.list.length := rfl
  have hf0 := hp.f0
  unfold commit
  split
  · rename_i hl
    rw [List.length_append, List.length_singleton] at hl
    rcases hd : d.list with _ | ⟨e0, l⟩
    · rw [hd] at hl; simp at hl
    · rw [hd] at happ hall hl hhr
      rw [List.length_cons] at hl hhr
      have h8 := hp.len
      rw [hd, List.length_cons] at h8
      simp only [List.cons_append, List.headD_cons, List.drop_succ_cons, List.drop_zero]
      obtain ⟨a1, a2⟩ := appTo_cons (o := e0.o) (l := opsL (l ++ [entry1 client seq x])) happ
      have hlen : (l ++ [entry1 client seq x]).length = l.length + 1 := by simp
      have hh : headRev (⟨d.name, d.from_ + 1, (applyP e0.o d.text).1, l ++ [entry1 client seq x], seenSet d.seen ⟨client, seq, headRev d + 1⟩⟩ : DDoc) = headRev d + 1 := by
        show d.from_ + 1 + ((l ++ [entry1 client seq x]).length : Int) = _
        rw [hlen, hhr]; omega
      have hok : docOk (⟨d.name, d.from_ + 1, (applyP e0.o d.text).1, l ++ [entry1 client seq x], seenSet d.seen ⟨client, seq, headRev d + 1⟩⟩ : DDoc) = true := by
        refine docOk_iff.2 ⟨hp.name, by show 0 ≤ d.from_ + 1; omega, by show d.from_ + 1 ≤ 999999000; omega, (applyP_text a1).1, by show (l ++ [entry1 client seq x]).length ≤ 8; rw [hlen]; omega, ?_, ⟨_, a2⟩, by rw [hh]; exact hse⟩
        rw [List.cons_append, List.all_cons, Bool.and_eq_true] at hall
        exact hall.2
      exact ⟨hok, hh, headText_of hok a2, by trivial, by show 1 ≤ (l ++ [entry1 client seq x]).length; omega, by show (l ++ [entry1 client seq x]).getLast? = _; simp⟩
  · rename_i hl
    rw [List.length_append, List.length_singleton] at hl
    have hlen : (d.list ++ [entry1 client seq x]).length = d.list.length + 1 := by simp
    have hh : headRev (⟨d.name, d.from_, d.text, d.list ++ [entry1 client seq x], seenSet d.seen ⟨client, seq, headRev d + 1⟩⟩ : DDoc) = headRev d + 1 := by
      show d.from_ + ((d.list ++ [entry1 client seq x]).length : Int) = _
      rw [hlen]; omega
    have hok : docOk (⟨d.name, d.from_, d.text, d.list ++ [entry1 client seq x], seenSet d.seen ⟨client, seq, headRev d + 1⟩⟩ : DDoc) = true :=
      docOk_iff.2 ⟨hp.name, hp.f0, hp.f1, hp.text, by show (d.list ++ [entry1 client seq x]).length ≤ 8; omega, hall, ⟨_, happ⟩, by rw [hh]; exact hse⟩
    exact ⟨hok, hh, headText_of hok happ, rfl, by show 1 ≤ (d.list ++ [entry1 client seq x]).length; omega, by show (d.list ++ [entry1 client seq x]).getLast? = _; simp⟩
end
end Go.Proofs.YtfkaabpaolelgaaGreat
