/- An element of a row of one's own is laid anew. -/
import Derived.Test.YtdjfmbdcdmmdfaaGreatRo
namespace Go.Proofs.YtdjfmbdcdmmdfaaGreat
open Go.RowKit
theorem set_split {α : Type} {l : List α} {k : Nat} {x : α} (hk : l[k]? = some x) (y : α) : l.set k y = l.take k ++ (y :: l.drop (k + 1)) := by
  have hlt := (List.getElem?_eq_some_iff.1 hk).1
  rw [List.set_eq_take_append_cons_drop, if_pos hlt]
theorem Sl.el {α : Type} [GoT α] {B : Nat} {w : World} {v : Value} {l : List α} {fp : List Pos} (h : Sl BIG w v l fp) (hf : Fresh B w fp) {k : Nat} {x : α} (hk : l[k]? = some x) :
    ∃ b o cap c2 f2, v = .slice (some ⟨b, o, none⟩) l.length cap ∧ At w b (o + k * GoT.n α) c2 ∧ GoT.rd BIG w c2 x f2 ∧ (∀ j < GoT.n α, (b, o + k * GoT.n α + j) ∈ fp) ∧ (∀ p ∈ f2, p ∈ fp) ∧
      ∀ (w' : World) (c' : List Value) (y : α) (f' : List Pos), Wr (own b (o + k * GoT.n α) (GoT.n α)) w w' → At w' b (o + k * GoT.n α) c' → GoT.rd BIG w' c' y f' → Fresh B w' f' → (∀ p ∈ f', p ∉ fp ∨ p ∈ f2) →
        ∃ fp', Sl BIG w' v (l.set k y) fp' ∧ Fresh B w' fp' ∧ ∀ p ∈ fp', p ∈ fp ∨ p ∈ f' := by
  have hlt := (List.getElem?_eq_some_iff.1 hk).1
  rcases h with ⟨ao, rfl, rfl, rfl⟩ | ⟨b, o, cap, cs, fs, rfl, h1, h2, h3, h4, h5, h6, rfl⟩
  · simp at hlt
  obtain ⟨c1, c2, c3, f1, f2, f3, rfl, rfl, hc1, e1, e2, e3⟩ := h5.at_ k hk
  have hn := GoT.len e2
  have hcap : (k + 1) * GoT.n α ≤ cap * GoT.n α := Nat.mul_le_mul_right _ (by omega)
  have hk1 : (k + 1) * GoT.n α = k * GoT.n α + GoT.n α := Nat.succ_mul _ _
  rw [List.append_assoc] at h4
  obtain ⟨a1, a23⟩ := At.append.1 h4
  obtain ⟨a2, a3⟩ := At.append.1 a23
  rw [hc1] at a2 a3
  have hin : ∀ j < GoT.n α, (b, o + k * GoT.n α + j) ∈ own b o (cap * GoT.n α) := fun j hj => mem_own.2 ⟨rfl, by simp only; omega, by simp only; omega⟩
  refine ⟨b, o, cap, c2, f2, rfl, a2, e2, fun j hj => List.mem_append_left _ (hin j hj), fun p hp => by simp [hp], ?_⟩
  intro w' c' y f' hw hA hr hfr hd
  have hsub : ∀ p ∈ own b (o + k * GoT.n α) (GoT.n α), p ∈ own b o (cap * GoT.n α) := by
    intro p hp
    obtain ⟨q1, q2, q3⟩ := mem_own.1 hp
    exact mem_own.2 ⟨q1, by omega, by omega⟩
  have hnd := List.nodup_append.1 hf.nodup
  have hdis : ∀ p ∈ f1 ++ f2 ++ f3, p ∉ own b (o + k * GoT.n α) (GoT.n α) := fun p hp hq => hnd.2.2 _ (hsub p hq) _ hp rfl
  have hlf : Live w (f1 ++ f2 ++ f3) := h5.live
  have hl12 := Live.append.1 hlf
  have hl1 := (Live.append.1 hl12.1).1
  have hl3 := hl12.2
  have E1 : Els BIG w' c1 (l.take k) f1 := e1.keep (hw.same hl1 fun p hp => hdis p (by simp [hp]))
  have E3 : Els BIG w' c3 (l.drop (k + 1)) f3 := e3.keep (hw.same hl3 fun p hp => hdis p (by simp [hp]))
  have hlen1 : c1.length = k * GoT.n α := hc1
  have hcs : (c1 ++ (c2 ++ c3)).length = l.length * GoT.n α := by
    have := h5.length
    simpa using this
  have hlc : l.length * GoT.n α ≤ cap * GoT.n α := Nat.mul_le_mul_right _ h1
  have hbs : ∀ j, j < cap * GoT.n α → b < w.heap.size := fun j hj => h6.lt (b, o + j) (mem_own.2 ⟨rfl, by simp only; omega, by simp only; omega⟩)
  have A1 : At w' b o c1 := a1.keep fun j hj => hw.cell (b, o + j) (hbs j (by omega)) fun hm => by
    have := (mem_own.1 hm).2.1
    simp only at this
    omega
  have hc' := GoT.len hr
  simp only [List.length_append] at hcs
  have A3 : At w' b (o + k * GoT.n α + c'.length) c3 := by
    have a3' : At w b (o + k * GoT.n α + c'.length) c3 := by rw [hc', ← show c2.length = GoT.n α from hn]; exact hn ▸ a3
    refine a3'.keep fun j hj => hw.cell (b, _) (hbs 0 (by omega)) fun hm => ?_
    have := (mem_own.1 hm).2.2
    simp only at this
    omega
  have hE : Els BIG w' (c1 ++ (c' ++ c3)) (l.set k y) (f1 ++ (f' ++ f3)) := by
    rw [set_split hk]
    exact Els.append.2 ⟨c1, c' ++ c3, f1, f' ++ f3, rfl, E1, ⟨c', c3, f', f3, rfl, hr, E3, rfl⟩, rfl⟩
  have hA' : At w' b o (c1 ++ (c' ++ c3)) := At.append.2 ⟨A1, by rw [hc1]; exact At.append.2 ⟨hA, A3⟩⟩
  have hl6 : Live w' (own b o (cap * GoT.n α)) := by
    intro p hp
    by_cases hq : p ∈ own b (o + k * GoT.n α) (GoT.n α)
    · obtain ⟨q1, q2, q3⟩ := mem_own.1 hq
      have hj : p.2 - (o + k * GoT.n α) < c'.length := by omega
      have := hA (p.2 - (o + k * GoT.n α)) _ (List.getElem?_eq_getElem hj)
      rw [show p = (b, o + k * GoT.n α + (p.2 - (o + k * GoT.n α))) by rw [← q1]; ext <;> simp; omega]
      simp only
      rw [this]; rfl
    · rw [hw.cell p (h6.lt p hp) hq]
      exact h6 p hp
  have hfp : Fresh B w' (own b o (cap * GoT.n α) ++ (f1 ++ f2 ++ f3)) := hw.fresh (Live.append.2 ⟨h6, hlf⟩) hf
  refine ⟨own b o (cap * GoT.n α) ++ (f1 ++ (f' ++ f3)), .inr ⟨b, o, cap, _, _, by rw [List.length_set], by rw [List.length_set]; exact h1, h2, by rw [List.length_set]; exact h3, hA', hE, hl6, rfl⟩, ?_, ?_⟩
  · have n12 := List.nodup_append.1 hnd.2.1
    have n1 := List.nodup_append.1 n12.1
    have hd1 : ∀ p ∈ f', p ∉ own b o (cap * GoT.n α) := fun p hp hq => (hd p hp).elim (fun h => h (List.mem_append_left _ hq)) fun h => hnd.2.2 _ hq _ (by simp [h]) rfl
    have hd2 : ∀ p ∈ f', p ∉ f1 := fun p hp hq => (hd p hp).elim (fun h => h (by simp [hq])) fun h => n1.2.2 _ hq _ h rfl
    have hd3 : ∀ p ∈ f', p ∉ f3 := fun p hp hq => (hd p hp).elim (fun h => h (by simp [hq])) fun h => n12.2.2 _ (by simp [h]) _ hq rfl
    refine ⟨?_, ?_, ?_⟩
    · refine List.nodup_append.2 ⟨hnd.1, List.nodup_append.2 ⟨n1.1, List.nodup_append.2 ⟨hfr.nodup, n12.2.1, fun p hp q hq e => hd3 p hp (e ▸ hq)⟩, ?_⟩, ?_⟩
      · intro p hp q hq e
        subst e
        rcases List.mem_append.1 hq with hq | hq
        · exact hd2 p hq hp
        · exact n12.2.2 p (by simp [hp]) p hq rfl
      · intro p hp q hq e
        subst e
        rcases List.mem_append.1 hq with hq | hq
        · exact hnd.2.2 p hp p (by simp [hq]) rfl
        · rcases List.mem_append.1 hq with hq | hq
          · exact hd1 p hq hp
          · exact hnd.2.2 p hp p (by simp [hq]) rfl
    · intro p hp
      rcases List.mem_append.1 hp with hp | hp
      · exact hfp.ge p (List.mem_append_left _ hp)
      · rcases List.mem_append.1 hp with hp | hp
        · exact hfp.ge p (by simp [hp])
        · rcases List.mem_append.1 hp with hp | hp
          · exact hfr.ge p hp
          · exact hfp.ge p (by simp [hp])
    · intro p hp
      rcases List.mem_append.1 hp with hp | hp
      · exact hfp.free p (List.mem_append_left _ hp)
      · rcases List.mem_append.1 hp with hp | hp
        · exact hfp.free p (by simp [hp])
        · rcases List.mem_append.1 hp with hp | hp
          · exact hfr.free p hp
          · exact hfp.free p (by simp [hp])
  · intro p hp
    rcases List.mem_append.1 hp with hp | hp
    · exact .inl (List.mem_append_left _ hp)
    · rcases List.mem_append.1 hp with hp | hp
      · exact .inl (by simp [hp])
      · rcases List.mem_append.1 hp with hp | hp
        · exact .inr hp
        · exact .inl (by simp [hp])
end Go.Proofs.YtdjfmbdcdmmdfaaGreat
