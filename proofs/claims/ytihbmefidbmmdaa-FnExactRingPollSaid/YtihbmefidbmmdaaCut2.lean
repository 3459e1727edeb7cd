/- A slice parted in two: what lies before a place, and what lies behind it. -/
import Derived.Test.YtihbmefidbmmdaaCut
namespace Go.Proofs.Ytihbmefidbmmdaa
open Go.RowKit
theorem Sl.parts {α : Type} [GoT α] {M : Nat} {w : World} {v : Value} {l : List α} {fp : List Pos} (h : Sl M w v l fp) (nd : fp.Nodup) {k : Nat} (hk : k ≤ l.length) :
    ∃ f1 f2, Sl M w (cutV v (GoT.n α) 0 k k) (l.take k) f1 ∧ Sl M w (cutV v (GoT.n α) k l.length (capV v)) (l.drop k) f2 ∧ (f1 ++ f2).Nodup ∧ ∀ p ∈ f1 ++ f2, p ∈ fp := by
  rcases h with ⟨ao, rfl, rfl, rfl⟩ | ⟨b, o, cap, cs, fs, rfl, k1, k2, k3, ha, he, hlv, rfl⟩
  · obtain rfl : k = 0 := by simpa using hk
    exact ⟨[], [], .inl ⟨ao, by simp [cutV], by simp, rfl⟩, .inl ⟨ao, by simp [cutV, capV], by simp, rfl⟩, by simp, fun _ h => h⟩
  · rw [← List.take_append_drop k l] at he
    obtain ⟨c1, c2, g1, g2, rfl, e1, e2, rfl⟩ := Els.append.1 he
    have hl1 : (l.take k).length = k := by simp; omega
    have hl2 : (l.drop k).length = l.length - k := by simp
    have hc1 := e1.length
    rw [hl1] at hc1
    obtain ⟨a1, a2⟩ := At.append.1 ha
    rw [hc1] at a2
    have hcap : cap * GoT.n α = k * GoT.n α + (cap - k) * GoT.n α := by rw [← Nat.add_mul]; congr 1; omega
    rw [hcap, own_append] at nd hlv
    rw [hcap, own_append]
    obtain ⟨v1, v2⟩ := Live.append.1 hlv
    by_cases h0 : k = 0
    · subst h0
      obtain ⟨rfl, rfl⟩ : c1 = [] ∧ g1 = [] := by have := e1; rw [List.take_zero] at this; exact this
      have e0 : own b o 0 = [] := rfl
      simp only [Nat.zero_mul, Nat.add_zero, Nat.sub_zero, e0, List.nil_append] at nd a2 v2 ⊢
      refine ⟨[], own b o (cap * GoT.n α) ++ g2, .inl ⟨some ⟨b, o, none⟩, by simp [cutV], by simp, rfl⟩, .inr ⟨b, o, cap, c2, g2, ?_, by simpa using k1, k2, by simpa using k3, by simpa using a2, e2, by simpa using v2, rfl⟩, ?_, ?_⟩
      · by_cases hc : cap = 0 <;> simp [cutV, capV, hc, addr_add]
      · exact nd
      · exact fun _ h => h
    · have s1 : Sl M w (cutV (.slice (some ⟨b, o, none⟩) l.length cap) (GoT.n α) 0 k k) (l.take k) (own b o (k * GoT.n α) ++ g1) := by
        refine .inr ⟨b, o, k, c1, g1, ?_, by rw [hl1]; exact Nat.le_refl _, by omega, by rw [hl1]; omega, a1, e1, v1, rfl⟩
        simp only [cutV, if_neg h0, Option.map_some, addr_add, hl1]
        simp
      by_cases hm : cap = k
      · obtain rfl : cap = k := hm
        have : l.length = cap := by omega
        refine ⟨_, [], s1, .inl ⟨some ⟨b, o, none⟩, ?_, by simp; omega, rfl⟩, ?_, ?_⟩
        · simp [cutV, capV, this]
        · rw [List.append_nil]
          simp only [List.nodup_append, List.mem_append] at nd ⊢
          grind
        · intro p hp
          simp only [List.append_nil, List.mem_append] at hp ⊢
          rcases hp with hp | hp <;> simp [hp]
      · refine ⟨_, own b (o + k * GoT.n α) ((cap - k) * GoT.n α) ++ g2, s1, .inr ⟨b, o + k * GoT.n α, cap - k, c2, g2, ?_, by rw [hl2]; omega, by omega, by rw [hl2]; omega, a2, e2, v2, rfl⟩, ?_, ?_⟩
        · simp only [cutV, capV, if_neg hm, Option.map_some, addr_add, hl2]
        · simp only [List.nodup_append, List.mem_append] at nd ⊢
          grind
        · intro p hp
          simp only [List.mem_append] at hp ⊢
          rcases hp with (hp | hp) | hp | hp <;> simp [hp]
end Go.Proofs.Ytihbmefidbmmdaa
