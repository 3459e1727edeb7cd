/- A slice of a slice: where it lies, and what it reads. -/
import Derived.Test.YtihbmefidbmmdaaRow
import Derived.Test.YtihbmefidbmmdaaOut
namespace Go.Proofs.Ytihbmefidbmmdaa
open Go.RowKit
section
variable {α : Type} [GoT α] {M : Nat} {w : World} {v : Value} {l : List α} {fp : List Pos}
theorem Els.cut {cs : List Value} {fs : List Pos} {lo hi : Nat} (h : Els M w cs l fs) (h1 : lo ≤ hi) (h2 : hi ≤ l.length) :
    ∃ c1 c2 c3 f1 f2 f3, cs = c1 ++ (c2 ++ c3) ∧ fs = f1 ++ (f2 ++ f3) ∧ Els M w c1 (l.take lo) f1 ∧ Els M w c2 ((l.take hi).drop lo) f2 ∧ Els M w c3 (l.drop hi) f3 ∧ c1.length = lo * GoT.n α := by
  have e : l = l.take lo ++ ((l.take hi).drop lo ++ l.drop hi) := by
    rw [← List.append_assoc]
    have : l.take lo ++ (l.take hi).drop lo = l.take hi := by
      have := List.take_append_drop lo (l.take hi)
      rwa [List.take_take, Nat.min_eq_left h1] at this
    rw [this, List.take_append_drop]
  rw [e] at h
  obtain ⟨c1, c23, f1, f23, rfl, k1, k23, rfl⟩ := Els.append.1 h
  obtain ⟨c2, c3, f2, f3, rfl, k2, k3, rfl⟩ := Els.append.1 k23
  exact ⟨c1, c2, c3, f1, f2, f3, rfl, rfl, k1, k2, k3, by rw [k1.length, List.length_take, Nat.min_eq_left (by omega)]⟩
/-- the value of v[lo:hi:m] -/
def cutV (v : Value) (n lo hi m : Nat) : Value := match v with
  | .slice a _ _ => .slice (if m = lo then a else a.map (·.add (lo * n))) (hi - lo) (m - lo)
  | u => u
def capV (v : Value) : Nat := match v with
  | .slice _ _ c => c
  | _ => 0
theorem Sl.cap (h : Sl M w v l fp) : l.length ≤ capV v := by
  rcases h with ⟨ao, rfl, rfl, _⟩ | ⟨b, o, cap, cs, fs, rfl, h1, _⟩
  · exact Nat.le_refl _
  · exact h1
/-- v[lo:hi:m] reads as that part, out of places of v alone -/
theorem Sl.cut (h : Sl M w v l fp) {lo hi m : Nat} (h1 : lo ≤ hi) (h2 : hi ≤ l.length) (h3 : hi ≤ m) (h4 : m ≤ capV v) :
    ∃ fq, Sl M w (cutV v (GoT.n α) lo hi m) ((l.take hi).drop lo) fq ∧ (∀ p ∈ fq, p ∈ fp) ∧ (fp.Nodup → fq.Nodup) := by
  have hlen : ((l.take hi).drop lo).length = hi - lo := by rw [List.length_drop, List.length_take, Nat.min_eq_left h2]
  rcases h with ⟨ao, rfl, rfl, rfl⟩ | ⟨b, o, cap, cs, fs, rfl, k1, k2, k3, ha, he, hlv, rfl⟩
  · simp only [List.length_nil] at h2
    simp only [capV] at h4
    obtain rfl : hi = 0 := by omega
    obtain rfl : lo = 0 := by omega
    obtain rfl : m = 0 := by omega
    exact ⟨[], .inl ⟨ao, by simp [cutV], by simp, rfl⟩, fun _ h => h, fun h => h⟩
  · simp only [capV] at h4
    obtain ⟨c1, c2, c3, f1, f2, f3, rfl, rfl, e1, e2, e3, hc1⟩ := he.cut h1 h2
    by_cases hm : m = lo
    · subst hm
      obtain rfl : hi = m := by omega
      refine ⟨[], ?_, fun _ h => (by cases h), fun _ => List.nodup_nil⟩
      refine .inl ⟨some ⟨b, o, none⟩, ?_, ?_, rfl⟩
      · simp [cutV]
      · exact List.eq_nil_of_length_eq_zero (by rw [hlen]; omega)
    · have hn := GoT.pos (α := α)
      have hmul : lo * GoT.n α + (m - lo) * GoT.n α ≤ cap * GoT.n α := by
        rw [← Nat.add_mul]; exact Nat.mul_le_mul_right _ (by omega)
      have hsub : ∀ p ∈ own b (o + lo * GoT.n α) ((m - lo) * GoT.n α), p ∈ own b o (cap * GoT.n α) := by
        intro p hp
        obtain ⟨q1, q2, q3⟩ := mem_own.1 hp
        exact mem_own.2 ⟨q1, by omega, by omega⟩
      refine ⟨own b (o + lo * GoT.n α) ((m - lo) * GoT.n α) ++ f2, .inr ⟨b, o + lo * GoT.n α, m - lo, c2, f2, ?_, by rw [hlen]; omega, by omega, by rw [hlen]; omega, ?_, e2, fun p hp => hlv p (hsub p hp), rfl⟩, ?_, ?_⟩
      · simp only [cutV, if_neg hm, Option.map_some, addr_add, hlen]
      · obtain ⟨_, a23⟩ := At.append.1 ha
        obtain ⟨a2, _⟩ := At.append.1 a23
        rw [hc1] at a2
        exact a2
      · intro p hp
        rcases List.mem_append.1 hp with hp | hp
        · exact List.mem_append.2 (.inl (hsub p hp))
        · exact List.mem_append.2 (.inr (List.mem_append.2 (.inr (List.mem_append.2 (.inl hp)))))
      · intro nd
        obtain ⟨_, nf, dis⟩ := List.nodup_append.1 nd
        obtain ⟨_, n23, _⟩ := List.nodup_append.1 nf
        obtain ⟨n2, _, _⟩ := List.nodup_append.1 n23
        exact List.nodup_append.2 ⟨own_nodup _ _ _, n2, fun p hp q hq => dis p (hsub p hp) q (by simp [hq])⟩
variable {P : Program} {T E : TypeId}
theorem Sl.isS (h : Sl M w v l fp) : ∃ a c, v = .slice a l.length c := by
  rcases h with ⟨ao, rfl, rfl, _⟩ | ⟨b, o, cap, cs, fs, rfl, _⟩ <;> exact ⟨_, _, rfl⟩
theorem Sl.run_lh (h : Sl M w v l fp) (hT : P.underlying T = some (.slice E)) (hl : ∀ w1, (sizeOf E).run P w1 = .ok (GoT.n α) w1) {lo hi : Nat} (h1 : lo ≤ hi) (h2 : hi ≤ l.length) (w1 : World) :
    (Instr.sliceAt T v (some (.int .i64 lo)) (some (.int .i64 hi)) none).run P w1 = .ok (cutV v (GoT.n α) lo hi (capV v)) w1 := by
  have hc := h.cap
  obtain ⟨a, c, rfl⟩ := h.isS
  simp only [capV] at hc
  have e1 : (Instr.sliceBound (.int .i64 (hi : Int)) c .sliceAcap).run P w1 = .ok hi w1 := by rw [run_sliceBound _ _ _ _ _ (by omega) (by omega)]; rfl
  have e2 : (Instr.sliceBound (.int .i64 (lo : Int)) hi .sliceB).run P w1 = .ok lo w1 := by rw [run_sliceBound _ _ _ _ _ (by omega) (by omega)]; rfl
  simp [Instr.sliceAt, Instr.slice, run_underlying hT, Instr.sliceBounds, e1, e2, hl, cutV, capV]
  by_cases hm : c = lo <;> simp [hm]
theorem Sl.run_l (h : Sl M w v l fp) (hT : P.underlying T = some (.slice E)) (hl : ∀ w1, (sizeOf E).run P w1 = .ok (GoT.n α) w1) {lo : Nat} (h2 : lo ≤ l.length) (w1 : World) :
    (Instr.sliceAt T v (some (.int .i64 lo)) none none).run P w1 = .ok (cutV v (GoT.n α) lo l.length (capV v)) w1 := by
  obtain ⟨a, c, rfl⟩ := h.isS
  have e2 : (Instr.sliceBound (.int .i64 (lo : Int)) l.length .sliceB).run P w1 = .ok lo w1 := by rw [run_sliceBound _ _ _ _ _ (by omega) (by omega)]; rfl
  simp [Instr.sliceAt, Instr.slice, run_underlying hT, Instr.sliceBounds, e2, hl, cutV, capV]
  by_cases hm : c = lo <;> simp [hm]
theorem Sl.run_h (h : Sl M w v l fp) (hT : P.underlying T = some (.slice E)) (hl : ∀ w1, (sizeOf E).run P w1 = .ok (GoT.n α) w1) {hi : Nat} (h2 : hi ≤ l.length) (w1 : World) :
    (Instr.sliceAt T v none (some (.int .i64 hi)) none).run P w1 = .ok (cutV v (GoT.n α) 0 hi (capV v)) w1 := by
  have hc := h.cap
  obtain ⟨a, c, rfl⟩ := h.isS
  simp only [capV] at hc
  have e1 : (Instr.sliceBound (.int .i64 (hi : Int)) c .sliceAcap).run P w1 = .ok hi w1 := by rw [run_sliceBound _ _ _ _ _ (by omega) (by omega)]; rfl
  simp [Instr.sliceAt, Instr.slice, run_underlying hT, Instr.sliceBounds, e1, hl, cutV, capV]
theorem Sl.run_hm (h : Sl M w v l fp) (hT : P.underlying T = some (.slice E)) (hl : ∀ w1, (sizeOf E).run P w1 = .ok (GoT.n α) w1) {hi m : Nat} (h2 : hi ≤ m) (h3 : m ≤ capV v) (w1 : World) :
    (Instr.sliceAt T v none (some (.int .i64 hi)) (some (.int .i64 m))).run P w1 = .ok (cutV v (GoT.n α) 0 hi m) w1 := by
  obtain ⟨a, c, rfl⟩ := h.isS
  simp only [capV] at h3
  have e0 : (Instr.sliceBound (.int .i64 (m : Int)) c .slice3Acap).run P w1 = .ok m w1 := by rw [run_sliceBound _ _ _ _ _ (by omega) (by omega)]; rfl
  have e1 : (Instr.sliceBound (.int .i64 (hi : Int)) m .slice3B).run P w1 = .ok hi w1 := by rw [run_sliceBound _ _ _ _ _ (by omega) (by omega)]; rfl
  simp [Instr.sliceAt, Instr.slice, run_underlying hT, Instr.sliceBounds, e0, e1, hl, cutV]
end
/-- v[lo:hi] of a slice that is read -/
theorem RdS.cut {α : Type} [GoT α] {w : World} {v : Value} {l : List α} (h : RdS w v l) {P : Program} {T E : TypeId} (hT : P.underlying T = some (.slice E)) (hl : ∀ w1, (sizeOf E).run P w1 = .ok (GoT.n α) w1) {lo hi : Nat} (h1 : lo ≤ hi) (h2 : hi ≤ l.length) :
    ∃ v', (∀ w1, (Instr.sliceAt T v (some (.int .i64 lo)) (some (.int .i64 hi)) none).run P w1 = .ok v' w1) ∧ RdS w v' ((l.take hi).drop lo) := by
  obtain ⟨fp, h⟩ := h
  obtain ⟨fq, k, _, _⟩ := h.cut h1 h2 (Nat.le_trans h2 h.cap) (Nat.le_refl _)
  exact ⟨_, h.run_lh hT hl h1 h2, _, k⟩
theorem RdS.cutl {α : Type} [GoT α] {w : World} {v : Value} {l : List α} (h : RdS w v l) {P : Program} {T E : TypeId} (hT : P.underlying T = some (.slice E)) (hl : ∀ w1, (sizeOf E).run P w1 = .ok (GoT.n α) w1) {lo : Nat} (h2 : lo ≤ l.length) :
    ∃ v', (∀ w1, (Instr.sliceAt T v (some (.int .i64 lo)) none none).run P w1 = .ok v' w1) ∧ RdS w v' (l.drop lo) := by
  obtain ⟨fp, h⟩ := h
  obtain ⟨fq, k, _, _⟩ := h.cut (hi := l.length) h2 (Nat.le_refl _) h.cap (Nat.le_refl _)
  rw [List.take_length] at k
  exact ⟨_, h.run_l hT hl h2, _, k⟩
theorem RdS.cuth {α : Type} [GoT α] {w : World} {v : Value} {l : List α} (h : RdS w v l) {P : Program} {T E : TypeId} (hT : P.underlying T = some (.slice E)) (hl : ∀ w1, (sizeOf E).run P w1 = .ok (GoT.n α) w1) {hi : Nat} (h2 : hi ≤ l.length) :
    ∃ v', (∀ w1, (Instr.sliceAt T v none (some (.int .i64 hi)) none).run P w1 = .ok v' w1) ∧ RdS w v' (l.take hi) := by
  obtain ⟨fp, h⟩ := h
  obtain ⟨fq, k, _, _⟩ := h.cut (lo := 0) (Nat.zero_le _) h2 (Nat.le_trans h2 h.cap) (Nat.le_refl _)
  exact ⟨_, h.run_h hT hl h2, _, by simpa using k⟩
theorem RdS.src {α : Type} [GoT α] {w : World} {v : Value} {l : List α} (h : RdS w v l) : ∃ gs, Src w v l gs := let ⟨_, h⟩ := h; let ⟨gs, k, _⟩ := h.src; ⟨gs, k⟩
end Go.Proofs.Ytihbmefidbmmdaa
