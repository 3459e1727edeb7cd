/- Hubs: shut. -/
import Derived.Test.YtdjfmbdcdmmdfaaGreatHok
import Derived.Test.YtdjfmbdcdmmdfaaGreatHcp
import Derived.Deep.Cut
namespace Go.Proofs.YtdjfmbdcdmmdfaaGreat
open Go.RowKit
attribute [local go_sem ↓] Go.wp_at_zero Go.wp_at_succ
/-- a hub's memory of one's own, in blocks from C on and below D -/
def HubOwn (C D : Nat) (w : World) (vd vs : Value) (docs : List DDoc) (subs : List DSub) : Prop :=
  ∃ fd fs, Sl BIG w vd docs fd ∧ Sl BIG w vs subs fs ∧ Fresh C w (fd ++ fs) ∧ ∀ p ∈ fd ++ fs, p.1 < D
section
variable {C D : Nat} {w w' : World} {vd vs : Value} {docs : List DDoc} {subs : List DSub}
theorem HubOwn.of_own {cs : List Value} {z : DHub} (h : Own C w cs z) : ∃ vd vs, cs = [.bool z.shut, vd, vs, .int .i64 z.last] ∧ HubOwn C w.heap.size w vd vs z.docs z.subs := by
  obtain ⟨f, ⟨vd, vs, fd, fs, rfl, sd, ss, rfl⟩, hf⟩ := h
  exact ⟨vd, vs, rfl, fd, fs, sd, ss, hf, Live.lt (Live.append.2 ⟨sd.live, ss.live⟩)⟩
theorem HubOwn.rd1 (h : HubOwn C D w vd vs docs subs) : RdS w vd docs := let ⟨fd, _, sd, _⟩ := h; ⟨fd, sd⟩
theorem HubOwn.rd2 (h : HubOwn C D w vd vs docs subs) : RdS w vs subs := let ⟨_, fs, _, ss, _⟩ := h; ⟨fs, ss⟩
theorem HubOwn.mono {C' : Nat} (h : HubOwn C D w vd vs docs subs) (hC : C' ≤ C) : HubOwn C' D w vd vs docs subs := let ⟨fd, fs, a, b, c, d⟩ := h; ⟨fd, fs, a, b, c.mono hC, d⟩
theorem HubOwn.block (h : HubOwn C D w vd vs docs subs) (hs : ∀ k, C ≤ k → k < D → w'.heap[k]? = w.heap[k]?) : HubOwn C D w' vd vs docs subs := by
  obtain ⟨fd, fs, a, b, c, d⟩ := h
  have hc : ∀ p ∈ fd ++ fs, w'.cell? ⟨p.1, p.2, none⟩ = w.cell? ⟨p.1, p.2, none⟩ := fun p hp => by simp only [World.cell?]; rw [hs p.1 (c.ge p hp) (d p hp)]
  have hf : ∀ p ∈ fd ++ fs, w'.frozen? ⟨p.1, p.2, none⟩ = w.frozen? ⟨p.1, p.2, none⟩ := fun p hp => by simp only [World.frozen?]; rw [hs p.1 (c.ge p hp) (d p hp)]
  exact ⟨fd, fs, a.keep fun p hp => hc p (List.mem_append_left _ hp), b.keep fun p hp => hc p (List.mem_append_right _ hp), ⟨c.nodup, c.ge, fun p hp => (hf p hp).trans (c.free p hp)⟩, d⟩
theorem HubOwn.below (h : HubOwn C D w vd vs docs subs) (hb : Below D w w') : HubOwn C D w' vd vs docs subs := h.block fun k _ hk => hb.block k hk
theorem HubOwn.setCell {b o : Nat} (h : HubOwn C D w vd vs docs subs) (hp : b < C ∨ D ≤ b) (u : Value) : HubOwn C D (w.setCell ⟨b, o, none⟩ u) vd vs docs subs := h.block fun k h1 h2 => Below.heap_setCell w ⟨b, o, none⟩ u k (by show k ≠ b; omega)
theorem HubOwn.alloc (h : HubOwn C D w vd vs docs subs) (hD : D ≤ w.heap.size) (o : Obj) : HubOwn C D (w.alloc o) vd vs docs subs := h.below ((Below.refl _ _).alloc hD o)
theorem HubOwn.out_i {w0 : World} {y : DHub} {n : Int} (h : HubOwn C D w' vd vs y.docs y.subs) (hC : w0.heap.size ≤ C) (hb : Below w0.heap.size w0 w') : Out_Hub_i w0 y n (.returned (.tuple #[.agg #[.bool y.shut, vd, vs, .int .i64 y.last], .int .i64 n])) w' :=
  let ⟨fd, fs, a, b, c, _⟩ := h
  ⟨vd, vs, fd, fs, rfl, a, b, c.mono hC, hb⟩
theorem HubOwn.out_i_i {w0 : World} {y : DHub} {n m : Int} (h : HubOwn C D w' vd vs y.docs y.subs) (hC : w0.heap.size ≤ C) (hb : Below w0.heap.size w0 w') : Out_Hub_i_i w0 y n m (.returned (.tuple #[.agg #[.bool y.shut, vd, vs, .int .i64 y.last], .int .i64 n, .int .i64 m])) w' :=
  let ⟨fd, fs, a, b, c, _⟩ := h
  ⟨vd, vs, fd, fs, rfl, a, b, c.mono hC, hb⟩
end
theorem hub_cnt (z : DHub) : cntL z.docs + cntL z.subs ≤ 5 * (szL z.docs + szL z.subs) := by
  have := cntL_le z.docs
  have := cntL_le z.subs
  omega
theorem hubShut_cnt (z : DHub) : cntL (hubShut z).1.docs + cntL (hubShut z).1.subs ≤ 5 * (szL z.docs + szL z.subs) := by
  have := hub_cnt z
  unfold hubShut
  split
  · split
    · simp [hub0, cntL]
    · exact this
  · simp [hub0, cntL]
theorem hubShut_no {z : DHub} (h : hubOk z = false) : hubShut z = (hub0, 1) := by simp [hubShut, h]
theorem hubShut_shut {z : DHub} (h : hubOk z = true) (h2 : z.shut = true) : hubShut z = (hub0, 12) := by simp [hubShut, h, h2]
theorem hubShut_yes {z : DHub} (h : hubOk z = true) (h2 : z.shut = false) : hubShut z = (⟨true, z.docs, z.subs, z.last⟩, 0) := by simp [hubShut, h, h2]

end Go.Proofs.YtdjfmbdcdmmdfaaGreat
