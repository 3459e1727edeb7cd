/- Polling a ring. -/
import Derived.Test.YtdjfmbdcdmmdfaaGreatRps
import Derived.Test.YtdjfmbdcdmmdfaaGreatRo
import Derived.Deep.RegionHeld3
namespace Go.Proofs.YtdjfmbdcdmmdfaaGreat
open Go.RowKit
def pollK (r : DRing) (n : Int) : Nat := min n.toNat r.list.length
def ringPoll (r : DRing) (n : Int) : DRing × List DEntry × Int :=
  if ringOk r = true ∧ 1 ≤ n then (if r.out = true then (r, [], 9) else (⟨r.cap, r.next + pollK r n, r.out, r.list.drop (pollK r n)⟩, r.list.take (pollK r n), 0)) else (r, [], 1)
theorem cntL_sub {α : Type} [GoT α] [GoM α] [GoS α] [GoMS α] (l : List α) (k : Nat) : cntL (l.take k) ≤ 5 * szL l ∧ cntL (l.drop k) ≤ 5 * szL l := by
  have h1 := cntL_le (l.take k)
  have h2 := cntL_le (l.drop k)
  have h3 := szL_sub l k
  omega
theorem out_poll {w wE : World} {y0 : DRing} {y1 : List DEntry} {y2 : Int} {v0 v1 : Value} {C1 D1 C2 D2 : Nat} (h0 : OwnB C1 D1 wE v0 y0.list) (h1 : OwnB C2 D2 wE v1 y1) (hd : D1 ≤ C2) (hC : w.heap.size ≤ C1) (hC2 : w.heap.size ≤ C2) (hb : Below w.heap.size w wE) :
    Out_Ring_EntryS_i w y0 y1 y2 (.returned (.tuple #[.agg #[.int .i64 y0.cap, .int .i64 y0.next, .bool y0.out, v0], v1, .int .i64 y2])) wE := by
  obtain ⟨f0, s0, k0, d0⟩ := h0
  obtain ⟨f1, s1, k1, _⟩ := h1
  refine ⟨v0, v1, f0, f1, rfl, s0, s1, (k0.mono hC).join (k1.mono hC2) fun p hp q hq e => ?_, hb⟩
  subst e
  have := d0 _ hp; have := k1.ge _ hq; omega
theorem out_poll2 {w wE : World} {y0 : DRing} {y1 : List DEntry} {y2 : Int} {v0 v1 : Value} {f1 f0 : List Pos} (h1 : Sl BIG wE v1 y1 f1) (h0 : Sl BIG wE v0 y0.list f0) (hf : Fresh w.heap.size wE (f1 ++ f0)) (hb : Below w.heap.size w wE) :
    Out_Ring_EntryS_i w y0 y1 y2 (.returned (.tuple #[.agg #[.int .i64 y0.cap, .int .i64 y0.next, .bool y0.out, v0], v1, .int .i64 y2])) wE :=
  ⟨v0, v1, f0, f1, rfl, h0, h1, hf.right.join hf.left fun p hp q hq e => (List.nodup_append.1 hf.nodup).2.2 q hq p hp e.symm, hb⟩
theorem ringPoll_no {r : DRing} {n : Int} (h : ¬ (ringOk r = true ∧ 1 ≤ n)) : ringPoll r n = (r, [], 1) := if_neg h
theorem ringPoll_out {r : DRing} {n : Int} (h : ringOk r = true ∧ 1 ≤ n) (h2 : r.out = true) : ringPoll r n = (r, [], 9) := by unfold ringPoll; rw [if_pos h, if_pos h2]
theorem ringPoll_in {r : DRing} {n : Int} (h : ringOk r = true ∧ 1 ≤ n) (h2 : r.out = false) {k : Nat} (hk : pollK r n = k) : ringPoll r n = (⟨r.cap, r.next + k, r.out, r.list.drop k⟩, r.list.take k, 0) := by
  unfold ringPoll; rw [if_pos h, if_neg (by rw [h2]; decide), hk]

theorem ringPoll_cnt (r : DRing) (n : Int) : cntL (ringPoll r n).1.list + cntL (ringPoll r n).2.1 ≤ 10 * szL r.list := by
  have h := cntL_le r.list
  unfold ringPoll
  split
  · split
    · simp [cntL]; omega
    · have h2 := cntL_sub r.list (pollK r n)
      simp only
      omega
  · simp [cntL]; omega
end Go.Proofs.YtdjfmbdcdmmdfaaGreat
