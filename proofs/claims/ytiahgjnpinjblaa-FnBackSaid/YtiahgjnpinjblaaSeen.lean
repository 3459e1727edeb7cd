/- The entry that a document keeps for a client: what the reference and the program look up. -/
import Derived.Test.YtiahgjnpinjblaaRo
import Derived.Test.YtiahgjnpinjblaaCm
import Derived.Test.YtiahgjnpinjblaaHub1
namespace Go.Proofs.Ytiahgjnpinjblaa
open Go.RowKit
def seenOf (x : DDoc) (client : Int) : DSeen × Bool := match x.seen.find? (fun s => decide (s.client = client)) with | some s => (s, true) | none => (⟨0, 0, 0⟩, false)
theorem seenOf_at {x : DDoc} {client : Int} {k : Nat} {s : DSeen} (hj : ∀ j < k, ∀ y, x.seen[j]? = some y → decide (y.client = client) = false) (hx : x.seen[k]? = some s) (hp : decide (s.client = client) = true) : seenOf x client = (s, true) := by
  have : x.seen.find? (fun s => decide (s.client = client)) = some s := by
    rw [List.find?_eq_some_iff_getElem]
    obtain ⟨h1, h2⟩ := List.getElem?_eq_some_iff.1 hx
    refine ⟨hp, k, h1, h2, fun j hjk => ?_⟩
    rw [hj j hjk _ (List.getElem?_eq_getElem (by omega))]
    rfl
  unfold seenOf
  rw [this]
theorem seenOf_no {x : DDoc} {client : Int} (hj : ∀ j < x.seen.length, ∀ y, x.seen[j]? = some y → decide (y.client = client) = false) : seenOf x client = (⟨0, 0, 0⟩, false) := by
  have : x.seen.find? (fun s => decide (s.client = client)) = none := by
    rw [List.find?_eq_none]
    intro s hs
    obtain ⟨j, hjl, e⟩ := List.mem_iff_getElem.1 hs
    rw [hj j hjl s (by rw [List.getElem?_eq_getElem hjl, e])]
    simp
  unfold seenOf
  rw [this]
set_option maxHeartbeats 1000000 in
theorem spec_SeenOf_c (x : DDoc) (v_text v_list v_seen : Value) (client : Int) (w : World) (h_seen : RdS w v_seen x.seen) :
    Calls Try.prog 30 #[.agg #[.string x.name, .int .i64 x.from_, v_text, v_list, v_seen], .int .i64 client] w (Out_Seen_b w (seenOf x client).1 (seenOf x client).2) := by
  have hl := fun w1 ty => h_seen.len Try.underlying25 w1 ty
  have ba := h_seen.le
  go_enter Try.func30, Try.ntmps30
  go_wp2
  go_loopw [11] (fun i wr => ∃ k : Nat, k ≤ x.seen.length ∧ i = .int .i64 k ∧ (∀ j < k, ∀ y, x.seen[j]? = some y → decide (y.client = client) = false) ∧ Below (w.heap.size + 2) ((w.alloc (.cells #[.string x.name, .int .i64 x.from_, v_text, v_list, v_seen] 27)).alloc (.cells #[.int .i64 0, .int .i64 0, .int .i64 0] 65)) wr) (fun i _ => x.seen.length - (intOf i).toNat)
  case atStart => exact ⟨0, Nat.zero_le _, rfl, fun _ h => absurd h (Nat.not_lt_zero _), blw⟩
  case round =>
    obtain ⟨k, hk, rfl, hj, hbw⟩ := hrel
    have hsz := hbw.size
    simp only [World.size_alloc] at hsz
    have hbw0 : Below w.heap.size w wr := (((Below.refl _ _).alloc (Nat.le_refl _) _).alloc (by simp) _).trans (hbw.mono (by omega))
    have r0 : wr.cell? ⟨w.heap.size + 1, 0, none⟩ = some (.int .i64 0) := by rw [hbw.cell (by simp)]; simp
    have r1 : wr.cell? ⟨w.heap.size + 1, 1, none⟩ = some (.int .i64 0) := by rw [hbw.cell (by simp)]; simp
    have r2 : wr.cell? ⟨w.heap.size + 1, 2, none⟩ = some (.int .i64 0) := by rw [hbw.cell (by simp)]; simp
    have t0 : wr.frozen? ⟨w.heap.size + 1, 0, none⟩ = false := by rw [hbw.frozen (by simp)]; simp
    have t1 : wr.frozen? ⟨w.heap.size + 1, 1, none⟩ = false := by rw [hbw.frozen (by simp)]; simp
    have t2 : wr.frozen? ⟨w.heap.size + 1, 2, none⟩ = false := by rw [hbw.frozen (by simp)]; simp
    have zz : w.heap.size + 1 < wr.heap.size := by omega
    have HJ := Lib.hid hj; clear hj
    by_cases hlt : k < x.seen.length
    · obtain ⟨s, hx⟩ := get_some hlt
      obtain ⟨b1, o1, cs, h1, h2, h3⟩ := (h_seen.below hbw0).idx Try.underlying25 szi_DSeen k hx
      obtain rfl := inv_DSeen h3
      have q0 := h2.zero
      have q1 := h2 1 _ rfl
      have q2 := h2 2 _ rfl
      have HX := Lib.hid hx; clear hx
      by_cases e : s.client = client
      · have e1 : (s.client == client) = true := by simpa using e
        have HN := Lib.hid (seenOf_at HJ.out HX.out (dec_t e))
        clear e
        go_wp2
        refine bodyPost_ret (v := .tuple #[.agg #[.int .i64 s.client, .int .i64 s.seq, .int .i64 s.rev], .bool true]) (by simp [results, Try.results30, go_sem, zz, r0, r1, r2]) rfl ?_
        rw [HN.out]
        exact ⟨rfl, blw⟩
      · have e1 : (s.client == client) = false := by simpa using e
        have E2 := Lib.hid (dec_f e)
        clear e
        go_wp2
        go_roundw
        case rel => exact ⟨k + 1, by omega, by go_num, no_step HX.out E2.out HJ.out, blw⟩
        case measure => simp [intOf]; omega
    · have HN := Lib.hid (seenOf_no (x := x) (client := client) fun j hj => HJ.out j (by omega))
      go_wp2
      refine bodyPost_ret (v := .tuple #[.agg #[.int .i64 0, .int .i64 0, .int .i64 0], .bool false]) (by simp [results, Try.results30, go_sem, r0, r1, r2]) rfl ?_
      rw [HN.out]
      exact ⟨rfl, blw⟩
end Go.Proofs.Ytiahgjnpinjblaa
