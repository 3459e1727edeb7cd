/- A hub in memory of one's own: what is answered; subscribers appended, and laid anew. -/
import Derived.Test.YtdjfmbdcdmmdfaaGreatHsh
import Derived.Test.YtdjfmbdcdmmdfaaGreatRo
import Derived.Test.YtdjfmbdcdmmdfaaGreatCp
namespace Go.Proofs.YtdjfmbdcdmmdfaaGreat
open Go.RowKit
section
variable {w w' : World} {n m : Int}
theorem out_hub0_i (hb : Below w.heap.size w w') : Out_Hub_i w hub0 n (.returned (.tuple #[.agg #[.bool false, .slice none 0 0, .slice none 0 0, .int .i64 0], .int .i64 n])) w' :=
  ⟨_, _, [], [], rfl, Sl.nil, Sl.nil, Fresh.nil _ _, hb⟩
theorem out_hub0_i_i (hb : Below w.heap.size w w') : Out_Hub_i_i w hub0 n m (.returned (.tuple #[.agg #[.bool false, .slice none 0 0, .slice none 0 0, .int .i64 0], .int .i64 n, .int .i64 m])) w' :=
  ⟨_, _, [], [], rfl, Sl.nil, Sl.nil, Fresh.nil _ _, hb⟩
theorem out_hub0_es_i (hb : Below w.heap.size w w') : Out_Hub_EntryS_i w hub0 [] n (.returned (.tuple #[.agg #[.bool false, .slice none 0 0, .slice none 0 0, .int .i64 0], .slice none 0 0, .int .i64 n])) w' :=
  ⟨_, _, _, [], [], [], rfl, Sl.nil, Sl.nil, Sl.nil, Fresh.nil _ _, hb⟩
theorem out_hub0_is_i_i (hb : Below w.heap.size w w') : Out_Hub_IntS_i_i w hub0 [] n m (.returned (.tuple #[.agg #[.bool false, .slice none 0 0, .slice none 0 0, .int .i64 0], .slice none 0 0, .int .i64 n, .int .i64 m])) w' :=
  ⟨_, _, _, [], [], [], rfl, Sl.nil, Sl.nil, Sl.nil, Fresh.nil _ _, hb⟩
end
/-- a hub's memory of one's own, in blocks from B on, without the block ob -/
def HubNe (ob B : Nat) (w : World) (vd vs : Value) (docs : List DDoc) (subs : List DSub) : Prop := ∃ fd fs, Sl BIG w vd docs fd ∧ Sl BIG w vs subs fs ∧ Fresh B w (fd ++ fs) ∧ ∀ p ∈ fd ++ fs, p.1 ≠ ob
section
variable {ob B : Nat} {w w' : World} {vd vs : Value} {docs : List DDoc} {subs : List DSub}
theorem HubNe.block (h : HubNe ob B w vd vs docs subs) (hs : ∀ k, B ≤ k → k ≠ ob → w'.heap[k]? = w.heap[k]?) : HubNe ob B w' vd vs docs subs := by
  obtain ⟨fd, fs, a, b, c, d⟩ := h
  have hc : ∀ p ∈ fd ++ fs, w'.cell? ⟨p.1, p.2, none⟩ = w.cell? ⟨p.1, p.2, none⟩ := fun p hp => by simp only [World.cell?]; rw [hs p.1 (c.ge p hp) (d p hp)]
  have hf : ∀ p ∈ fd ++ fs, w'.frozen? ⟨p.1, p.2, none⟩ = w.frozen? ⟨p.1, p.2, none⟩ := fun p hp => by simp only [World.frozen?]; rw [hs p.1 (c.ge p hp) (d p hp)]
  exact ⟨fd, fs, a.keep fun p hp => hc p (List.mem_append_left _ hp), b.keep fun p hp => hc p (List.mem_append_right _ hp), ⟨c.nodup, c.ge, fun p hp => (hf p hp).trans (c.free p hp)⟩, d⟩
theorem HubNe.setCell {b o : Nat} (h : HubNe ob B w vd vs docs subs) (hp : b < B ∨ b = ob) (u : Value) : HubNe ob B (w.setCell ⟨b, o, none⟩ u) vd vs docs subs := h.block fun k h1 h2 => Below.heap_setCell w ⟨b, o, none⟩ u k (by show k ≠ b; omega)
theorem HubNe.drew (h : HubNe ob B w vd vs docs subs) : HubNe ob B w.drew vd vs docs subs := h.block fun _ _ _ => rfl
theorem HubNe.out_i_i {w0 : World} {y : DHub} {n m : Int} (h : HubNe ob B w' vd vs y.docs y.subs) (hC : w0.heap.size ≤ B) (hb : Below w0.heap.size w0 w') : Out_Hub_i_i w0 y n m (.returned (.tuple #[.agg #[.bool y.shut, vd, vs, .int .i64 y.last], .int .i64 n, .int .i64 m])) w' :=
  let ⟨fd, fs, a, b, c, _⟩ := h
  ⟨vd, vs, fd, fs, rfl, a, b, c.mono hC, hb⟩
theorem HubNe.out_i {w0 : World} {y : DHub} {n : Int} (h : HubNe ob B w' vd vs y.docs y.subs) (hC : w0.heap.size ≤ B) (hb : Below w0.heap.size w0 w') : Out_Hub_i w0 y n (.returned (.tuple #[.agg #[.bool y.shut, vd, vs, .int .i64 y.last], .int .i64 n])) w' :=
  let ⟨fd, fs, a, b, c, _⟩ := h
  ⟨vd, vs, fd, fs, rfl, a, b, c.mono hC, hb⟩
end
section
variable {C D : Nat} {w : World} {vd vs : Value} {docs : List DDoc} {subs : List DSub}
theorem HubOwn.row (h : HubOwn C D w vd vs docs subs) {B ob : Nat} (hB : B ≤ C) (hCD : C ≤ D) (ho : D ≤ ob) : ∃ gs, Row C w vs subs gs ∧ (∀ p ∈ rowP (GoT.n DSub) vs ++ gs, p.1 < D) ∧
    ∀ (W w' : World) (v' : Value) (x : DSub) (f : List Pos), Below w.heap.size w W → Wr (rowP (GoT.n DSub) vs) W w' → Row C w' v' (subs ++ [x]) (gs ++ f) → (∀ p ∈ rowP (GoT.n DSub) v', p ∈ rowP (GoT.n DSub) vs ∨ ob < p.1) →
      Fresh B W f → Live W f → (∀ p ∈ f, p.1 < C ∨ ob < p.1) → HubNe ob B w' vd v' docs (subs ++ [x]) := by
  obtain ⟨fd, fs, sd, ss, hf, hD⟩ := h
  obtain ⟨gs, rfl⟩ := ss.split
  have nd := List.nodup_append.1 hf.nodup
  have ns := List.nodup_append.1 nd.2.1
  refine ⟨gs, ⟨ss, hf.right.left, fun p hp hq => ns.2.2 p hq p hp rfl⟩, fun p hp => hD p (List.mem_append_right _ hp), ?_⟩
  intro W w' v' x f hb hw hr hn hff hfl hfD
  have sd' := sd.wr2 hb hw (fun p hp hq => nd.2.2 p hp p (List.mem_append_left _ hq) rfl)
  have k1 : Fresh C w' fd := hf.left.wr2 hb hw (Live.lt sd.live)
  have k3 : Fresh C w' gs := hf.right.right.wr2 hb hw (fun p hp => Live.lt ss.live p (List.mem_append_right _ hp))
  have k4 : Fresh B w' f := hw.fresh hfl hff
  have hx : ∀ p ∈ fd ++ (rowP (GoT.n DSub) vs ++ gs), p ∉ f := fun p hp hq => by
    have := hf.ge p hp; have := hD p hp; have := hfD p hq; omega
  have hs : Fresh B w' (gs ++ f) := (k3.mono hB).join k4 fun p hp q hq e => hx p (List.mem_append_right _ (List.mem_append_right _ hp)) (e ▸ hq)
  refine ⟨fd, _, sd', hr.1, (k1.mono hB).join ((hr.2.1.mono hB).join hs fun p hp q hq e => hr.2.2 q hq (e ▸ hp)) fun p hp q hq e => ?_, ?_⟩
  · subst e
    have a := hD p (List.mem_append_left _ hp)
    rcases List.mem_append.1 hq with hq | hq
    · rcases hn p hq with hq | hq
      · exact nd.2.2 p hp p (List.mem_append_left _ hq) rfl
      · omega
    · rcases List.mem_append.1 hq with hq | hq
      · exact nd.2.2 p hp p (List.mem_append_right _ hq) rfl
      · exact hx p (List.mem_append_left _ hp) hq
  · intro p hp
    rcases List.mem_append.1 hp with hp | hp
    · have := hD p (List.mem_append_left _ hp); omega
    · rcases List.mem_append.1 hp with hp | hp
      · rcases hn p hp with hp | hp
        · have := hD p (List.mem_append_right _ (List.mem_append_left _ hp)); omega
        · omega
      · rcases List.mem_append.1 hp with hp | hp
        · have := hD p (List.mem_append_right _ (List.mem_append_right _ hp)); omega
        · have := hfD p hp; omega
theorem HubOwn.el (h : HubOwn C D w vd vs docs subs) {B : Nat} (hB : B ≤ C) {P : Program} {T E : TypeId} (hT : P.underlying T = some (.slice E)) (hl : ∀ w1, (sizeOf E).run P w1 = .ok (GoT.n DSub) w1) {k : Nat} {s : DSub} (hk : subs[k]? = some s) :
    ∃ b o vl, (∀ w1, (Instr.indexAt T vs (.int .i64 k)).run P w1 = .ok (.pointer (some ⟨b, o, none⟩)) w1) ∧ C ≤ b ∧ b < D ∧ b < w.heap.size ∧
      At w b o [.int .i64 s.id, .string s.doc, .int .i64 s.r.cap, .int .i64 s.r.next, .bool s.r.out, vl] ∧ RdS w vl s.r.list ∧ (∀ j < 6, w.frozen? ⟨b, o + j, none⟩ = false) ∧
      ∀ (w' : World) (r : DRing) (v' : Value) (f0 : List Pos), Wr (own b o 6) w w' → At w' b o [.int .i64 s.id, .string s.doc, .int .i64 r.cap, .int .i64 r.next, .bool r.out, v'] → Sl BIG w' v' r.list f0 → Fresh B w' f0 →
        (∀ p ∈ f0, p.1 < C ∨ D ≤ p.1) → ∃ fd fs, Sl BIG w' vd docs fd ∧ Sl BIG w' vs (subs.set k ⟨s.id, s.doc, r⟩) fs ∧ Fresh B w' (fd ++ fs) ∧ ∀ p ∈ fd ++ fs, (C ≤ p.1 ∧ p.1 < D) ∨ p ∈ f0 := by
  obtain ⟨fd, fs, sd, ss, hf, hD⟩ := h
  have nd := List.nodup_append.1 hf.nodup
  obtain ⟨b, o, cap, c2, f2, rfl, ha, hrd, hin, hsub, hset⟩ := ss.el (hf.right.mono hB) hk
  have hlt := (List.getElem?_eq_some_iff.1 hk).1
  have hi : ∀ w1, (Instr.indexAt T (.slice (some ⟨b, o, none⟩) subs.length cap) (.int .i64 k)).run P w1 = .ok (.pointer (some ⟨b, o + k * GoT.n DSub, none⟩)) w1 := fun w1 => by
    have hi : ¬ subs.length ≤ k := by omega
    simp [Instr.indexAt, run_underlying hT, asIntOf, hl, Addr.add_lit, Result.andThen]
    intro hh
    exact absurd hh hi
  obtain ⟨cr, fr, rfl, nn, ⟨vl, fl, rfl, sl, rfl⟩, rfl⟩ := hrd
  have h6 : GoT.n DSub = 6 := rfl
  have hb := hin 0 (by rw [h6]; omega)
  have hbC := hf.right.ge _ hb
  have hbD := hD _ (List.mem_append_right _ hb)
  have hbw := Live.lt ss.live _ hb
  refine ⟨b, o + k * GoT.n DSub, vl, hi, hbC, hbD, hbw, ha, ⟨_, sl⟩, fun j hj => hf.right.free _ (hin j (by rw [h6]; omega)), ?_⟩
  intro w' r v' f0 hw ha' s0 k0 hd0
  have hnot : ∀ p ∈ f0, p ∉ fd ++ fs := fun p hp hq => by
    have := hf.ge p hq; have := hD p hq; have := hd0 p hp; omega
  obtain ⟨fp', g1, g2, g3⟩ := hset w' _ ⟨s.id, s.doc, r⟩ f0 hw ha' ⟨_, _, rfl, nn, ⟨v', f0, rfl, s0, rfl⟩, rfl⟩ k0 (fun p hp => .inl fun hq => hnot p hp (List.mem_append_right _ hq))
  have hown : ∀ p ∈ own b (o + k * GoT.n DSub) 6, p ∈ fs := fun p hp => by
    obtain ⟨q1, q2, q3⟩ := mem_own.1 hp
    have := hin (p.2 - (o + k * GoT.n DSub)) (by rw [h6]; rw [h6] at q2 q3; omega)
    have e : (b, o + k * GoT.n DSub + (p.2 - (o + k * GoT.n DSub))) = p := Prod.ext q1.symm (Nat.add_sub_cancel' q2)
    rwa [e] at this
  have sd' := sd.wr hw (fun p hp hq => nd.2.2 p hp p (hown p hq) rfl)
  refine ⟨fd, fp', sd', g1, ((hw.fresh sd.live hf.left).mono hB).join g2 fun p hp q hq e => ?_, fun p hp => ?_⟩
  · subst e
    rcases g3 p hq with hq | hq
    · exact nd.2.2 p hp p hq rfl
    · exact hnot p hq (List.mem_append_left _ hp)
  · rcases List.mem_append.1 hp with hp | hp
    · exact .inl ⟨hf.left.ge p hp, hD p (List.mem_append_left _ hp)⟩
    · rcases g3 p hp with hp | hp
      · exact .inl ⟨hf.right.ge p hp, hD p (List.mem_append_right _ hp)⟩
      · exact .inr hp
end
/-- a hub's own memory with a list beside it -/
theorem out_es {w w' : World} {y : DHub} {l : List DEntry} {n : Int} {vd vs v1 : Value} {fd fs f1 : List Pos} (sd : Sl BIG w' vd y.docs fd) (ss : Sl BIG w' vs y.subs fs) (s1 : Sl BIG w' v1 l f1) (hf : Fresh w.heap.size w' (fd ++ fs)) (h1 : Fresh w.heap.size w' f1)
    (hd : ∀ p ∈ f1, p ∉ fd ++ fs) (hb : Below w.heap.size w w') : Out_Hub_EntryS_i w y l n (.returned (.tuple #[.agg #[.bool y.shut, vd, vs, .int .i64 y.last], v1, .int .i64 n])) w' :=
  ⟨vd, vs, v1, fd, fs, f1, rfl, sd, ss, s1, by rw [← List.append_assoc]; exact hf.join h1 fun p hp q hq e => hd q hq (e ▸ hp), hb⟩
theorem out_is {w w' : World} {y : DHub} {l : List Int} {n m : Int} {vd vs v1 : Value} {fd fs f1 : List Pos} (sd : Sl BIG w' vd y.docs fd) (ss : Sl BIG w' vs y.subs fs) (s1 : Sl BIG w' v1 l f1) (hf : Fresh w.heap.size w' (fd ++ fs)) (h1 : Fresh w.heap.size w' f1)
    (hd : ∀ p ∈ f1, p ∉ fd ++ fs) (hb : Below w.heap.size w w') : Out_Hub_IntS_i_i w y l n m (.returned (.tuple #[.agg #[.bool y.shut, vd, vs, .int .i64 y.last], v1, .int .i64 n, .int .i64 m])) w' :=
  ⟨vd, vs, v1, fd, fs, f1, rfl, sd, ss, s1, by rw [← List.append_assoc]; exact hf.join h1 fun p hp q hq e => hd q hq (e ▸ hp), hb⟩
end Go.Proofs.YtdjfmbdcdmmdfaaGreat
