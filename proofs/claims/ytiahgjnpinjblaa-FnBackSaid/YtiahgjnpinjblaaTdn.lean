/- A document's memory of one's own, without a block: what the steps of a submission make of it. -/
import Derived.Test.YtiahgjnpinjblaaRbs
import Derived.Test.YtiahgjnpinjblaaIns
import Derived.Test.YtiahgjnpinjblaaTri
namespace Go.Proofs.Ytiahgjnpinjblaa
open Go.RowKit
def TriN (ob C : Nat) (w : World) (vt vl vs : Value) (text : List Int) (list : List DEntry) (seen : List DSeen) : Prop :=
  ∃ ft fl fs, Sl BIG w vt text ft ∧ Sl BIG w vl list fl ∧ Sl BIG w vs seen fs ∧ Fresh C w (ft ++ (fl ++ fs)) ∧ ∀ p ∈ ft ++ (fl ++ fs), p.1 ≠ ob
section
variable {ob C : Nat} {w w' : World} {vt vl vs : Value} {text : List Int} {list : List DEntry} {seen : List DSeen}
theorem TriN.mono {C' : Nat} (h : TriN ob C w vt vl vs text list seen) (hC : C' ≤ C) : TriN ob C' w vt vl vs text list seen :=
  let ⟨ft, fl, fs, a, b, c, d, e⟩ := h
  ⟨ft, fl, fs, a, b, c, d.mono hC, e⟩
theorem TriN.rdL (h : TriN ob C w vt vl vs text list seen) : RdS w vl list := let ⟨_, fl, _, _, b, _⟩ := h; ⟨fl, b⟩
theorem TriN.rdT (h : TriN ob C w vt vl vs text list seen) : RdS w vt text := let ⟨ft, _, _, a, _⟩ := h; ⟨ft, a⟩
theorem TriN.rdS (h : TriN ob C w vt vl vs text list seen) : RdS w vs seen := let ⟨_, _, fs, _, _, c, _⟩ := h; ⟨fs, c⟩
theorem TriN.keep (h : TriN ob C w vt vl vs text list seen) (hc : ∀ p : Pos, C ≤ p.1 → p.1 ≠ ob → p.1 < w.heap.size → w'.cell? ⟨p.1, p.2, none⟩ = w.cell? ⟨p.1, p.2, none⟩ ∧ w'.frozen? ⟨p.1, p.2, none⟩ = w.frozen? ⟨p.1, p.2, none⟩) : TriN ob C w' vt vl vs text list seen := by
  obtain ⟨ft, fl, fs, a, b, c, d, e⟩ := h
  have hl : ∀ p ∈ ft ++ (fl ++ fs), p.1 < w.heap.size := Live.lt (Live.append.2 ⟨a.live, Live.append.2 ⟨b.live, c.live⟩⟩)
  have hk : ∀ p ∈ ft ++ (fl ++ fs), _ := fun p hp => hc p (d.ge p hp) (e p hp) (hl p hp)
  exact ⟨ft, fl, fs, a.keep fun p hp => (hk p (by simp [hp])).1, b.keep fun p hp => (hk p (by simp [hp])).1, c.keep fun p hp => (hk p (by simp [hp])).1, ⟨d.nodup, d.ge, fun p hp => (hk p hp).2.trans (d.free p hp)⟩, e⟩
theorem TriN.below (h : TriN ob C w vt vl vs text list seen) (hb : Below w.heap.size w w') : TriN ob C w' vt vl vs text list seen :=
  h.keep fun p _ _ hp => ⟨hb.cell (p := ⟨p.1, p.2, none⟩) hp, hb.frozen (p := ⟨p.1, p.2, none⟩) hp⟩
theorem TriN.alloc (h : TriN ob C w vt vl vs text list seen) (o : Obj) : TriN ob C (w.alloc o) vt vl vs text list seen := h.below ((Below.refl _ _).alloc (Nat.le_refl _) o)
theorem TriN.drew (h : TriN ob C w vt vl vs text list seen) : TriN ob C w.drew vt vl vs text list seen := h.keep fun _ _ _ _ => ⟨rfl, rfl⟩
theorem TriN.setCell {b o : Nat} (h : TriN ob C w vt vl vs text list seen) (hp : b < C ∨ b = ob) (u : Value) : TriN ob C (w.setCell ⟨b, o, none⟩ u) vt vl vs text list seen :=
  h.keep fun p h1 h2 _ => ⟨by rw [cell_setCell, if_neg]; rintro ⟨q1, _⟩; omega, by rw [World.frozen?_setCell]⟩
theorem TriN.of_own {cs : List Value} {d : DDoc} (h : Own C w cs d) (ho : w.heap.size ≤ ob) : ∃ vt vl vs, cs = [.string d.name, .int .i64 d.from_, vt, vl, vs] ∧ TriN ob C w vt vl vs d.text d.list d.seen := by
  obtain ⟨f, ⟨vt, vl, vs, ft, fl, fs, rfl, _, a, b, c, rfl⟩, hf⟩ := h
  refine ⟨vt, vl, vs, rfl, ft, fl, fs, a, b, c, hf, fun p hp => ?_⟩
  have := Live.lt (Live.append.2 ⟨a.live, Live.append.2 ⟨b.live, c.live⟩⟩) p hp
  omega
theorem TriN.out {w0 : World} {y : DDoc} {n m : Int} (h : TriN ob C w' vt vl vs y.text y.list y.seen) (hn : y.name.size ≤ BIG) (hC : w0.heap.size ≤ C) (hb : Below w0.heap.size w0 w') :
    Out_Doc_i_i w0 y n m (.returned (.tuple #[.agg #[.string y.name, .int .i64 y.from_, vt, vl, vs], .int .i64 n, .int .i64 m])) w' :=
  let ⟨ft, fl, fs, a, b, c, d, _⟩ := h
  ⟨vt, vl, vs, ft, fl, fs, rfl, a, b, c, hn, d.mono hC, hb⟩
/-- an entry more: L bounds the document's own memory, the entry's lies below -/
theorem TriN.app {L : Nat} {W : World} {c : List Value} {x : DEntry} {g : List Pos} (h : TriN ob L w vt vl vs text list seen) (E : TypeId) (hb : Below w.heap.size w W) (hC : C ≤ L) (hoL : L ≤ ob) (ho : ob < W.heap.size) (hrd : GoT.rd BIG W c x g) (hg : Fresh C W g) (hgl : ∀ p ∈ g, p.1 < L) :
    ∃ gl, Row C (W.alloc (.cells c.toArray E)) vl list gl ∧ Src (W.alloc (.cells c.toArray E)) (.slice (some ⟨W.heap.size, 0, none⟩) 1 1) [x] g ∧ (∀ q ∈ g, q ∉ rowP (GoT.n DEntry) vl) ∧ C ≤ (W.alloc (.cells c.toArray E)).heap.size ∧ (∀ p ∈ rowP (GoT.n DEntry) vl, L ≤ p.1 ∧ p.1 ≠ ob) ∧
      ∀ (v' : Value) (w' : World), Row C w' v' (list ++ [x]) (gl ++ g) → Wr (rowP (GoT.n DEntry) vl) (W.alloc (.cells c.toArray E)) w' → (∀ p ∈ rowP (GoT.n DEntry) v', p ∈ rowP (GoT.n DEntry) vl ∨ (W.alloc (.cells c.toArray E)).heap.size ≤ p.1) → TriN ob C w' vt v' vs text (list ++ [x]) seen := by
  have hb2 : Below w.heap.size w (W.alloc (.cells c.toArray E)) := hb.alloc hb.size _
  have hbW : Below W.heap.size W (W.alloc (.cells c.toArray E)) := (Below.refl _ _).alloc (Nat.le_refl _) _
  have e1 : (W.alloc (.cells c.toArray E)).heap.size = W.heap.size + 1 := by simp
  obtain ⟨ft, fl, fs, ha, hbl, hc, hd, he⟩ := h
  obtain ⟨gl, rfl⟩ := hbl.split
  have nd := List.nodup_append.1 hd.nodup
  have nd2 := List.nodup_append.1 nd.2.1
  have nd3 := List.nodup_append.1 nd2.1
  have hl : ∀ p ∈ ft ++ ((rowP (GoT.n DEntry) vl ++ gl) ++ fs), p.1 < w.heap.size := Live.lt (Live.append.2 ⟨ha.live, Live.append.2 ⟨hbl.live, hc.live⟩⟩)
  have hge := hd.ge
  have hgd : ∀ q ∈ g, ∀ p ∈ ft ++ ((rowP (GoT.n DEntry) vl ++ gl) ++ fs), p ≠ q := fun q hq p hp e => by have a := hge p hp; have b := hgl q hq; rw [e] at a; omega
  refine ⟨gl, Row.below ⟨hbl.belowW hb, (hd.right.left.left.mono hC).belowL hb fun p hp => hl p (by simp [hp]), fun p hp hq => nd3.2.2 p hq p hp rfl⟩ hbW |>.mono (Nat.le_refl _), src_built E hrd, fun q hq hm => hgd q hq q (by simp [hm]) rfl, by have := hb.size; have := hd.ge; omega, fun p hp => ⟨hge p (by simp [hp]), he p (by simp [hp])⟩, fun v' w' j1 j2 j3 => ?_⟩
  have hs := hb.size
  have hF : Fresh C (W.alloc (.cells c.toArray E)) (ft ++ ((rowP (GoT.n DEntry) vl ++ gl) ++ fs)) := (hd.mono hC).belowL hb2 hl
  have hlW : ∀ p ∈ ft ++ ((rowP (GoT.n DEntry) vl ++ gl) ++ fs), p.1 < (W.alloc (.cells c.toArray E)).heap.size := fun p hp => by have := hl p hp; omega
  have k1 : Fresh C w' ft := hF.left.wr2 (Below.refl _ _) j2 fun p hp => hlW p (by simp [hp])
  have k2 : Fresh C w' fs := hF.right.right.wr2 (Below.refl _ _) j2 fun p hp => hlW p (by simp [hp])
  have k3 : Fresh C w' gl := hF.right.left.right.wr2 (Below.refl _ _) j2 fun p hp => hlW p (by simp [hp])
  have k4 : Fresh C w' g := (hg.belowL hbW (Live.lt (GoT.live hrd))).wr2 (Below.refl _ _) j2 fun p hp => by have := Live.lt (GoT.live hrd) p hp; omega
  have k5 : Fresh C w' (gl ++ g) := k3.join k4 fun p hp q hq e => hgd q hq p (by simp [hp]) e
  have k6 : Fresh C w' (rowP (GoT.n DEntry) v' ++ (gl ++ g)) := j1.2.1.join k5 fun p hp q hq e => j1.2.2 q hq (e ▸ hp)
  have hnew : ∀ p ∈ rowP (GoT.n DEntry) v' ++ (gl ++ g), ∀ q ∈ ft ++ fs, q ≠ p := fun p hp q hq e => by
    subst e
    have hq' : q ∈ ft ++ ((rowP (GoT.n DEntry) vl ++ gl) ++ fs) := by rcases List.mem_append.1 hq with h | h <;> simp [h]
    have hlt := hl q hq'
    have hdis : q ∉ rowP (GoT.n DEntry) vl ++ gl := fun hm => by
      rcases List.mem_append.1 hq with h | h
      · exact nd.2.2 q h q (List.mem_append_left _ hm) rfl
      · exact nd2.2.2 q hm q h rfl
    rcases List.mem_append.1 hp with hp | hp
    · rcases j3 q hp with h | h
      · exact hdis (List.mem_append_left _ h)
      · omega
    · rcases List.mem_append.1 hp with hp | hp
      · exact hdis (List.mem_append_right _ hp)
      · exact hgd q hp q hq' rfl
  refine ⟨ft, _, fs, (ha.belowW hb2).wr j2 fun p hp hq => nd.2.2 p hp p (by simp [hq]) rfl, j1.1, (hc.belowW hb2).wr j2 fun p hp hq => nd2.2.2 p (by simp [hq]) p hp rfl, ?_, fun p hp => ?_⟩
  · refine k1.join (k6.join k2 fun p hp q hq e => hnew p hp q (by simp [hq]) e.symm) fun p hp q hq e => ?_
    rcases List.mem_append.1 hq with hq | hq
    · exact hnew q hq p (by simp [hp]) e
    · exact nd.2.2 p hp q (by simp [hq]) e
  · rcases List.mem_append.1 hp with hp | hp
    · exact he p (by simp [hp])
    · rcases List.mem_append.1 hp with hp | hp
      · rcases List.mem_append.1 hp with hp | hp
        · rcases j3 p hp with h | h
          · exact he p (by simp [h])
          · omega
        · rcases List.mem_append.1 hp with hp | hp
          · exact he p (by simp [hp])
          · have := hgl p hp; omega
      · exact he p (by simp [hp])
/-- another text in new memory -/
theorem TriN.textNew (h : TriN ob C w vt vl vs text list seen) {t' : List Int} {v' : Value} {f : List Pos} (hs : Sl BIG w v' t' f) (hf : Fresh C w f) (hd : ∀ p ∈ f, ob < p.1 ∧ ∀ ft fl fs, Sl BIG w vt text ft → Sl BIG w vl list fl → Sl BIG w vs seen fs → p ∉ fl ++ fs) : TriN ob C w v' vl vs t' list seen := by
  obtain ⟨ft, fl, fs, a, b, c, d, e⟩ := h
  refine ⟨f, fl, fs, hs, b, c, hf.join d.right fun p hp q hq e' => (hd p hp).2 ft fl fs a b c (e' ▸ hq), fun p hp => ?_⟩
  rcases List.mem_append.1 hp with hp | hp
  · have := (hd p hp).1; omega
  · exact e p (List.mem_append_right _ hp)
theorem TriN.seenNew (h : TriN ob C w vt vl vs text list seen) {l' : List DSeen} {v' : Value} {f : List Pos} (hs : Sl BIG w v' l' f) (hf : Fresh C w f) (hd : ∀ p ∈ f, p.1 ≠ ob ∧ ∀ ft fl, Sl BIG w vt text ft → Sl BIG w vl list fl → p ∉ ft ++ fl) : TriN ob C w vt vl v' text list l' := by
  obtain ⟨ft, fl, fs, a, b, c, d, e⟩ := h
  refine ⟨ft, fl, f, a, b, hs, d.left.join (d.right.left.join hf fun p hp q hq e' => (hd q hq).2 ft fl a b (by rw [← e']; simp [hp])) fun p hp q hq e' => ?_, fun p hp => ?_⟩
  · rcases List.mem_append.1 hq with hq | hq
    · exact (List.nodup_append.1 d.nodup).2.2 p hp q (List.mem_append_left _ hq) e'
    · exact (hd q hq).2 ft fl a b (by rw [← e']; simp [hp])
  · rcases List.mem_append.1 hp with hp | hp
    · exact e p (by simp [hp])
    · rcases List.mem_append.1 hp with hp | hp
      · exact e p (by simp [hp])
      · exact (hd p hp).1
/-- the list without its first entry -/
theorem TriN.cutTail {P : Program} {T E : TypeId} (hT : P.underlying T = some (.slice E)) (hl : ∀ w1, (sizeOf E).run P w1 = .ok (GoT.n DEntry) w1) (h : TriN ob C w vt vl vs text list seen) (h1 : 1 ≤ list.length) :
    ∃ a c, (∀ w1, (Instr.sliceAt T vl (some (.int .i64 1)) none none).run P w1 = .ok (.slice a (list.length - 1) c) w1) ∧ TriN ob C w vt (.slice a (list.length - 1) c) vs text (list.drop 1) seen := by
  obtain ⟨ft, fl, fs, a, b, c, d, e⟩ := h
  obtain ⟨f', h2, h3, h4⟩ := b.cut (lo := 1) (hi := list.length) (m := capV vl) h1 (Nat.le_refl _) b.cap (Nat.le_refl _)
  have h5 := fun w1 => b.run_l hT hl (lo := 1) h1 w1
  rw [List.take_length] at h2
  obtain ⟨a', c', e'⟩ := h2.isS
  rw [List.length_drop] at e'
  rw [e'] at h2 h5
  have nd := List.nodup_append.1 d.nodup
  have nd2 := List.nodup_append.1 nd.2.1
  refine ⟨a', c', h5, ft, f', fs, a, h2, c, d.left.join (Fresh.join ⟨h4 nd2.1, fun p hp => d.right.left.ge p (h3 p hp), fun p hp => d.right.left.free p (h3 p hp)⟩ d.right.right fun p hp q hq e => nd2.2.2 p (h3 p hp) q hq e) fun p hp q hq e => ?_, fun p hp => ?_⟩
  · rcases List.mem_append.1 hq with hq | hq
    · exact nd.2.2 p hp q (List.mem_append_left _ (h3 q hq)) e
    · exact nd.2.2 p hp q (List.mem_append_right _ hq) e
  · rcases List.mem_append.1 hp with hp | hp
    · exact e p (by simp [hp])
    · rcases List.mem_append.1 hp with hp | hp
      · exact e p (by simp [h3 p hp])
      · exact e p (by simp [hp])
/-- the row of what is seen is written, or laid anew -/
theorem TriN.seenPut (h : TriN ob C w vt vl vs text list seen) : ∃ fs, Sl BIG w vs seen fs ∧ Fresh C w fs ∧ (∀ p ∈ fs, p.1 ≠ ob) ∧ ∀ (W w' : World) (v' : Value) (l' : List DSeen) (f : List Pos), Below w.heap.size w W → Wr fs W w' → ob < W.heap.size → Sl BIG w' v' l' f → Fresh C w' f → (∀ p ∈ f, p ∈ fs ∨ W.heap.size ≤ p.1) → TriN ob C w' vt vl v' text list l' := by
  obtain ⟨ft, fl, fs, a, b, c, d, e⟩ := h
  have nd := List.nodup_append.1 d.nodup
  have nd2 := List.nodup_append.1 nd.2.1
  have hlv : ∀ p ∈ ft ++ fl, p.1 < w.heap.size := Live.lt (Live.append.2 ⟨a.live, b.live⟩)
  refine ⟨fs, c, d.right.right, fun p hp => e p (by simp [hp]), fun W w' v' l' f hb hw ho hs hf hm => ?_⟩
  have hsz := hb.size
  have k1 : Fresh C w' (ft ++ fl) := by
    have h1 : Fresh C w (ft ++ fl) := by have := d; rw [← List.append_assoc] at this; exact this.left
    exact h1.wr2 hb hw hlv
  have hd : ∀ p ∈ ft ++ fl, p ∉ f := fun p hp hq => by
    rcases hm p hq with h | h
    · rcases List.mem_append.1 hp with hp | hp
      · exact nd.2.2 p hp p (List.mem_append_right _ h) rfl
      · exact nd2.2.2 p hp p h rfl
    · have := hlv p hp; omega
  refine ⟨ft, fl, f, a.wr2 hb hw fun p hp hq => nd.2.2 p hp p (List.mem_append_right _ hq) rfl, b.wr2 hb hw fun p hp hq => nd2.2.2 p hp p hq rfl, hs, ?_, fun p hp => ?_⟩
  · rw [← List.append_assoc]
    exact k1.join hf fun p hp q hq e' => hd p hp (e' ▸ hq)
  · rcases List.mem_append.1 hp with hp | hp
    · exact e p (by simp [hp])
    · rcases List.mem_append.1 hp with hp | hp
      · exact e p (by simp [hp])
      · rcases hm p hp with h | h
        · exact e p (by simp [h])
        · omega
theorem TriN.seenEl {P : Program} {T E : TypeId} (hT : P.underlying T = some (.slice E)) (hl : ∀ w1, (sizeOf E).run P w1 = .ok (GoT.n DSeen) w1) (h : TriN ob C w vt vl vs text list seen) {k : Nat} {y : DSeen} (hk : seen[k]? = some y) (ho : ob < w.heap.size) (s : DSeen) :
    ∃ b o, (∀ w1, (Instr.indexAt T vs (.int .i64 k)).run P w1 = .ok (.pointer (some ⟨b, o, none⟩)) w1) ∧ w.cell? ⟨b, o, none⟩ = some (.int .i64 y.client) ∧ w.cell? ⟨b, o + 1, none⟩ = some (.int .i64 y.seq) ∧ w.cell? ⟨b, o + 2, none⟩ = some (.int .i64 y.rev) ∧
      w.frozen? ⟨b, o, none⟩ = false ∧ w.frozen? ⟨b, o + 1, none⟩ = false ∧ w.frozen? ⟨b, o + 2, none⟩ = false ∧ b ≠ ob ∧ C ≤ b ∧ b < w.heap.size ∧
      TriN ob C (((w.setCell ⟨b, o, none⟩ (.int .i64 s.client)).setCell ⟨b, o + 1, none⟩ (.int .i64 s.seq)).setCell ⟨b, o + 2, none⟩ (.int .i64 s.rev)) vt vl vs text list (seen.set k s) := by
  obtain ⟨fs, c, hf, hne, hput⟩ := h.seenPut
  obtain ⟨b, o, cs, f, g1, g2, ⟨rfl, rfl⟩, g4, _, _, g7⟩ := c.lens hf.nodup hT hl k hk
  have m : ∀ j < 3, (b, o + j) ∈ fs := fun j hj => (g4 j hj).1
  have m0 := m 0 (by decide)
  have m1 := m 1 (by decide)
  have m2 := m 2 (by decide)
  rw [Nat.add_zero] at m0
  have c0 := g2.zero
  have c1 : w.cell? ⟨b, o + 1, none⟩ = some _ := g2 1 _ rfl
  have c2 : w.cell? ⟨b, o + 2, none⟩ = some _ := g2 2 _ rfl
  have hw : Wr fs w (((w.setCell ⟨b, o, none⟩ (.int .i64 s.client)).setCell ⟨b, o + 1, none⟩ (.int .i64 s.seq)).setCell ⟨b, o + 2, none⟩ (.int .i64 s.rev)) := (((Wr.refl _ _).put m0 _).put m1 _).put m2 _
  refine ⟨b, o, g1, c0, c1, c2, hf.free _ m0, hf.free _ m1, hf.free _ m2, hne _ m0, hf.ge _ m0, Live.lt c.live _ m0, hput w _ vs _ fs (Below.refl _ _) hw ho ?_ (hw.fresh c.live hf) fun p hp => .inl hp⟩
  refine g7 _ [.int .i64 s.client, .int .i64 s.seq, .int .i64 s.rev] s ?_ ⟨rfl, rfl⟩ fun p hp _ hn => ?_
  · intro j u hj
    match j, hj with
    | 0, hj => simp at hj; subst hj; simp [cell_setCell, c0]
    | 1, hj => simp at hj; subst hj; simp [cell_setCell, c1]
    | 2, hj => simp at hj; subst hj; simp [cell_setCell, c2]
  · have n0 := hn 0 (by decide)
    have n1 := hn 1 (by decide)
    have n2 := hn 2 (by decide)
    obtain ⟨p1, p2⟩ := p
    simp only [Nat.add_zero, ne_eq, Prod.mk.injEq, not_and] at n0 n1 n2
    rw [cell_setCell, if_neg (fun e => n2 e.1 e.2), cell_setCell, if_neg (fun e => n1 e.1 e.2), cell_setCell, if_neg (fun e => n0 e.1 e.2)]
/-- another text, made by a call -/
theorem TriN.textBelow (h : TriN ob C w vt vl vs text list seen) {t' : List Int} {v' : Value} {f : List Pos} (hb : Below w.heap.size w w') (hs : Sl BIG w' v' t' f) (hf : Fresh C w' f) (hge : ∀ p ∈ f, w.heap.size ≤ p.1) (ho : ob < w.heap.size) : TriN ob C w' v' vl vs t' list seen := by
  obtain ⟨ft, fl, fs, a, b, c, d, e⟩ := h
  have hlt : ∀ p ∈ fl ++ fs, p.1 < w.heap.size := Live.lt (Live.append.2 ⟨b.live, c.live⟩)
  refine ⟨f, fl, fs, hs, b.belowW hb, c.belowW hb, hf.join (d.right.belowL hb hlt) fun p hp q hq e' => ?_, fun p hp => ?_⟩
  · have h1 := hge p hp
    have h2 := hlt q hq
    rw [e'] at h1
    omega
  · rcases List.mem_append.1 hp with hp | hp
    · have := hge p hp; omega
    · exact e p (List.mem_append_right _ hp)
end
end Go.Proofs.Ytiahgjnpinjblaa
