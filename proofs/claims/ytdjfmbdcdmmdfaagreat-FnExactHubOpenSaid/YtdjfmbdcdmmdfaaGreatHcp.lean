/- Copies of hubs: new memory that reads alike. -/
import Derived.Test.YtdjfmbdcdmmdfaaGreatHpl
import Derived.Test.YtdjfmbdcdmmdfaaGreatHst
import Derived.Test.YtdjfmbdcdmmdfaaGreatDcp
import Derived.Test.YtdjfmbdcdmmdfaaGreatRo
import Derived.Deep.Cut
import Derived.Deep.RegionLaw
namespace Go.Proofs.YtdjfmbdcdmmdfaaGreat
open Go.RowKit
attribute [local go_sem ↓] Go.wp_at_zero Go.wp_at_succ
/-- a box of one's own: its cells, none frozen -/
structure BoxAt (w : World) (b : Nat) (vs : List Value) : Prop where
  at_ : At w b 0 vs
  fz : ∀ j < vs.length, w.frozen? ⟨b, j, none⟩ = false
theorem BoxAt.cell {w : World} {b : Nat} {vs : List Value} (h : BoxAt w b vs) (j : Nat) {v : Value} (hj : vs[j]? = some v) : w.cell? ⟨b, j, none⟩ = some v := by
  have := h.at_ j v hj
  rwa [Nat.zero_add] at this
theorem BoxAt.lt {w : World} {b : Nat} {vs : List Value} (h : BoxAt w b vs) (hp : 0 < vs.length) : b < w.heap.size :=
  World.block_lt_of_cell? (w := w) (a := ⟨b, 0, none⟩) (h.cell 0 (List.getElem?_eq_getElem hp))
theorem BoxAt.below {w w' : World} {b C : Nat} {vs : List Value} (h : BoxAt w b vs) (hb : Below C w w') (hc : b < C) : BoxAt w' b vs :=
  ⟨h.at_.keep fun j _ => hb.cell (p := ⟨b, 0 + j, none⟩) hc, fun j hj => (hb.frozen (p := ⟨b, j, none⟩) hc).trans (h.fz j hj)⟩
theorem BoxAt.wr {w w' : World} {b : Nat} {vs : List Value} {g : List Pos} (h : BoxAt w b vs) (hw : Wr g w w') (hb : b < w.heap.size) (hn : ∀ p ∈ g, p.1 ≠ b) : BoxAt w' b vs :=
  ⟨h.at_.keep fun j _ => hw.cell (b, 0 + j) hb fun hm => hn _ hm rfl, fun j hj => (hw.frozen (b, j) hb).trans (h.fz j hj)⟩
theorem BoxAt.put {w : World} {b : Nat} {vs : List Value} (h : BoxAt w b vs) (j : Nat) (hj : j < vs.length) (u : Value) : BoxAt (w.setCell ⟨b, j, none⟩ u) b (vs.set j u) := by
  refine ⟨?_, fun i hi => by rw [World.frozen?_setCell]; exact h.fz i (by simpa using hi)⟩
  have := h.at_.put j hj u
  rwa [Nat.zero_add] at this
theorem BoxAt.other {w : World} {b b' j : Nat} {vs : List Value} (h : BoxAt w b vs) (hn : b' ≠ b) (u : Value) : BoxAt (w.setCell ⟨b', j, none⟩ u) b vs :=
  ⟨h.at_.keep fun i _ => by rw [cell_setCell, if_neg (by omega)], fun i hi => by rw [World.frozen?_setCell]; exact h.fz i hi⟩
theorem OwnB.wr {α : Type} [GoT α] {C D : Nat} {w w' : World} {v : Value} {l : List α} {g : List Pos} (h : OwnB C D w v l) (hw : Wr g w w') (hD : D ≤ w.heap.size) (hg : ∀ p ∈ g, D ≤ p.1) : OwnB C D w' v l :=
  h.block fun k _ h2 => hw.block k (by omega) fun p hp e => by have := hg p hp; omega
theorem live_below {α : Type} [GoT α] {M : Nat} {w W : World} {c : List Value} {x : α} {f : List Pos} (h : GoT.rd M w c x f) (hb : Below w.heap.size w W) : Live W f := GoT.live (GoT.keep h (Live.same_below hb (Live.lt (GoT.live h))))
theorem BEL_step {B : Nat} {w w4 w5 : World} {g : List Pos} {o : Obj} (hb : Below w.heap.size w w4) (hB : B ≤ w.heap.size) (hw : Wr g (w4.alloc o) w5) (hg : ∀ p ∈ g, B ≤ p.1) : Below B w w5 :=
  wrb hw (hb.alloc hb.size o) hB hg
theorem info_doc : (Tryz.prog.info? 61).map (fun i => (i.zero, i.size, i.bytes)) = some (some (.agg #[.string ⟨#[]⟩, .int .i64 0, .slice none 0 0, .slice none 0 0, .slice none 0 0]), 5, 96) := by kernel_rfl
theorem info_sub : (Tryz.prog.info? 78).map (fun i => (i.zero, i.size, i.bytes)) = some (some (.agg #[.int .i64 0, .string ⟨#[]⟩, .int .i64 0, .int .i64 0, .bool false, .slice none 0 0]), 6, 72) := by kernel_rfl
structure HubSz (z : DHub) : Prop where
  nd : z.docs.length ≤ 5
  ns : z.subs.length ≤ 6
  docs : ∀ d ∈ z.docs, d.text.length ≤ 4000000 ∧ szL d.list ≤ 4000000 ∧ d.seen.length ≤ 4000000
  subs : ∀ s ∈ z.subs, szL s.r.list ≤ 4000000
theorem hubSz {z : DHub} (h : hubOk z = true) : HubSz z :=
  have p := hubOk_iff.1 h
  ⟨p.nd, p.ns, fun _ hd => doc_sizes (p.doc hd), fun _ hs => (ringOk_sz (p.ring hs)).1⟩
theorem own_sub {B : Nat} {w : World} {s : DSub} {v : Value} (nn : s.doc.size ≤ BIG) (h : OwnS B w v s.r.list) : Own B w [.int .i64 s.id, .string s.doc, .int .i64 s.r.cap, .int .i64 s.r.next, .bool s.r.out, v] s := own_DSub s nn h.bd (Nat.le_refl _)
set_option maxHeartbeats 4000000 in
set_option maxRecDepth 100000 in
theorem spec_l11Sub_c (s : DSub) (v : Value) (w : World) (nn : s.doc.size ≤ BIG) (h : RdS w v s.r.list) (hs : szL s.r.list ≤ 4000000) : Calls Tryz.prog 106 #[.agg #[.int .i64 s.id, .string s.doc, .int .i64 s.r.cap, .int .i64 s.r.next, .bool s.r.out, v]] w (Gives w s) := by
  obtain ⟨al, cl, rfl⟩ := h.isSlice
  go_enter Tryz.func106, Tryz.ntmps106
  go_wp2_with fail

  obtain ⟨W, hW⟩ : ∃ W : World, W = (w.alloc (.cells #[.int .i64 s.id, .string s.doc, .int .i64 s.r.cap, .int .i64 s.r.next, .bool s.r.out, .slice al s.r.list.length cl] 78)).alloc (.cells #[.int .i64 0, .string ⟨#[]⟩, .int .i64 0, .int .i64 0, .bool false, .slice none 0 0] 78) := ⟨_, rfl⟩
  have hWB : Below w.heap.size w W := by rw [hW]; exact blw
  have sW := hWB.size
  have zs : w.heap.size < W.heap.size := by rw [hW]; first | (simp; done) | (simp; omega)
  have ks0 : W.cell? ⟨w.heap.size, 0, none⟩ = some (.int .i64 s.id) := by rw [hW]; simp [go_sem]
  have ks1 : W.cell? ⟨w.heap.size, 1, none⟩ = some (.string s.doc) := by rw [hW]; simp [go_sem]
  have ks2 : W.cell? ⟨w.heap.size, 2, none⟩ = some (.int .i64 s.r.cap) := by rw [hW]; simp [go_sem]
  have ks3 : W.cell? ⟨w.heap.size, 3, none⟩ = some (.int .i64 s.r.next) := by rw [hW]; simp [go_sem]
  have ks4 : W.cell? ⟨w.heap.size, 4, none⟩ = some (.bool s.r.out) := by rw [hW]; simp [go_sem]
  have ks5 : W.cell? ⟨w.heap.size, 5, none⟩ = some (.slice al s.r.list.length cl) := by rw [hW]; simp [go_sem]
  have zr : w.heap.size + 1 < W.heap.size := by rw [hW]; first | (simp; done) | (simp; omega)
  have kr0 : W.cell? ⟨w.heap.size + 1, 0, none⟩ = some (.int .i64 0) := by rw [hW]; simp [go_sem]
  have fr0 : W.frozen? ⟨w.heap.size + 1, 0, none⟩ = false := by rw [hW]; simp [go_sem]
  have kr1 : W.cell? ⟨w.heap.size + 1, 1, none⟩ = some (.string ⟨#[]⟩) := by rw [hW]; simp [go_sem]
  have fr1 : W.frozen? ⟨w.heap.size + 1, 1, none⟩ = false := by rw [hW]; simp [go_sem]
  have kr2 : W.cell? ⟨w.heap.size + 1, 2, none⟩ = some (.int .i64 0) := by rw [hW]; simp [go_sem]
  have fr2 : W.frozen? ⟨w.heap.size + 1, 2, none⟩ = false := by rw [hW]; simp [go_sem]
  have kr3 : W.cell? ⟨w.heap.size + 1, 3, none⟩ = some (.int .i64 0) := by rw [hW]; simp [go_sem]
  have fr3 : W.frozen? ⟨w.heap.size + 1, 3, none⟩ = false := by rw [hW]; simp [go_sem]
  have kr4 : W.cell? ⟨w.heap.size + 1, 4, none⟩ = some (.bool false) := by rw [hW]; simp [go_sem]
  have fr4 : W.frozen? ⟨w.heap.size + 1, 4, none⟩ = false := by rw [hW]; simp [go_sem]
  have kr5 : W.cell? ⟨w.heap.size + 1, 5, none⟩ = some (.slice none 0 0) := by rw [hW]; simp [go_sem]
  have fr5 : W.frozen? ⟨w.heap.size + 1, 5, none⟩ = false := by rw [hW]; simp [go_sem]
  rw [← hW]
  clear hW
  have HX := Lib.hid (h.below hWB)
  clear h
  go_region_held3 (fun w' => w'.cell? ⟨w.heap.size, 0, none⟩ = some (.int .i64 s.id) ∧ w'.cell? ⟨w.heap.size, 1, none⟩ = some (.string s.doc) ∧ w'.cell? ⟨w.heap.size, 2, none⟩ = some (.int .i64 s.r.cap) ∧ w'.cell? ⟨w.heap.size, 3, none⟩ = some (.int .i64 s.r.next) ∧ w'.cell? ⟨w.heap.size, 4, none⟩ = some (.bool s.r.out) ∧ w'.cell? ⟨w.heap.size, 5, none⟩ = some (.slice al s.r.list.length cl)) (first | go_keep | (simp [cell_setCell, *]; done))
    (first | (go_at_call 122; refine (spec_l10Copy_c s.r _ _ (HX.out.below blw) hs).mono ?_; rintro e' w1 ⟨_, rfl, ho1, hb1⟩; obtain ⟨v1, rfl, ho2⟩ := inv_own_DRing ho1; obtain ⟨a1, c1, rfl⟩ := ho2.rd.isSlice; have B1 : Below W.heap.size W w1 := (show Below W.heap.size W _ from blw).trans (hb1.mono om); have s1 := B1.size; have z1s : w.heap.size < w1.heap.size := Nat.lt_of_lt_of_le zs s1; have y1s0 := (B1.cell (p := ⟨w.heap.size, 0, none⟩) zs).trans ks0; have y1s1 := (B1.cell (p := ⟨w.heap.size, 1, none⟩) zs).trans ks1; have y1s2 := (B1.cell (p := ⟨w.heap.size, 2, none⟩) zs).trans ks2; have y1s3 := (B1.cell (p := ⟨w.heap.size, 3, none⟩) zs).trans ks3; have y1s4 := (B1.cell (p := ⟨w.heap.size, 4, none⟩) zs).trans ks4; have y1s5 := (B1.cell (p := ⟨w.heap.size, 5, none⟩) zs).trans ks5; have z1r : w.heap.size + 1 < w1.heap.size := Nat.lt_of_lt_of_le zr s1; have y1r0 := (B1.cell (p := ⟨w.heap.size + 1, 0, none⟩) zr).trans kr0; have t1r0 := (B1.frozen (p := ⟨w.heap.size + 1, 0, none⟩) zr).trans fr0; have y1r1 := (B1.cell (p := ⟨w.heap.size + 1, 1, none⟩) zr).trans kr1; have t1r1 := (B1.frozen (p := ⟨w.heap.size + 1, 1, none⟩) zr).trans fr1; have y1r2 := (B1.cell (p := ⟨w.heap.size + 1, 2, none⟩) zr).trans kr2; have t1r2 := (B1.frozen (p := ⟨w.heap.size + 1, 2, none⟩) zr).trans fr2; have y1r3 := (B1.cell (p := ⟨w.heap.size + 1, 3, none⟩) zr).trans kr3; have t1r3 := (B1.frozen (p := ⟨w.heap.size + 1, 3, none⟩) zr).trans fr3; have y1r4 := (B1.cell (p := ⟨w.heap.size + 1, 4, none⟩) zr).trans kr4; have t1r4 := (B1.frozen (p := ⟨w.heap.size + 1, 4, none⟩) zr).trans fr4; have y1r5 := (B1.cell (p := ⟨w.heap.size + 1, 5, none⟩) zr).trans kr5; have t1r5 := (B1.frozen (p := ⟨w.heap.size + 1, 5, none⟩) zr).trans fr5; have HO1 : Hid (OwnS W.heap.size w1 (.slice a1 s.r.list.length c1) s.r.list) := Lib.hid (ho2.mono om); clear ho1 ho2 hb1))
  all_goals
    have HR : Hid (OwnS w.heap.size ((((((w1.setCell ⟨w.heap.size + 1, 0, none⟩ (.int .i64 s.id)).setCell ⟨w.heap.size + 1, 1, none⟩ (.string s.doc)).setCell ⟨w.heap.size + 1, 2, none⟩ (.int .i64 s.r.cap)).setCell ⟨w.heap.size + 1, 3, none⟩ (.int .i64 s.r.next)).setCell ⟨w.heap.size + 1, 4, none⟩ (.bool s.r.out)).setCell ⟨w.heap.size + 1, 5, none⟩ (.slice a1 s.r.list.length c1)) (.slice a1 s.r.list.length c1) s.r.list) := Lib.hid (((((((HO1.out.poke om _).poke om _).poke om _).poke om _).poke om _).poke om _).mono om)
    have HB : Hid (Below w.heap.size w ((((((w1.setCell ⟨w.heap.size + 1, 0, none⟩ (.int .i64 s.id)).setCell ⟨w.heap.size + 1, 1, none⟩ (.string s.doc)).setCell ⟨w.heap.size + 1, 2, none⟩ (.int .i64 s.r.cap)).setCell ⟨w.heap.size + 1, 3, none⟩ (.int .i64 s.r.next)).setCell ⟨w.heap.size + 1, 4, none⟩ (.bool s.r.out)).setCell ⟨w.heap.size + 1, 5, none⟩ (.slice a1 s.r.list.length c1))) := Lib.hid (((((((hWB.trans (B1.mono (by omega))).setCell (by simp) _).setCell (by simp) _).setCell (by simp) _).setCell (by simp) _).setCell (by simp) _).setCell (by simp) _)
    go_wp2
    exact bodyPost_ret (v := .agg #[.int .i64 s.id, .string s.doc, .int .i64 s.r.cap, .int .i64 s.r.next, .bool s.r.out, .slice a1 s.r.list.length c1]) (by simp [results, Tryz.results106, go_sem, cell_setCell, *]) rfl ⟨_, rfl, own_sub nn HR.out, HB.out⟩
set_option maxHeartbeats 8000000 in
set_option maxRecDepth 100000 in
theorem spec_l11Copy_c (z : DHub) (v_docs v_subs : Value) (w : World) (h_docs : RdS w v_docs z.docs) (h_subs : RdS w v_subs z.subs) (hz : HubSz z) : Calls Tryz.prog 42 #[.agg #[.bool z.shut, v_docs, v_subs, .int .i64 z.last]] w (Gives w z) := by
  have hld := fun w1 ty => h_docs.len Tryz.underlying27 w1 ty
  have hls := fun w1 ty => h_subs.len Tryz.underlying28 w1 ty
  obtain ⟨i0, hi, hz0, hz1, hz2⟩ := info_parts info_doc
  obtain ⟨j0, hj, jz0, jz1, jz2⟩ := info_parts info_sub
  have nd := hz.nd
  have ns := hz.ns
  have HZ := Lib.hid hz
  clear hz
  go_enter Tryz.func42, Tryz.ntmps42
  go_wp2_with fail
  obtain ⟨W, hW⟩ : ∃ W : World, W = ((w.alloc (.cells #[.bool z.shut, v_docs, v_subs, .int .i64 z.last] 30)).alloc (.cells #[.bool false, .slice none 0 0, .slice none 0 0, .int .i64 0] 30)).alloc (.cells #[.bool z.shut, .slice none 0 0, .slice none 0 0, .int .i64 z.last] 30) := ⟨_, rfl⟩
  have hWB : Below w.heap.size w W := by rw [hW]; exact blw
  have sW := hWB.size
  have zz : w.heap.size < W.heap.size := by rw [hW]; first | (simp; done) | (simp; omega)
  have kz0 : W.cell? ⟨w.heap.size, 0, none⟩ = some (.bool z.shut) := by rw [hW]; simp [go_sem]
  have kz1 : W.cell? ⟨w.heap.size, 1, none⟩ = some (v_docs) := by rw [hW]; simp [go_sem]
  have kz2 : W.cell? ⟨w.heap.size, 2, none⟩ = some (v_subs) := by rw [hW]; simp [go_sem]
  have kz3 : W.cell? ⟨w.heap.size, 3, none⟩ = some (.int .i64 z.last) := by rw [hW]; simp [go_sem]
  have zr : w.heap.size + 1 < W.heap.size := by rw [hW]; first | (simp; done) | (simp; omega)
  have kr0 : W.cell? ⟨w.heap.size + 1, 0, none⟩ = some (.bool false) := by rw [hW]; simp [go_sem]
  have fr0 : W.frozen? ⟨w.heap.size + 1, 0, none⟩ = false := by rw [hW]; simp [go_sem]
  have kr1 : W.cell? ⟨w.heap.size + 1, 1, none⟩ = some (.slice none 0 0) := by rw [hW]; simp [go_sem]
  have fr1 : W.frozen? ⟨w.heap.size + 1, 1, none⟩ = false := by rw [hW]; simp [go_sem]
  have kr2 : W.cell? ⟨w.heap.size + 1, 2, none⟩ = some (.slice none 0 0) := by rw [hW]; simp [go_sem]
  have fr2 : W.frozen? ⟨w.heap.size + 1, 2, none⟩ = false := by rw [hW]; simp [go_sem]
  have kr3 : W.cell? ⟨w.heap.size + 1, 3, none⟩ = some (.int .i64 0) := by rw [hW]; simp [go_sem]
  have fr3 : W.frozen? ⟨w.heap.size + 1, 3, none⟩ = false := by rw [hW]; simp [go_sem]
  have zo : w.heap.size + 2 < W.heap.size := by rw [hW]; first | (simp; done) | (simp; omega)
  have ko0 : W.cell? ⟨w.heap.size + 2, 0, none⟩ = some (.bool z.shut) := by rw [hW]; simp [go_sem]
  have fo0 : W.frozen? ⟨w.heap.size + 2, 0, none⟩ = false := by rw [hW]; simp [go_sem]
  have ko1 : W.cell? ⟨w.heap.size + 2, 1, none⟩ = some (.slice none 0 0) := by rw [hW]; simp [go_sem]
  have fo1 : W.frozen? ⟨w.heap.size + 2, 1, none⟩ = false := by rw [hW]; simp [go_sem]
  have ko2 : W.cell? ⟨w.heap.size + 2, 2, none⟩ = some (.slice none 0 0) := by rw [hW]; simp [go_sem]
  have fo2 : W.frozen? ⟨w.heap.size + 2, 2, none⟩ = false := by rw [hW]; simp [go_sem]
  have ko3 : W.cell? ⟨w.heap.size + 2, 3, none⟩ = some (.int .i64 z.last) := by rw [hW]; simp [go_sem]
  have fo3 : W.frozen? ⟨w.heap.size + 2, 3, none⟩ = false := by rw [hW]; simp [go_sem]
  have hW3 : W.heap.size = w.heap.size + 3 := by rw [hW]; simp
  rw [← hW]
  clear hW
  have zc0 : w.heap.size < w.heap.size + 2 := by omega
  have zc1 : w.heap.size + 1 < w.heap.size + 2 := by omega
  have HXD := Lib.hid h_docs
  have HXS := Lib.hid h_subs
  clear h_docs h_subs
  have HBX : Hid (BoxAt W (w.heap.size + 2) [.bool z.shut, .slice none 0 0, .slice none 0 0, .int .i64 z.last]) := Lib.hid ⟨fun j v hj => by
      rw [Nat.zero_add]
      match j, hj with
      | 0, h => cases h; exact ko0
      | 1, h => cases h; exact ko1
      | 2, h => cases h; exact ko2
      | 3, h => cases h; exact ko3, fun j hj => by
      match j, hj with
      | 0, _ => exact fo0
      | 1, _ => exact fo1
      | 2, _ => exact fo2
      | 3, _ => exact fo3⟩
  clear ko0 ko1 ko2 ko3 fo0 fo1 fo2 fo3
  go_wp2
  go_loopw [16] (fun i wr => ∃ (k : Nat) (u : Value) (Lk : List DDoc), Lk = z.docs.take k ∧ k ≤ z.docs.length ∧ i = .int .i64 k ∧ BoxAt wr (w.heap.size + 2) [.bool z.shut, u, .slice none 0 0, .int .i64 z.last] ∧ OwnS (w.heap.size + 3) wr u Lk ∧ Below (w.heap.size + 2) W wr) (fun i _ => z.docs.length - (intOf i).toNat)
  case atStart => exact ⟨0, _, [], rfl, Nat.zero_le _, rfl, HBX.out, OwnS.nil, Below.refl _ _⟩
  case round =>
    obtain ⟨k, u, Lk, hLk, hk, rfl, hbx, hu, hbr⟩ := hrel
    have hsz := hbr.size
    have hbw : Below w.heap.size w wr := hWB.trans (hbr.mono (by omega))
    by_cases hlt : k < z.docs.length
    · obtain ⟨d, hx⟩ := get_some hlt
      obtain ⟨b1, o1, cs, g1, g2, g3⟩ := (HXD.out.below hbw).idx Tryz.underlying27 szi_DDoc k hx
      obtain ⟨d_text, d_list, d_seen, rfl, nn, r_text, r_list, r_seen⟩ := inv_DDoc g3
      have q0 := g2.zero
      have q1 := g2 1 _ rfl
      have q2 := g2 2 _ rfl
      have q3 := g2 3 _ rfl
      have q4 := g2 4 _ rfl
      obtain ⟨at_, ct, rfl⟩ := r_text.isSlice
      obtain ⟨al, cl, rfl⟩ := r_list.isSlice
      obtain ⟨as_, cs_, rfl⟩ := r_seen.isSlice
      have HT : Hid (Lk ++ [d] = z.docs.take (k + 1)) := Lib.hid (by rw [hLk]; exact (take_snoc hx).symm)
      have HD := Lib.hid (HZ.out.docs d (List.mem_of_getElem? hx))
      have hkl : Lk.length ≤ 5 := by rw [hLk]; simp; omega
      clear hLk
      obtain ⟨V, hV⟩ : ∃ V : World, V = wr.alloc (.cells #[.string d.name, .int .i64 d.from_, .slice at_ d.text.length ct, .slice al d.list.length cl, .slice as_ d.seen.length cs_] 61) := ⟨_, rfl⟩
      have hVq : Below wr.heap.size wr V := by rw [hV]; exact (Below.refl _ _).alloc (Nat.le_refl _) _
      have sV := hVq.size
      have HVT := Lib.hid (r_text.below hVq)
      have HVL := Lib.hid (r_list.below hVq)
      have HVS := Lib.hid (r_seen.below hVq)
      have hbv : Below (w.heap.size + 2) W V := hbr.trans (hVq.mono (by omega))
      have bxv : BoxAt V (w.heap.size + 2) [.bool z.shut, u, .slice none 0 0, .int .i64 z.last] := hbx.below hVq (by omega)
      have kvo := bxv.cell 1 rfl
      have gvo := bxv.fz 1 (by simp)
      have zvo : w.heap.size + 2 < V.heap.size := by omega
      have HBV := Lib.hid hbx
      have kvd0 : V.cell? ⟨wr.heap.size, 0, none⟩ = some (.string d.name) := by rw [hV]; simp
      have kvd1 : V.cell? ⟨wr.heap.size, 1, none⟩ = some (.int .i64 d.from_) := by rw [hV]; simp
      have kvd2 : V.cell? ⟨wr.heap.size, 2, none⟩ = some (.slice at_ d.text.length ct) := by rw [hV]; simp
      have kvd3 : V.cell? ⟨wr.heap.size, 3, none⟩ = some (.slice al d.list.length cl) := by rw [hV]; simp
      have kvd4 : V.cell? ⟨wr.heap.size, 4, none⟩ = some (.slice as_ d.seen.length cs_) := by rw [hV]; simp
      obtain ⟨fs, hrow, hfs⟩ := hu.row
      have HLT := Lib.hid (Live.lt (Live.append.1 hrow.1.live).1)
      have HLF := Lib.hid (Live.lt (Live.append.1 hrow.1.live).2)
      have HROW := Lib.hid hrow
      have HFS := Lib.hid hfs
      clear hx g2 g3 r_text r_list r_seen hrow hfs hu hbx bxv
      go_wp2_with fail
      rw [← hV]
      clear hV q0 q1 q2 q3 q4
      go_region_law (first | (go_simp; go_at_call 78; refine (spec_l08Copy_c d _ _ _ _ nn (HVT.out.below (Below.refl _ _).drew) (HVL.out.below (Below.refl _ _).drew) (HVS.out.below (Below.refl _ _).drew) HD.out.1 HD.out.2.1 HD.out.2.2).mono ?_; rintro e' w4 ⟨_, rfl, ho, hb4⟩; obtain ⟨f, hrd, hfr⟩ := ho; obtain ⟨v1, v2, v3, f1, f2, f3, rfl, nn2, s1, s2, s3, rfl⟩ := hrd; obtain ⟨a1, c1, rfl⟩ := s1.isS; obtain ⟨a2, c2, rfl⟩ := s2.isS; obtain ⟨a3, c3, rfl⟩ := s3.isS; have HB4 : Hid (Below V.heap.size V w4) := Lib.hid ((Below.refl V.heap.size V).drew.trans hb4); have HQ4 : Hid (Below wr.heap.size wr w4) := Lib.hid (hVq.trans (HB4.out.mono sV)); have s4 := HQ4.out.size; have s4v := HB4.out.size; have HRD : Hid (GoT.rd BIG w4 [.string d.name, .int .i64 d.from_, .slice a1 d.text.length c1, .slice a2 d.list.length c2, .slice a3 d.seen.length c3] d (f1 ++ (f2 ++ f3))) := Lib.hid ⟨_, _, _, _, _, _, rfl, nn2, s1, s2, s3, rfl⟩; have HFR : Hid (Fresh wr.heap.size w4 (f1 ++ (f2 ++ f3))) := Lib.hid (hfr.mono om); have k4 := (HB4.out.cell (p := ⟨w.heap.size + 2, 1, none⟩) zvo).trans kvo; have g4 := (HB4.out.frozen (p := ⟨w.heap.size + 2, 1, none⟩) zvo).trans gvo; have z4 : w.heap.size + 2 < w4.heap.size := (by omega); clear hb4 hfr s1 s2 s3 nn2) | (have HWB : Below w4.heap.size w4 (w4.alloc (.cells #[.string d.name, .int .i64 d.from_, .slice a1 d.text.length c1, .slice a2 d.list.length c2, .slice a3 d.seen.length c3] 61)) := (Below.refl _ _).alloc (Nat.le_refl _) _; (refine step_append_row (by rfl) (.tmp 21) (.tmp 24) 27 (by rfl) Tryz.underlying27 hi hz0 hz1 hz2 rfl (by rfl) (by rfl) ((HROW.out.below HQ4.out).below HWB) (src_built (x := d) 61 HRD.out) (fun q hq hm => by have e1 := HFR.out.ge q hq; have e2 := HLT.out q hm; omega) (le_BIG om) om (by first | omega | (simp; omega)) ?_); intro v5 w5 hr5 hw5 hn5; have s5 : w4.heap.size ≤ w5.heap.size := Nat.le_trans HWB.size hw5.size; have hnw : ∀ p ∈ rowP (GoT.n DDoc) u, w.heap.size + 3 ≤ p.1 := HROW.out.2.1.ge; have k5 : w5.cell? ⟨w.heap.size + 2, 1, none⟩ = some u := cellw HWB hw5 k4 (fun hm => by have := hnw _ hm; (try simp only at this); omega); have g5 : w5.frozen? ⟨w.heap.size + 2, 1, none⟩ = false := (hw5.frozen (w.heap.size + 2, 1) (Nat.lt_of_lt_of_le z4 HWB.size)).trans ((HWB.frozen (p := ⟨w.heap.size + 2, 1, none⟩) z4).trans g4); have z5 : w.heap.size + 2 < w5.heap.size := (by omega); obtain ⟨a5, c5, e5⟩ := hr5.rd.isSlice; rw [List.length_append, List.length_singleton] at e5; subst e5; have HR5 := Lib.hid hr5; have HW5 := Lib.hid hw5; have HWBH := Lib.hid HWB; clear hr5 hw5 hn5 HWB))
      all_goals
        have HO : Hid (OwnS (w.heap.size + 3) (w5.setCell ⟨w.heap.size + 2, 1, none⟩ (.slice a5 (Lk.length + 1) c5)) (.slice a5 (Lk.length + 1) c5) (Lk ++ [d])) := Lib.hid (by
          exact (Row.grown HROW.out HFS.out (HQ4.out.alloc s4 _) (HFR.out.belowL HWBH.out (Live.lt (GoT.live HRD.out))) (live_below HRD.out HWBH.out) (by omega) HR5.out HW5.out).poke (by omega) _)
        have HBX5 : Hid (BoxAt (w5.setCell ⟨w.heap.size + 2, 1, none⟩ (.slice a5 (Lk.length + 1) c5)) (w.heap.size + 2) [.bool z.shut, .slice a5 (Lk.length + 1) c5, .slice none 0 0, .int .i64 z.last]) := Lib.hid (((HBV.out.below HQ4.out (by omega)).below HWBH.out z4).wr HW5.out (Nat.lt_of_lt_of_le z4 HWBH.out.size) (fun p hp e => by have := HROW.out.2.1.ge p hp; omega) |>.put 1 (by simp) _)
        have HBL : Hid (Below (w.heap.size + 2) W (w5.setCell ⟨w.heap.size + 2, 1, none⟩ (.slice a5 (Lk.length + 1) c5))) := Lib.hid ((hbr.trans (BEL_step HQ4.out (by omega) HW5.out (fun p hp => by have := HROW.out.2.1.ge p hp; omega))).setCell (Nat.le_refl _) _)
        clear HR5 HW5 HWBH
        go_wp2
        go_roundw
        case rel => exact ⟨k + 1, _, _, HT.out, by omega, by go_num, HBX5.out, HO.out, HBL.out⟩
        case measure => simp [intOf]; omega
    · obtain rfl : k = z.docs.length := by omega
      rw [List.take_length] at hLk
      subst hLk
      have HOD := Lib.hid hu.bd
      have HBW := Lib.hid hbx
      clear hu hbx
      obtain ⟨uz0, uz1, uz2, uz3⟩ := mv4 hbr zc0 kz0 kz1 kz2 kz3
      obtain ⟨wo, rfl⟩ : ∃ wo : World, wo = wr := ⟨_, rfl⟩
      go_wp2
      go_loopw [31] (fun i wr => ∃ (k : Nat) (us : Value) (Lk : List DSub), Lk = z.subs.take k ∧ k ≤ z.subs.length ∧ i = .int .i64 k ∧ BoxAt wr (w.heap.size + 2) [.bool z.shut, u, us, .int .i64 z.last] ∧ OwnB (w.heap.size + 3) wo.heap.size wr u z.docs ∧ OwnS wo.heap.size wr us Lk ∧ Below (w.heap.size + 2) W wr ∧ wo.heap.size ≤ wr.heap.size) (fun i _ => z.subs.length - (intOf i).toNat)
      case atStart => exact ⟨0, _, [], rfl, Nat.zero_le _, rfl, HBW.out, HOD.out, OwnS.nil, hbr, Nat.le_refl _⟩
      case round =>
        clear HBW HOD uz0 uz1 uz2 uz3
        obtain ⟨k, us, Lk, hLk, hk, rfl, hbx, hod, hu, hbq, hso⟩ := hrel
        have hsq := hbq.size
        have hbw : Below w.heap.size w wr := hWB.trans (hbq.mono (by omega))
        by_cases hlt : k < z.subs.length
        · obtain ⟨s, hx⟩ := get_some hlt
          obtain ⟨b1, o1, cs, g1, g2, g3⟩ := (HXS.out.below hbw).idx Tryz.underlying28 szi_DSub k hx
          obtain ⟨s_list, rfl, nn, r_list⟩ := inv_DSub g3
          have q0 := g2.zero
          have q1 := g2 1 _ rfl
          have q2 := g2 2 _ rfl
          have q3 := g2 3 _ rfl
          have q4 := g2 4 _ rfl
          have q5 := g2 5 _ rfl
          obtain ⟨al, cl, rfl⟩ := r_list.isSlice
          have HT : Hid (Lk ++ [s] = z.subs.take (k + 1)) := Lib.hid (by rw [hLk]; exact (take_snoc hx).symm)
          have HD := Lib.hid (HZ.out.subs s (List.mem_of_getElem? hx))
          have hkl : Lk.length ≤ 6 := by rw [hLk]; simp; omega
          clear hLk
          obtain ⟨V, hV⟩ : ∃ V : World, V = wr.alloc (.cells #[.int .i64 s.id, .string s.doc, .int .i64 s.r.cap, .int .i64 s.r.next, .bool s.r.out, .slice al s.r.list.length cl] 78) := ⟨_, rfl⟩
          have hVq : Below wr.heap.size wr V := by rw [hV]; exact (Below.refl _ _).alloc (Nat.le_refl _) _
          have sV := hVq.size
          have HVL := Lib.hid (r_list.below hVq)
          have hbv : Below (w.heap.size + 2) W V := hbq.trans (hVq.mono (by omega))
          have bxv : BoxAt V (w.heap.size + 2) [.bool z.shut, u, us, .int .i64 z.last] := hbx.below hVq (by omega)
          have kvo := bxv.cell 2 rfl
          have gvo := bxv.fz 2 (by simp)
          have zvo : w.heap.size + 2 < V.heap.size := by omega
          have zvs : wr.heap.size < V.heap.size := by rw [hV]; simp
          have HBV := Lib.hid hbx
          have HOV := Lib.hid hod
          have kvs0 : V.cell? ⟨wr.heap.size, 0, none⟩ = some (.int .i64 s.id) := by rw [hV]; simp
          have gvs0 : V.frozen? ⟨wr.heap.size, 0, none⟩ = false := by rw [hV]; simp
          have kvs1 : V.cell? ⟨wr.heap.size, 1, none⟩ = some (.string s.doc) := by rw [hV]; simp
          have gvs1 : V.frozen? ⟨wr.heap.size, 1, none⟩ = false := by rw [hV]; simp
          have kvs2 : V.cell? ⟨wr.heap.size, 2, none⟩ = some (.int .i64 s.r.cap) := by rw [hV]; simp
          have gvs2 : V.frozen? ⟨wr.heap.size, 2, none⟩ = false := by rw [hV]; simp
          have kvs3 : V.cell? ⟨wr.heap.size, 3, none⟩ = some (.int .i64 s.r.next) := by rw [hV]; simp
          have gvs3 : V.frozen? ⟨wr.heap.size, 3, none⟩ = false := by rw [hV]; simp
          have kvs4 : V.cell? ⟨wr.heap.size, 4, none⟩ = some (.bool s.r.out) := by rw [hV]; simp
          have gvs4 : V.frozen? ⟨wr.heap.size, 4, none⟩ = false := by rw [hV]; simp
          have kvs5 : V.cell? ⟨wr.heap.size, 5, none⟩ = some (.slice al s.r.list.length cl) := by rw [hV]; simp
          have gvs5 : V.frozen? ⟨wr.heap.size, 5, none⟩ = false := by rw [hV]; simp
          obtain ⟨fs, hrow, hfs⟩ := hu.row
          have HLT := Lib.hid (Live.lt (Live.append.1 hrow.1.live).1)
          have HROW := Lib.hid hrow
          have HFS := Lib.hid hfs
          clear hx g2 g3 r_list hrow hfs hu hbx bxv hod
          go_wp2_with fail
          rw [← hV]
          clear hV q0 q1 q2 q3 q4 q5
          go_region_law (first | (go_simp; go_at_call 106; refine (spec_l11Sub_c s _ _ nn (HVL.out.below (Below.refl _ _).drew) HD.out).mono ?_; rintro e' w4 ⟨_, rfl, ho, hb4⟩; obtain ⟨f, hrd, hfr⟩ := ho; obtain ⟨vr, f1, rfl, nn2, ⟨v1, f2, rfl, s1, rfl⟩, rfl⟩ := hrd; obtain ⟨a1, c1, rfl⟩ := s1.isS; have HB4 : Hid (Below V.heap.size V w4) := Lib.hid ((Below.refl V.heap.size V).drew.trans hb4); have HQ4 : Hid (Below wr.heap.size wr w4) := Lib.hid (hVq.trans (HB4.out.mono sV)); have s4 := HQ4.out.size; have s4v := HB4.out.size; have HRD : Hid (GoT.rd BIG w4 [.int .i64 s.id, .string s.doc, .int .i64 s.r.cap, .int .i64 s.r.next, .bool s.r.out, .slice a1 s.r.list.length c1] s f) := Lib.hid ⟨_, _, rfl, nn2, ⟨_, _, rfl, s1, rfl⟩, rfl⟩; have HFR : Hid (Fresh wr.heap.size w4 f) := Lib.hid (hfr.mono om); have k4 := (HB4.out.cell (p := ⟨w.heap.size + 2, 2, none⟩) zvo).trans kvo; have g4 := (HB4.out.frozen (p := ⟨w.heap.size + 2, 2, none⟩) zvo).trans gvo; have z4 : w.heap.size + 2 < w4.heap.size := (by omega); clear hb4 hfr s1 nn2) | (have HWB : Below w4.heap.size w4 (w4.alloc (.cells #[.int .i64 s.id, .string s.doc, .int .i64 s.r.cap, .int .i64 s.r.next, .bool s.r.out, .slice a1 s.r.list.length c1] 78)) := (Below.refl _ _).alloc (Nat.le_refl _) _; (refine step_append_row (by rfl) (.tmp 36) (.tmp 39) 28 (by rfl) Tryz.underlying28 hj jz0 jz1 jz2 rfl (by rfl) (by rfl) ((HROW.out.below HQ4.out).below HWB) (src_built (x := s) 78 HRD.out) (fun q hq hm => by have e1 := HFR.out.ge q hq; have e2 := HLT.out q hm; omega) (le_BIG om) om (by first | omega | (simp; omega)) ?_); intro v5 w5 hr5 hw5 hn5; have s5 : w4.heap.size ≤ w5.heap.size := Nat.le_trans HWB.size hw5.size; have hnw : ∀ p ∈ rowP (GoT.n DSub) us, wo.heap.size ≤ p.1 := HROW.out.2.1.ge; have k5 : w5.cell? ⟨w.heap.size + 2, 2, none⟩ = some us := cellw HWB hw5 k4 (fun hm => by have := hnw _ hm; (try simp only at this); omega); have g5 : w5.frozen? ⟨w.heap.size + 2, 2, none⟩ = false := (hw5.frozen (w.heap.size + 2, 2) (Nat.lt_of_lt_of_le z4 HWB.size)).trans ((HWB.frozen (p := ⟨w.heap.size + 2, 2, none⟩) z4).trans g4); have z5 : w.heap.size + 2 < w5.heap.size := (by omega); obtain ⟨a5, c5, e5⟩ := hr5.rd.isSlice; rw [List.length_append, List.length_singleton] at e5; subst e5; have HR5 := Lib.hid hr5; have HW5 := Lib.hid hw5; have HWBH := Lib.hid HWB; clear hr5 hw5 hn5 HWB))
          all_goals
            have HO : Hid (OwnS wo.heap.size (w5.setCell ⟨w.heap.size + 2, 2, none⟩ (.slice a5 (Lk.length + 1) c5)) (.slice a5 (Lk.length + 1) c5) (Lk ++ [s])) := Lib.hid (by
              exact (Row.grown HROW.out HFS.out (HQ4.out.alloc s4 _) (HFR.out.belowL HWBH.out (Live.lt (GoT.live HRD.out))) (live_below HRD.out HWBH.out) (by omega) HR5.out HW5.out).poke (by omega) _)
            have HBX5 : Hid (BoxAt (w5.setCell ⟨w.heap.size + 2, 2, none⟩ (.slice a5 (Lk.length + 1) c5)) (w.heap.size + 2) [.bool z.shut, u, .slice a5 (Lk.length + 1) c5, .int .i64 z.last]) := Lib.hid (((HBV.out.below HQ4.out (by omega)).below HWBH.out z4).wr HW5.out (Nat.lt_of_lt_of_le z4 HWBH.out.size) (fun p hp e => by have := HROW.out.2.1.ge p hp; omega) |>.put 2 (by simp) _)
            have HBL : Hid (Below (w.heap.size + 2) W (w5.setCell ⟨w.heap.size + 2, 2, none⟩ (.slice a5 (Lk.length + 1) c5))) := Lib.hid ((hbq.trans (BEL_step HQ4.out (by omega) HW5.out (fun p hp => by have := HROW.out.2.1.ge p hp; omega))).setCell (Nat.le_refl _) _)
            have HOD5 : Hid (OwnB (w.heap.size + 3) wo.heap.size (w5.setCell ⟨w.heap.size + 2, 2, none⟩ (.slice a5 (Lk.length + 1) c5)) u z.docs) := Lib.hid ((((HOV.out.below HQ4.out).below HWBH.out).wr HW5.out (by have := HWBH.out.size; omega) (fun p hp => HROW.out.2.1.ge p hp)).setCell (.inl (by omega)) _)
            have hs5 : wo.heap.size ≤ (w5.setCell ⟨w.heap.size + 2, 2, none⟩ (.slice a5 (Lk.length + 1) c5)).heap.size := by simp; omega
            clear HR5 HW5 HWBH
            go_wp2
            go_roundw
            case rel => exact ⟨k + 1, _, _, HT.out, by omega, by go_num, HBX5.out, HOD5.out, HO.out, HBL.out, hs5⟩
            case measure => simp [intOf]; omega
        · obtain rfl : k = z.subs.length := by omega
          rw [List.take_length] at hLk
          subst hLk
          have bx0 := hbx.cell 0 rfl
          have bx1 := hbx.cell 1 rfl
          have bx2 := hbx.cell 2 rfl
          have bx3 := hbx.cell 3 rfl
          have zo : w.heap.size + 2 < wr.heap.size := by omega
          have zr : w.heap.size + 1 < wr.heap.size := by omega
          obtain ⟨ad, cd, rfl⟩ := hod.own.rd.isSlice
          obtain ⟨as_, cs_, rfl⟩ := hu.rd.isSlice
          have HOD := Lib.hid hod
          have HOS := Lib.hid hu.bd
          clear hbx hu hod
          obtain ⟨rr0, rr1, rr2, rr3⟩ := mv4 hbq zc1 kr0 kr1 kr2 kr3
          obtain ⟨rf0, rf1, rf2, rf3⟩ := mf4 hbq zc1 fr0 fr1 fr2 fr3
          have HH : Hid (Own w.heap.size ((((wr.setCell ⟨w.heap.size + 1, 0, none⟩ (.bool z.shut)).setCell ⟨w.heap.size + 1, 1, none⟩ (.slice ad z.docs.length cd)).setCell ⟨w.heap.size + 1, 2, none⟩ (.slice as_ z.subs.length cs_)).setCell ⟨w.heap.size + 1, 3, none⟩ (.int .i64 z.last)) [.bool z.shut, .slice ad z.docs.length cd, .slice as_ z.subs.length cs_, .int .i64 z.last] z) := Lib.hid (own_DHub z ((((HOD.out.setCell (.inl (by omega)) _).setCell (.inl (by omega)) _).setCell (.inl (by omega)) _).setCell (.inl (by omega)) _) ((((HOS.out.setCell (.inl (by omega)) _).setCell (.inl (by omega)) _).setCell (.inl (by omega)) _).setCell (.inl (by omega)) _) (by omega) (by omega) (by omega))
          have HBB : Hid (Below w.heap.size w ((((wr.setCell ⟨w.heap.size + 1, 0, none⟩ (.bool z.shut)).setCell ⟨w.heap.size + 1, 1, none⟩ (.slice ad z.docs.length cd)).setCell ⟨w.heap.size + 1, 2, none⟩ (.slice as_ z.subs.length cs_)).setCell ⟨w.heap.size + 1, 3, none⟩ (.int .i64 z.last))) := Lib.hid ((((hbw.setCell (by simp) _).setCell (by simp) _).setCell (by simp) _).setCell (by simp) _)
          go_wp2
          exact bodyPost_ret (v := .agg #[.bool z.shut, .slice ad z.docs.length cd, .slice as_ z.subs.length cs_, .int .i64 z.last]) (by simp [results, Tryz.results42, go_sem, cell_setCell, *]) rfl ⟨_, rfl, HH.out, HBB.out⟩
set_option maxHeartbeats 8000000 in
set_option maxRecDepth 100000 in
theorem impl_copyHub_c (z : DHub) (v_docs v_subs : Value) (w : World) (h_docs : RdS w v_docs z.docs) (h_subs : RdS w v_subs z.subs) (hz : HubSz z) : Calls Tryz.prog 51 #[.agg #[.bool z.shut, v_docs, v_subs, .int .i64 z.last]] w (Gives w z) := by
  have hld := fun w1 ty => h_docs.len Tryz.underlying27 w1 ty
  have hls := fun w1 ty => h_subs.len Tryz.underlying28 w1 ty
  obtain ⟨i0, hi, hz0, hz1, hz2⟩ := info_parts info_doc
  obtain ⟨j0, hj, jz0, jz1, jz2⟩ := info_parts info_sub
  have nd := hz.nd
  have ns := hz.ns
  have HZ := Lib.hid hz
  clear hz
  go_enter Tryz.func51, Tryz.ntmps51
  go_wp2_with fail
  obtain ⟨W, hW⟩ : ∃ W : World, W = ((w.alloc (.cells #[.bool z.shut, v_docs, v_subs, .int .i64 z.last] 30)).alloc (.cells #[.bool false, .slice none 0 0, .slice none 0 0, .int .i64 0] 30)).alloc (.cells #[.bool z.shut, .slice none 0 0, .slice none 0 0, .int .i64 z.last] 30) := ⟨_, rfl⟩
  have hWB : Below w.heap.size w W := by rw [hW]; exact blw
  have sW := hWB.size
  have zz : w.heap.size < W.heap.size := by rw [hW]; first | (simp; done) | (simp; omega)
  have kz0 : W.cell? ⟨w.heap.size, 0, none⟩ = some (.bool z.shut) := by rw [hW]; simp [go_sem]
  have kz1 : W.cell? ⟨w.heap.size, 1, none⟩ = some (v_docs) := by rw [hW]; simp [go_sem]
  have kz2 : W.cell? ⟨w.heap.size, 2, none⟩ = some (v_subs) := by rw [hW]; simp [go_sem]
  have kz3 : W.cell? ⟨w.heap.size, 3, none⟩ = some (.int .i64 z.last) := by rw [hW]; simp [go_sem]
  have zr : w.heap.size + 1 < W.heap.size := by rw [hW]; first | (simp; done) | (simp; omega)
  have kr0 : W.cell? ⟨w.heap.size + 1, 0, none⟩ = some (.bool false) := by rw [hW]; simp [go_sem]
  have fr0 : W.frozen? ⟨w.heap.size + 1, 0, none⟩ = false := by rw [hW]; simp [go_sem]
  have kr1 : W.cell? ⟨w.heap.size + 1, 1, none⟩ = some (.slice none 0 0) := by rw [hW]; simp [go_sem]
  have fr1 : W.frozen? ⟨w.heap.size + 1, 1, none⟩ = false := by rw [hW]; simp [go_sem]
  have kr2 : W.cell? ⟨w.heap.size + 1, 2, none⟩ = some (.slice none 0 0) := by rw [hW]; simp [go_sem]
  have fr2 : W.frozen? ⟨w.heap.size + 1, 2, none⟩ = false := by rw [hW]; simp [go_sem]
  have kr3 : W.cell? ⟨w.heap.size + 1, 3, none⟩ = some (.int .i64 0) := by rw [hW]; simp [go_sem]
  have fr3 : W.frozen? ⟨w.heap.size + 1, 3, none⟩ = false := by rw [hW]; simp [go_sem]
  have zo : w.heap.size + 2 < W.heap.size := by rw [hW]; first | (simp; done) | (simp; omega)
  have ko0 : W.cell? ⟨w.heap.size + 2, 0, none⟩ = some (.bool z.shut) := by rw [hW]; simp [go_sem]
  have fo0 : W.frozen? ⟨w.heap.size + 2, 0, none⟩ = false := by rw [hW]; simp [go_sem]
  have ko1 : W.cell? ⟨w.heap.size + 2, 1, none⟩ = some (.slice none 0 0) := by rw [hW]; simp [go_sem]
  have fo1 : W.frozen? ⟨w.heap.size + 2, 1, none⟩ = false := by rw [hW]; simp [go_sem]
  have ko2 : W.cell? ⟨w.heap.size + 2, 2, none⟩ = some (.slice none 0 0) := by rw [hW]; simp [go_sem]
  have fo2 : W.frozen? ⟨w.heap.size + 2, 2, none⟩ = false := by rw [hW]; simp [go_sem]
  have ko3 : W.cell? ⟨w.heap.size + 2, 3, none⟩ = some (.int .i64 z.last) := by rw [hW]; simp [go_sem]
  have fo3 : W.frozen? ⟨w.heap.size + 2, 3, none⟩ = false := by rw [hW]; simp [go_sem]
  have hW3 : W.heap.size = w.heap.size + 3 := by rw [hW]; simp
  rw [← hW]
  clear hW
  have zc0 : w.heap.size < w.heap.size + 2 := by omega
  have zc1 : w.heap.size + 1 < w.heap.size + 2 := by omega
  have HXD := Lib.hid h_docs
  have HXS := Lib.hid h_subs
  clear h_docs h_subs
  have HBX : Hid (BoxAt W (w.heap.size + 2) [.bool z.shut, .slice none 0 0, .slice none 0 0, .int .i64 z.last]) := Lib.hid ⟨fun j v hj => by
      rw [Nat.zero_add]
      match j, hj with
      | 0, h => cases h; exact ko0
      | 1, h => cases h; exact ko1
      | 2, h => cases h; exact ko2
      | 3, h => cases h; exact ko3, fun j hj => by
      match j, hj with
      | 0, _ => exact fo0
      | 1, _ => exact fo1
      | 2, _ => exact fo2
      | 3, _ => exact fo3⟩
  clear ko0 ko1 ko2 ko3 fo0 fo1 fo2 fo3
  go_wp2
  go_loopw [16] (fun i wr => ∃ (k : Nat) (u : Value) (Lk : List DDoc), Lk = z.docs.take k ∧ k ≤ z.docs.length ∧ i = .int .i64 k ∧ BoxAt wr (w.heap.size + 2) [.bool z.shut, u, .slice none 0 0, .int .i64 z.last] ∧ OwnS (w.heap.size + 3) wr u Lk ∧ Below (w.heap.size + 2) W wr) (fun i _ => z.docs.length - (intOf i).toNat)
  case atStart => exact ⟨0, _, [], rfl, Nat.zero_le _, rfl, HBX.out, OwnS.nil, Below.refl _ _⟩
  case round =>
    obtain ⟨k, u, Lk, hLk, hk, rfl, hbx, hu, hbr⟩ := hrel
    have hsz := hbr.size
    have hbw : Below w.heap.size w wr := hWB.trans (hbr.mono (by omega))
    by_cases hlt : k < z.docs.length
    · obtain ⟨d, hx⟩ := get_some hlt
      obtain ⟨b1, o1, cs, g1, g2, g3⟩ := (HXD.out.below hbw).idx Tryz.underlying27 szi_DDoc k hx
      obtain ⟨d_text, d_list, d_seen, rfl, nn, r_text, r_list, r_seen⟩ := inv_DDoc g3
      have q0 := g2.zero
      have q1 := g2 1 _ rfl
      have q2 := g2 2 _ rfl
      have q3 := g2 3 _ rfl
      have q4 := g2 4 _ rfl
      obtain ⟨at_, ct, rfl⟩ := r_text.isSlice
      obtain ⟨al, cl, rfl⟩ := r_list.isSlice
      obtain ⟨as_, cs_, rfl⟩ := r_seen.isSlice
      have HT : Hid (Lk ++ [d] = z.docs.take (k + 1)) := Lib.hid (by rw [hLk]; exact (take_snoc hx).symm)
      have HD := Lib.hid (HZ.out.docs d (List.mem_of_getElem? hx))
      have hkl : Lk.length ≤ 5 := by rw [hLk]; simp; omega
      clear hLk
      obtain ⟨V, hV⟩ : ∃ V : World, V = wr.alloc (.cells #[.string d.name, .int .i64 d.from_, .slice at_ d.text.length ct, .slice al d.list.length cl, .slice as_ d.seen.length cs_] 61) := ⟨_, rfl⟩
      have hVq : Below wr.heap.size wr V := by rw [hV]; exact (Below.refl _ _).alloc (Nat.le_refl _) _
      have sV := hVq.size
      have HVT := Lib.hid (r_text.below hVq)
      have HVL := Lib.hid (r_list.below hVq)
      have HVS := Lib.hid (r_seen.below hVq)
      have hbv : Below (w.heap.size + 2) W V := hbr.trans (hVq.mono (by omega))
      have bxv : BoxAt V (w.heap.size + 2) [.bool z.shut, u, .slice none 0 0, .int .i64 z.last] := hbx.below hVq (by omega)
      have kvo := bxv.cell 1 rfl
      have gvo := bxv.fz 1 (by simp)
      have zvo : w.heap.size + 2 < V.heap.size := by omega
      have HBV := Lib.hid hbx
      have kvd0 : V.cell? ⟨wr.heap.size, 0, none⟩ = some (.string d.name) := by rw [hV]; simp
      have kvd1 : V.cell? ⟨wr.heap.size, 1, none⟩ = some (.int .i64 d.from_) := by rw [hV]; simp
      have kvd2 : V.cell? ⟨wr.heap.size, 2, none⟩ = some (.slice at_ d.text.length ct) := by rw [hV]; simp
      have kvd3 : V.cell? ⟨wr.heap.size, 3, none⟩ = some (.slice al d.list.length cl) := by rw [hV]; simp
      have kvd4 : V.cell? ⟨wr.heap.size, 4, none⟩ = some (.slice as_ d.seen.length cs_) := by rw [hV]; simp
      obtain ⟨fs, hrow, hfs⟩ := hu.row
      have HLT := Lib.hid (Live.lt (Live.append.1 hrow.1.live).1)
      have HLF := Lib.hid (Live.lt (Live.append.1 hrow.1.live).2)
      have HROW := Lib.hid hrow
      have HFS := Lib.hid hfs
      clear hx g2 g3 r_text r_list r_seen hrow hfs hu hbx bxv
      go_wp2_with fail
      rw [← hV]
      clear hV q0 q1 q2 q3 q4
      go_region_law (first | (go_simp; go_at_call 86; refine (impl_copyDoc_c d _ _ _ _ nn (HVT.out.below (Below.refl _ _).drew) (HVL.out.below (Below.refl _ _).drew) (HVS.out.below (Below.refl _ _).drew) HD.out.1 HD.out.2.1 HD.out.2.2).mono ?_; rintro e' w4 ⟨_, rfl, ho, hb4⟩; obtain ⟨f, hrd, hfr⟩ := ho; obtain ⟨v1, v2, v3, f1, f2, f3, rfl, nn2, s1, s2, s3, rfl⟩ := hrd; obtain ⟨a1, c1, rfl⟩ := s1.isS; obtain ⟨a2, c2, rfl⟩ := s2.isS; obtain ⟨a3, c3, rfl⟩ := s3.isS; have HB4 : Hid (Below V.heap.size V w4) := Lib.hid ((Below.refl V.heap.size V).drew.trans hb4); have HQ4 : Hid (Below wr.heap.size wr w4) := Lib.hid (hVq.trans (HB4.out.mono sV)); have s4 := HQ4.out.size; have s4v := HB4.out.size; have HRD : Hid (GoT.rd BIG w4 [.string d.name, .int .i64 d.from_, .slice a1 d.text.length c1, .slice a2 d.list.length c2, .slice a3 d.seen.length c3] d (f1 ++ (f2 ++ f3))) := Lib.hid ⟨_, _, _, _, _, _, rfl, nn2, s1, s2, s3, rfl⟩; have HFR : Hid (Fresh wr.heap.size w4 (f1 ++ (f2 ++ f3))) := Lib.hid (hfr.mono om); have k4 := (HB4.out.cell (p := ⟨w.heap.size + 2, 1, none⟩) zvo).trans kvo; have g4 := (HB4.out.frozen (p := ⟨w.heap.size + 2, 1, none⟩) zvo).trans gvo; have z4 : w.heap.size + 2 < w4.heap.size := (by omega); clear hb4 hfr s1 s2 s3 nn2) | (have HWB : Below w4.heap.size w4 (w4.alloc (.cells #[.string d.name, .int .i64 d.from_, .slice a1 d.text.length c1, .slice a2 d.list.length c2, .slice a3 d.seen.length c3] 61)) := (Below.refl _ _).alloc (Nat.le_refl _) _; (refine step_append_row (by rfl) (.tmp 21) (.tmp 24) 27 (by rfl) Tryz.underlying27 hi hz0 hz1 hz2 rfl (by rfl) (by rfl) ((HROW.out.below HQ4.out).below HWB) (src_built (x := d) 61 HRD.out) (fun q hq hm => by have e1 := HFR.out.ge q hq; have e2 := HLT.out q hm; omega) (le_BIG om) om (by first | omega | (simp; omega)) ?_); intro v5 w5 hr5 hw5 hn5; have s5 : w4.heap.size ≤ w5.heap.size := Nat.le_trans HWB.size hw5.size; have hnw : ∀ p ∈ rowP (GoT.n DDoc) u, w.heap.size + 3 ≤ p.1 := HROW.out.2.1.ge; have k5 : w5.cell? ⟨w.heap.size + 2, 1, none⟩ = some u := cellw HWB hw5 k4 (fun hm => by have := hnw _ hm; (try simp only at this); omega); have g5 : w5.frozen? ⟨w.heap.size + 2, 1, none⟩ = false := (hw5.frozen (w.heap.size + 2, 1) (Nat.lt_of_lt_of_le z4 HWB.size)).trans ((HWB.frozen (p := ⟨w.heap.size + 2, 1, none⟩) z4).trans g4); have z5 : w.heap.size + 2 < w5.heap.size := (by omega); obtain ⟨a5, c5, e5⟩ := hr5.rd.isSlice; rw [List.length_append, List.length_singleton] at e5; subst e5; have HR5 := Lib.hid hr5; have HW5 := Lib.hid hw5; have HWBH := Lib.hid HWB; clear hr5 hw5 hn5 HWB))
      all_goals
        have HO : Hid (OwnS (w.heap.size + 3) (w5.setCell ⟨w.heap.size + 2, 1, none⟩ (.slice a5 (Lk.length + 1) c5)) (.slice a5 (Lk.length + 1) c5) (Lk ++ [d])) := Lib.hid (by
          exact (Row.grown HROW.out HFS.out (HQ4.out.alloc s4 _) (HFR.out.belowL HWBH.out (Live.lt (GoT.live HRD.out))) (live_below HRD.out HWBH.out) (by omega) HR5.out HW5.out).poke (by omega) _)
        have HBX5 : Hid (BoxAt (w5.setCell ⟨w.heap.size + 2, 1, none⟩ (.slice a5 (Lk.length + 1) c5)) (w.heap.size + 2) [.bool z.shut, .slice a5 (Lk.length + 1) c5, .slice none 0 0, .int .i64 z.last]) := Lib.hid (((HBV.out.below HQ4.out (by omega)).below HWBH.out z4).wr HW5.out (Nat.lt_of_lt_of_le z4 HWBH.out.size) (fun p hp e => by have := HROW.out.2.1.ge p hp; omega) |>.put 1 (by simp) _)
        have HBL : Hid (Below (w.heap.size + 2) W (w5.setCell ⟨w.heap.size + 2, 1, none⟩ (.slice a5 (Lk.length + 1) c5))) := Lib.hid ((hbr.trans (BEL_step HQ4.out (by omega) HW5.out (fun p hp => by have := HROW.out.2.1.ge p hp; omega))).setCell (Nat.le_refl _) _)
        clear HR5 HW5 HWBH
        go_wp2
        go_roundw
        case rel => exact ⟨k + 1, _, _, HT.out, by omega, by go_num, HBX5.out, HO.out, HBL.out⟩
        case measure => simp [intOf]; omega
    · obtain rfl : k = z.docs.length := by omega
      rw [List.take_length] at hLk
      subst hLk
      have HOD := Lib.hid hu.bd
      have HBW := Lib.hid hbx
      clear hu hbx
      obtain ⟨uz0, uz1, uz2, uz3⟩ := mv4 hbr zc0 kz0 kz1 kz2 kz3
      obtain ⟨wo, rfl⟩ : ∃ wo : World, wo = wr := ⟨_, rfl⟩
      go_wp2
      go_loopw [31] (fun i wr => ∃ (k : Nat) (us : Value) (Lk : List DSub), Lk = z.subs.take k ∧ k ≤ z.subs.length ∧ i = .int .i64 k ∧ BoxAt wr (w.heap.size + 2) [.bool z.shut, u, us, .int .i64 z.last] ∧ OwnB (w.heap.size + 3) wo.heap.size wr u z.docs ∧ OwnS wo.heap.size wr us Lk ∧ Below (w.heap.size + 2) W wr ∧ wo.heap.size ≤ wr.heap.size) (fun i _ => z.subs.length - (intOf i).toNat)
      case atStart => exact ⟨0, _, [], rfl, Nat.zero_le _, rfl, HBW.out, HOD.out, OwnS.nil, hbr, Nat.le_refl _⟩
      case round =>
        clear HBW HOD uz0 uz1 uz2 uz3
        obtain ⟨k, us, Lk, hLk, hk, rfl, hbx, hod, hu, hbq, hso⟩ := hrel
        have hsq := hbq.size
        have hbw : Below w.heap.size w wr := hWB.trans (hbq.mono (by omega))
        by_cases hlt : k < z.subs.length
        · obtain ⟨s, hx⟩ := get_some hlt
          obtain ⟨b1, o1, cs, g1, g2, g3⟩ := (HXS.out.below hbw).idx Tryz.underlying28 szi_DSub k hx
          obtain ⟨s_list, rfl, nn, r_list⟩ := inv_DSub g3
          have q0 := g2.zero
          have q1 := g2 1 _ rfl
          have q2 := g2 2 _ rfl
          have q3 := g2 3 _ rfl
          have q4 := g2 4 _ rfl
          have q5 := g2 5 _ rfl
          obtain ⟨al, cl, rfl⟩ := r_list.isSlice
          have HT : Hid (Lk ++ [s] = z.subs.take (k + 1)) := Lib.hid (by rw [hLk]; exact (take_snoc hx).symm)
          have HD := Lib.hid (HZ.out.subs s (List.mem_of_getElem? hx))
          have hkl : Lk.length ≤ 6 := by rw [hLk]; simp; omega
          clear hLk
          obtain ⟨V, hV⟩ : ∃ V : World, V = wr.alloc (.cells #[.int .i64 s.id, .string s.doc, .int .i64 s.r.cap, .int .i64 s.r.next, .bool s.r.out, .slice al s.r.list.length cl] 78) := ⟨_, rfl⟩
          have hVq : Below wr.heap.size wr V := by rw [hV]; exact (Below.refl _ _).alloc (Nat.le_refl _) _
          have sV := hVq.size
          have HVL := Lib.hid (r_list.below hVq)
          have hbv : Below (w.heap.size + 2) W V := hbq.trans (hVq.mono (by omega))
          have bxv : BoxAt V (w.heap.size + 2) [.bool z.shut, u, us, .int .i64 z.last] := hbx.below hVq (by omega)
          have kvo := bxv.cell 2 rfl
          have gvo := bxv.fz 2 (by simp)
          have zvo : w.heap.size + 2 < V.heap.size := by omega
          have zvs : wr.heap.size < V.heap.size := by rw [hV]; simp
          have HBV := Lib.hid hbx
          have HOV := Lib.hid hod
          have kvs0 : V.cell? ⟨wr.heap.size, 0, none⟩ = some (.int .i64 s.id) := by rw [hV]; simp
          have gvs0 : V.frozen? ⟨wr.heap.size, 0, none⟩ = false := by rw [hV]; simp
          have kvs1 : V.cell? ⟨wr.heap.size, 1, none⟩ = some (.string s.doc) := by rw [hV]; simp
          have gvs1 : V.frozen? ⟨wr.heap.size, 1, none⟩ = false := by rw [hV]; simp
          have kvs2 : V.cell? ⟨wr.heap.size, 2, none⟩ = some (.int .i64 s.r.cap) := by rw [hV]; simp
          have gvs2 : V.frozen? ⟨wr.heap.size, 2, none⟩ = false := by rw [hV]; simp
          have kvs3 : V.cell? ⟨wr.heap.size, 3, none⟩ = some (.int .i64 s.r.next) := by rw [hV]; simp
          have gvs3 : V.frozen? ⟨wr.heap.size, 3, none⟩ = false := by rw [hV]; simp
          have kvs4 : V.cell? ⟨wr.heap.size, 4, none⟩ = some (.bool s.r.out) := by rw [hV]; simp
          have gvs4 : V.frozen? ⟨wr.heap.size, 4, none⟩ = false := by rw [hV]; simp
          have kvs5 : V.cell? ⟨wr.heap.size, 5, none⟩ = some (.slice al s.r.list.length cl) := by rw [hV]; simp
          have gvs5 : V.frozen? ⟨wr.heap.size, 5, none⟩ = false := by rw [hV]; simp
          obtain ⟨fs, hrow, hfs⟩ := hu.row
          have HLT := Lib.hid (Live.lt (Live.append.1 hrow.1.live).1)
          have HROW := Lib.hid hrow
          have HFS := Lib.hid hfs
          clear hx g2 g3 r_list hrow hfs hu hbx bxv hod
          go_wp2_with fail
          rw [← hV]
          clear hV q0 q1 q2 q3 q4 q5
          refine (impl_copyRing_c s.r _ _ (HVL.out.below blw) HD.out).mono ?_
          rintro e' w1 ⟨_, rfl, ho, hb4⟩
          obtain ⟨f, hrd, hfr⟩ := ho
          obtain ⟨v1, f2, rfl, s1, rfl⟩ := hrd
          obtain ⟨a1, c1, rfl⟩ := s1.isS
          have HB1 : Hid (Below V.heap.size V w1) := Lib.hid blw
          have s1_ := HB1.out.size
          have zvs1 : wr.heap.size < w1.heap.size := by omega
          have y0 := (HB1.out.cell (p := ⟨wr.heap.size, 0, none⟩) zvs).trans kvs0
          have t0 := (HB1.out.frozen (p := ⟨wr.heap.size, 0, none⟩) zvs).trans gvs0
          have y1 := (HB1.out.cell (p := ⟨wr.heap.size, 1, none⟩) zvs).trans kvs1
          have t1 := (HB1.out.frozen (p := ⟨wr.heap.size, 1, none⟩) zvs).trans gvs1
          have y2 := (HB1.out.cell (p := ⟨wr.heap.size, 2, none⟩) zvs).trans kvs2
          have t2 := (HB1.out.frozen (p := ⟨wr.heap.size, 2, none⟩) zvs).trans gvs2
          have y3 := (HB1.out.cell (p := ⟨wr.heap.size, 3, none⟩) zvs).trans kvs3
          have t3 := (HB1.out.frozen (p := ⟨wr.heap.size, 3, none⟩) zvs).trans gvs3
          have y4 := (HB1.out.cell (p := ⟨wr.heap.size, 4, none⟩) zvs).trans kvs4
          have t4 := (HB1.out.frozen (p := ⟨wr.heap.size, 4, none⟩) zvs).trans gvs4
          have y5 := (HB1.out.cell (p := ⟨wr.heap.size, 5, none⟩) zvs).trans kvs5
          have t5 := (HB1.out.frozen (p := ⟨wr.heap.size, 5, none⟩) zvs).trans gvs5
          have HF1 : Hid (Fresh V.heap.size w1 f) := Lib.hid (hfr.mono om)
          have HS1 := Lib.hid s1
          have hnf : ∀ j, ((wr.heap.size, j) : Pos) ∉ f := fun j hm => Nat.lt_irrefl _ (Nat.lt_of_lt_of_le zvs (HF1.out.ge _ hm))
          have HNF := Lib.hid hnf
          obtain ⟨w4, hw4⟩ : ∃ w4 : World, w4 = ((((w1.setCell ⟨wr.heap.size, 2, none⟩ (.int .i64 s.r.cap)).setCell ⟨wr.heap.size, 3, none⟩ (.int .i64 s.r.next)).setCell ⟨wr.heap.size, 4, none⟩ (.bool s.r.out)).setCell ⟨wr.heap.size, 5, none⟩ (.slice a1 s.r.list.length c1)) := ⟨_, rfl⟩
          have hq1 : Below wr.heap.size V w1 := HB1.out.mono (Nat.le_of_lt zvs)
          have HB4 : Hid (Below wr.heap.size V w4) := Lib.hid (by rw [hw4]; exact (((hq1.setCell (Nat.le_refl _) _).setCell (Nat.le_refl _) _).setCell (Nat.le_refl _) _).setCell (Nat.le_refl _) _)
          have HQ4 : Hid (Below wr.heap.size wr w4) := Lib.hid (hVq.trans HB4.out)
          have s4 := HQ4.out.size
          have s4v := HB4.out.size
          have HRD : Hid (GoT.rd BIG w4 [.int .i64 s.id, .string s.doc, .int .i64 s.r.cap, .int .i64 s.r.next, .bool s.r.out, .slice a1 s.r.list.length c1] s f) := Lib.hid ⟨_, _, rfl, nn, ⟨_, _, rfl, by rw [hw4]; exact ((((HS1.out.put (HNF.out 2) _).put (HNF.out 3) _).put (HNF.out 4) _).put (HNF.out 5) _), rfl⟩, rfl⟩
          have HFR : Hid (Fresh wr.heap.size w4 f) := Lib.hid (by rw [hw4]; exact ((((HF1.out.mono (by omega)).put _ _).put _ _).put _ _).put _ _)
          clear hb4 hfr s1 hnf
          have x0 : w4.cell? ⟨wr.heap.size, 0, none⟩ = some (.int .i64 s.id) := by rw [hw4]; simp [cell_setCell, y0]
          have x1 : w4.cell? ⟨wr.heap.size, 1, none⟩ = some (.string s.doc) := by rw [hw4]; simp [cell_setCell, y1]
          have x2 : w4.cell? ⟨wr.heap.size, 2, none⟩ = some (.int .i64 s.r.cap) := by rw [hw4]; simp [cell_setCell, y2]
          have x3 : w4.cell? ⟨wr.heap.size, 3, none⟩ = some (.int .i64 s.r.next) := by rw [hw4]; simp [cell_setCell, y3]
          have x4 : w4.cell? ⟨wr.heap.size, 4, none⟩ = some (.bool s.r.out) := by rw [hw4]; simp [cell_setCell, y4]
          have x5 : w4.cell? ⟨wr.heap.size, 5, none⟩ = some (.slice a1 s.r.list.length c1) := by rw [hw4]; simp [cell_setCell, y5]
          have zq2 : w.heap.size + 2 < wr.heap.size := by omega
          have k4 : w4.cell? ⟨w.heap.size + 2, 2, none⟩ = some us := (HB4.out.cell (p := ⟨w.heap.size + 2, 2, none⟩) zq2).trans kvo
          have g4 : w4.frozen? ⟨w.heap.size + 2, 2, none⟩ = false := (HB4.out.frozen (p := ⟨w.heap.size + 2, 2, none⟩) zq2).trans gvo
          have z4 : w.heap.size + 2 < w4.heap.size := by omega
          have z4s : wr.heap.size < w4.heap.size := by omega
          go_upto_region 11 with (fail)
          rw [← hw4]
          clear hw4 y0 t0 kvs0 gvs0 y1 t1 kvs1 gvs1 y2 t2 kvs2 gvs2 y3 t3 kvs3 gvs3 y4 t4 kvs4 gvs4 y5 t5 kvs5 gvs5
          have HWBH : Hid (Below w4.heap.size w4 (w4.alloc (.cells #[.int .i64 s.id, .string s.doc, .int .i64 s.r.cap, .int .i64 s.r.next, .bool s.r.out, .slice a1 s.r.list.length c1] 78))) := Lib.hid ((Below.refl _ _).alloc (Nat.le_refl _) _)
          go_wp2_with (at_builtin; refine wpList_append_row rfl _ _ 28 rfl Tryz.underlying28 hj jz0 jz1 jz2 rfl rfl rfl ((HROW.out.below HQ4.out).below HWBH.out) (src_built (x := s) 78 HRD.out) (fun q hq hm => by have e1 := HFR.out.ge q hq; have e2 := HLT.out q hm; omega) ?c1 ?c2 ?c3 ?_)
          case c1 => simp at hkl ⊢; exact le_BIG (by omega)
          case c2 => simp at hkl ⊢; omega
          case c3 => first | omega | (simp; omega)
          intro v5 w5 hr5 hw5 hn5
          have s5 : w4.heap.size ≤ w5.heap.size := Nat.le_trans HWBH.out.size hw5.size
          have k5 : w5.cell? ⟨w.heap.size + 2, 2, none⟩ = some us := cellw HWBH.out hw5 k4 (fun hm => by have := HROW.out.2.1.ge _ hm; (try simp only at this); omega)
          have g5 : w5.frozen? ⟨w.heap.size + 2, 2, none⟩ = false := (hw5.frozen (w.heap.size + 2, 2) (Nat.lt_of_lt_of_le z4 HWBH.out.size)).trans ((HWBH.out.frozen (p := ⟨w.heap.size + 2, 2, none⟩) z4).trans g4)
          have z5 : w.heap.size + 2 < w5.heap.size := by omega
          obtain ⟨a5, c5, e5⟩ := hr5.rd.isSlice
          rw [List.length_append, List.length_singleton] at e5
          subst e5
          have HR5 := Lib.hid hr5
          have HW5 := Lib.hid hw5
          clear hr5 hw5 hn5
          have HO : Hid (OwnS wo.heap.size (w5.setCell ⟨w.heap.size + 2, 2, none⟩ (.slice a5 (Lk.length + 1) c5)) (.slice a5 (Lk.length + 1) c5) (Lk ++ [s])) := Lib.hid (by
            exact (Row.grown HROW.out HFS.out (HQ4.out.alloc s4 _) (HFR.out.belowL HWBH.out (Live.lt (GoT.live HRD.out))) (live_below HRD.out HWBH.out) (by omega) HR5.out HW5.out).poke (by omega) _)
          have HBX5 : Hid (BoxAt (w5.setCell ⟨w.heap.size + 2, 2, none⟩ (.slice a5 (Lk.length + 1) c5)) (w.heap.size + 2) [.bool z.shut, u, .slice a5 (Lk.length + 1) c5, .int .i64 z.last]) := Lib.hid (((HBV.out.below HQ4.out (by omega)).below HWBH.out z4).wr HW5.out (Nat.lt_of_lt_of_le z4 HWBH.out.size) (fun p hp e => by have := HROW.out.2.1.ge p hp; omega) |>.put 2 (by simp) _)
          have HBL : Hid (Below (w.heap.size + 2) W (w5.setCell ⟨w.heap.size + 2, 2, none⟩ (.slice a5 (Lk.length + 1) c5))) := Lib.hid ((hbq.trans (BEL_step HQ4.out (by omega) HW5.out (fun p hp => by have := HROW.out.2.1.ge p hp; omega))).setCell (Nat.le_refl _) _)
          have HOD5 : Hid (OwnB (w.heap.size + 3) wo.heap.size (w5.setCell ⟨w.heap.size + 2, 2, none⟩ (.slice a5 (Lk.length + 1) c5)) u z.docs) := Lib.hid ((((HOV.out.below HQ4.out).below HWBH.out).wr HW5.out (by have := HWBH.out.size; omega) (fun p hp => HROW.out.2.1.ge p hp)).setCell (.inl (by omega)) _)
          have hs5 : wo.heap.size ≤ (w5.setCell ⟨w.heap.size + 2, 2, none⟩ (.slice a5 (Lk.length + 1) c5)).heap.size := by simp; omega
          clear HR5 HW5 HWBH
          go_wp2
          go_roundw
          case rel => exact ⟨k + 1, _, _, HT.out, by omega, by go_num, HBX5.out, HOD5.out, HO.out, HBL.out, hs5⟩
          case measure => simp [intOf]; omega
        · obtain rfl : k = z.subs.length := by omega
          rw [List.take_length] at hLk
          subst hLk
          have bx0 := hbx.cell 0 rfl
          have bx1 := hbx.cell 1 rfl
          have bx2 := hbx.cell 2 rfl
          have bx3 := hbx.cell 3 rfl
          have zo : w.heap.size + 2 < wr.heap.size := by omega
          have zr : w.heap.size + 1 < wr.heap.size := by omega
          obtain ⟨ad, cd, rfl⟩ := hod.own.rd.isSlice
          obtain ⟨as_, cs_, rfl⟩ := hu.rd.isSlice
          have HOD := Lib.hid hod
          have HOS := Lib.hid hu.bd
          clear hbx hu hod
          obtain ⟨rr0, rr1, rr2, rr3⟩ := mv4 hbq zc1 kr0 kr1 kr2 kr3
          obtain ⟨rf0, rf1, rf2, rf3⟩ := mf4 hbq zc1 fr0 fr1 fr2 fr3
          have HH : Hid (Own w.heap.size ((((wr.setCell ⟨w.heap.size + 1, 0, none⟩ (.bool z.shut)).setCell ⟨w.heap.size + 1, 1, none⟩ (.slice ad z.docs.length cd)).setCell ⟨w.heap.size + 1, 2, none⟩ (.slice as_ z.subs.length cs_)).setCell ⟨w.heap.size + 1, 3, none⟩ (.int .i64 z.last)) [.bool z.shut, .slice ad z.docs.length cd, .slice as_ z.subs.length cs_, .int .i64 z.last] z) := Lib.hid (own_DHub z ((((HOD.out.setCell (.inl (by omega)) _).setCell (.inl (by omega)) _).setCell (.inl (by omega)) _).setCell (.inl (by omega)) _) ((((HOS.out.setCell (.inl (by omega)) _).setCell (.inl (by omega)) _).setCell (.inl (by omega)) _).setCell (.inl (by omega)) _) (by omega) (by omega) (by omega))
          have HBB : Hid (Below w.heap.size w ((((wr.setCell ⟨w.heap.size + 1, 0, none⟩ (.bool z.shut)).setCell ⟨w.heap.size + 1, 1, none⟩ (.slice ad z.docs.length cd)).setCell ⟨w.heap.size + 1, 2, none⟩ (.slice as_ z.subs.length cs_)).setCell ⟨w.heap.size + 1, 3, none⟩ (.int .i64 z.last))) := Lib.hid ((((hbw.setCell (by simp) _).setCell (by simp) _).setCell (by simp) _).setCell (by simp) _)
          go_wp2
          exact bodyPost_ret (v := .agg #[.bool z.shut, .slice ad z.docs.length cd, .slice as_ z.subs.length cs_, .int .i64 z.last]) (by simp [results, Tryz.results51, go_sem, cell_setCell, *]) rfl ⟨_, rfl, HH.out, HBB.out⟩
end Go.Proofs.YtdjfmbdcdmmdfaaGreat
