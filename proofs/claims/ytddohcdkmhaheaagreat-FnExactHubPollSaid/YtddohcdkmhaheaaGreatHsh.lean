/- Hubs: shut. -/
import Derived.Test.YtddohcdkmhaheaaGreatHok
import Derived.Test.YtddohcdkmhaheaaGreatHcp
import Derived.Deep.Cut
namespace Go.Proofs.YtddohcdkmhaheaaGreat
open Go.RowKit
attribute [local go_sem ↓] Go.wp_at_zero Go.wp_at_succ
/-- a hub's memory of one's own, in blocks from C on and below D -/
def HubOwn (C D : Nat) (w : World) (vd vs : Value) (docs : List DDoc) (subs : List DSub) : Prop :=
  ∃ fd fs, Sl BIG w vd docs fd ∧ Sl BIG w vs subs fs ∧ Fresh C w (fd ++ fs) ∧ ∀ p ∈ fd ++ fs, p.1 < D
section
variable {C D : Nat} {w w' : World} {vd vs : Value} {docs : List DDoc} {subs : List DSub}
theorem HubOwn.of_own {cs : List Value} {z : DHub} (h : Own C w cs z) : ∃ vd vs, cs = [.bool z.shut, vd, vs, .int .i64 z.last] ∧ HubOwn C w.heap.size w vd vs z.docs z.subs := by
  obtain ⟨f, ⟨vd, vs, fd, fs, rfl, sd, ss, rfl⟩, hf⟩ := h
  exact ⟨vd, vs, rfl, fd, fs, sd, ss, hf, Live.lt (Live.append.2 ⟨sd.live, ss.live⟩)⟩
theorem HubOwn.rd1 (h : HubOwn C D w vd vs docs subs) : RdS w vd docs := let ⟨fd, _, sd, _⟩ := h; ⟨fd, sd⟩
theorem HubOwn.rd2 (h : HubOwn C D w vd vs docs subs) : RdS w vs subs := let ⟨_, fs, _, ss, _⟩ := h; ⟨fs, ss⟩
theorem HubOwn.mono {C' : Nat} (h : HubOwn C D w vd vs docs subs) (hC : C' ≤ C) : HubOwn C' D w vd vs docs subs := let ⟨fd, fs, a, b, c, d⟩ := h; ⟨fd, fs, a, b, c.mono hC, d⟩
theorem HubOwn.block (h : HubOwn C D w vd vs docs subs) (hs : ∀ k, C ≤ k → k < D → w'.heap[k]? = w.heap[k]?) : HubOwn C D w' vd vs docs subs := by
  obtain ⟨fd, fs, a, b, c, d⟩ := h
  have hc : ∀ p ∈ fd ++ fs, w'.cell? ⟨p.1, p.2, none⟩ = w.cell? ⟨p.1, p.2, none⟩ := fun p hp => by simp only [World.cell?]; rw [hs p.1 (c.ge p hp) (d p hp)]
  have hf : ∀ p ∈ fd ++ fs, w'.frozen? ⟨p.1, p.2, none⟩ = w.frozen? ⟨p.1, p.2, none⟩ := fun p hp => by simp only [World.frozen?]; rw [hs p.1 (c.ge p hp) (d p hp)]
  exact ⟨fd, fs, a.keep fun p hp => hc p (List.mem_append_left _ hp), b.keep fun p hp => hc p (List.mem_append_right _ hp), ⟨c.nodup, c.ge, fun p hp => (hf p hp).trans (c.free p hp)⟩, d⟩
theorem HubOwn.below (h : HubOwn C D w vd vs docs subs) (hb : Below D w w') : HubOwn C D w' vd vs docs subs := h.block fun k _ hk => hb.block k hk
theorem HubOwn.setCell {b o : Nat} (h : HubOwn C D w vd vs docs subs) (hp : b < C ∨ D ≤ b) (u : Value) : HubOwn C D (w.setCell ⟨b, o, none⟩ u) vd vs docs subs := h.block fun k h1 h2 => Below.heap_setCell w ⟨b, o, none⟩ u k (by show k ≠ b; omega)
theorem HubOwn.alloc (h : HubOwn C D w vd vs docs subs) (hD : D ≤ w.heap.size) (o : Obj) : HubOwn C D (w.alloc o) vd vs docs subs := h.below ((Below.refl _ _).alloc hD o)
theorem HubOwn.out_i {w0 : World} {y : DHub} {n : Int} (h : HubOwn C D w' vd vs y.docs y.subs) (hC : w0.heap.size ≤ C) (hb : Below w0.heap.size w0 w') : Out_Hub_i w0 y n (.returned (.tuple #[.agg #[.bool y.shut, vd, vs, .int .i64 y.last], .int .i64 n])) w' :=
  let ⟨fd, fs, a, b, c, _⟩ := h
  ⟨vd, vs, fd, fs, rfl, a, b, c.mono hC, hb⟩
theorem HubOwn.out_i_i {w0 : World} {y : DHub} {n m : Int} (h : HubOwn C D w' vd vs y.docs y.subs) (hC : w0.heap.size ≤ C) (hb : Below w0.heap.size w0 w') : Out_Hub_i_i w0 y n m (.returned (.tuple #[.agg #[.bool y.shut, vd, vs, .int .i64 y.last], .int .i64 n, .int .i64 m])) w' :=
  let ⟨fd, fs, a, b, c, _⟩ := h
  ⟨vd, vs, fd, fs, rfl, a, b, c.mono hC, hb⟩
end
theorem hub_cnt (z : DHub) : cntL z.docs + cntL z.subs ≤ 5 * (szL z.docs + szL z.subs) := by
  have := cntL_le z.docs
  have := cntL_le z.subs
  omega
theorem hubShut_cnt (z : DHub) : cntL (hubShut z).1.docs + cntL (hubShut z).1.subs ≤ 5 * (szL z.docs + szL z.subs) := by
  have := hub_cnt z
  unfold hubShut
  split
  · split
    · simp [hub0, cntL]
    · exact this
  · simp [hub0, cntL]
theorem hubShut_no {z : DHub} (h : hubOk z = false) : hubShut z = (hub0, 1) := by simp [hubShut, h]
theorem hubShut_shut {z : DHub} (h : hubOk z = true) (h2 : z.shut = true) : hubShut z = (hub0, 12) := by simp [hubShut, h, h2]
theorem hubShut_yes {z : DHub} (h : hubOk z = true) (h2 : z.shut = false) : hubShut z = (⟨true, z.docs, z.subs, z.last⟩, 0) := by simp [hubShut, h, h2]

set_option maxHeartbeats 8000000 in
set_option maxRecDepth 100000 in
theorem spec_HubShut_c (z : DHub) (v_docs v_subs : Value)  (w : World) (h_docs : RdS w v_docs z.docs) (h_subs : RdS w v_subs z.subs)  : Calls Tryz.prog 13 #[.agg #[.bool z.shut, v_docs, v_subs, .int .i64 z.last]] w (Out_Hub_i w (hubShut z).1 (hubShut z).2) := by
  have hOK := fun (W' : World) (a : RdS W' v_docs z.docs) (b : RdS W' v_subs z.subs) => spec_HubOk_c z v_docs v_subs W' a b
  have hCP := fun (W' : World) (a : RdS W' v_docs z.docs) (b : RdS W' v_subs z.subs) (c : HubSz z) => spec_l11Copy_c z v_docs v_subs W' a b c
  obtain ⟨sh, hsh⟩ : ∃ sh : Bool, z.shut = sh := ⟨_, rfl⟩
  simp only [hsh] at hOK hCP 
  rw [hsh]
  have HOK := Lib.hid hOK
  have HCP := Lib.hid hCP
  clear hOK hCP 
  obtain ⟨W, hW⟩ : ∃ W : World, W = (w.alloc (.cells #[.bool sh, v_docs, v_subs, .int .i64 z.last] 30)).alloc (.cells #[.bool false, .slice none 0 0, .slice none 0 0, .int .i64 0] 30) := ⟨_, rfl⟩
  have hWB : Below w.heap.size w W := by rw [hW]; exact blw
  have sW := hWB.size
  have zz : w.heap.size < W.heap.size := by rw [hW]; first | (simp; done) | (simp; omega)
  have kz0 : W.cell? ⟨w.heap.size, 0, none⟩ = some (.bool sh) := by rw [hW]; simp [go_sem]
  have kz1 : W.cell? ⟨w.heap.size, 1, none⟩ = some (v_docs) := by rw [hW]; simp [go_sem]
  have kz2 : W.cell? ⟨w.heap.size, 2, none⟩ = some (v_subs) := by rw [hW]; simp [go_sem]
  have kz3 : W.cell? ⟨w.heap.size, 3, none⟩ = some (.int .i64 z.last) := by rw [hW]; simp [go_sem]
  have zr : w.heap.size + 1 < W.heap.size := by rw [hW]; first | (simp; done) | (simp; omega)
  have kr0 : W.cell? ⟨w.heap.size + 1, 0, none⟩ = some (.bool false) := by rw [hW]; simp [go_sem]
  have fr0 : W.frozen? ⟨w.heap.size + 1, 0, none⟩ = false := by rw [hW]; simp [go_sem]
  have kr1 : W.cell? ⟨w.heap.size + 1, 1, none⟩ = some (.slice none 0 0) := by rw [hW]; simp [go_sem]
  have fr1 : W.frozen? ⟨w.heap.size + 1, 1, none⟩ = false := by rw [hW]; simp [go_sem]
  have kr2 : W.cell? ⟨w.heap.size + 1, 2, none⟩ = some (.slice none 0 0) := by rw [hW]; simp [go_sem]
  have fr2 : W.frozen? ⟨w.heap.size + 1, 2, none⟩ = false := by rw [hW]; simp [go_sem]
  have kr3 : W.cell? ⟨w.heap.size + 1, 3, none⟩ = some (.int .i64 0) := by rw [hW]; simp [go_sem]
  have fr3 : W.frozen? ⟨w.heap.size + 1, 3, none⟩ = false := by rw [hW]; simp [go_sem]
  have hW2 : w.heap.size + 2 ≤ W.heap.size := by rw [hW]; simp
  have HXD := Lib.hid (h_docs.below hWB)
  have HXS := Lib.hid (h_subs.below hWB)
  clear h_docs h_subs
  by_cases h1 : hubOk z = true
  rotate_left
  · have h1 : hubOk z = false := by simpa using h1
    have HV := Lib.hid (hubShut_no h1)
    go_enter Tryz.func13, Tryz.ntmps13
    go_wp2_with fail
    rw [← hW]
    clear hW
    go_wp2_with fail
    refine (HOK.out _ (HXD.out.below blw) (HXS.out.below blw)).mono ?_
    rintro e' w1 ⟨rfl, hb1⟩
    rw [h1]
    have B1 : Below W.heap.size W w1 := (show Below W.heap.size W _ from blw).trans (hb1.mono om)
    have s1 := B1.size
    have z1z : w.heap.size < w1.heap.size := Nat.lt_of_lt_of_le zz s1
    obtain ⟨y1z0, y1z1, y1z2, y1z3⟩ := mv4 B1 zz kz0 kz1 kz2 kz3
    have z1r : w.heap.size + 1 < w1.heap.size := Nat.lt_of_lt_of_le zr s1
    obtain ⟨y1r0, y1r1, y1r2, y1r3⟩ := mv4 B1 zr kr0 kr1 kr2 kr3
    obtain ⟨t1r0, t1r1, t1r2, t1r3⟩ := mf4 B1 zr fr0 fr1 fr2 fr3
    clear hb1
    go_wp2
    have HB : Hid (Below w.heap.size w ((((w1.setCell ⟨w.heap.size + 1, 0, none⟩ (.bool false)).setCell ⟨w.heap.size + 1, 1, none⟩ (.slice none 0 0)).setCell ⟨w.heap.size + 1, 2, none⟩ (.slice none 0 0)).setCell ⟨w.heap.size + 1, 3, none⟩ (.int .i64 0))) := Lib.hid (((((hWB.trans (B1.mono (by omega))).setCell (by simp) _).setCell (by simp) _).setCell (by simp) _).setCell (by simp) _)
    rw [HV.out]
    exact bodyPost_ret (v := .tuple #[.agg #[.bool false, .slice none 0 0, .slice none 0 0, .int .i64 0], .int .i64 1]) (by simp [results, Tryz.results13, go_sem, cell_setCell, *]) rfl ⟨_, _, [], [], rfl, Sl.nil, Sl.nil, by simpa using Fresh.nil _ _, HB.out⟩
  have HZ := Lib.hid (hubSz h1)
  cases sh
  rotate_left
  · have HV := Lib.hid (hubShut_shut h1 hsh)
    go_enter Tryz.func13, Tryz.ntmps13
    go_wp2_with fail
    rw [← hW]
    clear hW
    go_wp2_with fail
    refine (HOK.out _ (HXD.out.below blw) (HXS.out.below blw)).mono ?_
    rintro e' w1 ⟨rfl, hb1⟩
    rw [h1]
    have B1 : Below W.heap.size W w1 := (show Below W.heap.size W _ from blw).trans (hb1.mono om)
    have s1 := B1.size
    have z1z : w.heap.size < w1.heap.size := Nat.lt_of_lt_of_le zz s1
    obtain ⟨y1z0, y1z1, y1z2, y1z3⟩ := mv4 B1 zz kz0 kz1 kz2 kz3
    have z1r : w.heap.size + 1 < w1.heap.size := Nat.lt_of_lt_of_le zr s1
    obtain ⟨y1r0, y1r1, y1r2, y1r3⟩ := mv4 B1 zr kr0 kr1 kr2 kr3
    obtain ⟨t1r0, t1r1, t1r2, t1r3⟩ := mf4 B1 zr fr0 fr1 fr2 fr3
    clear hb1
    go_wp2
    have HB : Hid (Below w.heap.size w ((((w1.setCell ⟨w.heap.size + 1, 0, none⟩ (.bool false)).setCell ⟨w.heap.size + 1, 1, none⟩ (.slice none 0 0)).setCell ⟨w.heap.size + 1, 2, none⟩ (.slice none 0 0)).setCell ⟨w.heap.size + 1, 3, none⟩ (.int .i64 0))) := Lib.hid (((((hWB.trans (B1.mono (by omega))).setCell (by simp) _).setCell (by simp) _).setCell (by simp) _).setCell (by simp) _)
    rw [HV.out]
    exact bodyPost_ret (v := .tuple #[.agg #[.bool false, .slice none 0 0, .slice none 0 0, .int .i64 0], .int .i64 12]) (by simp [results, Tryz.results13, go_sem, cell_setCell, *]) rfl ⟨_, _, [], [], rfl, Sl.nil, Sl.nil, by simpa using Fresh.nil _ _, HB.out⟩
  have HV := Lib.hid (hubShut_yes h1 hsh)
  go_enter Tryz.func13, Tryz.ntmps13
  go_wp2_with fail
  rw [← hW]
  clear hW
  go_wp2_with fail
  refine (HOK.out _ (HXD.out.below blw) (HXS.out.below blw)).mono ?_
  rintro e' w1 ⟨rfl, hb1⟩
  rw [h1]
  have B1 : Below W.heap.size W w1 := (show Below W.heap.size W _ from blw).trans (hb1.mono om)
  have s1 := B1.size
  have z1z : w.heap.size < w1.heap.size := Nat.lt_of_lt_of_le zz s1
  obtain ⟨y1z0, y1z1, y1z2, y1z3⟩ := mv4 B1 zz kz0 kz1 kz2 kz3
  have z1r : w.heap.size + 1 < w1.heap.size := Nat.lt_of_lt_of_le zr s1
  obtain ⟨y1r0, y1r1, y1r2, y1r3⟩ := mv4 B1 zr kr0 kr1 kr2 kr3
  obtain ⟨t1r0, t1r1, t1r2, t1r3⟩ := mf4 B1 zr fr0 fr1 fr2 fr3
  clear hb1
  go_wp2_with fail
  refine (HCP.out _ (HXD.out.below blw) (HXS.out.below blw) HZ.out).mono ?_
  rintro e' w2 ⟨_, rfl, ho2, hb2⟩
  obtain ⟨vd, vs, rfl, hown⟩ := HubOwn.of_own ho2
  rw [hsh]
  obtain ⟨ad, cd, rfl⟩ := hown.rd1.isSlice
  obtain ⟨as_, cs_, rfl⟩ := hown.rd2.isSlice
  have HOWN := Lib.hid (hown.mono (C' := W.heap.size) om)
  clear ho2 hown
  have B2 : Below W.heap.size W w2 := (show Below W.heap.size W _ from blw).trans (hb2.mono om)
  have s2 := B2.size
  have z2z : w.heap.size < w2.heap.size := Nat.lt_of_lt_of_le zz s2
  obtain ⟨y2z0, y2z1, y2z2, y2z3⟩ := mv4 B2 zz kz0 kz1 kz2 kz3
  have z2r : w.heap.size + 1 < w2.heap.size := Nat.lt_of_lt_of_le zr s2
  obtain ⟨y2r0, y2r1, y2r2, y2r3⟩ := mv4 B2 zr kr0 kr1 kr2 kr3
  obtain ⟨t2r0, t2r1, t2r2, t2r3⟩ := mf4 B2 zr fr0 fr1 fr2 fr3
  clear hb2
  go_upto_region 6 with (fail)
  obtain ⟨V, hV⟩ : ∃ V : World, V = w2.alloc (.cells #[.bool false, .slice ad z.docs.length cd, .slice as_ z.subs.length cs_, .int .i64 z.last] 30) := ⟨_, rfl⟩
  have hVB : Below w2.heap.size w2 V := by rw [hV]; exact (Below.refl _ _).alloc (Nat.le_refl _) _
  have sV := hVB.size
  have zVo : w2.heap.size < V.heap.size := by rw [hV]; simp
  have zVr : w.heap.size + 1 < V.heap.size := by omega
  have zri : w.heap.size + 1 < w2.heap.size := by omega
  have hne : ¬ (w.heap.size + 1 = w2.heap.size) := by omega
  have hne2 : ¬ (w2.heap.size = w.heap.size + 1) := by omega
  have vo0 : V.cell? ⟨w2.heap.size, 0, none⟩ = some (.bool false) := by rw [hV]; simp
  have go0 : V.frozen? ⟨w2.heap.size, 0, none⟩ = false := by rw [hV]; simp
  have vr0 := (hVB.cell (p := ⟨w.heap.size + 1, 0, none⟩) zri).trans y2r0
  have gr0 := (hVB.frozen (p := ⟨w.heap.size + 1, 0, none⟩) zri).trans t2r0
  have vo1 : V.cell? ⟨w2.heap.size, 1, none⟩ = some (.slice ad z.docs.length cd) := by rw [hV]; simp
  have go1 : V.frozen? ⟨w2.heap.size, 1, none⟩ = false := by rw [hV]; simp
  have vr1 := (hVB.cell (p := ⟨w.heap.size + 1, 1, none⟩) zri).trans y2r1
  have gr1 := (hVB.frozen (p := ⟨w.heap.size + 1, 1, none⟩) zri).trans t2r1
  have vo2 : V.cell? ⟨w2.heap.size, 2, none⟩ = some (.slice as_ z.subs.length cs_) := by rw [hV]; simp
  have go2 : V.frozen? ⟨w2.heap.size, 2, none⟩ = false := by rw [hV]; simp
  have vr2 := (hVB.cell (p := ⟨w.heap.size + 1, 2, none⟩) zri).trans y2r2
  have gr2 := (hVB.frozen (p := ⟨w.heap.size + 1, 2, none⟩) zri).trans t2r2
  have vo3 : V.cell? ⟨w2.heap.size, 3, none⟩ = some (.int .i64 z.last) := by rw [hV]; simp
  have go3 : V.frozen? ⟨w2.heap.size, 3, none⟩ = false := by rw [hV]; simp
  have vr3 := (hVB.cell (p := ⟨w.heap.size + 1, 3, none⟩) zri).trans y2r3
  have gr3 := (hVB.frozen (p := ⟨w.heap.size + 1, 3, none⟩) zri).trans t2r3
  have HOV := Lib.hid (HOWN.out.below hVB)
  have hWV : Below w.heap.size w V := (hWB.trans (B2.mono (by omega))).trans (hVB.mono (by omega))
  rw [← hV]
  clear hV HOWN B1 z1z z1r y1z0 y1r0 t1r0 y1z1 y1r1 t1r1 y1z2 y1r2 t1r2 y1z3 y1r3 t1r3 y2z0 y2r0 t2r0 kz0 kr0 fr0 y2z1 y2r1 t2r1 kz1 kr1 fr1 y2z2 y2r2 t2r2 kz2 kr2 fr2 y2z3 y2r3 t2r3 kz3 kr3 fr3
  have HH : Hid (HubOwn W.heap.size w2.heap.size (((((V.setCell ⟨w2.heap.size, 0, none⟩ (.bool true)).setCell ⟨w.heap.size + 1, 0, none⟩ (.bool true)).setCell ⟨w.heap.size + 1, 1, none⟩ (.slice ad z.docs.length cd)).setCell ⟨w.heap.size + 1, 2, none⟩ (.slice as_ z.subs.length cs_)).setCell ⟨w.heap.size + 1, 3, none⟩ (.int .i64 z.last)) (.slice ad z.docs.length cd) (.slice as_ z.subs.length cs_) z.docs z.subs) := Lib.hid (((((HOV.out.setCell (.inr (Nat.le_refl _)) _).setCell (.inl (by omega)) _).setCell (.inl (by omega)) _).setCell (.inl (by omega)) _).setCell (.inl (by omega)) _)
  have HB : Hid (Below w.heap.size w (((((V.setCell ⟨w2.heap.size, 0, none⟩ (.bool true)).setCell ⟨w.heap.size + 1, 0, none⟩ (.bool true)).setCell ⟨w.heap.size + 1, 1, none⟩ (.slice ad z.docs.length cd)).setCell ⟨w.heap.size + 1, 2, none⟩ (.slice as_ z.subs.length cs_)).setCell ⟨w.heap.size + 1, 3, none⟩ (.int .i64 z.last))) := Lib.hid (((((hWV.setCell (by first | omega | (simp; omega)) _).setCell (by simp) _).setCell (by simp) _).setCell (by simp) _).setCell (by simp) _)
  go_wp2
  rw [HV.out]
  exact bodyPost_ret (v := .tuple #[.agg #[.bool true, .slice ad z.docs.length cd, .slice as_ z.subs.length cs_, .int .i64 z.last], .int .i64 0]) (by simp [results, Tryz.results13, go_sem, cell_setCell, *]) rfl (HubOwn.out_i (y := ⟨true, z.docs, z.subs, z.last⟩) HH.out (by omega) HB.out)
set_option maxHeartbeats 8000000 in
set_option maxRecDepth 100000 in
theorem impl_HubShut_c (z : DHub) (v_docs v_subs : Value)  (w : World) (h_docs : RdS w v_docs z.docs) (h_subs : RdS w v_subs z.subs)  : Calls Tryz.prog 15 #[.agg #[.bool z.shut, v_docs, v_subs, .int .i64 z.last]] w (Out_Hub_i w (hubShut z).1 (hubShut z).2) := by
  have hOK := fun (W' : World) (a : RdS W' v_docs z.docs) (b : RdS W' v_subs z.subs) => impl_HubOk_c z v_docs v_subs W' a b
  have hCP := fun (W' : World) (a : RdS W' v_docs z.docs) (b : RdS W' v_subs z.subs) (c : HubSz z) => impl_copyHub_c z v_docs v_subs W' a b c
  obtain ⟨sh, hsh⟩ : ∃ sh : Bool, z.shut = sh := ⟨_, rfl⟩
  simp only [hsh] at hOK hCP 
  rw [hsh]
  have HOK := Lib.hid hOK
  have HCP := Lib.hid hCP
  clear hOK hCP 
  obtain ⟨W, hW⟩ : ∃ W : World, W = (w.alloc (.cells #[.bool sh, v_docs, v_subs, .int .i64 z.last] 30)).alloc (.cells #[.bool false, .slice none 0 0, .slice none 0 0, .int .i64 0] 30) := ⟨_, rfl⟩
  have hWB : Below w.heap.size w W := by rw [hW]; exact blw
  have sW := hWB.size
  have zz : w.heap.size < W.heap.size := by rw [hW]; first | (simp; done) | (simp; omega)
  have kz0 : W.cell? ⟨w.heap.size, 0, none⟩ = some (.bool sh) := by rw [hW]; simp [go_sem]
  have kz1 : W.cell? ⟨w.heap.size, 1, none⟩ = some (v_docs) := by rw [hW]; simp [go_sem]
  have kz2 : W.cell? ⟨w.heap.size, 2, none⟩ = some (v_subs) := by rw [hW]; simp [go_sem]
  have kz3 : W.cell? ⟨w.heap.size, 3, none⟩ = some (.int .i64 z.last) := by rw [hW]; simp [go_sem]
  have zr : w.heap.size + 1 < W.heap.size := by rw [hW]; first | (simp; done) | (simp; omega)
  have kr0 : W.cell? ⟨w.heap.size + 1, 0, none⟩ = some (.bool false) := by rw [hW]; simp [go_sem]
  have fr0 : W.frozen? ⟨w.heap.size + 1, 0, none⟩ = false := by rw [hW]; simp [go_sem]
  have kr1 : W.cell? ⟨w.heap.size + 1, 1, none⟩ = some (.slice none 0 0) := by rw [hW]; simp [go_sem]
  have fr1 : W.frozen? ⟨w.heap.size + 1, 1, none⟩ = false := by rw [hW]; simp [go_sem]
  have kr2 : W.cell? ⟨w.heap.size + 1, 2, none⟩ = some (.slice none 0 0) := by rw [hW]; simp [go_sem]
  have fr2 : W.frozen? ⟨w.heap.size + 1, 2, none⟩ = false := by rw [hW]; simp [go_sem]
  have kr3 : W.cell? ⟨w.heap.size + 1, 3, none⟩ = some (.int .i64 0) := by rw [hW]; simp [go_sem]
  have fr3 : W.frozen? ⟨w.heap.size + 1, 3, none⟩ = false := by rw [hW]; simp [go_sem]
  have hW2 : w.heap.size + 2 ≤ W.heap.size := by rw [hW]; simp
  have HXD := Lib.hid (h_docs.below hWB)
  have HXS := Lib.hid (h_subs.below hWB)
  clear h_docs h_subs
  by_cases h1 : hubOk z = true
  rotate_left
  · have h1 : hubOk z = false := by simpa using h1
    have HV := Lib.hid (hubShut_no h1)
    go_enter Tryz.func15, Tryz.ntmps15
    go_wp2_with fail
    rw [← hW]
    clear hW
    go_wp2_with fail
    refine (HOK.out _ (HXD.out.below blw) (HXS.out.below blw)).mono ?_
    rintro e' w1 ⟨rfl, hb1⟩
    rw [h1]
    have B1 : Below W.heap.size W w1 := (show Below W.heap.size W _ from blw).trans (hb1.mono om)
    have s1 := B1.size
    have z1z : w.heap.size < w1.heap.size := Nat.lt_of_lt_of_le zz s1
    obtain ⟨y1z0, y1z1, y1z2, y1z3⟩ := mv4 B1 zz kz0 kz1 kz2 kz3
    have z1r : w.heap.size + 1 < w1.heap.size := Nat.lt_of_lt_of_le zr s1
    obtain ⟨y1r0, y1r1, y1r2, y1r3⟩ := mv4 B1 zr kr0 kr1 kr2 kr3
    obtain ⟨t1r0, t1r1, t1r2, t1r3⟩ := mf4 B1 zr fr0 fr1 fr2 fr3
    clear hb1
    go_wp2
    have HB : Hid (Below w.heap.size w ((((w1.setCell ⟨w.heap.size + 1, 0, none⟩ (.bool false)).setCell ⟨w.heap.size + 1, 1, none⟩ (.slice none 0 0)).setCell ⟨w.heap.size + 1, 2, none⟩ (.slice none 0 0)).setCell ⟨w.heap.size + 1, 3, none⟩ (.int .i64 0))) := Lib.hid (((((hWB.trans (B1.mono (by omega))).setCell (by simp) _).setCell (by simp) _).setCell (by simp) _).setCell (by simp) _)
    rw [HV.out]
    exact bodyPost_ret (v := .tuple #[.agg #[.bool false, .slice none 0 0, .slice none 0 0, .int .i64 0], .int .i64 1]) (by simp [results, Tryz.results15, go_sem, cell_setCell, *]) rfl ⟨_, _, [], [], rfl, Sl.nil, Sl.nil, by simpa using Fresh.nil _ _, HB.out⟩
  have HZ := Lib.hid (hubSz h1)
  cases sh
  rotate_left
  · have HV := Lib.hid (hubShut_shut h1 hsh)
    go_enter Tryz.func15, Tryz.ntmps15
    go_wp2_with fail
    rw [← hW]
    clear hW
    go_wp2_with fail
    refine (HOK.out _ (HXD.out.below blw) (HXS.out.below blw)).mono ?_
    rintro e' w1 ⟨rfl, hb1⟩
    rw [h1]
    have B1 : Below W.heap.size W w1 := (show Below W.heap.size W _ from blw).trans (hb1.mono om)
    have s1 := B1.size
    have z1z : w.heap.size < w1.heap.size := Nat.lt_of_lt_of_le zz s1
    obtain ⟨y1z0, y1z1, y1z2, y1z3⟩ := mv4 B1 zz kz0 kz1 kz2 kz3
    have z1r : w.heap.size + 1 < w1.heap.size := Nat.lt_of_lt_of_le zr s1
    obtain ⟨y1r0, y1r1, y1r2, y1r3⟩ := mv4 B1 zr kr0 kr1 kr2 kr3
    obtain ⟨t1r0, t1r1, t1r2, t1r3⟩ := mf4 B1 zr fr0 fr1 fr2 fr3
    clear hb1
    go_wp2
    have HB : Hid (Below w.heap.size w ((((w1.setCell ⟨w.heap.size + 1, 0, none⟩ (.bool false)).setCell ⟨w.heap.size + 1, 1, none⟩ (.slice none 0 0)).setCell ⟨w.heap.size + 1, 2, none⟩ (.slice none 0 0)).setCell ⟨w.heap.size + 1, 3, none⟩ (.int .i64 0))) := Lib.hid (((((hWB.trans (B1.mono (by omega))).setCell (by simp) _).setCell (by simp) _).setCell (by simp) _).setCell (by simp) _)
    rw [HV.out]
    exact bodyPost_ret (v := .tuple #[.agg #[.bool false, .slice none 0 0, .slice none 0 0, .int .i64 0], .int .i64 12]) (by simp [results, Tryz.results15, go_sem, cell_setCell, *]) rfl ⟨_, _, [], [], rfl, Sl.nil, Sl.nil, by simpa using Fresh.nil _ _, HB.out⟩
  have HV := Lib.hid (hubShut_yes h1 hsh)
  go_enter Tryz.func15, Tryz.ntmps15
  go_wp2_with fail
  rw [← hW]
  clear hW
  go_wp2_with fail
  refine (HOK.out _ (HXD.out.below blw) (HXS.out.below blw)).mono ?_
  rintro e' w1 ⟨rfl, hb1⟩
  rw [h1]
  have B1 : Below W.heap.size W w1 := (show Below W.heap.size W _ from blw).trans (hb1.mono om)
  have s1 := B1.size
  have z1z : w.heap.size < w1.heap.size := Nat.lt_of_lt_of_le zz s1
  obtain ⟨y1z0, y1z1, y1z2, y1z3⟩ := mv4 B1 zz kz0 kz1 kz2 kz3
  have z1r : w.heap.size + 1 < w1.heap.size := Nat.lt_of_lt_of_le zr s1
  obtain ⟨y1r0, y1r1, y1r2, y1r3⟩ := mv4 B1 zr kr0 kr1 kr2 kr3
  obtain ⟨t1r0, t1r1, t1r2, t1r3⟩ := mf4 B1 zr fr0 fr1 fr2 fr3
  clear hb1
  go_wp2_with fail
  refine (HCP.out _ (HXD.out.below blw) (HXS.out.below blw) HZ.out).mono ?_
  rintro e' w2 ⟨_, rfl, ho2, hb2⟩
  obtain ⟨vd, vs, rfl, hown⟩ := HubOwn.of_own ho2
  rw [hsh]
  obtain ⟨ad, cd, rfl⟩ := hown.rd1.isSlice
  obtain ⟨as_, cs_, rfl⟩ := hown.rd2.isSlice
  have HOWN := Lib.hid (hown.mono (C' := W.heap.size) om)
  clear ho2 hown
  have B2 : Below W.heap.size W w2 := (show Below W.heap.size W _ from blw).trans (hb2.mono om)
  have s2 := B2.size
  have z2z : w.heap.size < w2.heap.size := Nat.lt_of_lt_of_le zz s2
  obtain ⟨y2z0, y2z1, y2z2, y2z3⟩ := mv4 B2 zz kz0 kz1 kz2 kz3
  have z2r : w.heap.size + 1 < w2.heap.size := Nat.lt_of_lt_of_le zr s2
  obtain ⟨y2r0, y2r1, y2r2, y2r3⟩ := mv4 B2 zr kr0 kr1 kr2 kr3
  obtain ⟨t2r0, t2r1, t2r2, t2r3⟩ := mf4 B2 zr fr0 fr1 fr2 fr3
  clear hb2
  go_upto_region 6 with (fail)
  obtain ⟨V, hV⟩ : ∃ V : World, V = w2.alloc (.cells #[.bool false, .slice ad z.docs.length cd, .slice as_ z.subs.length cs_, .int .i64 z.last] 30) := ⟨_, rfl⟩
  have hVB : Below w2.heap.size w2 V := by rw [hV]; exact (Below.refl _ _).alloc (Nat.le_refl _) _
  have sV := hVB.size
  have zVo : w2.heap.size < V.heap.size := by rw [hV]; simp
  have zVr : w.heap.size + 1 < V.heap.size := by omega
  have zri : w.heap.size + 1 < w2.heap.size := by omega
  have hne : ¬ (w.heap.size + 1 = w2.heap.size) := by omega
  have hne2 : ¬ (w2.heap.size = w.heap.size + 1) := by omega
  have vo0 : V.cell? ⟨w2.heap.size, 0, none⟩ = some (.bool false) := by rw [hV]; simp
  have go0 : V.frozen? ⟨w2.heap.size, 0, none⟩ = false := by rw [hV]; simp
  have vr0 := (hVB.cell (p := ⟨w.heap.size + 1, 0, none⟩) zri).trans y2r0
  have gr0 := (hVB.frozen (p := ⟨w.heap.size + 1, 0, none⟩) zri).trans t2r0
  have vo1 : V.cell? ⟨w2.heap.size, 1, none⟩ = some (.slice ad z.docs.length cd) := by rw [hV]; simp
  have go1 : V.frozen? ⟨w2.heap.size, 1, none⟩ = false := by rw [hV]; simp
  have vr1 := (hVB.cell (p := ⟨w.heap.size + 1, 1, none⟩) zri).trans y2r1
  have gr1 := (hVB.frozen (p := ⟨w.heap.size + 1, 1, none⟩) zri).trans t2r1
  have vo2 : V.cell? ⟨w2.heap.size, 2, none⟩ = some (.slice as_ z.subs.length cs_) := by rw [hV]; simp
  have go2 : V.frozen? ⟨w2.heap.size, 2, none⟩ = false := by rw [hV]; simp
  have vr2 := (hVB.cell (p := ⟨w.heap.size + 1, 2, none⟩) zri).trans y2r2
  have gr2 := (hVB.frozen (p := ⟨w.heap.size + 1, 2, none⟩) zri).trans t2r2
  have vo3 : V.cell? ⟨w2.heap.size, 3, none⟩ = some (.int .i64 z.last) := by rw [hV]; simp
  have go3 : V.frozen? ⟨w2.heap.size, 3, none⟩ = false := by rw [hV]; simp
  have vr3 := (hVB.cell (p := ⟨w.heap.size + 1, 3, none⟩) zri).trans y2r3
  have gr3 := (hVB.frozen (p := ⟨w.heap.size + 1, 3, none⟩) zri).trans t2r3
  have HOV := Lib.hid (HOWN.out.below hVB)
  have hWV : Below w.heap.size w V := (hWB.trans (B2.mono (by omega))).trans (hVB.mono (by omega))
  rw [← hV]
  clear hV HOWN B1 z1z z1r y1z0 y1r0 t1r0 y1z1 y1r1 t1r1 y1z2 y1r2 t1r2 y1z3 y1r3 t1r3 y2z0 y2r0 t2r0 kz0 kr0 fr0 y2z1 y2r1 t2r1 kz1 kr1 fr1 y2z2 y2r2 t2r2 kz2 kr2 fr2 y2z3 y2r3 t2r3 kz3 kr3 fr3
  have HH : Hid (HubOwn W.heap.size w2.heap.size (((((V.setCell ⟨w2.heap.size, 0, none⟩ (.bool true)).setCell ⟨w.heap.size + 1, 0, none⟩ (.bool true)).setCell ⟨w.heap.size + 1, 1, none⟩ (.slice ad z.docs.length cd)).setCell ⟨w.heap.size + 1, 2, none⟩ (.slice as_ z.subs.length cs_)).setCell ⟨w.heap.size + 1, 3, none⟩ (.int .i64 z.last)) (.slice ad z.docs.length cd) (.slice as_ z.subs.length cs_) z.docs z.subs) := Lib.hid (((((HOV.out.setCell (.inr (Nat.le_refl _)) _).setCell (.inl (by omega)) _).setCell (.inl (by omega)) _).setCell (.inl (by omega)) _).setCell (.inl (by omega)) _)
  have HB : Hid (Below w.heap.size w (((((V.setCell ⟨w2.heap.size, 0, none⟩ (.bool true)).setCell ⟨w.heap.size + 1, 0, none⟩ (.bool true)).setCell ⟨w.heap.size + 1, 1, none⟩ (.slice ad z.docs.length cd)).setCell ⟨w.heap.size + 1, 2, none⟩ (.slice as_ z.subs.length cs_)).setCell ⟨w.heap.size + 1, 3, none⟩ (.int .i64 z.last))) := Lib.hid (((((hWV.setCell (by first | omega | (simp; omega)) _).setCell (by simp) _).setCell (by simp) _).setCell (by simp) _).setCell (by simp) _)
  go_wp2
  rw [HV.out]
  exact bodyPost_ret (v := .tuple #[.agg #[.bool true, .slice ad z.docs.length cd, .slice as_ z.subs.length cs_, .int .i64 z.last], .int .i64 0]) (by simp [results, Tryz.results15, go_sem, cell_setCell, *]) rfl (HubOwn.out_i (y := ⟨true, z.docs, z.subs, z.last⟩) HH.out (by omega) HB.out)
end Go.Proofs.YtddohcdkmhaheaaGreat
