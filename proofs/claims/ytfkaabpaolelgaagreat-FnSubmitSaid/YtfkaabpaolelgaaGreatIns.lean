/- slices.Insert: one element laid into a row of one's own. -/
import Derived.Test.YtfkaabpaolelgaaGreatRo
import Derived.Test.YtfkaabpaolelgaaGreatCp
import Derived.Lib.Overlaps
import Derived.Lib.AppendZerosOnto
import Derived.Lib.SlBuf
import Derived.Deep.RegionLaw
namespace Go.Proofs.YtfkaabpaolelgaaGreat
open Go.RowKit
section
variable {P : Program}
theorem run_copy_any (w : World) (dT sT ty elem : TypeId) (i : TypeInfo) (b o dLen dCap : Nat) (a : Addr) (sLen sCap m : Nat) (cs : List Value) (hu : P.underlying dT = some (.slice elem)) (hi : P.info? elem = some i) (hn : m = Nat.min sLen dLen) (hl : cs.length = m * i.size)
    (hsrc : ∀ j v, cs[j]? = some v → w.cell? (a.add j) = some v) (hc : ∀ j, j < cs.length → (w.cell? ⟨b, o + j, none⟩).isSome = true) (hf : ∀ j, j < cs.length → w.frozen? ⟨b, o + j, none⟩ = false) (h1 : ∀ v ∈ cs, v.oneCell' = true) :
    (Builtin.copy_ #[dT, sT] ty #[.slice (some ⟨b, o, none⟩) dLen dCap, .slice (some a) sLen sCap]).run P w = .ok (goInt m) (w.setCells b o cs) := by
  have hfc := run_firstCells_some (P := P) (w := w) i.size m a sLen sCap cs hl hsrc
  have hst := run_storeCells_cells (P := P) b o cs 0 w (by simpa using hc) (by simpa using hf) h1
  simp [Builtin.copy_, run_underlying hu, Builtin.lenOf, sizeOf, typeInfo, hi, ← hn, hfc, hst]
theorem step_copy_run {ops : Array Oper} {o : Oper} {a : Act} {w : World} {K : Act → World → Prop} {Q : Exit → Act → World → Prop} {E : Prop} (hg : o.guard = none) (d x : Operand) (dT sT : TypeId) (hop : o.op = Op.call { callee := Callee.builtin Builtin.copy, args := #[d, x], argTypes := #[dT, sT] })
    (v u : Value) (hd : a.eval d = v) (hx : a.eval x = u) {v' : Value} {w' : World} (hr : (Builtin.copy_ #[dT, sT] o.type #[v, u]).run P w = .ok v' w') (hK : K (a.put o.dst v') w') : if Region.wanted o (yielded ops a.tmps) = true then Oper.wp P o a w K Q else E := by
  have hw : Region.wanted o (yielded ops a.tmps) = true := by simp [Region.wanted, hg]
  rw [if_pos hw]
  unfold Oper.wp
  simp [execOp, hop, resolve, invoke, builtin, hd, hx, hr, Result.andThen]
  exact hK
end
theorem wpList_append_run {P : Program} {w : World} {ops : Array Oper} {rest : List Oper} {o : Oper} {a : Act} {Q : Exit → Act → World → Prop} (hgd : o.guard = none) (s y : Operand) (T T' : TypeId)
    (ho : o.op = .call { callee := .builtin .append, args := #[s, y], argTypes := #[T, T'] }) (v u : Value) (hv : a.eval s = v) (hx : a.eval y = u) {v' : Value} {w' : World} (hr : (Builtin.append_ #[T, T'] o.type #[v, u]).run P w = .ok v' w')
    (hK : wpList P ops Q rest (a.put o.dst v') w') : wpList P ops Q (o :: rest) a w := by
  refine wpList_plain hgd fun K hK' => ?_
  unfold Oper.wp
  simp [execOp, ho, resolve, invoke, builtin, hv, hx, hr, Result.andThen]
  exact hK' _ _ hK
theorem live_setCells (b : Nat) (vs : List Value) (o : Nat) (w : World) (h : ∀ j, j < vs.length → (w.cell? ⟨b, o + j, none⟩).isSome = true) (k : Nat) (hk : (w.cell? ⟨b, k, none⟩).isSome = true) : ((w.setCells b o vs).cell? ⟨b, k, none⟩).isSome = true := by
  by_cases hin : o ≤ k ∧ k < o + vs.length
  · have := World.cell?_setCells_in b vs o w h (k - o) (by omega)
    rw [show o + (k - o) = k by omega] at this
    rw [this]; rfl
  · rw [World.cell?_setCells_out b vs o w ⟨b, k, none⟩ (fun _ _ => by show k < o ∨ o + vs.length ≤ k; omega)]
    exact hk
theorem at_setCells {b o : Nat} {vs : List Value} {w : World} (h : ∀ j, j < vs.length → (w.cell? ⟨b, o + j, none⟩).isSome = true) : At (w.setCells b o vs) b o vs := by
  intro j u hj
  have hjl := (List.getElem?_eq_some_iff.1 hj).1
  rw [World.cell?_setCells_in b vs o w h j hjl, ← hj, List.getElem?_eq_getElem hjl]
theorem At.setCellsO {b o o' : Nat} {cs vs : List Value} {w : World} (h : At w b o cs) (hd : o + cs.length ≤ o' ∨ o' + vs.length ≤ o) : At (w.setCells b o' vs) b o cs := by
  intro j u hj
  have hjl := (List.getElem?_eq_some_iff.1 hj).1
  rw [World.cell?_setCells_out b vs o' w ⟨b, o + j, none⟩ (fun _ _ => by show o + j < o' ∨ o' + vs.length ≤ o + j; omega)]
  exact h j u hj
theorem shape_of_cell {w : World} {b o : Nat} (h : (w.cell? ⟨b, o, none⟩).isSome = true) : ∃ t k, w.shape? b = some (t, k) ∧ k ≠ 0 := by
  unfold World.cell? at h
  unfold World.shape?
  cases hb : w.heap[b]? with
  | none => rw [hb] at h; cases h
  | some ob =>
    rw [hb] at h
    by_cases hc : ∃ c t fr, ob = .cells c t fr
    · obtain ⟨c, t, fr, rfl⟩ := hc
      refine ⟨t, c.size, rfl, fun e => ?_⟩
      rw [Option.isSome_iff_exists] at h
      obtain ⟨u, hu⟩ := h
      have := (Array.getElem?_eq_some_iff.1 (show c[o]? = some u from hu)).1
      omega
    · exfalso
      revert h
      cases ob <;> simp_all
/-- what comes of laying x in at k -/
def Ins {α : Type} [GoT α] (B : Nat) (w : World) (v : Value) (l : List α) (fs gs : List Pos) (k : Nat) (x : α) (e : Ending) (w' : World) : Prop :=
  ∃ v' fs', e = .returned v' ∧ Row B w' v' (l.take k ++ x :: l.drop k) fs' ∧ fs'.Perm (fs ++ gs) ∧ Wr (rowP (GoT.n α) v) w w' ∧ ∀ p ∈ rowP (GoT.n α) v', p ∈ rowP (GoT.n α) v ∨ w.heap.size ≤ p.1
theorem Ins.owns {α : Type} [GoT α] {B : Nat} {w w' : World} {v : Value} {l : List α} {fs gs : List Pos} {k : Nat} {x : α} {e : Ending} (h : Ins B w v l fs gs k x e w') (hf : Fresh B w (fs ++ gs)) (hl : Live w (fs ++ gs)) :
    ∃ v' fp, e = .returned v' ∧ Sl BIG w' v' (l.take k ++ x :: l.drop k) fp ∧ Fresh B w' fp ∧ Wr (rowP (GoT.n α) v) w w' ∧ ∀ p ∈ fp, p ∈ rowP (GoT.n α) v ∨ w.heap.size ≤ p.1 ∨ p ∈ fs ++ gs := by
  obtain ⟨v', fs', rfl, hr, hp, hw, hn⟩ := h
  have h2 := hw.fresh hl hf
  have h3 : Fresh B w' fs' := ⟨hp.nodup_iff.2 h2.nodup, fun p hq => h2.ge p (hp.mem_iff.1 hq), fun p hq => h2.free p (hp.mem_iff.1 hq)⟩
  refine ⟨v', _, rfl, hr.1, hr.2.1.join h3 fun p hp q hq e => hr.2.2 q hq (e ▸ hp), hw, fun p hq => ?_⟩
  rcases List.mem_append.1 hq with hq | hq
  · exact (hn p hq).imp_right .inl
  · exact .inr (.inr (hp.mem_iff.1 hq))
theorem perm_ins (a b c : List Pos) : (a ++ (b ++ c)).Perm (a ++ c ++ b) := by
  rw [List.append_assoc]
  exact List.Perm.append_left a List.perm_append_comm
theorem Els.ins {α : Type} [GoT α] {M : Nat} {w : World} {c1 c2 c3 : List Value} {f1 f2 f3 : List Pos} {l : List α} {x : α} {k : Nat} (h1 : Els M w c1 (l.take k) f1) (h2 : GoT.rd M w c2 x f2) (h3 : Els M w c3 (l.drop k) f3) : Els M w (c1 ++ (c2 ++ c3)) (l.take k ++ x :: l.drop k) (f1 ++ (f2 ++ f3)) :=
  Els.append.2 ⟨c1, c2 ++ c3, f1, f2 ++ f3, rfl, h1, ⟨c2, c3, f2, f3, rfl, h2, h3, rfl⟩, rfl⟩
section
variable {P : Program} {T E : TypeId} {n : Nat}
theorem run_cutl (hT : P.underlying T = some (.slice E)) (hl : ∀ w1, (sizeOf E).run P w1 = .ok n w1) (b o len cap lo : Nat) (z : Int) (hz : z = lo) (h : lo ≤ len) (h2 : lo < cap) (h3 : len ≤ maxLen) (w1 : World) :
    (Instr.sliceAt T (.slice (some ⟨b, o, none⟩) len cap) (some (.int .i64 z)) none none).run P w1 = .ok (.slice (some ⟨b, o + lo * n, none⟩) (len - lo) (cap - lo)) w1 := by
  subst hz
  have h4 := h3
  unfold maxLen at h4
  have e2 : (Instr.sliceBound (.int .i64 (lo : Int)) len .sliceB).run P w1 = .ok lo w1 := by rw [run_sliceBound _ _ _ _ _ (by omega) (by omega)]; rfl
  simp [Instr.sliceAt, Instr.slice, run_underlying hT, Instr.sliceBounds, e2, hl]
  have hm : ¬ cap = lo := by omega
  simp [hm, addr_add]
theorem run_cuth (hT : P.underlying T = some (.slice E)) (hl : ∀ w1, (sizeOf E).run P w1 = .ok n w1) (b o len cap hi : Nat) (z : Int) (hz : z = hi) (h2 : hi ≤ cap) (h3 : cap ≤ maxLen) (w1 : World) :
    (Instr.sliceAt T (.slice (some ⟨b, o, none⟩) len cap) none (some (.int .i64 z)) none).run P w1 = .ok (.slice (some ⟨b, o, none⟩) hi cap) w1 := by
  subst hz
  have h4 := h3
  unfold maxLen at h4
  have e1 : (Instr.sliceBound (.int .i64 (hi : Int)) cap .sliceAcap).run P w1 = .ok hi w1 := by rw [run_sliceBound _ _ _ _ _ (by omega) (by omega)]; rfl
  simp [Instr.sliceAt, Instr.slice, run_underlying hT, Instr.sliceBounds, e1, hl]
  exact fun _ => by rw [addr_add]; rfl
end
theorem own_lt {b o m : Nat} {j : Nat} (h : j < m) : (b, o + j) ∈ own b o m := mem_own.2 ⟨rfl, by simp, by simp; omega⟩

theorem info_seenI : (Tryz.prog.info? 33).map (fun i => (i.zero, i.size, i.bytes)) = some (some (.agg #[.int .i64 0, .int .i64 0, .int .i64 0]), 3, 24) := by kernel_rfl
set_option maxHeartbeats 4000000 in
set_option maxRecDepth 100000 in
theorem Insert_Seen_c {B : Nat} (v : Value) (l : List DSeen) (fs : List Pos) (k : Nat) (x : DSeen) (cx : List Value) (gs : List Pos) (w : World) (h : Row B w v l fs) (hk : k ≤ l.length) (hx : GoT.rd BIG w cx x gs) (hd : ∀ p ∈ gs, p ∉ rowP (GoT.n DSeen) v) (hlen : l.length ≤ 1000) (hB : B ≤ w.heap.size) :
    Calls Tryz.prog 33 #[v, .int .i64 k, .slice (some ⟨w.heap.size, 0, none⟩) 1 1] (w.alloc (.cells cx.toArray 33)) (Ins B (w.alloc (.cells cx.toArray 33)) v l fs gs k x) := by
  obtain ⟨W, hW⟩ : ∃ W : World, W = w.alloc (.cells cx.toArray 33) := ⟨_, rfl⟩
  have hWB : Below w.heap.size w W := by rw [hW]; exact (Below.refl _ _).alloc (Nat.le_refl _) _
  have sW : W.heap.size = w.heap.size + 1 := by rw [hW]; simp
  have hsrc : Src W (.slice (some ⟨w.heap.size, 0, none⟩) 1 1) [x] gs := by rw [hW]; exact src_built 33 hx
  have hg : W.heap[w.heap.size]? = some (.cells cx.toArray 33 (0, 0)) := by rw [hW]; exact heap_alloc_new w (.cells cx.toArray 33)
  have hcx := GoT.len hx
  have hn : GoT.n DSeen = 3 := rfl
  have hxv : ∀ j u, cx[j]? = some u → W.cell? ⟨w.heap.size, j, none⟩ = some u := fun j u hj => by rw [row_cell hg]; exact hj
  have hxr : GoT.rd BIG W cx x gs := GoT.keep hx (Live.same_below hWB (Live.lt (GoT.live hx)))
  have hgl := Live.lt (GoT.live hx)
  have hvl := Live.lt h.1.live
  replace h := h.below hWB
  obtain ⟨i0, hi, hz0, hz1, hz2⟩ := info_parts info_seenI
  rw [← hW]
  have HW := Lib.hid hW
  clear hW
  by_cases hke : k = l.length
  · subst hke
    have hls := fun w1 ty => h.rd.len Tryz.underlying25 w1 ty
    obtain ⟨v0, hcut, _⟩ := h.rd.cutl Tryz.underlying25 (E := 33) (fun _ => by kernel_rfl) (Nat.le_refl l.length)
    have HROW := Lib.hid h
    have HSRC := Lib.hid hsrc
    have HFR := Lib.hid hd
    obtain ⟨av, cv, rfl⟩ := h.rd.isSlice
    have hB1 : B ≤ W.heap.size := by omega
    clear h hsrc hd hxv hg hgl hvl hcx sW
    go_enter Tryz.func33, Tryz.ntmps33
    go_wp2_with (at_builtin; refine wpList_append_row rfl _ _ 25 rfl Tryz.underlying25 hi hz0 hz1 hz2 rfl rfl rfl HROW.out HSRC.out HFR.out ?c1 ?c2 ?c3 ?_)
    case c1 => exact le_BIG (by simp; omega)
    case c2 => simp; omega
    case c3 => exact hB1
    intro v1 w1 h1 h2 h3
    have H1 := Lib.hid h1
    have H2 := Lib.hid h2
    have H3 := Lib.hid h3
    clear h1 h2 h3
    go_wp2
    go_ret
    exact ⟨v1, _, rfl, by simpa using H1.out, List.Perm.refl _, H2.out, fun p hp => H3.out p.1 p.2 hp⟩
  · have hlt : k < l.length := by omega
    obtain ⟨hsl, hfr, hdis⟩ := h
    rcases hsl with ⟨ao, rfl, rfl, hfe⟩ | ⟨b, o, cap, cs, fs', rfl, k1, k2, k3, ha, he, hlv, hfe⟩
    · simp at hlt
    have hfe' : fs = fs' := List.append_cancel_left hfe
    subst hfe'
    have hso := shape_of_cell (hlv (b, o) (mem_own.2 ⟨rfl, by simp, by rw [hn]; simp; omega⟩))
    obtain ⟨tB, kB, hsB, hkB⟩ := hso
    have hsA : W.shape? w.heap.size = some (33, 3) := by unfold World.shape?; rw [hg]; simp [hcx, hn]
    have hbn : b ≠ w.heap.size := by
      have := hvl (b, o) (List.mem_append_left _ (mem_own.2 ⟨rfl, by simp, by rw [hn]; simp; omega⟩))
      simp only at this; omega
    have hfA : ∀ j, W.frozen? ⟨w.heap.size, j, none⟩ = false := fun j => row_frozen hg
    rw [← List.take_append_drop k l] at he
    obtain ⟨c1, c3, f1, f3, rfl, e1, e3, rfl⟩ := Els.append.1 he
    have hc1 := e1.length
    have hc3 := e3.length
    rw [List.length_take, Nat.min_eq_left hk, hn] at hc1
    rw [List.length_drop, hn] at hc3
    obtain ⟨a1, a3⟩ := At.append.1 ha
    rw [hc1] at a3
    rw [hn] at hlv hfr hdis hd
    have hrp : rowP (GoT.n DSeen) (.slice (some ⟨b, o, none⟩) l.length cap) = own b o (cap * 3) := rfl
    have hd : ∀ p ∈ gs, p ∉ own b o (cap * 3) := hd
    have hdis : ∀ p ∈ f1 ++ f3, p ∉ own b o (cap * 3) := hdis
    have hfr : Fresh B W (own b o (cap * 3)) := hfr
    rw [hn] at hcx
    have o1 := e1.one
    have o3 := e3.one
    have ox := GoT.one hx
    have l1 := e1.live
    have l3 := e3.live
    have lx := GoT.live hxr
    unfold maxLen at k2
    have hls : ∀ w1 ty, (Builtin.len_ #[25] ty #[.slice (some ⟨b, o, none⟩) l.length cap]).run Tryz.prog w1 = .ok (.int .i64 l.length) w1 := fun w1 ty => by simp [Builtin.len_, run_underlying Tryz.underlying25, goInt]
    have hwk : IntKind.i64.wrap ((k : Int) + 1) = (k : Int) + 1 := by rw [IntKind.wrap_i64]; omega
    have hwn : IntKind.i64.wrap ((l.length : Int) + 1) = (l.length : Int) + 1 := by rw [IntKind.wrap_i64]; omega
    obtain ⟨oK, hoK⟩ : ∃ oK, oK = o + k * 3 := ⟨_, rfl⟩
    obtain ⟨oA, hoA⟩ : ∃ oA, oA = o + (k + 1) * 3 := ⟨_, rfl⟩
    have hszT : ∀ w1, (sizeOf 33).run Tryz.prog w1 = .ok 3 w1 := fun _ => by kernel_rfl
    have hB1 : B ≤ W.heap.size := by omega
    have hrw : Wr (own b o (cap * 3)) W W.drew := Wr.of_below (Below.refl _ _).drew
    by_cases hroom : l.length + 1 ≤ cap
    · have hk2' : cap ≤ maxLen := by unfold maxLen; omega
      have s1 := run_cutl (P := Tryz.prog) (n := 3) Tryz.underlying25 hszT b o l.length cap k (k : Int) rfl hk (by omega) (by omega)
      have s2 := run_cuth (P := Tryz.prog) (n := 3) Tryz.underlying25 hszT b o l.length cap (l.length + 1) ((l.length : Int) + 1) (by simp) hroom hk2'
      have s3 := run_cutl (P := Tryz.prog) (n := 3) Tryz.underlying25 hszT b o (l.length + 1) cap (k + 1) ((k : Int) + 1) (by simp) (by omega) (by omega) (by omega)
      have s4 := run_cutl (P := Tryz.prog) (n := 3) Tryz.underlying25 hszT b o (l.length + 1) cap k (k : Int) rfl (by omega) (by omega) (by omega)
      rw [← hoK] at s1 s4
      rw [← hoA, Nat.add_sub_add_right] at s3
      have hm1 : ∀ j < c3.length, (b, oA + j) ∈ own b o (cap * 3) := fun j hj => mem_own.2 ⟨rfl, by simp only; omega, by simp only; omega⟩
      have hm2 : ∀ j < cx.length, (b, oK + j) ∈ own b o (cap * 3) := fun j hj => mem_own.2 ⟨rfl, by simp only; omega, by simp only; omega⟩
      have hov : ∀ lb cb, (callFunc 63 #[.slice (some ⟨w.heap.size, 0, none⟩) 1 1, .slice (some ⟨b, oA, none⟩) lb cb]).run Tryz.prog W = .ok (.value (.bool false)) W := fun lb cb => by
        rw [run_callFunc_extern (fn := Tryz.f63) (by kernel_rfl) (by kernel_rfl) (by kernel_rfl) (by kernel_rfl) (e := Extern.SlicesOverlaps.overlaps #[25, 25] #[4]) (by kernel_rfl),
          Lib.run_overlaps_apart W 25 4 33 Tryz.underlying25 3 hszT ⟨w.heap.size, 0, none⟩ ⟨b, oA, none⟩ 1 1 lb cb (Ne.symm hbn) 33 tB 3 kB hsA hsB hkB (hfA 0) (hfA 3)]
        rfl
      have hl1 : ∀ j < c3.length, (W.drew.cell? ⟨b, oA + j, none⟩).isSome = true := fun j hj => hlv _ (hm1 j hj)
      obtain ⟨W1, hW1⟩ : ∃ W1, W1 = W.drew.setCells b oA c3 := ⟨_, rfl⟩
      have hl2 : ∀ j < cx.length, (W1.cell? ⟨b, oK + j, none⟩).isSome = true := fun j hj => by rw [hW1]; exact live_setCells b c3 oA _ hl1 _ (hlv _ (hm2 j hj))
      have hcp1 : ∀ ty dc sc, (Builtin.copy_ #[25, 25] ty #[.slice (some ⟨b, oA, none⟩) (l.length - k) dc, .slice (some ⟨b, oK, none⟩) (l.length + 1 - k) sc]).run Tryz.prog W.drew = .ok (goInt ((l.length - k : Nat) : Int)) W1 := fun ty dc sc => by
        rw [hW1]
        refine run_copy_any W.drew _ _ ty 33 i0 b oA (l.length - k) dc ⟨b, oK, none⟩ (l.length + 1 - k) sc (l.length - k) c3 Tryz.underlying25 hi (by simp only [Nat.min_def]; split <;> omega) (by rw [hc3, hz1]) (fun j u hj => ?_) hl1 (fun j hj => hfr.free _ (hm1 j hj)) o3
        rw [addr_add, hoK]; exact a3 j u hj
      have hcp2 : ∀ W', W' = W1 → ∀ ty dc, (Builtin.copy_ #[25, 25] ty #[.slice (some ⟨b, oK, none⟩) (l.length + 1 - k) dc, .slice (some ⟨w.heap.size, 0, none⟩) 1 1]).run Tryz.prog W' = .ok (goInt 1) (W1.setCells b oK cx) := fun W' hW' ty dc => by
        rw [hW']
        refine run_copy_any W1 _ _ ty 33 i0 b oK (l.length + 1 - k) dc ⟨w.heap.size, 0, none⟩ 1 1 1 cx Tryz.underlying25 hi (by simp only [Nat.min_def]; split <;> omega) (by rw [hcx, hz1]) (fun j u hj => ?_) hl2 (fun j hj => by rw [hW1, World.frozen?_setCells]; exact hfr.free _ (hm2 j hj)) ox
        rw [addr_add, hW1, World.cell?_setCells_out b c3 oA _ _ (fun h _ => absurd h (Ne.symm hbn)), Nat.zero_add]; exact hxv j u hj
      obtain ⟨W2, hW2⟩ : ∃ W2, W2 = W1.setCells b oK cx := ⟨_, rfl⟩
      have hwA : Wr (own b o (cap * 3)) W W2 := by
        rw [hW2, hW1]
        exact (hrw.trans (setCells_wr c3 oA _ hm1)).trans (setCells_wr cx oK _ hm2)
      have hAt : At W2 b o (c1 ++ (cx ++ c3)) := by
        rw [hW2]
        refine At.append.2 ⟨?_, At.append.2 ⟨?_, ?_⟩⟩
        · rw [hW1]
          exact (At.setCellsO (w := W.drew) a1 (by omega)).setCellsO (by omega)
        · rw [hc1, ← hoK]; exact at_setCells hl2
        · rw [hc1, hcx, show o + k * 3 + 3 = oA by omega, hW1]
          exact (at_setCells hl1).setCellsO (by omega)
      have hRow : Row B W2 (.slice (some ⟨b, o, none⟩) (l.length + 1) cap) (l.take k ++ x :: l.drop k) (f1 ++ (gs ++ f3)) := by
        have hll : (l.take k ++ x :: l.drop k).length = l.length + 1 := by simp; omega
        refine ⟨.inr ⟨b, o, cap, _, f1 ++ (gs ++ f3), by rw [hll], by rw [hll]; exact hroom, by unfold maxLen; omega, by rw [hll]; exact le_BIG (by omega), hAt, Els.ins (e1.keep (hwA.same l1 fun p hp => hdis p (by simp [hp]))) (GoT.keep hxr (hwA.same lx hd)) (e3.keep (hwA.same l3 fun p hp => hdis p (by simp [hp]))), (fun p hp => by
          obtain ⟨q1, _, _⟩ := mem_own.1 hp
          rw [hW2, q1]
          exact live_setCells b cx oK _ hl2 _ (by rw [hW1]; exact live_setCells b c3 oA _ hl1 _ (by have := hlv p hp; rwa [q1] at this))), rfl⟩, hwA.fresh hlv hfr, fun p hp => ?_⟩
        rcases List.mem_append.1 hp with hp | hp
        · exact hdis p (by simp [hp])
        · rcases List.mem_append.1 hp with hp | hp
          · exact hd p hp
          · exact hdis p (by simp [hp])
      rw [← hW2] at hcp2
      have HROW := Lib.hid hRow
      have HWA := Lib.hid hwA
      have HP := Lib.hid (perm_ins f1 gs f3)
      have hz1' : ¬ ((1 : Int) = 0) := by decide
      have hk0 : ¬ ((k : Int) = (l.length : Int)) := by omega
      have hcap : ∀ w1 ty, (Builtin.cap_ #[25] ty #[.slice (some ⟨b, o, none⟩) l.length cap]).run Tryz.prog w1 = .ok (.int .i64 cap) w1 := fun w1 ty => by simp [Builtin.cap_, run_underlying Tryz.underlying25, goInt]
      have hng : ¬ ((cap : Int) < (l.length : Int) + 1) := by omega
      clear hRow hwA hAt hW1 hW2 hm1 hm2 hl1 hl2 hoK hoA a1 a3 e1 e3 l1 l3 lx o1 o3 ox hc1 hc3 hcx hd hdis hfr hlv hrp ha hxr hxv hg hgl hvl hsrc hx hi hz0 hz1 hz2 hn hfA hsA hsB sW
      go_enter Tryz.func33, Tryz.ntmps33
      go_wp2_with (simp only [hov])
      go_region_law (refine step_copy_run rfl _ _ 25 25 rfl _ _ (by simp [Act.eval, Act.put]) (by simp [Act.eval, Act.put]) (hcp1 _ _ _) ?_)
      go_wp2_with (with_reducible refine Lib.wpList_copy_run _ rfl _ _ 25 25 rfl _ _ rfl rfl (hcp2 _ rfl _ _) ?_)
      go_ret
      exact ⟨_, _, rfl, HROW.out, HP.out, HWA.out, fun p hp => .inl hp⟩
    · obtain rfl : cap = l.length := by omega
      have hk2' : l.length ≤ maxLen := by unfold maxLen; omega
      have s1 := run_cutl (P := Tryz.prog) (n := 3) Tryz.underlying25 hszT b o l.length l.length k (k : Int) rfl hk hlt hk2'
      have s2 := run_cuth (P := Tryz.prog) (n := 3) Tryz.underlying25 hszT b o l.length l.length k (k : Int) rfl hk hk2'
      rw [← hoK] at s1
      obtain ⟨N, hN⟩ : ∃ N, N = W.heap.size := ⟨_, rfl⟩
      obtain ⟨G, hG⟩ : ∃ G, G = grownCap W (l.length + 1) l.length 33 := ⟨_, rfl⟩
      have hkk : k + (l.length + 1 - k) = l.length + 1 := by omega
      have hap := Lib.run_append_grow_zeros (P := Tryz.prog) W 25 3 25 33 i0 _ .i64 .i64 Tryz.underlying25 Tryz.underlying3 hi hz0 (some ⟨b, o, none⟩) k l.length c1
        (by rw [hz1]; exact run_firstCells_some W.drew 3 k ⟨b, o, none⟩ k l.length c1 hc1 (fun j u hj => by rw [addr_add]; exact a1 j u hj)) (l.length + 1 - k) (by omega) (by rw [hz1]; decide) (by omega) (by omega) (by rw [hz2]; omega) (by rw [hz2, hkk]; exact growslice_fits (by omega) (by omega))
      rw [hkk, ← hG] at hap
      have hGn : l.length + 1 ≤ G := by rw [hG]; exact grownCap_ge W _ _ _
      have hGm : G ≤ maxLen := by rw [hG]; exact grownCap_le_maxLen W _ _ _ (by unfold maxLen; omega)
      obtain ⟨zs, hzs, hzl⟩ := zeroCells_list (.agg #[.int .i64 0, .int .i64 0, .int .i64 0] : Value).cells (l.length + 1 - k)
      obtain ⟨ys, hys, hyl⟩ := zeroCells_list (.agg #[.int .i64 0, .int .i64 0, .int .i64 0] : Value).cells (G - (l.length + 1))
      rw [hzs, hys, ← hN] at hap
      have hzc : (.agg #[.int .i64 0, .int .i64 0, .int .i64 0] : Value).cells.size = 3 := by kernel_rfl
      rw [hzc] at hzl hyl
      obtain ⟨W1, hW1⟩ : ∃ W1, W1 = W.drew.alloc (.cells (c1.toArray ++ zs.toArray ++ ys.toArray) 33) := ⟨_, rfl⟩
      rw [← hW1] at hap
      have hb1 : Below W.heap.size W W1 := by rw [hW1]; exact ((Below.refl _ _).drew).alloc (Nat.le_refl _) _
      have hg1 : W1.heap[N]? = some (.cells (c1 ++ (zs ++ ys)).toArray 33 (0, 0)) := by
        have := heap_alloc_new W.drew (.cells (c1.toArray ++ zs.toArray ++ ys.toArray) 33)
        rw [hW1, hN]
        simpa using this
      have hsz1 : (c1 ++ (zs ++ ys)).length = G * 3 := by simp only [List.length_append, hc1, hzl, hyl]; omega
      have hlv1 : ∀ j, j < G * 3 → (W1.cell? ⟨N, j, none⟩).isSome = true := fun j hj => by rw [row_cell hg1, List.getElem?_eq_getElem (by omega)]; rfl
      have hfr1 : ∀ j, W1.frozen? ⟨N, j, none⟩ = false := fun j => row_frozen hg1
      have hbN : b < N := by rw [hN]; have := hlv.lt (b, o) (mem_own.2 ⟨rfl, by simp, by simp; omega⟩); exact this
      have hNb : ∀ p ∈ f1 ++ f3, p.1 < N := fun p hp => by rw [hN]; rcases List.mem_append.1 hp with hp | hp; exact l1.lt p hp; exact l3.lt p hp
      have hNg : ∀ p ∈ gs, p.1 < N := fun p hp => by rw [hN]; exact lx.lt p hp
      obtain ⟨oN, hoN⟩ : ∃ oN, oN = 0 + k * 3 := ⟨_, rfl⟩
      obtain ⟨oB, hoB⟩ : ∃ oB, oB = 0 + (k + 1) * 3 := ⟨_, rfl⟩
      have s3 := run_cutl (P := Tryz.prog) (n := 3) Tryz.underlying25 hszT N 0 (l.length + 1) G k (k : Int) rfl (by omega) (by omega) (by unfold maxLen; omega)
      have s4 := run_cutl (P := Tryz.prog) (n := 3) Tryz.underlying25 hszT N 0 (l.length + 1) G (k + 1) ((k : Int) + 1) (by simp) (by omega) (by omega) (by unfold maxLen; omega)
      rw [← hoN] at s3
      rw [← hoB, Nat.add_sub_add_right] at s4
      have hm1 : ∀ j < cx.length, (N, oN + j) ∈ own N 0 (G * 3) := fun j hj => mem_own.2 ⟨rfl, by simp only; omega, by simp only; omega⟩
      have hm2 : ∀ j < c3.length, (N, oB + j) ∈ own N 0 (G * 3) := fun j hj => mem_own.2 ⟨rfl, by simp only; omega, by simp only; omega⟩
      have hl1 : ∀ j < cx.length, (W1.cell? ⟨N, oN + j, none⟩).isSome = true := fun j hj => hlv1 _ (by omega)
      obtain ⟨W2, hW2⟩ : ∃ W2, W2 = W1.setCells N oN cx := ⟨_, rfl⟩
      have hl2 : ∀ j < c3.length, (W2.drew.cell? ⟨N, oB + j, none⟩).isSome = true := fun j hj => by rw [hW2]; exact live_setCells N cx oN _ hl1 _ (hlv1 _ (by omega))
      have hcp1 : ∀ ty dc, (Builtin.copy_ #[25, 25] ty #[.slice (some ⟨N, oN, none⟩) (l.length + 1 - k) dc, .slice (some ⟨w.heap.size, 0, none⟩) 1 1]).run Tryz.prog W1 = .ok (goInt 1) W2 := fun ty dc => by
        rw [hW2]
        refine run_copy_any W1 _ _ ty 33 i0 N oN (l.length + 1 - k) dc ⟨w.heap.size, 0, none⟩ 1 1 1 cx Tryz.underlying25 hi (by simp only [Nat.min_def]; split <;> omega) (by rw [hcx, hz1]) (fun j u hj => ?_) hl1 (fun j _ => hfr1 _) ox
        rw [addr_add, Nat.zero_add, hb1.cell (p := ⟨w.heap.size, j, none⟩) (show w.heap.size < W.heap.size by omega)]; exact hxv j u hj
      have hcp2 : ∀ ty dc sc, (Builtin.copy_ #[25, 25] ty #[.slice (some ⟨N, oB, none⟩) (l.length - k) dc, .slice (some ⟨b, oK, none⟩) (l.length - k) sc]).run Tryz.prog W2.drew = .ok (goInt ((l.length - k : Nat) : Int)) (W2.drew.setCells N oB c3) := fun ty dc sc => by
        refine run_copy_any W2.drew _ _ ty 33 i0 N oB (l.length - k) dc ⟨b, oK, none⟩ (l.length - k) sc (l.length - k) c3 Tryz.underlying25 hi (by simp) (by rw [hc3, hz1]) (fun j u hj => ?_) hl2 (fun j _ => by show W2.frozen? _ = false; rw [hW2, World.frozen?_setCells]; exact hfr1 _) o3
        rw [addr_add]
        show W2.cell? _ = _
        rw [hW2, World.cell?_setCells_out N cx oN _ _ (fun h _ => by simp only at h; omega), hb1.cell (p := ⟨b, oK + j, none⟩) (show b < W.heap.size by omega), hoK]
        exact a3 j u hj
      obtain ⟨W3, hW3⟩ : ∃ W3, W3 = W2.drew.setCells N oB c3 := ⟨_, rfl⟩
      have hwN : Wr (own N 0 (G * 3)) W1 W3 := by
        rw [hW3, hW2]
        exact ((setCells_wr cx oN _ hm1).trans (Wr.of_below (Below.refl _ _).drew)).trans (setCells_wr c3 oB _ hm2)
      have hb3 : Below W.heap.size W W3 := hb1.trans (hwN.below hb1.size fun p hp => by rw [(mem_own.1 hp).1, hN]; exact Nat.le_refl _)
      have hAt : At W3 N 0 (c1 ++ (cx ++ c3)) := by
        rw [hW3]
        refine At.append.2 ⟨?_, At.append.2 ⟨?_, ?_⟩⟩
        · refine At.setCellsO ?_ (by omega)
          rw [hW2]
          refine At.setCellsO (w := W1) ?_ (by omega)
          intro j u hj
          have hjl := (List.getElem?_eq_some_iff.1 hj).1
          rw [row_cell hg1, Nat.zero_add, List.getElem?_append_left hjl]; exact hj
        · refine At.setCellsO ?_ (by omega)
          rw [hc1, ← hoN, hW2]; exact at_setCells (w := W1) hl1
        · rw [hc1, hcx, show 0 + k * 3 + 3 = oB by omega]
          exact at_setCells hl2
      have hRow : Row B W3 (.slice (some ⟨N, 0, none⟩) (l.length + 1) G) (l.take k ++ x :: l.drop k) (f1 ++ (gs ++ f3)) := by
        have hll : (l.take k ++ x :: l.drop k).length = l.length + 1 := by simp; omega
        refine ⟨.inr ⟨N, 0, G, _, f1 ++ (gs ++ f3), by rw [hll], by rw [hll]; exact hGn, hGm, by rw [hll]; exact le_BIG (by omega), hAt, Els.ins (e1.keep (Live.same_below hb3 l1.lt)) (GoT.keep hxr (Live.same_below hb3 lx.lt)) (e3.keep (Live.same_below hb3 l3.lt)), (fun p hp => by
          obtain ⟨q1, _, q3⟩ := mem_own.1 hp
          rw [Nat.zero_add] at q3
          rw [hW3, q1]
          exact live_setCells N c3 oB _ hl2 _ (by show (W2.cell? _).isSome = true; rw [hW2]; exact live_setCells N cx oN _ hl1 _ (hlv1 _ q3))), rfl⟩, ⟨own_nodup _ _ _, fun p hp => by rw [(mem_own.1 hp).1, hN]; exact hB1, fun p hp => by
            rw [hW3, (mem_own.1 hp).1, World.frozen?_setCells]
            show W2.frozen? _ = false
            rw [hW2, World.frozen?_setCells]; exact hfr1 _⟩, fun p hp hq => ?_⟩
        have hpN : p.1 = N := (mem_own.1 hq).1
        rcases List.mem_append.1 hp with hp | hp
        · have := hNb p (by simp [hp]); omega
        · rcases List.mem_append.1 hp with hp | hp
          · have := hNg p hp; omega
          · have := hNb p (by simp [hp]); omega
      rw [← hW3] at hcp2
      have HROW := Lib.hid hRow
      have HWA : Hid (Wr (rowP (GoT.n DSeen) (.slice (some ⟨b, o, none⟩) l.length l.length)) W W3) := Lib.hid (Wr.of_below hb3)
      have HP := Lib.hid (perm_ins f1 gs f3)
      have HN : Hid (∀ p ∈ rowP (GoT.n DSeen) (.slice (some ⟨N, 0, none⟩) (l.length + 1) G), W.heap.size ≤ p.1) := Lib.hid fun p hp => by rw [(mem_own.1 hp).1, hN]; exact Nat.le_refl _
      have hz1' : ¬ ((1 : Int) = 0) := by decide
      have hk0 : ¬ ((k : Int) = (l.length : Int)) := by omega
      have hcap : ∀ w1 ty, (Builtin.cap_ #[25] ty #[.slice (some ⟨b, o, none⟩) l.length l.length]).run Tryz.prog w1 = .ok (.int .i64 l.length) w1 := fun w1 ty => by simp [Builtin.cap_, run_underlying Tryz.underlying25, goInt]
      have hng : (l.length : Int) < (l.length : Int) + 1 := by omega
      have hsb : IntKind.i64.wrap ((l.length : Int) + 1 - (k : Int)) = (l.length : Int) + 1 - (k : Int) := by rw [IntKind.wrap_i64]; omega
      have hcast : ((l.length + 1 - k : Nat) : Int) = (l.length : Int) + 1 - (k : Int) := by omega
      rw [hcast] at hap
      have hb0 : (0 : Int) ≤ (l.length : Int) + 1 - (k : Int) := by omega
      clear hRow hb3 hwN hAt hW1 hW2 hW3 hm1 hm2 hl1 hl2 hoK hoA a1 a3 e1 e3 l1 l3 lx o1 o3 ox hc1 hc3 hcx hd hdis hfr hlv hrp ha hxr hxv hg hgl hvl hsrc hx hi hz0 hz1 hz2 hn hfA hsA hsB sW hG hGm hzs hys hzl hyl hzc hb1 hg1 hsz1 hlv1 hfr1 hbN hNb hNg hoN hoB hN hcast hrw
      go_enter Tryz.func33, Tryz.ntmps33
      go_wp2_with (first | (at_builtin; refine wpList_append_run rfl _ _ 25 3 rfl _ _ rfl rfl (hap) ?_) | (with_reducible refine Lib.wpList_copy_run _ rfl _ _ 25 25 rfl _ _ rfl rfl (hcp1 _ _) ?_))
      go_region_law (refine step_copy_run rfl _ _ 25 25 rfl _ _ (by simp [Act.eval, Act.put]) (by simp [Act.eval, Act.put]) (hcp2 _ _ _) ?_)
      go_wp2
      go_ret
      exact ⟨_, _, rfl, HROW.out, HP.out, HWA.out, fun p hp => .inr (HN.out p hp)⟩
end Go.Proofs.YtfkaabpaolelgaaGreat
