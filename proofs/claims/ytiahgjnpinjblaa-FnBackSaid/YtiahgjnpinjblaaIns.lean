/- slices.Insert: one element laid into a row of one's own. -/
import Derived.Test.YtiahgjnpinjblaaRo
import Derived.Test.YtiahgjnpinjblaaCp
import Derived.Lib.Overlaps
import Derived.Lib.AppendZerosOnto
import Derived.Lib.SlBuf
import Derived.Deep.RegionLaw
namespace Go.Proofs.Ytiahgjnpinjblaa
open Go.RowKit
section
variable {P : Program}
theorem run_copy_any (w : World) (dT sT ty elem : TypeId) (i : TypeInfo) (b o dLen dCap : Nat) (a : Addr) (sLen sCap m : Nat) (cs : List Value) (hu : P.underlying dT = some (.slice elem)) (hi : P.info? elem = some i) (hn : m = Nat.min sLen dLen) (hl : cs.length = m * i.size)
    (hsrc : ∀ j v, cs[j]? = some v → w.cell? (a.add j) = some v) (hc : ∀ j, j < cs.length → (w.cell? ⟨b, o + j, none⟩).isSome = true) (hf : ∀ j, j < cs.length → w.frozen? ⟨b, o + j, none⟩ = false) (h1 : ∀ v ∈ cs, v.oneCell' = true) :
    (Builtin.copy_ #[dT, sT] ty #[.slice (some ⟨b, o, none⟩) dLen dCap, .slice (some a) sLen sCap]).run P w = .ok (goInt m) (w.setCells b o cs) := by
  have hfc := run_firstCells_some (P := P) (w := w) i.size m a sLen sCap cs hl hsrc
  have hst := run_storeCells_cells (P := P) b o cs 0 w (by simpa using hc) (by simpa using hf) h1
  simp [Builtin.copy_, run_underlying hu, Builtin.lenOf, sizeOf, typeInfo, hi, ← hn, hfc, hst]
theorem step_copy_run {ops : Array Oper} {o : Oper} {a : Act} {w : World} {K : Act → World → Prop} {Q : Exit → Act → World → Prop} {E : Prop} (hg : o.guard = none) (d x : Operand) (dT sT : TypeId) (hop : o.op = Op.call { callee := Callee.builtin Builtin.copy, args := #[d, x], argTypes := #[dT, sT] })
    (v u : Value) (hd : a.eval d = v) (hx : a.eval x = u) {v' : Value} {w' : World} (hr : (Builtin.copy_ #[dT, sT] o.type #[v, u]).run P w = .ok v' w') (hK : K (a.put o.dst v') w') : if Region.wanted o (yielded ops a.tmps) = true then Oper.wp P o a w K Q else E := by
  have hw : Region.wanted o (yielded ops a.tmps) = true := by simp [Region.wanted, hg]
  rw [if_pos hw]
  unfold Oper.wp
  simp [execOp, hop, resolve, invoke, builtin, hd, hx, hr, Result.andThen]
  exact hK
end
theorem wpList_append_run {P : Program} {w : World} {ops : Array Oper} {rest : List Oper} {o : Oper} {a : Act} {Q : Exit → Act → World → Prop} (hgd : o.guard = none) (s y : Operand) (T T' : TypeId)
    (ho : o.op = .call { callee := .builtin .append, args := #[s, y], argTypes := #[T, T'] }) (v u : Value) (hv : a.eval s = v) (hx : a.eval y = u) {v' : Value} {w' : World} (hr : (Builtin.append_ #[T, T'] o.type #[v, u]).run P w = .ok v' w')
    (hK : wpList P ops Q rest (a.put o.dst v') w') : wpList P ops Q (o :: rest) a w := by
  refine wpList_plain hgd fun K hK' => ?_
  unfold Oper.wp
  simp [execOp, ho, resolve, invoke, builtin, hv, hx, hr, Result.andThen]
  exact hK' _ _ hK
theorem live_setCells (b : Nat) (vs : List Value) (o : Nat) (w : World) (h : ∀ j, j < vs.length → (w.cell? ⟨b, o + j, none⟩).isSome = true) (k : Nat) (hk : (w.cell? ⟨b, k, none⟩).isSome = true) : ((w.setCells b o vs).cell? ⟨b, k, none⟩).isSome = true := by
  by_cases hin : o ≤ k ∧ k < o + vs.length
  · have := World.cell?_setCells_in b vs o w h (k - o) (by omega)
    rw [show o + (k - o) = k by omega] at this
    rw [this]; rfl
  · rw [World.cell?_setCells_out b vs o w ⟨b, k, none⟩ (fun _ _ => by show k < o ∨ o + vs.length ≤ k; omega)]
    exact hk
theorem at_setCells {b o : Nat} {vs : List Value} {w : World} (h : ∀ j, j < vs.length → (w.cell? ⟨b, o + j, none⟩).isSome = true) : At (w.setCells b o vs) b o vs := by
  intro j u hj
  have hjl := (List.getElem?_eq_some_iff.1 hj).1
  rw [World.cell?_setCells_in b vs o w h j hjl, ← hj, List.getElem?_eq_getElem hjl]
theorem At.setCellsO {b o o' : Nat} {cs vs : List Value} {w : World} (h : At w b o cs) (hd : o + cs.length ≤ o' ∨ o' + vs.length ≤ o) : At (w.setCells b o' vs) b o cs := by
  intro j u hj
  have hjl := (List.getElem?_eq_some_iff.1 hj).1
  rw [World.cell?_setCells_out b vs o' w ⟨b, o + j, none⟩ (fun _ _ => by show o + j < o' ∨ o' + vs.length ≤ o + j; omega)]
  exact h j u hj
theorem shape_of_cell {w : World} {b o : Nat} (h : (w.cell? ⟨b, o, none⟩).isSome = true) : ∃ t k, w.shape? b = some (t, k) ∧ k ≠ 0 := by
  unfold World.cell? at h
  unfold World.shape?
  cases hb : w.heap[b]? with
  | none => rw [hb] at h; cases h
  | some ob =>
    rw [hb] at h
    by_cases hc : ∃ c t fr, ob = .cells c t fr
    · obtain ⟨c, t, fr, rfl⟩ := hc
      refine ⟨t, c.size, rfl, fun e => ?_⟩
      rw [Option.isSome_iff_exists] at h
      obtain ⟨u, hu⟩ := h
      have := (Array.getElem?_eq_some_iff.1 (show c[o]? = some u from hu)).1
      omega
    · exfalso
      revert h
      cases ob <;> simp_all
/-- what comes of laying x in at k -/
def Ins {α : Type} [GoT α] (B : Nat) (w : World) (v : Value) (l : List α) (fs gs : List Pos) (k : Nat) (x : α) (e : Ending) (w' : World) : Prop :=
  ∃ v' fs', e = .returned v' ∧ Row B w' v' (l.take k ++ x :: l.drop k) fs' ∧ fs'.Perm (fs ++ gs) ∧ Wr (rowP (GoT.n α) v) w w' ∧ ∀ p ∈ rowP (GoT.n α) v', p ∈ rowP (GoT.n α) v ∨ w.heap.size ≤ p.1
theorem Ins.owns {α : Type} [GoT α] {B : Nat} {w w' : World} {v : Value} {l : List α} {fs gs : List Pos} {k : Nat} {x : α} {e : Ending} (h : Ins B w v l fs gs k x e w') (hf : Fresh B w (fs ++ gs)) (hl : Live w (fs ++ gs)) :
    ∃ v' fp, e = .returned v' ∧ Sl BIG w' v' (l.take k ++ x :: l.drop k) fp ∧ Fresh B w' fp ∧ Wr (rowP (GoT.n α) v) w w' ∧ ∀ p ∈ fp, p ∈ rowP (GoT.n α) v ∨ w.heap.size ≤ p.1 ∨ p ∈ fs ++ gs := by
  obtain ⟨v', fs', rfl, hr, hp, hw, hn⟩ := h
  have h2 := hw.fresh hl hf
  have h3 : Fresh B w' fs' := ⟨hp.nodup_iff.2 h2.nodup, fun p hq => h2.ge p (hp.mem_iff.1 hq), fun p hq => h2.free p (hp.mem_iff.1 hq)⟩
  refine ⟨v', _, rfl, hr.1, hr.2.1.join h3 fun p hp q hq e => hr.2.2 q hq (e ▸ hp), hw, fun p hq => ?_⟩
  rcases List.mem_append.1 hq with hq | hq
  · exact (hn p hq).imp_right .inl
  · exact .inr (.inr (hp.mem_iff.1 hq))
theorem perm_ins (a b c : List Pos) : (a ++ (b ++ c)).Perm (a ++ c ++ b) := by
  rw [List.append_assoc]
  exact List.Perm.append_left a List.perm_append_comm
theorem Els.ins {α : Type} [GoT α] {M : Nat} {w : World} {c1 c2 c3 : List Value} {f1 f2 f3 : List Pos} {l : List α} {x : α} {k : Nat} (h1 : Els M w c1 (l.take k) f1) (h2 : GoT.rd M w c2 x f2) (h3 : Els M w c3 (l.drop k) f3) : Els M w (c1 ++ (c2 ++ c3)) (l.take k ++ x :: l.drop k) (f1 ++ (f2 ++ f3)) :=
  Els.append.2 ⟨c1, c2 ++ c3, f1, f2 ++ f3, rfl, h1, ⟨c2, c3, f2, f3, rfl, h2, h3, rfl⟩, rfl⟩
section
variable {P : Program} {T E : TypeId} {n : Nat}
theorem run_cutl (hT : P.underlying T = some (.slice E)) (hl : ∀ w1, (sizeOf E).run P w1 = .ok n w1) (b o len cap lo : Nat) (z : Int) (hz : z = lo) (h : lo ≤ len) (h2 : lo < cap) (h3 : len ≤ maxLen) (w1 : World) :
    (Instr.sliceAt T (.slice (some ⟨b, o, none⟩) len cap) (some (.int .i64 z)) none none).run P w1 = .ok (.slice (some ⟨b, o + lo * n, none⟩) (len - lo) (cap - lo)) w1 := by
  subst hz
  have h4 := h3
  unfold maxLen at h4
  have e2 : (Instr.sliceBound (.int .i64 (lo : Int)) len .sliceB).run P w1 = .ok lo w1 := by rw [run_sliceBound _ _ _ _ _ (by omega) (by omega)]; rfl
  simp [Instr.sliceAt, Instr.slice, run_underlying hT, Instr.sliceBounds, e2, hl]
  have hm : ¬ cap = lo := by omega
  simp [hm, addr_add]
theorem run_cuth (hT : P.underlying T = some (.slice E)) (hl : ∀ w1, (sizeOf E).run P w1 = .ok n w1) (b o len cap hi : Nat) (z : Int) (hz : z = hi) (h2 : hi ≤ cap) (h3 : cap ≤ maxLen) (w1 : World) :
    (Instr.sliceAt T (.slice (some ⟨b, o, none⟩) len cap) none (some (.int .i64 z)) none).run P w1 = .ok (.slice (some ⟨b, o, none⟩) hi cap) w1 := by
  subst hz
  have h4 := h3
  unfold maxLen at h4
  have e1 : (Instr.sliceBound (.int .i64 (hi : Int)) cap .sliceAcap).run P w1 = .ok hi w1 := by rw [run_sliceBound _ _ _ _ _ (by omega) (by omega)]; rfl
  simp [Instr.sliceAt, Instr.slice, run_underlying hT, Instr.sliceBounds, e1, hl]
  exact fun _ => by rw [addr_add]; rfl
end
theorem own_lt {b o m : Nat} {j : Nat} (h : j < m) : (b, o + j) ∈ own b o m := mem_own.2 ⟨rfl, by simp, by simp; omega⟩

theorem info_seenI : (Try.prog.info? 65).map (fun i => (i.zero, i.size, i.bytes)) = some (some (.agg #[.int .i64 0, .int .i64 0, .int .i64 0]), 3, 24) := by kernel_rfl
end Go.Proofs.Ytiahgjnpinjblaa
