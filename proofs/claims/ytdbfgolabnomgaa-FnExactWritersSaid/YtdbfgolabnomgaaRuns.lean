/- Runs: neighbours counted; the reference's and the program's way. -/
import Derived.Test.YtdbfgolabnomgaaRow
import Derived.Test.YtdbfgolabnomgaaOut
import Derived.Test.YtdbfgolabnomgaaMk1
namespace Go.Proofs.Ytdbfgolabnomgaa
open Go.RowKit
theorem Row.grown {α : Type} [GoT α] {B : Nat} {w0 W w1 : World} {v v' : Value} {l xs : List α} {fs gs : List Pos} (h : Row B w0 v l fs) (hf : Fresh B w0 fs) (hb : Below w0.heap.size w0 W) (hg : Fresh w0.heap.size W gs) (hgl : Live W gs) (hB : B ≤ w0.heap.size)
    (hr : Row B w1 v' (l ++ xs) (fs ++ gs)) (hw : Wr (rowP (GoT.n α) v) W w1) : OwnS B w1 v' (l ++ xs) := by
  have hl := Live.lt h.live
  refine hr.owns ((hf.wr2 hb hw hl).join ((hw.fresh hgl hg).mono hB) fun p hp q hq e => ?_)
  have h1 := hl p hp
  have h2 := hg.ge q hq
  rw [e] at h1
  omega
theorem OwnS.empty {α : Type} [GoT α] (B : Nat) (w : World) (ao : Option Addr) : OwnS (α := α) B w (.slice ao 0 0) [] := ⟨[], .inl ⟨_, rfl, rfl, rfl⟩, Fresh.nil _ _⟩
/-- a slice that lies in a block of its own -/
theorem sl_of_block {α : Type} [GoT α] {W : World} {g : Nat} {cs : List Value} {l : List α} {fs : List Pos} {E : TypeId} {fr : Nat × Nat} (hg : W.heap[g]? = some (.cells cs.toArray E fr)) (he : Els BIG W cs l fs) (hl : l.length ≤ BIG) :
    Sl BIG W (.slice (some ⟨g, 0, none⟩) l.length l.length) l (own g 0 (l.length * GoT.n α) ++ fs) := by
  have hc := he.length
  refine .inr ⟨g, 0, l.length, cs, fs, rfl, Nat.le_refl _, by have := BIG_le hl; unfold maxLen; omega, hl, ?_, he, ?_, rfl⟩
  · have := row_at (c1 := []) (c2 := cs) (c3 := []) (w := W) (E := E) (fr := fr) (by simpa using hg)
    simpa using this
  · intro p hp
    obtain ⟨e1, e2, e3⟩ := mem_own.1 hp
    rw [e1, row_cell hg, List.getElem?_eq_getElem (by omega)]
    rfl
theorem fresh_block {W : World} {g n B : Nat} {cur : Array Value} {E : TypeId} (hg : W.heap[g]? = some (.cells cur E (0, 0))) (hB : B ≤ g) : Fresh B W (own g 0 n) :=
  ⟨own_nodup _ _ _, fun p hp => by rw [(mem_own.1 hp).1]; exact hB, fun p hp => by rw [(mem_own.1 hp).1]; exact row_frozen hg⟩

def bump (l : List (List Int)) : List (List Int) := match l.getLast? with
  | some [a, n] => l.dropLast ++ [[a, n + 1]]
  | _ => l
def runsTo (l : List Int) : Nat → List (List Int)
  | 0 => []
  | k + 1 => match l[k]? with
    | none => runsTo l k
    | some x => if 0 < k ∧ l[k - 1]? = some x then bump (runsTo l k) else runsTo l k ++ [[x, 1]]
def runs (l : List Int) : List (List Int) := runsTo l l.length
theorem bump_snoc (m : List (List Int)) (a n : Int) : bump (m ++ [[a, n]]) = m ++ [[a, n + 1]] := by simp [bump]
theorem runsTo_same {l : List Int} {k : Nat} {x : Int} (h : l[k + 1]? = some x) (h1 : l[k]? = some x) : runsTo l (k + 2) = bump (runsTo l (k + 1)) := by
  rw [runsTo, h]; simp [h1]
theorem runsTo_diff {l : List Int} {k : Nat} {x : Int} (h : l[k]? = some x) (h1 : ¬ (0 < k ∧ l[k - 1]? = some x)) : runsTo l (k + 1) = runsTo l k ++ [[x, 1]] := by
  rw [runsTo, h]; simp only [if_neg h1]
theorem runsTo_inv {l : List Int} : ∀ {k : Nat}, k < l.length → ∃ m a n, runsTo l (k + 1) = m ++ [[a, n]] ∧ l[k]? = some a ∧ 1 ≤ n ∧ n ≤ (k : Int) + 1 ∧ m.length ≤ k
  | 0, hk => by
    obtain ⟨x, hx⟩ := get_some hk
    refine ⟨[], x, 1, ?_, hx, by omega, by omega, by simp⟩
    rw [runsTo_diff hx (by simp)]; rfl
  | k + 1, hk => by
    obtain ⟨x, hx⟩ := get_some hk
    obtain ⟨m, a, n, h1, h2, h3, h4, h5⟩ := runsTo_inv (l := l) (k := k) (by omega)
    by_cases e : a = x
    · subst e
      refine ⟨m, a, n + 1, ?_, hx, by omega, by omega, by omega⟩
      rw [runsTo_same hx h2, h1, bump_snoc]
    · refine ⟨m ++ [[a, n]], x, 1, ?_, hx, by omega, by omega, by simp; omega⟩
      rw [runsTo_diff hx (by simp [h2, e]), h1]
theorem runsTo_len {l : List Int} : ∀ {k : Nat}, k ≤ l.length → (runsTo l k).length ≤ k
  | 0, _ => by simp [runsTo]
  | k + 1, hk => by
    obtain ⟨m, a, n, h1, _, _, _, h5⟩ := runsTo_inv (l := l) (k := k) (by omega)
    rw [h1]; simp; omega
theorem runsTo_cnt {l : List Int} : ∀ {k : Nat}, k ≤ l.length → cntL (runsTo l k) = 2 * (runsTo l k).length
  | 0, _ => by simp [runsTo, cntL]
  | k + 1, hk => by
    have ih := runsTo_cnt (l := l) (k := k) (by omega)
    obtain ⟨x, hx⟩ := get_some (l := l) (k := k) (by omega)
    by_cases e : 0 < k ∧ l[k - 1]? = some x
    · obtain ⟨j, rfl⟩ : ∃ j, k = j + 1 := ⟨k - 1, by omega⟩
      obtain ⟨m, a, n, h1, _, _, _, _⟩ := runsTo_inv (l := l) (k := j) (by omega)
      rw [runsTo_same hx (by simpa using e.2), h1, bump_snoc]
      rw [h1] at ih
      simp only [cntL_append, List.length_append, List.length_cons, List.length_nil] at ih ⊢
      simp only [cntL, GoM.cnt] at ih ⊢
      omega
    · rw [runsTo_diff hx e, cntL_append, List.length_append, ih]
      simp [cntL, GoM.cnt]; omega
theorem runs_cnt (l : List Int) : cntL (runs l) ≤ 2 * l.length := by
  unfold runs
  rw [runsTo_cnt (Nat.le_refl _)]
  have := runsTo_len (l := l) (Nat.le_refl l.length)
  omega
theorem info_sint : (Try.prog.info? 22).map (fun i => (i.zero, i.size, i.bytes)) = some (some (.slice none 0 0), 1, 24) := by kernel_rfl
/-- the last pair's count, one more -/
theorem own_bump {B : Nat} {w : World} {v : Value} {m : List (List Int)} {a n : Int} (h : OwnS B w v (m ++ [[a, n]])) :
    ∃ b o c ca b2 o2, (∀ w1, (Instr.indexAt 23 v (.int .i64 m.length)).run Try.prog w1 = .ok (.pointer (some ⟨b, o, none⟩)) w1) ∧ w.cell? ⟨b, o, none⟩ = some (.slice c 2 ca) ∧
      (∀ w1, (Instr.indexAt 22 (.slice c 2 ca) (.int .i64 1)).run Try.prog w1 = .ok (.pointer (some ⟨b2, o2, none⟩)) w1) ∧ w.cell? ⟨b2, o2, none⟩ = some (.int .i64 n) ∧ w.frozen? ⟨b2, o2, none⟩ = false ∧ B ≤ b2 ∧
      OwnS B (w.setCell ⟨b2, o2, none⟩ (.int .i64 (n + 1))) v (m ++ [[a, n + 1]]) := by
  obtain ⟨fp, hs, hf⟩ := h
  obtain ⟨b, o, cs, f, g1, g2, g3, g4, g5, gnd, g7⟩ := hs.lens hf.nodup Try.underlying23 szi_IntS m.length (x := [a, n]) (by simp)
  obtain ⟨u, rfl, su⟩ := g3
  obtain ⟨ca, cc, rfl⟩ := RdS.isSlice ⟨_, su⟩
  obtain ⟨b2, o2, cs2, f2, k1, k2, ⟨rfl, rfl⟩, k4, k5, _, k7⟩ := su.lens gnd Try.underlying22 sz_int 1 (x := n) (by simp)
  have q2 := k2.one
  have h2 := k4 0 (by decide)
  have h1 := g4 0 (by decide)
  simp only [Nat.add_zero] at h1 h2
  have hne : ¬ (b2 = b ∧ o2 = o) := by rintro ⟨rfl, rfl⟩; exact h1.2 h2.1
  have hm2 := g5 _ h2.1
  refine ⟨b, o, ca, cc, b2, o2, g1, g2.one, by simpa using k1, q2, hf.free _ hm2, hf.ge _ hm2, fp, ?_, hf.put _ _⟩
  have hset : (m ++ [[a, n]]).set m.length [a, n + 1] = m ++ [[a, n + 1]] := by simp
  rw [← hset]
  refine g7 _ [.slice ca [a, n].length cc] _ ?_ ⟨.slice ca [a, n].length cc, rfl, ?_⟩ ?_
  · intro j x hj
    have := g2 j x hj
    rw [cell_setCell, if_neg]
    · exact this
    · rintro ⟨e1, e2⟩
      cases j with
      | zero => exact hne ⟨e1.symm, by simpa using e2.symm⟩
      | succ j => simp at hj
  · have := k7 (w.setCell ⟨b2, o2, none⟩ (.int .i64 (n + 1))) [.int .i64 (n + 1)] (n + 1) (by
      intro j x hj
      cases j with
      | zero => simp at hj; subst hj; rw [Nat.add_zero, cell_setCell, if_pos ⟨rfl, rfl⟩, q2]; rfl
      | succ j => simp at hj) ⟨rfl, rfl⟩ (fun p _ _ hn => by
        rw [cell_setCell, if_neg]
        rintro ⟨e1, e2⟩
        exact hn 0 (by decide) (by rw [Nat.add_zero, ← e1, ← e2]))
    simpa using this
  · intro p _ hn _
    rw [cell_setCell, if_neg]
    rintro ⟨e1, e2⟩
    exact hn (by rw [show p = (b2, o2) from Prod.ext e1 e2]; exact h2.1)
set_option maxHeartbeats 2000000 in
set_option maxRecDepth 100000 in
theorem spec_Runs_c (v : Value) (l : List Int) (w : World) (h : RdS w v l) : Calls Try.prog 15 #[v] w (Out_IntSS w (runs l)) := by
  have hl := fun w1 ty => h.len Try.underlying22 w1 ty
  have ba := h.le
  obtain ⟨i0, hi, hz0, hz1, hz2⟩ := info_parts info_sint
  go_enter Try.func15, Try.ntmps15
  go_wp2
  go_loopw [3, 9] (fun z i wr => ∃ (k : Nat) (u : Value), u = z ∧ k ≤ l.length ∧ i = .int .i64 k ∧ OwnS w.heap.size wr u (runsTo l k) ∧ Below w.heap.size w wr) (fun _ i _ => l.length - (intOf i).toNat)
  case atStart => exact ⟨0, _, rfl, Nat.zero_le _, rfl, OwnS.empty _ _ _, (by repeat' (first | (with_reducible exact Below.refl _ _) | (with_reducible assumption) | (with_reducible refine Below.setCell ?_ ?_ _) | (with_reducible refine Below.alloc ?_ ?_ _) | (with_reducible refine Below.drew ?_) | (with_reducible refine belowN ?_ _) | (with_reducible refine below_after ?_ (by assumption) ?_) | omega | (simp; done) | (simp; omega)))⟩
  case round =>
    obtain ⟨k, u, rfl, hk, rfl, ho, hbw⟩ := hrel
    have hsz := hbw.size
    by_cases hlt : k < l.length
    · obtain ⟨x, hx⟩ := get_some hlt
      obtain ⟨b1, o1, _, h1, h2, _, rfl, rfl⟩ := (h.below hbw).idx Try.underlying22 sz_int k hx
      have q1 := h2.one
      by_cases hsame : 0 < k ∧ l[k - 1]? = some x
      · obtain ⟨j, rfl⟩ : ∃ j, k = j + 1 := ⟨k - 1, by omega⟩
        have hj : l[j]? = some x := by simpa using hsame.2
        simp only [Int.natCast_add, Int.cast_ofNat_Int] at h1
        obtain ⟨b0, o0, _, h5, h6, _, rfl, rfl⟩ := (h.below hbw).idx Try.underlying22 sz_int j hj
        have q0 := h6.one
        obtain ⟨m, a, n, r1, r2, r3, r4, r5⟩ := runsTo_inv (l := l) (k := j) (by omega)
        have hst := runsTo_same hx hj
        rw [r1] at hst ho
        rw [bump_snoc] at hst
        obtain ⟨c1, c2, ca, cc, c3, c4, k1, k2, k3, k4, k5, k6, hnew⟩ := own_bump ho
        have hlen : ∀ w1 ty, (Builtin.len_ #[23] ty #[u]).run Try.prog w1 = .ok (.int .i64 ((m.length : Int) + 1)) w1 := fun w1 ty => by
          have := ho.rd.len Try.underlying23 w1 ty
          simpa using this
        have HS := Lib.hid hst
        have HN := Lib.hid hnew
        clear hst hnew r1 r2 hx hj hsame ho
        go_wp2
        go_roundw
        case rel => exact ⟨j + 2, _, rfl, by omega, by go_num, by rw [HS.out]; exact HN.out, hbw.setCell (p := ⟨c3, c4, none⟩) k6 _⟩
        case measure => simp [intOf]; omega
      · have hst := Lib.hid (runsTo_diff hx hsame)
        have hrl := runsTo_len (l := l) hk
        obtain ⟨fs, hrow, hfs⟩ := ho.row
        have hdec : k = 0 ∨ ∃ j y, k = j + 1 ∧ l[j]? = some y ∧ ¬ y = x := by
          cases k with
          | zero => exact .inl rfl
          | succ j =>
            obtain ⟨y, hy⟩ := get_some (l := l) (k := j) (by omega)
            exact .inr ⟨j, y, rfl, hy, fun e => hsame ⟨by omega, by simp [hy, e]⟩⟩
        have HR := Lib.hid hrow
        have HF := Lib.hid hfs
        clear hx hsame ho hrow hfs
        obtain ⟨W1, hW1⟩ : ∃ W1, W1 = (wr.alloc (.cells #[.int .i64 x, .int .i64 1] 3)).alloc (.cells #[.slice (some ⟨wr.heap.size, 0, none⟩) 2 2] 22) := ⟨_, rfl⟩
        have hbW : Below wr.heap.size wr W1 := by rw [hW1]; exact ((Below.refl _ _).alloc (Nat.le_refl _) _).alloc (by simp) _
        have hg1 : W1.heap[wr.heap.size]? = some (.cells [.int .i64 x, .int .i64 1].toArray 3 (0, 0)) := by
          rw [hW1]
          exact (heap_alloc_old (wr.alloc _) _ (by simp)).trans (heap_alloc_new wr _)
        have hg2 : W1.heap[wr.heap.size + 1]? = some (.cells [.slice (some ⟨wr.heap.size, 0, none⟩) 2 2].toArray 22 (0, 0)) := by
          rw [hW1]
          have := heap_alloc_new (wr.alloc (.cells #[.int .i64 x, .int .i64 1] 3)) (.cells #[.slice (some ⟨wr.heap.size, 0, none⟩) 2 2] 22)
          simpa using this
        have hel : Els (α := Int) BIG W1 [.int .i64 x, .int .i64 1] [x, 1] [] := ⟨[_], [_], [], [], rfl, ⟨rfl, rfl⟩, Els.single ⟨rfl, rfl⟩, rfl⟩
        have hs2 : Sl BIG W1 (.slice (some ⟨wr.heap.size, 0, none⟩) 2 2) [x, 1] (own wr.heap.size 0 2) := by simpa [GoT.n] using sl_of_block hg1 hel (le_BIG (by simp))
        have hsrc : Src W1 (.slice (some ⟨wr.heap.size + 1, 0, none⟩) 1 1) [[x, 1]] (own wr.heap.size 0 2) := by
          refine Src.one (c := [.slice (some ⟨wr.heap.size, 0, none⟩) 2 2]) ?_ ⟨_, rfl, hs2⟩
          have := row_at (c1 := []) (c2 := [.slice (some ⟨wr.heap.size, 0, none⟩) 2 2]) (c3 := []) (by simpa using hg2)
          simpa using this
        have hfg : Fresh wr.heap.size W1 (own wr.heap.size 0 2) := fresh_block hg1 (Nat.le_refl _)
        have hlg : Live W1 (own wr.heap.size 0 2) := hs2.live
        have hdis : ∀ p ∈ own wr.heap.size 0 2, p ∉ rowP (GoT.n (List Int)) u := fun p hp hq => by
          have h1 := Live.lt (Live.append.1 HR.out.1.live).1 p hq
          have := (mem_own.1 hp).1
          omega
        have HSRC := Lib.hid hsrc
        have HW := Lib.hid hW1
        clear hg1 hg2 hel hs2 hsrc hW1
        rcases hdec with rfl | ⟨j, y, rfl, hy, hne⟩
        · have h1 : ∀ w1, (Instr.indexAt 22 v (.int .i64 0)).run Try.prog w1 = .ok (.pointer (some ⟨b1, o1, none⟩)) w1 := h1
          go_wp2_with (at_builtin; rw [← HW.out]; refine wpList_append_row rfl _ _ 23 rfl Try.underlying23 hi hz0 hz1 hz2 rfl rfl rfl (HR.out.below hbW) HSRC.out hdis ?c1 ?c2 ?c3 ?_)
          case c1 => exact le_BIG (by simp; omega)
          case c2 => simp; omega
          case c3 => have := hbW.size; omega
          intro v' w1 hr hw _
          have HO := Lib.hid (HR.out.grown HF.out hbW hfg hlg (by omega) hr hw)
          have HB := Lib.hid (below_after2 hbw (wrb (C := w.heap.size) hw hbW hsz (fun p hp => HR.out.2.1.ge p hp)) (Nat.le_refl _))
          clear hr hw
          go_wp2
          go_roundw
          case rel => exact ⟨1, _, rfl, by omega, by go_num, by rw [hst.out]; exact HO.out, HB.out⟩
          case measure => simp [intOf]; omega
        · obtain ⟨b0, o0, _, h5, h6, _, rfl, rfl⟩ := (h.below hbw).idx Try.underlying22 sz_int j hy
          have q0 := h6.one
          have e1 : (y == x) = false := by simpa using hne
          simp only [Int.natCast_add, Int.cast_ofNat_Int] at h1
          clear hy hne
          go_wp2_with (at_builtin; rw [← HW.out]; refine wpList_append_row rfl _ _ 23 rfl Try.underlying23 hi hz0 hz1 hz2 rfl rfl rfl (HR.out.below hbW) HSRC.out hdis ?c1 ?c2 ?c3 ?_)
          case c1 => exact le_BIG (by simp; omega)
          case c2 => simp; omega
          case c3 => have := hbW.size; omega
          intro v' w1 hr hw _
          have HO := Lib.hid (HR.out.grown HF.out hbW hfg hlg (by omega) hr hw)
          have HB := Lib.hid (below_after2 hbw (wrb (C := w.heap.size) hw hbW hsz (fun p hp => HR.out.2.1.ge p hp)) (Nat.le_refl _))
          clear hr hw
          go_wp2
          go_roundw
          case rel => exact ⟨j + 1 + 1, _, rfl, by omega, by go_num, by rw [hst.out]; exact HO.out, HB.out⟩
          case measure => simp [intOf]; omega
    · obtain rfl : k = l.length := by omega
      obtain ⟨fp, hs, hf⟩ := ho
      go_wp2
      go_ret
      exact ⟨_, _, rfl, hs, hf, hbw⟩
set_option maxHeartbeats 2000000 in
set_option maxRecDepth 100000 in
theorem impl_Runs_c (v : Value) (l : List Int) (w : World) (h : RdS w v l) : Calls Try.prog 17 #[v] w (Out_IntSS w (runs l)) := by
  have hl := fun w1 ty => h.len Try.underlying22 w1 ty
  have ba := h.le
  obtain ⟨i0, hi, hz0, hz1, hz2⟩ := info_parts info_sint
  go_enter Try.func17, Try.ntmps17
  go_wp2
  go_loopw [3, 8] (fun z i wr => ∃ (k : Nat) (u : Value), u = z ∧ k ≤ l.length ∧ i = .int .i64 k ∧ OwnS w.heap.size wr u (runsTo l k) ∧ Below w.heap.size w wr) (fun _ i _ => l.length - (intOf i).toNat)
  case atStart => exact ⟨0, _, rfl, Nat.zero_le _, rfl, OwnS.empty _ _ _, (by repeat' (first | (with_reducible exact Below.refl _ _) | (with_reducible assumption) | (with_reducible refine Below.setCell ?_ ?_ _) | (with_reducible refine Below.alloc ?_ ?_ _) | (with_reducible refine Below.drew ?_) | (with_reducible refine belowN ?_ _) | (with_reducible refine below_after ?_ (by assumption) ?_) | omega | (simp; done) | (simp; omega)))⟩
  case round =>
    obtain ⟨k, u, rfl, hk, rfl, ho, hbw⟩ := hrel
    have hsz := hbw.size
    by_cases hlt : k < l.length
    · obtain ⟨x, hx⟩ := get_some hlt
      obtain ⟨b1, o1, _, h1, h2, _, rfl, rfl⟩ := (h.below hbw).idx Try.underlying22 sz_int k hx
      have q1 := h2.one
      by_cases hsame : 0 < k ∧ l[k - 1]? = some x
      · obtain ⟨j, rfl⟩ : ∃ j, k = j + 1 := ⟨k - 1, by omega⟩
        have hj : l[j]? = some x := by simpa using hsame.2
        simp only [Int.natCast_add, Int.cast_ofNat_Int] at h1
        obtain ⟨b0, o0, _, h5, h6, _, rfl, rfl⟩ := (h.below hbw).idx Try.underlying22 sz_int j hj
        have q0 := h6.one
        obtain ⟨m, a, n, r1, r2, r3, r4, r5⟩ := runsTo_inv (l := l) (k := j) (by omega)
        have hst := runsTo_same hx hj
        rw [r1] at hst ho
        rw [bump_snoc] at hst
        obtain ⟨c1, c2, ca, cc, c3, c4, k1, k2, k3, k4, k5, k6, hnew⟩ := own_bump ho
        have hlen : ∀ w1 ty, (Builtin.len_ #[23] ty #[u]).run Try.prog w1 = .ok (.int .i64 ((m.length : Int) + 1)) w1 := fun w1 ty => by
          have := ho.rd.len Try.underlying23 w1 ty
          simpa using this
        have HS := Lib.hid hst
        have HN := Lib.hid hnew
        clear hst hnew r1 r2 hx hj hsame ho
        go_wp2
        go_roundw
        case rel => exact ⟨j + 2, _, rfl, by omega, by go_num, by rw [HS.out]; exact HN.out, hbw.setCell (p := ⟨c3, c4, none⟩) k6 _⟩
        case measure => simp [intOf]; omega
      · have hst := Lib.hid (runsTo_diff hx hsame)
        have hrl := runsTo_len (l := l) hk
        obtain ⟨fs, hrow, hfs⟩ := ho.row
        have hdec : k = 0 ∨ ∃ j y, k = j + 1 ∧ l[j]? = some y ∧ ¬ y = x := by
          cases k with
          | zero => exact .inl rfl
          | succ j =>
            obtain ⟨y, hy⟩ := get_some (l := l) (k := j) (by omega)
            exact .inr ⟨j, y, rfl, hy, fun e => hsame ⟨by omega, by simp [hy, e]⟩⟩
        have HR := Lib.hid hrow
        have HF := Lib.hid hfs
        clear hx hsame ho hrow hfs
        obtain ⟨W1, hW1⟩ : ∃ W1, W1 = (wr.alloc (.cells #[.int .i64 x, .int .i64 1] 3)).alloc (.cells #[.slice (some ⟨wr.heap.size, 0, none⟩) 2 2] 22) := ⟨_, rfl⟩
        have hbW : Below wr.heap.size wr W1 := by rw [hW1]; exact ((Below.refl _ _).alloc (Nat.le_refl _) _).alloc (by simp) _
        have hg1 : W1.heap[wr.heap.size]? = some (.cells [.int .i64 x, .int .i64 1].toArray 3 (0, 0)) := by
          rw [hW1]
          exact (heap_alloc_old (wr.alloc _) _ (by simp)).trans (heap_alloc_new wr _)
        have hg2 : W1.heap[wr.heap.size + 1]? = some (.cells [.slice (some ⟨wr.heap.size, 0, none⟩) 2 2].toArray 22 (0, 0)) := by
          rw [hW1]
          have := heap_alloc_new (wr.alloc (.cells #[.int .i64 x, .int .i64 1] 3)) (.cells #[.slice (some ⟨wr.heap.size, 0, none⟩) 2 2] 22)
          simpa using this
        have hel : Els (α := Int) BIG W1 [.int .i64 x, .int .i64 1] [x, 1] [] := ⟨[_], [_], [], [], rfl, ⟨rfl, rfl⟩, Els.single ⟨rfl, rfl⟩, rfl⟩
        have hs2 : Sl BIG W1 (.slice (some ⟨wr.heap.size, 0, none⟩) 2 2) [x, 1] (own wr.heap.size 0 2) := by simpa [GoT.n] using sl_of_block hg1 hel (le_BIG (by simp))
        have hsrc : Src W1 (.slice (some ⟨wr.heap.size + 1, 0, none⟩) 1 1) [[x, 1]] (own wr.heap.size 0 2) := by
          refine Src.one (c := [.slice (some ⟨wr.heap.size, 0, none⟩) 2 2]) ?_ ⟨_, rfl, hs2⟩
          have := row_at (c1 := []) (c2 := [.slice (some ⟨wr.heap.size, 0, none⟩) 2 2]) (c3 := []) (by simpa using hg2)
          simpa using this
        have hfg : Fresh wr.heap.size W1 (own wr.heap.size 0 2) := fresh_block hg1 (Nat.le_refl _)
        have hlg : Live W1 (own wr.heap.size 0 2) := hs2.live
        have hdis : ∀ p ∈ own wr.heap.size 0 2, p ∉ rowP (GoT.n (List Int)) u := fun p hp hq => by
          have h1 := Live.lt (Live.append.1 HR.out.1.live).1 p hq
          have := (mem_own.1 hp).1
          omega
        have HSRC := Lib.hid hsrc
        have HW := Lib.hid hW1
        clear hg1 hg2 hel hs2 hsrc hW1
        rcases hdec with rfl | ⟨j, y, rfl, hy, hne⟩
        · have h1 : ∀ w1, (Instr.indexAt 22 v (.int .i64 0)).run Try.prog w1 = .ok (.pointer (some ⟨b1, o1, none⟩)) w1 := h1
          go_wp2_with (at_builtin; rw [← HW.out]; refine wpList_append_row rfl _ _ 23 rfl Try.underlying23 hi hz0 hz1 hz2 rfl rfl rfl (HR.out.below hbW) HSRC.out hdis ?c1 ?c2 ?c3 ?_)
          case c1 => exact le_BIG (by simp; omega)
          case c2 => simp; omega
          case c3 => have := hbW.size; omega
          intro v' w1 hr hw _
          have HO := Lib.hid (HR.out.grown HF.out hbW hfg hlg (by omega) hr hw)
          have HB := Lib.hid (below_after2 hbw (wrb (C := w.heap.size) hw hbW hsz (fun p hp => HR.out.2.1.ge p hp)) (Nat.le_refl _))
          clear hr hw
          go_wp2
          go_roundw
          case rel => exact ⟨1, _, rfl, by omega, by go_num, by rw [hst.out]; exact HO.out, HB.out⟩
          case measure => simp [intOf]; omega
        · obtain ⟨b0, o0, _, h5, h6, _, rfl, rfl⟩ := (h.below hbw).idx Try.underlying22 sz_int j hy
          have q0 := h6.one
          have e1 : (y == x) = false := by simpa using hne
          simp only [Int.natCast_add, Int.cast_ofNat_Int] at h1
          clear hy hne
          go_wp2_with (at_builtin; rw [← HW.out]; refine wpList_append_row rfl _ _ 23 rfl Try.underlying23 hi hz0 hz1 hz2 rfl rfl rfl (HR.out.below hbW) HSRC.out hdis ?c1 ?c2 ?c3 ?_)
          case c1 => exact le_BIG (by simp; omega)
          case c2 => simp; omega
          case c3 => have := hbW.size; omega
          intro v' w1 hr hw _
          have HO := Lib.hid (HR.out.grown HF.out hbW hfg hlg (by omega) hr hw)
          have HB := Lib.hid (below_after2 hbw (wrb (C := w.heap.size) hw hbW hsz (fun p hp => HR.out.2.1.ge p hp)) (Nat.le_refl _))
          clear hr hw
          go_wp2
          go_roundw
          case rel => exact ⟨j + 1 + 1, _, rfl, by omega, by go_num, by rw [hst.out]; exact HO.out, HB.out⟩
          case measure => simp [intOf]; omega
    · obtain rfl : k = l.length := by omega
      obtain ⟨fp, hs, hf⟩ := ho
      go_wp2
      go_ret
      exact ⟨_, _, rfl, hs, hf, hbw⟩
end Go.Proofs.Ytdbfgolabnomgaa
