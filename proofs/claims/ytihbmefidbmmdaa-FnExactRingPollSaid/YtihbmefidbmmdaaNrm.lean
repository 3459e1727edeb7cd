/- The normal form of an operation: the reference's walk. -/
import Derived.Test.YtihbmefidbmmdaaBkp
namespace Go.Proofs.Ytihbmefidbmmdaa
open Go.RowKit
theorem opOk_iff' {o : List DPart} : opOk o = true ↔ o.all partOk = true ∧ o.length ≤ 600 ∧ sumBut 2 o ≤ 200 ∧ sumBut 3 o ≤ 200 := by
  unfold opOk opFrom opTo sizeBut
  constructor
  · intro h
    simp only [Bool.and_eq_true, decide_eq_true_eq] at h
    obtain ⟨⟨h1, h2⟩, h3⟩ := h
    rw [if_pos h1] at h2 h3
    obtain ⟨h4, h5⟩ := partsOk_iff.1 h1
    exact ⟨h4, h5, h2, h3⟩
  · rintro ⟨h1, h2, h3, h4⟩
    have hp := partsOk_iff.2 ⟨h1, h2⟩
    simp only [Bool.and_eq_true, decide_eq_true_eq]
    rw [if_pos hp, if_pos hp]
    exact ⟨⟨hp, h3⟩, h4⟩
/-- what holds of a builder after k steps -/
structure Bst.inv (s : Bst) (k : Nat) : Prop where
  len : s.list.length ≤ 3 * k
  put : s.put.length ≤ 200 * k
  d0 : 0 ≤ s.drop
  d1 : s.drop ≤ 200 * k
  bd : ∀ p ∈ s.list, 0 ≤ p.n ∧ p.n ≤ 400 * k
theorem Bst.inv0 : Bst.inv ⟨[], [], 0⟩ 0 := ⟨by simp, by simp, by simp, by simp, fun _ h => (by cases h)⟩
theorem Bst.inv.flushed {s : Bst} {k : Nat} (h : s.inv k) : ∀ p ∈ s.flush.list, 0 ≤ p.n ∧ p.n ≤ 400 * k := by
  have h0 := h.d0
  have h1 := h.d1
  intro p hp
  unfold Bst.flush at hp
  simp only [List.mem_append] at hp
  rcases hp with (hp | hp) | hp
  · exact h.bd p hp
  · split at hp
    · cases hp
    · simp at hp; subst hp; simp; omega
  · split at hp
    · simp at hp; subst hp; simp; omega
    · cases hp
theorem Bst.inv.keep {s : Bst} {k : Nat} (h : s.inv k) {n : Int} (h0 : 0 ≤ n) (h1 : n ≤ 200) : (s.keep n).inv (k + 1) := by
  unfold Bst.keep
  split
  · exact ⟨by have := h.len; omega, by have := h.put; omega, h.d0, by have := h.d1; omega, fun p hp => by have := h.bd p hp; omega⟩
  · have hf := h.flushed
    have hl := flush_len s
    have hk := h.len
    have hx : (keepOn s.flush.list n).length ≤ s.flush.list.length + 1 ∧ ∀ p ∈ keepOn s.flush.list n, 0 ≤ p.n ∧ p.n ≤ 400 * k + 200 := by
      rcases List.eq_nil_or_concat s.flush.list with e | ⟨m, q, e⟩
      · rw [e, keepOn_nil]
        refine ⟨by simp, fun p hp => ?_⟩
        simp at hp; subst hp; simp; omega
      · rw [List.concat_eq_append] at e
        rw [e] at hf ⊢
        by_cases hq : q.kind = 1
        · rw [keepOn_keep m q n hq]
          refine ⟨by simp, fun p hp => ?_⟩
          rcases List.mem_append.1 hp with hp | hp
          · have := hf p (by simp [hp]); omega
          · simp at hp; subst hp
            have := hf q (by simp)
            simp; omega
        · rw [keepOn_other m q n hq]
          refine ⟨by simp, fun p hp => ?_⟩
          rcases List.mem_append.1 hp with hp | hp
          · have := hf p hp; omega
          · simp at hp; subst hp; simp; omega
    exact ⟨by have := hx.1; simp only; omega, by simp, by simp, by simp; omega, fun p hp => by have := hx.2 p hp; omega⟩
theorem Bst.inv.puts {s : Bst} {k : Nat} (h : s.inv k) {l : List Int} (hl : l.length ≤ 200) : (s.puts l).inv (k + 1) :=
  ⟨by have := h.len; simp only [Bst.puts]; omega, by have := h.put; simp [Bst.puts]; omega, h.d0, by have := h.d1; simp only [Bst.puts]; omega, fun p hp => by have := h.bd p hp; omega⟩
theorem Bst.inv.drops {s : Bst} {k : Nat} (h : s.inv k) {n : Int} (h0 : 0 ≤ n) (h1 : n ≤ 200) : (s.drops n).inv (k + 1) :=
  ⟨by have := h.len; simp only [Bst.drops]; omega, by have := h.put; simp only [Bst.drops]; omega, by have := h.d0; simp only [Bst.drops]; omega, by have := h.d1; simp only [Bst.drops]; omega, fun p hp => by have := h.bd p hp; omega⟩
def bstTo (o : List DPart) (k : Nat) : Bst := (o.take k).foldl Bst.step ⟨[], [], 0⟩
theorem bstTo_succ {o : List DPart} {k : Nat} {p : DPart} (h : o[k]? = some p) : bstTo o (k + 1) = (bstTo o k).step p := by
  unfold bstTo
  rw [take_snoc h, List.foldl_append]
  rfl
theorem bstTo_inv {o : List DPart} (hall : o.all partOk = true) : ∀ k, k ≤ o.length → (bstTo o k).inv k
  | 0, _ => by unfold bstTo; simpa using Bst.inv0
  | k + 1, hk => by
    obtain ⟨p, hp⟩ := get_some (l := o) (k := k) (by omega)
    have ih := bstTo_inv hall k (by omega)
    rw [bstTo_succ hp]
    unfold Bst.step
    rcases partOk_cases (all_at hall hp) with ⟨kx, g1, g2, g3⟩ | ⟨kx, g1, g2, _⟩ | ⟨kx, g1, g2, g3⟩
    · rw [if_pos kx]; exact ih.keep g1 g2
    · rw [if_neg (by omega), if_pos kx]; exact ih.puts g2
    · rw [if_neg (by omega), if_neg (by omega)]; exact ih.drops g1 g2
theorem Bld.below {B : Nat} {w w' : World} {pl pp pd : Pos} {s : Bst} {fp : List Pos} (h : Bld B w pl pp pd s fp) (hb : Below w.heap.size w w') : Bld B w' pl pp pd s fp := by
  obtain ⟨vl, vp, fl, fq, hbl, hp, hd, sq, rfl, hfr⟩ := h.open
  have hl : ∀ p ∈ bpl pl pp pd ++ (fl ++ fq), p.1 < w.heap.size := by
    intro p hp
    rcases List.mem_append.1 hp with hp | hp
    · exact Live.lt hbl.live p (List.mem_append.2 (.inl hp))
    · rcases List.mem_append.1 hp with hp | hp
      · exact Live.lt hbl.live p (List.mem_append.2 (.inr hp))
      · exact Live.lt sq.live p hp
  have hb2 := hbl.below hb
  exact ⟨⟨vl, vp, fl, fq, hb2.cl, (hb.cell (p := ⟨pp.1, pp.2, none⟩) (hl pp (by simp [bpl]))).trans hp, (hb.cell (p := ⟨pd.1, pd.2, none⟩) (hl pd (by simp [bpl]))).trans hd, hb2.sl, sq.belowW hb, rfl⟩, hfr.belowL hb hl⟩
theorem bld_new (w : World) (E : TypeId) (B : Nat) (hB : B ≤ w.heap.size) : Bld B (w.alloc (.cells #[.slice none 0 0, .slice none 0 0, .int .i64 0] E)) (w.heap.size, 0) (w.heap.size, 1) (w.heap.size, 2) ⟨[], [], 0⟩ (bpl (w.heap.size, 0) (w.heap.size, 1) (w.heap.size, 2) ++ ([] ++ [])) := by
  have hg := heap_alloc_new w (.cells #[.slice none 0 0, .slice none 0 0, .int .i64 0] E)
  refine ⟨⟨.slice none 0 0, .slice none 0 0, [], [], by simp, by simp, by simp, Sl.nil, Sl.nil, rfl⟩, ?_⟩
  refine ⟨by simp [bpl], fun p hp => ?_, fun p hp => ?_⟩
  · simp only [bpl, List.append_nil, List.mem_cons, List.not_mem_nil, or_false] at hp
    rcases hp with rfl | rfl | rfl <;> exact hB
  · simp only [bpl, List.append_nil, List.mem_cons, List.not_mem_nil, or_false] at hp
    rcases hp with rfl | rfl | rfl <;> exact row_frozen hg
theorem opNorm_yes {o : List DPart} (h : opOk o = true) : opNorm o = (bstTo o o.length).flush.list := by unfold opNorm; rw [if_pos h]; unfold normal bstTo; rw [List.take_length]
theorem opNorm_no {o : List DPart} (h : ¬ opOk o = true) : opNorm o = [] := if_neg h
set_option maxHeartbeats 4000000 in
set_option maxRecDepth 100000 in
theorem spec_OpNorm_c (v : Value) (o : List DPart) (w : World) (h : RdS w v o) : Calls Try.prog 92 #[v] w (GivesS w (opNorm o)) := by
  have hl := fun w1 ty => h.len Try.underlying27 w1 ty
  have ba := h.le
  by_cases hp : opOk o = true
  · obtain ⟨hall, h600, _, _⟩ := opOk_iff'.1 hp
    have HALL := Lib.hid hall
    have HV := Lib.hid (opNorm_yes hp)
    clear hall
    go_enter Try.func92, Try.ntmps92
    go_wp2_with fail
    refine (spec_OpOk_c _ o _ (h.below (by repeat' (first | (with_reducible exact Below.refl _ _) | (with_reducible assumption) | (with_reducible refine Below.setCell ?_ ?_ _) | (with_reducible refine Below.alloc ?_ ?_ _) | (with_reducible refine Below.drew ?_) | (with_reducible refine belowN ?_ _) | (with_reducible refine below_after ?_ (by assumption) ?_) | omega | (simp; done) | (simp; omega))))).mono ?_
    rintro e w1 ⟨rfl, hb1⟩
    have s1 := hb1.size
    (try simp at s1)
    obtain ⟨hc1, hf1⟩ := bcell hb1
    clear hc1 hf1
    go_wp2
    go_loopw [13] (fun i wr => ∃ (k : Nat) (fp : List Pos), k ≤ o.length ∧ i = .int .i64 k ∧ Bld w.heap.size wr (w1.heap.size, 0) (w1.heap.size, 1) (w1.heap.size, 2) (bstTo o k) fp ∧ Below w.heap.size w wr) (fun i _ => o.length - (intOf i).toNat)
    case atStart => exact ⟨0, _, Nat.zero_le _, rfl, bld_new w1 _ _ s1, (by repeat' (first | (with_reducible exact Below.refl _ _) | (with_reducible assumption) | (with_reducible refine Below.setCell ?_ ?_ _) | (with_reducible refine Below.alloc ?_ ?_ _) | (with_reducible refine Below.drew ?_) | (with_reducible refine belowN ?_ _) | (with_reducible refine below_after ?_ (by assumption) ?_) | omega | (simp; done) | (simp; omega)))⟩
    case round =>
      obtain ⟨k, fp, hk, rfl, hb, hbw⟩ := hrel
      have hsz := hbw.size
      have inv := bstTo_inv HALL.out k hk
      have i1 := inv.len
      have i2 := inv.put
      have i3 := inv.d0
      have i4 := inv.d1
      by_cases hlt : k < o.length
      · obtain ⟨p, hx⟩ := get_some hlt
        obtain ⟨b1, o1, cs, g1, g2, g3⟩ := (h.below hbw).idx Try.underlying27 szi_DPart k hx
        obtain ⟨v_signs, rfl, r_signs⟩ := inv_DPart g3
        have q0 := g2.zero
        have q1 := g2 1 _ rfl
        have q2 := g2 2 _ rfl
        obtain ⟨aa, ca, rfl⟩ := r_signs.isSlice
        have hst := bstTo_succ hx
        have hpo := all_at HALL.out hx
        clear hx
        rcases partOk_cases hpo with ⟨kx, n1, n2, n3⟩ | ⟨kx, n1, n2, _⟩ | ⟨kx, n1, n2, n3⟩
        · rw [kx] at q0
          have HS : Hid (bstTo o (k + 1) = (bstTo o k).keep p.n) := Lib.hid (by rw [hst]; unfold Bst.step; rw [if_pos kx])
          have HFL := Lib.hid inv.flushed
          clear hst hpo kx inv
          go_wp2_with fail
          refine (spec_l02Keep_c w.heap.size w1.heap.size (bstTo o k) fp p.n _ (hb.below (by repeat' (first | (with_reducible exact Below.refl _ _) | (with_reducible assumption) | (with_reducible refine Below.setCell ?_ ?_ _) | (with_reducible refine Below.alloc ?_ ?_ _) | (with_reducible refine Below.drew ?_) | (with_reducible refine belowN ?_ _) | (with_reducible refine below_after ?_ (by assumption) ?_) | omega | (simp; done) | (simp; omega)))) (by simp; omega) (by omega) i3 (by omega) n1 (by omega) (fun q hq => by have := HFL.out q hq; omega)).mono ?_
          rintro e w2 ⟨rfl, fp', hb', hw', hn'⟩
          have HB := Lib.hid hb'
          have HBW : Hid (Below w.heap.size w w2) := Lib.hid (hbw.trans ((((Below.refl wr.heap.size wr).alloc (Nat.le_refl _) _).mono hsz).trans (hw'.below (by simp; omega) hb.fr.ge)))
          clear hb' hw' hn'
          go_wp2
          go_roundw
          case rel => exact ⟨k + 1, fp', by omega, by go_num, by rw [HS.out]; exact HB.out, HBW.out⟩
          case measure => simp [intOf]; omega
        · rw [kx] at q0
          have HS : Hid (bstTo o (k + 1) = (bstTo o k).puts p.signs) := Lib.hid (by rw [hst]; unfold Bst.step; rw [if_neg (by omega), if_pos kx])
          clear hst hpo kx inv
          go_wp2_with fail
          refine (spec_l02Put_c w.heap.size w1.heap.size (bstTo o k) fp _ p.signs _ (hb.below (by repeat' (first | (with_reducible exact Below.refl _ _) | (with_reducible assumption) | (with_reducible refine Below.setCell ?_ ?_ _) | (with_reducible refine Below.alloc ?_ ?_ _) | (with_reducible refine Below.drew ?_) | (with_reducible refine belowN ?_ _) | (with_reducible refine below_after ?_ (by assumption) ?_) | omega | (simp; done) | (simp; omega)))) (by simp; omega) (r_signs.below (by repeat' (first | (with_reducible exact Below.refl _ _) | (with_reducible assumption) | (with_reducible refine Below.setCell ?_ ?_ _) | (with_reducible refine Below.alloc ?_ ?_ _) | (with_reducible refine Below.drew ?_) | (with_reducible refine belowN ?_ _) | (with_reducible refine below_after ?_ (by assumption) ?_) | omega | (simp; done) | (simp; omega)))) (by omega)).mono ?_
          rintro e w2 ⟨rfl, fp', hb', hw', hn'⟩
          have HB := Lib.hid hb'
          have HBW : Hid (Below w.heap.size w w2) := Lib.hid (hbw.trans ((((Below.refl wr.heap.size wr).alloc (Nat.le_refl _) _).mono hsz).trans (hw'.below (by simp; omega) hb.fr.ge)))
          clear hb' hw' hn'
          go_wp2
          go_roundw
          case rel => exact ⟨k + 1, fp', by omega, by go_num, by rw [HS.out]; exact HB.out, HBW.out⟩
          case measure => simp [intOf]; omega
        · rw [kx] at q0
          have HS : Hid (bstTo o (k + 1) = (bstTo o k).drops p.n) := Lib.hid (by rw [hst]; unfold Bst.step; rw [if_neg (by omega), if_neg (by omega)])
          clear hst hpo kx inv
          go_wp2_with fail
          refine (spec_l02Drop_c w.heap.size w1.heap.size (bstTo o k) fp p.n _ (hb.below (by repeat' (first | (with_reducible exact Below.refl _ _) | (with_reducible assumption) | (with_reducible refine Below.setCell ?_ ?_ _) | (with_reducible refine Below.alloc ?_ ?_ _) | (with_reducible refine Below.drew ?_) | (with_reducible refine belowN ?_ _) | (with_reducible refine below_after ?_ (by assumption) ?_) | omega | (simp; done) | (simp; omega)))) i3 (by omega) n1 (by omega)).mono ?_
          rintro e w2 ⟨rfl, fp', hb', hw', hn'⟩
          have HB := Lib.hid hb'
          have HBW : Hid (Below w.heap.size w w2) := Lib.hid (hbw.trans ((((Below.refl wr.heap.size wr).alloc (Nat.le_refl _) _).mono hsz).trans (hw'.below (by simp; omega) hb.fr.ge)))
          clear hb' hw' hn'
          go_wp2
          go_roundw
          case rel => exact ⟨k + 1, fp', by omega, by go_num, by rw [HS.out]; exact HB.out, HBW.out⟩
          case measure => simp [intOf]; omega
      · obtain rfl : k = o.length := by omega
        go_wp2_with fail
        refine (spec_l02Done_c w.heap.size w1.heap.size (bstTo o o.length) fp _ hb hsz (by omega) i3 (by omega)).mono ?_
        rintro e w2 ⟨v2, rfl, ho, hw'⟩
        have HO := Lib.hid ho
        have HBW : Hid (Below w.heap.size w w2) := Lib.hid (hbw.trans (hw'.below hsz hb.fr.ge))
        clear ho hw'
        go_wp2
        go_ret
        rw [HV.out]
        exact ⟨_, rfl, HO.out, HBW.out⟩
  · have HV := Lib.hid (opNorm_no hp)
    have hp : opOk o = false := by simpa using hp
    go_enter Try.func92, Try.ntmps92
    go_wp2_with fail
    refine (spec_OpOk_c _ o _ (h.below (by repeat' (first | (with_reducible exact Below.refl _ _) | (with_reducible assumption) | (with_reducible refine Below.setCell ?_ ?_ _) | (with_reducible refine Below.alloc ?_ ?_ _) | (with_reducible refine Below.drew ?_) | (with_reducible refine belowN ?_ _) | (with_reducible refine below_after ?_ (by assumption) ?_) | omega | (simp; done) | (simp; omega))))).mono ?_
    rintro e w1 ⟨rfl, hb1⟩
    have s1 := hb1.size
    (try simp at s1)
    obtain ⟨hc1, hf1⟩ := bcell hb1
    go_wp2
    go_ret
    rw [HV.out]
    exact ⟨_, rfl, OwnS.nil, (by repeat' (first | (with_reducible exact Below.refl _ _) | (with_reducible assumption) | (with_reducible refine Below.setCell ?_ ?_ _) | (with_reducible refine Below.alloc ?_ ?_ _) | (with_reducible refine Below.drew ?_) | (with_reducible refine belowN ?_ _) | (with_reducible refine below_after ?_ (by assumption) ?_) | omega | (simp; done) | (simp; omega)))⟩
end Go.Proofs.Ytihbmefidbmmdaa
