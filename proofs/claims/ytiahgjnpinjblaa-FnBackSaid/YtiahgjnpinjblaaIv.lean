/- Taking back. -/
import Derived.Test.YtiahgjnpinjblaaApl
import Derived.Test.YtiahgjnpinjblaaNfs
import Derived.Test.YtiahgjnpinjblaaCms
import Derived.Test.YtiahgjnpinjblaaChb
namespace Go.Proofs.Ytiahgjnpinjblaa
open Go.RowKit
/-- one part taken back: what has come out, and how far it is in the text -/
def invStep (t : List Int) (s : List DPart × Nat) (p : DPart) : List DPart × Nat :=
  if p.kind = 1 then (s.1 ++ [p], s.2 + p.n.toNat) else if p.kind = 2 then (s.1 ++ [⟨3, p.signs.length, []⟩], s.2) else (s.1 ++ [⟨2, 0, (t.take (s.2 + p.n.toNat)).drop s.2⟩], s.2 + p.n.toNat)
def invF (t : List Int) (o : List DPart) : List DPart × Nat := o.foldl (invStep t) ([], 0)
theorem invF_snoc {t : List Int} {o : List DPart} {k : Nat} {p : DPart} (h : o[k]? = some p) : invF t (o.take (k + 1)) = invStep t (invF t (o.take k)) p := by
  unfold invF
  rw [take_snoc h, List.foldl_append]
  rfl
def invert (o : List DPart) (t : List Int) : Option (List DPart) := if fits o t = true then some (normal (invF t (opNorm o)).1) else none
theorem invert_no {o : List DPart} {t : List Int} (h : fits o t = false) : invert o t = none := if_neg (by simp [h])
theorem invert_yes {o : List DPart} {t : List Int} (h : fits o t = true) : invert o t = some (normal (invF t (opNorm o)).1) := if_pos h
theorem fits_app (o : List DPart) (t : List Int) : (applyP o t).2 = fits o t := by
  cases h : fits o t
  · rw [fits_no h]
  · rw [fits_yes h]
theorem invF_at (t : List Int) {o : List DPart} (hall : o.all partOk = true) : ∀ k, k ≤ o.length → ((invF t (o.take k)).2 : Int) = sumBut 2 (o.take k)
  | 0, _ => by simp [invF, sumBut]
  | k + 1, hk => by
    obtain ⟨x, hx⟩ := get_some (l := o) (k := k) (by omega)
    have ih := invF_at t hall k (by omega)
    rw [invF_snoc hx, sumBut_snoc 2 hx, ← ih]
    rcases partOk_cases (all_at hall hx) with ⟨kx, g1, g2, g3⟩ | ⟨kx, g1, g2, _⟩ | ⟨kx, g1, g2, g3⟩
    · simp [invStep, kx, psize, g3]; omega
    · simp [invStep, kx]
    · simp [invStep, kx, psize, g3]; omega
theorem invF_fits {t : List Int} {o : List DPart} {k : Nat} {p : DPart} (hall : o.all partOk = true) (hfr : sumBut 2 o = t.length) (hp : o[k]? = some p) (hk : ¬ p.kind = 2) : (invF t (o.take k)).2 + p.n.toNat ≤ t.length := by
  have hlt := (List.getElem?_eq_some_iff.1 hp).1
  have ha := invF_at t hall (k + 1) (by omega)
  have hm := sumBut_mono hall 2 (k + 1)
  rw [invF_snoc hp] at ha
  unfold invStep at ha
  rw [if_neg hk] at ha
  split at ha <;> (simp only at ha; omega)
theorem invF_len (t : List Int) {o : List DPart} : ∀ k, k ≤ o.length → (invF t (o.take k)).1.length = k
  | 0, _ => by simp [invF]
  | k + 1, hk => by
    obtain ⟨x, hx⟩ := get_some (l := o) (k := k) (by omega)
    have ih := invF_len t (o := o) k (by omega)
    rw [invF_snoc hx]
    unfold invStep
    split
    · simp [ih]
    · split <;> simp [ih]
theorem invF_ok {t : List Int} {o : List DPart} (hall : o.all partOk = true) (ht : t.all signOk = true) (hfr : sumBut 2 o = t.length) : ∀ k, k ≤ o.length → (invF t (o.take k)).1.all partOk = true ∧ sumBut 2 (invF t (o.take k)).1 = sumBut 3 (o.take k) ∧ sumBut 3 (invF t (o.take k)).1 = sumBut 2 (o.take k)
  | 0, _ => by simp [invF, sumBut]
  | k + 1, hk => by
    obtain ⟨x, hx⟩ := get_some (l := o) (k := k) (by omega)
    obtain ⟨i1, i2, i3⟩ := invF_ok hall ht hfr k (by omega)
    have hf := fun h => invF_fits (t := t) hall hfr hx h
    have hxo := all_at hall hx
    rw [invF_snoc hx, sumBut_snoc 2 hx, sumBut_snoc 3 hx, ← i2, ← i3]
    rcases partOk_cases hxo with ⟨kx, g1, g2, g3⟩ | ⟨kx, g1, g2, _⟩ | ⟨kx, g1, g2, g3⟩
    · have e : invStep t (invF t (o.take k)) x = ((invF t (o.take k)).1 ++ [x], (invF t (o.take k)).2 + x.n.toNat) := by unfold invStep; rw [if_pos kx]
      rw [e]
      simp only [List.all_append, i1, List.all_cons, hxo, List.all_nil, Bool.and_self, sumBut_append, sumBut_cons, sumBut_nil, kx]
      simp
    · have e : invStep t (invF t (o.take k)) x = ((invF t (o.take k)).1 ++ [⟨3, x.signs.length, []⟩], (invF t (o.take k)).2) := by unfold invStep; rw [if_neg (by omega), if_pos kx]
      have hp : partOk ⟨3, x.signs.length, []⟩ = true := by simp [partOk, within]; omega
      have hs : psize x = x.signs.length := by simp [psize, g1]
      rw [e]
      simp only [List.all_append, i1, List.all_cons, hp, List.all_nil, Bool.and_self, sumBut_append, sumBut_cons, sumBut_nil, kx, hs]
      simp [psize]
    · have e : invStep t (invF t (o.take k)) x = ((invF t (o.take k)).1 ++ [⟨2, 0, (t.take ((invF t (o.take k)).2 + x.n.toNat)).drop (invF t (o.take k)).2⟩], (invF t (o.take k)).2 + x.n.toNat) := by unfold invStep; rw [if_neg (by omega), if_neg (by omega)]
      have hl : ((t.take ((invF t (o.take k)).2 + x.n.toNat)).drop (invF t (o.take k)).2).length = x.n.toNat := by have := hf (by omega); simp; omega
      have hso : ((t.take ((invF t (o.take k)).2 + x.n.toNat)).drop (invF t (o.take k)).2).all signOk = true := all_drop (all_take ht _) _
      rw [e]
      generalize (t.take ((invF t (o.take k)).2 + x.n.toNat)).drop (invF t (o.take k)).2 = S at hl hso ⊢
      have hp : partOk ⟨2, 0, S⟩ = true := by simp [partOk, signsOk, hso]; omega
      have hs : psize x = x.n := by simp [psize, g3]
      simp only [List.all_append, i1, List.all_cons, hp, List.all_nil, Bool.and_self, sumBut_append, sumBut_cons, sumBut_nil, kx, hs]
      simp [psize, hl]
      omega
theorem invF_all {t : List Int} {o : List DPart} (ho : opOk o = true) (ht : t.all signOk = true) (hfr : sumBut 2 o = t.length) : opOk (invF t o).1 = true := by
  obtain ⟨h1, h2, h3, h4⟩ := opOk_iff.1 ho
  have h := invF_ok h1 ht hfr o.length (Nat.le_refl _)
  have hl := invF_len t (o := o) o.length (Nat.le_refl _)
  rw [List.take_length] at h hl
  exact opOk_iff.2 ⟨h.1, by omega, by omega, by omega⟩
/-- a list that is read and a builder that is laid -/
structure IS (w0 : World) (bx : Nat) (vn : Value) (o : List DPart) (fn : List Pos) (w : World) (s : Bst) : Prop where
  o1 : w0.heap.size ≤ bx
  o2 : bx < w.heap.size
  n : Sl BIG w vn o fn
  x : ∃ fx, Bld bx w (bx, 0) (bx, 1) (bx, 2) s fx ∧ (∀ p ∈ fx, p.1 < w.heap.size) ∧ ∀ p ∈ fx, p ∉ fn
  bel : Below w0.heap.size w0 w
section
variable {w0 w : World} {bx : Nat} {vn : Value} {o : List DPart} {fn : List Pos} {s : Bst}
theorem IS.below {w' : World} (h : IS w0 bx vn o fn w s) (hb : Below w.heap.size w w') : IS w0 bx vn o fn w' s := by
  obtain ⟨fx, h1, h2, h3⟩ := h.x
  have hs := hb.size
  exact ⟨h.o1, Nat.lt_of_lt_of_le h.o2 hs, h.n.belowW hb, ⟨fx, h1.below hb, fun p hp => Nat.lt_of_lt_of_le (h2 p hp) hs, h3⟩, h.bel.trans (hb.mono h.bel.size)⟩
theorem IS.step (h : IS w0 bx vn o fn w s) : ∃ fx, Bld bx w (bx, 0) (bx, 1) (bx, 2) s fx ∧ (∀ p ∈ fx, p.1 < w.heap.size) ∧ ∀ (W : World), Below w.heap.size w W → ∀ (s' : Bst) (e : Ending) (w' : World), BStep bx W (bx, 0) (bx, 1) (bx, 2) s' fx e w' → e = .returned (.tuple #[]) ∧ IS w0 bx vn o fn w' s' ∧ Wr fx W w' := by
  obtain ⟨fx, h1, h2, h3⟩ := h.x
  refine ⟨fx, h1, h2, fun W hb s' e w' hbs => ?_⟩
  obtain ⟨he, f, k1, k2, k3⟩ := hbs
  have hW := hb.size
  have hs := k2.size
  have o1 := h.o1
  have o2 := h.o2
  have hn := h.n.belowW hb
  obtain ⟨vl, vp, fl, fq, hbl, _, _, sq, hf, _⟩ := k1.open
  have hl : ∀ p ∈ f, p.1 < w'.heap.size := by
    intro p hp
    rw [hf] at hp
    rcases List.mem_append.1 hp with hp | hp
    · exact Live.lt hbl.live p (List.mem_append.2 (.inl hp))
    · rcases List.mem_append.1 hp with hp | hp
      · exact Live.lt hbl.live p (List.mem_append.2 (.inr hp))
      · exact Live.lt sq.live p hp
  have hge := h1.fr.ge
  refine ⟨he, ⟨o1, by omega, hn.wr k2 fun p hp hq => h3 p hq hp, ⟨f, k1, hl, fun p hp hq => ?_⟩, (h.bel.trans (hb.mono h.bel.size)).trans (k2.below (by have := h.bel.size; omega) fun p hp => by have := hge p hp; omega)⟩, k2⟩
  rcases k3 p hp with hp | hp
  · exact h3 p hp hq
  · have := Live.lt hn.live p hq; omega
end
theorem IS.new {w0 w1 w2 : World} {E : TypeId} {v : Value} {o : List DPart} {fn : List Pos} (hb : Below w0.heap.size w0 w1) (hb2 : Below (w1.alloc (.cells #[.slice none 0 0, .slice none 0 0, .int .i64 0] E)).heap.size (w1.alloc (.cells #[.slice none 0 0, .slice none 0 0, .int .i64 0] E)) w2) (hn : Sl BIG w2 v o fn) (hf : Fresh (w1.alloc (.cells #[.slice none 0 0, .slice none 0 0, .int .i64 0] E)).heap.size w2 fn) : IS w0 w1.heap.size v o fn w2 (bstOf []) := by
  have k1 := bld_new w1 E w1.heap.size (Nat.le_refl _)
  have e1 : (w1.alloc (.cells #[.slice none 0 0, .slice none 0 0, .int .i64 0] E)).heap.size = w1.heap.size + 1 := by simp
  have hs := hb2.size
  rw [e1] at hs hf
  refine ⟨hb.size, by omega, hn, ⟨_, k1.below hb2, ?_, ?_⟩, (hb.alloc hb.size _).trans (hb2.mono (by rw [e1]; have := hb.size; omega))⟩
  · intro p hp
    simp only [bpl, List.append_nil, List.mem_cons, List.not_mem_nil, or_false] at hp
    rcases hp with rfl | rfl | rfl <;> simp <;> omega
  · intro p hp hq
    have := hf.ge p hq
    simp only [bpl, List.append_nil, List.mem_cons, List.not_mem_nil, or_false] at hp
    rcases hp with rfl | rfl | rfl <;> simp at this <;> omega
theorem step_dropI (s : Bst) (n : Int) : s.step ⟨3, n, []⟩ = s.drops n := step_drop s rfl
theorem step_putI (s : Bst) (l : List Int) : s.step ⟨2, 0, l⟩ = s.puts l := step_put s rfl
end Go.Proofs.Ytiahgjnpinjblaa

namespace Go.Proofs.Ytiahgjnpinjblaa
open Go.RowKit
set_option maxHeartbeats 4000000 in
set_option maxRecDepth 100000 in
theorem impl_Invert_c (vo vt : Value) (o : List DPart) (t : List Int) (w : World) (ho : RdS w vo o) (ht : RdS w vt t) : Calls Try.prog 23 #[vo, vt] w (OutCo w (invert o t)) := by
  obtain ⟨i0, hi, hz0, hz1, hz2⟩ := info_parts info_part
  go_enter Try.func23, Try.ntmps23
  go_wp2_with fail
  refine (impl_Apply_c o t _ _ _ ho ht).mono ?_
  rintro e' w1 ⟨va, fa, rfl, sa, ka, hb1⟩
  rw [fits_app]
  obtain ⟨aa0, ca0, rfl⟩ := sa.isS
  clear sa ka
  by_cases hf : fits o t = true
  rotate_left
  · have hf : fits o t = false := by simpa using hf
    have HV := Lib.hid (invert_no hf)
    rw [hf]
    go_wp2
    exact bodyPost_ret (v := .tuple #[.slice none 0 0, .bool false]) (by simp [results, Try.results23, go_sem, *]) rfl (OutCo.no HV.out hb1)
  rw [hf]
  have HV := Lib.hid (invert_yes hf)
  have hff := hf
  simp only [fits, Bool.and_eq_true, decide_eq_true_eq] at hff
  obtain ⟨⟨h1, ht0⟩, h2⟩ := hff
  obtain ⟨n1, n2, n3, _⟩ := opNorm_ok h1
  obtain ⟨N, hN⟩ : ∃ N, opNorm o = N := ⟨_, rfl⟩
  rw [hN] at n1 n2 n3
  obtain ⟨hall, h600, h200, h300⟩ := opOk_iff.1 n1
  have hfr : sumBut 2 N = t.length := by rw [n2, ← opFrom_of h1]; exact h2
  have htl : t.length ≤ 200 := (textOk_iff.1 ht0).1
  have HNO := Lib.hid n1
  have HN := Lib.hid hN
  have HALL := Lib.hid hall
  have HFR := Lib.hid hfr
  have HTO := Lib.hid (textOk_iff.1 ht0).2
  have s1 := hb1.size
  clear hf h1 ht0 h2 n1 n2 n3 hall hfr h200 h300
  go_wp2_with fail
  refine (impl_OpNorm_c vo o _ (ho.below hb1)).mono ?_
  rintro e' W ⟨v2, rfl, ho2, hb2⟩
  rw [hN] at ho2
  obtain ⟨fN, hsN, hfN⟩ := ho2
  obtain ⟨aN, cN, rfl⟩ := hsN.isS
  have HRN : Hid (RdS W (.slice aN N.length cN) N) := Lib.hid ⟨_, hsN⟩
  have HBW : Hid (Below w.heap.size w W) := Lib.hid (hb1.trans (hb2.mono s1))
  have hlN := fun w1 ty => HRN.out.len Try.underlying32 w1 ty
  have sW := HBW.out.size
  clear hsN hfN hb2 hb1 hN s1
  go_wp2_with fail
  go_loopw [8, 9, 23] (fun u at_ i wr => ∃ (k : Nat) (u' : Value) (fs : List Pos), u' = u ∧ k ≤ N.length ∧ i = .int .i64 k ∧ at_ = .int .i64 (invF t (N.take k)).2 ∧ Row W.heap.size wr u' (invF t (N.take k)).1 fs ∧ (∀ q ∈ fs, q.1 < W.heap.size) ∧ Below W.heap.size W wr) (fun _ _ i _ => N.length - (intOf i).toNat)
  case atStart => exact ⟨0, _, [], rfl, Nat.zero_le _, rfl, rfl, Row.empty _ _ _, (fun _ h => by cases h), Below.refl _ _⟩
  case round =>
    obtain ⟨k, u, fs, rfl, hk, rfl, rfl, hrow, hfs, hbw⟩ := hrel
    have hsz := hbw.size
    by_cases hlt : k < N.length
    · obtain ⟨p, hp⟩ := get_some hlt
      have hpo := all_at HALL.out hp
      have hst := invF_snoc (t := t) hp
      have hfit := fun h => invF_fits (t := t) HALL.out HFR.out hp h
      have hok := (invF_ok HALL.out HTO.out HFR.out k hk).1
      have hln := invF_len t (o := N) k hk
      obtain ⟨X, a, hXa⟩ : ∃ X a, invF t (N.take k) = (X, a) := ⟨_, _, rfl⟩
      rw [hXa] at hst hfit hok hln hrow
      rw [hXa]
      simp only at hst hfit hok hln hrow ⊢
      obtain ⟨b1, o1, cs, g1, g2, g3⟩ := HRN.out.idx Try.underlying32 szi_DPart k hp
      obtain ⟨v_signs, rfl, fg, hsg⟩ := inv_DPart g3
      have l1 : b1 < W.heap.size := World.block_lt_of_cell? (w := W) (a := ⟨b1, o1, none⟩) g2.zero
      have q0 : wr.cell? ⟨b1, o1, none⟩ = some _ := (hbw.cell (p := ⟨b1, o1, none⟩) l1).trans g2.zero
      have q1 : wr.cell? ⟨b1, o1 + 1, none⟩ = some _ := (hbw.cell (p := ⟨b1, o1 + 1, none⟩) l1).trans (g2 1 _ rfl)
      have q2 : wr.cell? ⟨b1, o1 + 2, none⟩ = some _ := (hbw.cell (p := ⟨b1, o1 + 2, none⟩) l1).trans (g2 2 _ rfl)
      obtain ⟨aa, ca, rfl⟩ := hsg.isS
      have HSG := Lib.hid hsg
      have HFG := Lib.hid (Live.lt hsg.live)
      have HROW := Lib.hid hrow
      have HFS := Lib.hid hfs
      have HBWR := Lib.hid hbw
      have HRL : Hid (∀ q ∈ rowP (GoT.n DPart) u, q.1 < wr.heap.size) := Lib.hid (Live.lt (Live.append.1 hrow.1.live).1)
      have hl2 : (k : Int) < (N.length : Int) := by omega
      clear hXa hp g2 g3 hsg hrow hfs hbw hok
      rcases partOk_cases hpo with ⟨kx, n1, n2, n3⟩ | ⟨kx, n1, n2, _⟩ | ⟨kx, n1, n2, n3⟩
      · obtain ⟨n, hn⟩ : ∃ n : Nat, p.n = n := ⟨p.n.toNat, by omega⟩
        have han := hfit (by omega)
        simp only [invStep, kx, hn, if_true, Int.toNat_natCast] at hst han
        have HST := Lib.hid hst
        have b2 : n ≤ 200 := by omega
        have hrd : GoT.rd BIG (wr.alloc (.cells #[.int .i64 p.kind, .int .i64 p.n, .slice aa p.signs.length ca] 60)) [.int .i64 p.kind, .int .i64 p.n, .slice aa p.signs.length ca] p fg := ⟨_, fg, rfl, HSG.out.belowW (HBWR.out.alloc hsz _), rfl⟩
        rw [kx, hn] at hrd
        have HRD := Lib.hid hrd
        rw [kx] at q0
        rw [hn] at q1
        clear hst hfit hpo kx n1 n2 n3 hn hrd
        have hsr := src_built (w := (wr.alloc (.cells #[.int .i64 1, .int .i64 n, .slice aa p.signs.length ca] 60))) (c := [.int .i64 1, .int .i64 n, .slice aa p.signs.length ca]) (x := p) 60 HRD.out
        have esr : (wr.alloc (.cells #[.int .i64 1, .int .i64 n, .slice aa p.signs.length ca] 60)).heap.size = wr.heap.size + 1 := by simp
        rw [esr] at hsr
        have HSRC := Lib.hid hsr
        clear hsr esr
        go_wp2_with (at_builtin; go_must (refine wpList_append_row rfl _ _ 32 rfl Try.underlying32 hi hz0 hz1 hz2 rfl rfl rfl ((HROW.out.below ((Below.refl _ _).alloc (Nat.le_refl _) _)).below ((Below.refl _ _).alloc (Nat.le_refl _) _)) HSRC.out (fun q hq hm => by have e1 := HROW.out.2.1.ge q hm; have e2 := HFG.out q hq; omega) ?c1 ?c2 ?c3 ?_))
        case c1 => exact le_BIG (by simp; omega)
        case c2 => simp; omega
        case c3 => simp; omega
        intro v' w3 hr hw hn3
        have HR3 := Lib.hid hr
        have HF3 : Hid (∀ q ∈ fs ++ fg, q.1 < W.heap.size) := Lib.hid (fun q hq => (List.mem_append.1 hq).elim (HFS.out q) (HFG.out q))
        have HB3 : Hid (Below W.heap.size W w3) := Lib.hid (((HBWR.out.alloc hsz _).alloc (by simp; omega) _).trans (hw.below (by simp; omega) (fun q hq => HROW.out.2.1.ge q hq)))
        have hx := ((Bx.new (w := wr) (c := #[.int .i64 1, .int .i64 n, .slice aa p.signs.length ca]) (t := 60) rfl).alloc _).wr hw (fun q hq => by have := HRL.out q hq; omega)
        obtain ⟨z3, c30, c31, c32⟩ := hx.o3
        clear hr hw hn3 hx
        go_wp2
        go_roundw
        case rel => exact ⟨k + 1, _, fs ++ fg, rfl, by omega, by go_num, by rw [HST.out]; go_num, by rw [HST.out]; exact HR3.out, HF3.out, HB3.out⟩
        case measure => simp [intOf]; omega
      · simp only [invStep, kx, if_true] at hst
        rw [if_neg (by decide)] at hst
        have HST := Lib.hid hst
        have hrd : GoT.rd BIG (wr.alloc (.cells #[.int .i64 2, .int .i64 p.n, .slice aa p.signs.length ca] 60)) [.int .i64 3, .int .i64 p.signs.length, .slice none 0 0] (⟨3, p.signs.length, []⟩ : DPart) [] := ⟨_, [], rfl, Sl.nil, rfl⟩
        have HRD := Lib.hid hrd
        rw [kx] at q0
        clear hst hfit hpo kx n1 hrd
        have hsr := src_built (w := (wr.alloc (.cells #[.int .i64 2, .int .i64 p.n, .slice aa p.signs.length ca] 60))) (c := [.int .i64 3, .int .i64 p.signs.length, .slice none 0 0]) (x := (⟨3, p.signs.length, []⟩ : DPart)) 60 HRD.out
        have esr : (wr.alloc (.cells #[.int .i64 2, .int .i64 p.n, .slice aa p.signs.length ca] 60)).heap.size = wr.heap.size + 1 := by simp
        rw [esr] at hsr
        have HSRC := Lib.hid hsr
        clear hsr esr
        go_wp2_with (at_builtin; go_must (refine wpList_append_row rfl _ _ 32 rfl Try.underlying32 hi hz0 hz1 hz2 rfl rfl rfl ((HROW.out.below ((Below.refl _ _).alloc (Nat.le_refl _) _)).below ((Below.refl _ _).alloc (Nat.le_refl _) _)) HSRC.out (fun _ h => by cases h) ?c1 ?c2 ?c3 ?_))
        case c1 => exact le_BIG (by simp; omega)
        case c2 => simp; omega
        case c3 => simp; omega
        intro v' w3 hr hw hn3
        have HR3 := Lib.hid hr
        have HF3 := HFS
        have HB3 : Hid (Below W.heap.size W w3) := Lib.hid (((HBWR.out.alloc hsz _).alloc (by simp; omega) _).trans (hw.below (by simp; omega) (fun q hq => HROW.out.2.1.ge q hq)))
        have hx := ((Bx.new (w := wr) (c := #[.int .i64 2, .int .i64 p.n, .slice aa p.signs.length ca]) (t := 60) rfl).alloc _).wr hw (fun q hq => by have := HRL.out q hq; omega)
        obtain ⟨z3, c30, c31, c32⟩ := hx.o3
        clear hr hw hn3 hx
        go_wp2
        go_roundw
        case rel => exact ⟨k + 1, _, fs, rfl, by omega, by go_num, by rw [HST.out], by rw [HST.out]; exact HR3.out, HF3.out, HB3.out⟩
        case measure => simp [intOf]; omega
      · obtain ⟨n, hn⟩ : ∃ n : Nat, p.n = n := ⟨p.n.toNat, by omega⟩
        have han := hfit (by omega)
        simp only [invStep, kx, hn, Int.toNat_natCast] at hst han
        rw [if_neg (by decide), if_neg (by decide)] at hst
        have HST := Lib.hid hst
        rw [kx] at q0
        rw [hn] at q1
        have b2 : n ≤ 200 := by omega
        obtain ⟨vc, hcut, fc, hcr⟩ := (ht.below HBW.out).cut Try.underlying23 sz_int (lo := a) (hi := a + n) (by omega) han
        simp only [Int.natCast_add] at hcut
        have HCL : Hid (((t.take (a + n)).drop a).length = n) := Lib.hid (by simp; omega)
        have HFC := Lib.hid (Live.lt hcr.live)
        obtain ⟨S, hS⟩ : ∃ S, (t.take (a + n)).drop a = S := ⟨_, rfl⟩
        rw [hS] at hcr hst HCL
        obtain ⟨ac, cc, rfl⟩ := hcr.isS
        replace HST := Lib.hid hst
        have hrd : GoT.rd BIG (wr.alloc (.cells #[.int .i64 3, .int .i64 n, .slice aa p.signs.length ca] 60)) [.int .i64 2, .int .i64 0, .slice ac S.length cc] (⟨2, 0, S⟩ : DPart) fc := ⟨_, fc, rfl, hcr.belowW (HBWR.out.alloc hsz _), rfl⟩
        have HRD := Lib.hid hrd
        clear hst hfit hpo kx n1 n2 n3 hn hcr hrd hS
        have hsr := src_built (w := (wr.alloc (.cells #[.int .i64 3, .int .i64 n, .slice aa p.signs.length ca] 60))) (c := [.int .i64 2, .int .i64 0, .slice ac S.length cc]) (x := (⟨2, 0, S⟩ : DPart)) 60 HRD.out
        have esr : (wr.alloc (.cells #[.int .i64 3, .int .i64 n, .slice aa p.signs.length ca] 60)).heap.size = wr.heap.size + 1 := by simp
        rw [esr] at hsr
        have HSRC := Lib.hid hsr
        clear hsr esr
        go_wp2_with (at_builtin; go_must (refine wpList_append_row rfl _ _ 32 rfl Try.underlying32 hi hz0 hz1 hz2 rfl rfl rfl ((HROW.out.below ((Below.refl _ _).alloc (Nat.le_refl _) _)).below ((Below.refl _ _).alloc (Nat.le_refl _) _)) HSRC.out (fun q hq hm => by have e1 := HROW.out.2.1.ge q hm; have e2 := HFC.out q hq; omega) ?c1 ?c2 ?c3 ?_))
        case c1 => exact le_BIG (by simp; omega)
        case c2 => simp; omega
        case c3 => simp; omega
        intro v' w3 hr hw hn3
        have HR3 := Lib.hid hr
        have HF3 : Hid (∀ q ∈ fs ++ fc, q.1 < W.heap.size) := Lib.hid (fun q hq => (List.mem_append.1 hq).elim (HFS.out q) (HFC.out q))
        have HB3 : Hid (Below W.heap.size W w3) := Lib.hid (((HBWR.out.alloc hsz _).alloc (by simp; omega) _).trans (hw.below (by simp; omega) (fun q hq => HROW.out.2.1.ge q hq)))
        have hx := ((Bx.new (w := wr) (c := #[.int .i64 3, .int .i64 n, .slice aa p.signs.length ca]) (t := 60) rfl).alloc _).wr hw (fun q hq => by have := HRL.out q hq; omega)
        obtain ⟨z3, c30, c31, c32⟩ := hx.o3
        clear hr hw hn3 hx
        go_wp2
        go_roundw
        case rel => exact ⟨k + 1, _, fs ++ fc, rfl, by omega, by go_num, by rw [HST.out]; go_num, by rw [HST.out]; exact HR3.out, HF3.out, HB3.out⟩
        case measure => simp [intOf]; omega
    · have hkl : k = N.length := by omega
      have hl2 : ¬ (k : Int) < (N.length : Int) := by omega
      have HXX : Hid (invert o t = some (opNorm (invF t (N.take k)).1)) := Lib.hid (by
        rw [HV.out, HN.out, hkl, List.take_length]
        exact congrArg some (if_pos (invF_all HNO.out HTO.out HFR.out)).symm)
      have HRX : Hid (RdS wr u (invF t (N.take k)).1) := Lib.hid hrow.rd
      have HB0 := Lib.hid (HBW.out.trans (hbw.mono sW))
      clear hrow hfs hbw hkl
      go_wp2_with fail
      refine (impl_OpNorm_c u _ _ HRX.out).mono ?_
      rintro e' w3 ⟨vu, rfl, hu, hb3⟩
      have s3 := HB0.out.size
      have HB3 := Lib.hid (HB0.out.trans (hb3.mono s3))
      have HU := Lib.hid (hu.mono s3)
      clear hu hb3
      go_wp2
      exact bodyPost_ret (v := .tuple #[vu, .bool true]) (by simp [results, Try.results23, go_sem, *]) rfl (OutCo.yes HXX.out HU.out HB3.out)
end Go.Proofs.Ytiahgjnpinjblaa

namespace Go.Proofs.Ytiahgjnpinjblaa
open Go.RowKit
def reverted (d : DDoc) (rev : Int) : Option (List DPart) := (changed d rev).bind fun o => invert o (textAt d rev).1
theorem reverted_no {d : DDoc} {rev : Int} (h : changed d rev = none) : reverted d rev = none := by unfold reverted; rw [h]; rfl
theorem reverted_yes {d : DDoc} {rev : Int} {o : List DPart} (h : changed d rev = some o) : reverted d rev = invert o (textAt d rev).1 := by unfold reverted; rw [h]; rfl
theorem changed_at {d : DDoc} {rev : Int} {o : List DPart} (h : changed d rev = some o) : atRev d rev := by
  by_cases k : atRev d rev
  · exact k
  · rw [changed_no k] at h; cases h
theorem invert_cnt {o : List DPart} {t : List Int} {x : List DPart} (h : invert o t = some x) : cntL x ≤ 603000 := by
  unfold invert at h
  split at h
  · rename_i hf
    simp only [fits, Bool.and_eq_true, decide_eq_true_eq] at hf
    obtain ⟨⟨h1, ht0⟩, h2⟩ := hf
    obtain ⟨n1, n2, _, _⟩ := opNorm_ok h1
    have hfr : sumBut 2 (opNorm o) = t.length := by rw [n2, ← opFrom_of h1]; exact h2
    have hk := invF_all n1 (textOk_iff.1 ht0).2 hfr
    have hx := (opNorm_ok hk).1
    have e : opNorm (invF t (opNorm o)).1 = normal (invF t (opNorm o)).1 := if_pos hk
    rw [e] at hx
    cases h
    exact opOk_cnt2 hx
  · cases h
theorem reverted_cnt (d : DDoc) (rev : Int) : cntL ((reverted d rev).getD []) ≤ 603000 := by
  rcases h : reverted d rev with _ | x
  · simp [cntL]
  · rcases hc : changed d rev with _ | o
    · rw [reverted_no hc] at h; cases h
    · rw [reverted_yes hc] at h; exact invert_cnt h

set_option maxHeartbeats 4000000 in
set_option maxRecDepth 100000 in
theorem impl_Reverted_c (d : DDoc) (v_text v_list v_seen : Value) (rev : Int) (w : World) (n_name : d.name.size ≤ BIG) (h_text : RdS w v_text d.text) (h_list : RdS w v_list d.list) (h_seen : RdS w v_seen d.seen) :
    Calls Try.prog 8 #[.agg #[.string d.name, .int .i64 d.from_, v_text, v_list, v_seen], .int .i64 rev] w (OutCo w (reverted d rev)) := by
  go_enter Try.func8, Try.ntmps8
  go_wp2_with fail
  refine (impl_Changed_c d _ _ _ rev _ n_name (h_text.below ((Below.refl w.heap.size w).alloc om _)) (h_list.below ((Below.refl w.heap.size w).alloc om _)) (h_seen.below ((Below.refl w.heap.size w).alloc om _))).mono ?_
  rintro e' w1 ⟨vc, rfl, hv, hb1⟩
  obtain ⟨fc, sc, kc⟩ := hv
  obtain ⟨ac, cc, rfl⟩ := sc.isS
  have HSC : Hid (RdS w1 (.slice ac ((changed d rev).getD []).length cc) ((changed d rev).getD [])) := Lib.hid ⟨_, sc⟩
  clear sc kc
  have s1 : w.heap.size + 1 ≤ w1.heap.size := by have := hb1.size; (try simp at this); omega
  have HBN : Hid (Below w.heap.size w w1) := Lib.hid (((Below.refl w.heap.size w).alloc om _).trans (hb1.mono om))
  have HBW := HBN
  clear HBN
  have HXd : Hid (Bx w1 (w.heap.size) [.string d.name, .int .i64 d.from_, v_text, v_list, v_seen]) := Lib.hid ((Bx.new (by first | rfl | simp | omega)).at hb1)
  obtain ⟨Zd, Kd0, Kd1, Kd2, Kd3, Kd4⟩ := HXd.out.o5
  clear hb1
  rcases hc : changed d rev with _ | o
  · have HV := Lib.hid (reverted_no hc)
    clear hc HSC
    try dsimp only [Option.isSome, Option.getD]
    go_wp2
    have HB : Hid (Below w.heap.size w w1) := Lib.hid HBW.out
    exact bodyPost_ret (v := .tuple #[.slice none 0 0, .bool false]) (by simp [results, Try.results8, go_sem, *]) rfl (OutCo.no HV.out HB.out)
  have HV := Lib.hid (reverted_yes hc)
  have HT2 : Hid ((textAt d rev).2 = true) := Lib.hid (by obtain ⟨_, _, h2, _⟩ := textAt_yes (changed_at hc); rw [h2])
  replace HSC : Hid (RdS w1 (.slice ac o.length cc) o) := Lib.hid (by have h := HSC.out; rw [hc] at h; exact h)
  clear hc
  try dsimp only [Option.isSome, Option.getD]
  go_wp2_with fail
  refine (impl_TextAt_c d _ _ _ rev _ n_name (h_text.below HBW.out) (h_list.below HBW.out) (h_seen.below HBW.out)).mono ?_
  rintro e' w2 ⟨vt, ft, rfl, st, kt, hb2⟩
  rw [HT2.out]
  have HST : Hid (RdS w2 vt (textAt d rev).1) := Lib.hid ⟨_, st⟩
  clear st kt
  have s2 : w1.heap.size ≤ w2.heap.size := by have := hb2.size; (try simp at this); omega
  have HBN : Hid (Below w.heap.size w w2) := Lib.hid (HBW.out.trans (hb2.mono om))
  clear HBW
  have HBW := HBN
  clear HBN
  replace HSC : Hid (RdS w2 (.slice ac o.length cc) o) := Lib.hid ((HSC.out.below hb2))
  replace HXd : Hid (Bx w2 (w.heap.size) [.string d.name, .int .i64 d.from_, v_text, v_list, v_seen]) := Lib.hid (HXd.out.at hb2)
  clear Zd Kd0 Kd1 Kd2 Kd3 Kd4
  obtain ⟨Zd, Kd0, Kd1, Kd2, Kd3, Kd4⟩ := HXd.out.o5
  clear hb2
  go_wp2_with fail
  refine (impl_Invert_c _ _ o (textAt d rev).1 _ HSC.out HST.out).mono ?_
  rintro e' w3 ⟨v, rfl, hv, hb3⟩
  have HB : Hid (Below w.heap.size w w3) := Lib.hid (HBW.out.trans (hb3.mono om))
  have HVV := Lib.hid hv
  have si := HBW.out.size
  clear hv hb3
  go_wp2
  rw [HV.out]
  exact bodyPost_ret (v := .tuple #[v, .bool (invert o (textAt d rev).1).isSome]) (by simp [results, Try.results8, go_sem, *]) rfl ⟨v, rfl, HVV.out.mono om, HB.out⟩
end Go.Proofs.Ytiahgjnpinjblaa

