/- Hubs: open a document. -/
import Derived.Test.YtdjfmbdcdmmdfaaGreatHow
import Derived.Test.YtdjfmbdcdmmdfaaGreatHsb
import Derived.Test.YtdjfmbdcdmmdfaaGreatIns
import Derived.Test.YtdjfmbdcdmmdfaaGreatTri
import Derived.Test.YtdjfmbdcdmmdfaaGreatDfo
import Derived.Deep.Cut
namespace Go.Proofs.YtdjfmbdcdmmdfaaGreat
open Go.RowKit
def docAt (name : ByteArray) (t : List Int) : DDoc := ⟨name, 0, t, [], []⟩
theorem docAt_ok (name : ByteArray) (t : List Int) : docOk (docAt name t) = (nameOk name && textOk t) := by
  simp [docAt, docOk, within, opsL, appTo, seenOk]
theorem docNew_of {name : ByteArray} {t : List Int} (h : nameOk name = true) (h2 : textOk t = true) : docNew name t = (docAt name t, true) := by
  have : docOk (docAt name t) = true := by rw [docAt_ok, h, h2]; rfl
  exact if_pos this
theorem docNew_bad {name : ByteArray} {t : List Int} (h : ¬ (nameOk name = true ∧ textOk t = true)) : docNew name t = (doc0, false) := by
  have : ¬ docOk (docAt name t) = true := by rw [docAt_ok]; simpa using h
  exact if_neg this
theorem hubOpen_no {z : DHub} {name : ByteArray} {t : List Int} (h : hubOk z = false) : hubOpen z name t = (hub0, 1) := by unfold hubOpen; rw [if_neg (by simp [h])]
theorem hubOpen_bad {z : DHub} {name : ByteArray} {t : List Int} (h : ¬ (nameOk name = true ∧ textOk t = true)) : hubOpen z name t = (hub0, 1) := by unfold hubOpen; rw [docNew_bad h, if_neg (by simp)]
section
variable {z : DHub} {name : ByteArray} {t : List Int} (h : hubOk z = true ∧ (docNew name t).2 = true)
include h
theorem hubOpen_shut (h2 : z.shut = true) : hubOpen z name t = (hub0, 12) := by unfold hubOpen; rw [if_pos h, if_pos h2]
theorem hubOpen_have (h2 : z.shut = false) (h3 : 0 ≤ hubDoc z name) : hubOpen z name t = (hub0, 7) := by unfold hubOpen; rw [if_pos h, if_neg (by simp [h2]), if_pos h3]
theorem hubOpen_full (h2 : z.shut = false) (h3 : ¬ 0 ≤ hubDoc z name) (h4 : z.docs.length = 5) : hubOpen z name t = (hub0, 10) := by unfold hubOpen; rw [if_pos h, if_neg (by simp [h2]), if_neg h3, if_pos h4]
theorem hubOpen_yes (hd : docNew name t = (docAt name t, true)) (h2 : z.shut = false) (h3 : ¬ 0 ≤ hubDoc z name) (h4 : ¬ z.docs.length = 5) :
    hubOpen z name t = (⟨false, z.docs.take (hubAt z.docs name) ++ docAt name t :: z.docs.drop (hubAt z.docs name), z.subs, z.last⟩, 0) := by unfold hubOpen; rw [if_pos h, if_neg (by simp [h2]), if_neg h3, if_neg h4, h2, hd]
end
theorem hubAt_eq : ∀ {l : List DDoc} {name : ByteArray} {k : Nat}, k ≤ l.length → (∀ j < k, ∀ d, l[j]? = some d → slt d.name name = true) → (∀ d, l[k]? = some d → slt d.name name = false) → hubAt l name = k
  | [], _, k, hk, _, _ => by simp at hk; subst hk; rfl
  | x :: l, name, k, hk, h1, h2 => by
    unfold hubAt
    cases k with
    | zero =>
      have := h2 x rfl
      simp [List.takeWhile, this]
    | succ k =>
      have h0 := h1 0 (by omega) x rfl
      have ih := hubAt_eq (l := l) (name := name) (k := k) (by simpa using hk) (fun j hj d hd => h1 (j + 1) (by omega) d (by simpa using hd)) (fun d hd => h2 d (by simpa using hd))
      unfold hubAt at ih
      simp [List.takeWhile, h0, ih]
theorem hubOpen_cnt (z : DHub) (name : ByteArray) (t : List Int) : cntL (hubOpen z name t).1.docs + cntL (hubOpen z name t).1.subs ≤ 5 * (szL z.docs + szL z.subs) + 5 * szL t + 2 := by
  have := hub_cnt z
  by_cases hnt : nameOk name = true ∧ textOk t = true
  rotate_left
  · rw [hubOpen_bad hnt]; simp [hub0, cntL]
  have hdn := docNew_of hnt.1 hnt.2
  cases h1 : hubOk z
  · rw [hubOpen_no h1]; simp [hub0, cntL]
  have hk : hubOk z = true ∧ (docNew name t).2 = true := ⟨h1, by rw [hdn]⟩
  cases h2 : z.shut
  rotate_left
  · rw [hubOpen_shut hk h2]; simp [hub0, cntL]
  by_cases h3 : 0 ≤ hubDoc z name
  · rw [hubOpen_have hk h2 h3]; simp [hub0, cntL]
  by_cases h4 : z.docs.length = 5
  · rw [hubOpen_full hk h2 h3 h4]; simp [hub0, cntL]
  rw [hubOpen_yes hk hdn h2 h3 h4]
  have e : GoM.cnt (docAt name t) = 2 + cntL t := by show 2 + cntL t + cntL ([] : List DEntry) + cntL ([] : List DSeen) = _; simp [cntL]
  have e2 := cntL_le t
  have e3 : cntL (z.docs.take (hubAt z.docs name)) + cntL (z.docs.drop (hubAt z.docs name)) = cntL z.docs := by rw [← cntL_append, List.take_append_drop]
  simp only [cntL_append, cntL, e]
  omega
theorem HubOwn.docs {C D : Nat} {w : World} {vd vs : Value} {docs : List DDoc} {subs : List DSub} (h : HubOwn C D w vd vs docs subs) {B ob : Nat} (hB : B ≤ C) (hCD : C ≤ D) (ho : D ≤ ob) : ∃ gs, Row C w vd docs gs ∧ (∀ p ∈ rowP (GoT.n DDoc) vd ++ gs, C ≤ p.1 ∧ p.1 < D) ∧ Fresh C w (rowP (GoT.n DDoc) vd ++ gs) ∧
    ∀ (W w' : World) (v' : Value) (docs' : List DDoc) (fd' : List Pos), Below w.heap.size w W → Wr (rowP (GoT.n DDoc) vd) W w' → Sl BIG w' v' docs' fd' → Fresh B w' fd' → (∀ p ∈ fd', p ∈ rowP (GoT.n DDoc) vd ++ gs ∨ p.1 < C ∨ ob < p.1) → HubNe ob B w' v' vs docs' subs := by
  obtain ⟨fd, fs, sd, ss, hf, hD⟩ := h
  obtain ⟨gs, rfl⟩ := sd.split
  have nd := List.nodup_append.1 hf.nodup
  have ns := List.nodup_append.1 nd.1
  refine ⟨gs, ⟨sd, hf.left.left, fun p hp hq => ns.2.2 p hq p hp rfl⟩, fun p hp => ⟨hf.ge p (List.mem_append_left _ hp), hD p (List.mem_append_left _ hp)⟩, hf.left, ?_⟩
  intro W w' v' docs' fd' hb hw hs hff hm
  have ss' := ss.wr2 hb hw (fun p hp hq => nd.2.2 p (List.mem_append_left _ hq) p hp rfl)
  have k1 : Fresh C w' fs := hf.right.wr2 hb hw (Live.lt ss.live)
  refine ⟨fd', fs, hs, ss', hff.join (k1.mono hB) fun p hp q hq e => ?_, fun p hp => ?_⟩
  · subst e
    have a := hD p (List.mem_append_right _ hq)
    have b := hf.ge p (List.mem_append_right _ hq)
    rcases hm p hp with h | h | h
    · exact nd.2.2 p h p hq rfl
    · omega
    · omega
  · rcases List.mem_append.1 hp with hp | hp
    · rcases hm p hp with h | h | h
      · have := hD p (List.mem_append_left _ h); omega
      · omega
      · omega
    · have := hD p (List.mem_append_right _ hp); omega
theorem Src.below {α : Type} [GoT α] {w w' : World} {v : Value} {xs : List α} {gs : List Pos} (h : Src w v xs gs) (hb : Below w.heap.size w w') : Src w' v xs gs := by
  obtain ⟨ao, c, news, rfl, he, hc⟩ := h
  refine ⟨ao, c, news, rfl, he.keep (Live.same_below hb (Live.lt he.live)), hc.imp id fun ⟨a, ha, h⟩ => ⟨a, ha, fun j u hj => ?_⟩⟩
  have h1 := h j u hj
  exact (hb.cell (World.block_lt_of_cell? (w := w) (a := a.add j) h1)).trans h1
theorem rowP_zero (n m : Nat) (ao : Option Addr) : rowP n (.slice ao m 0) = [] := by cases ao <;> simp [rowP, own]
theorem Row.srcs {α : Type} [GoT α] {C : Nat} {w : World} {v : Value} {l : List α} {gs : List Pos} (h : Row C w v l gs) {P : Program} {T E : TypeId} (hT : P.underlying T = some (.slice E)) (hl : ∀ w1, (sizeOf E).run P w1 = .ok (GoT.n α) w1) {k : Nat} (hk : k ≤ l.length) :
    ∃ va vb g1 g2, (∀ w1, (Instr.sliceAt T v none (some (.int .i64 k)) none).run P w1 = .ok va w1) ∧ (∀ w1, (Instr.sliceAt T v (some (.int .i64 k)) none none).run P w1 = .ok vb w1) ∧ Src w va (l.take k) g1 ∧ Src w vb (l.drop k) g2 ∧ gs = g1 ++ g2 := by
  have ha := fun w1 => h.1.run_h hT hl (hi := k) hk w1
  have hb := fun w1 => h.1.run_l hT hl (lo := k) hk w1
  obtain ⟨hs, _, _⟩ := h
  rcases hs with ⟨ao, rfl, rfl, he⟩ | ⟨b, o, cap, cs, fs, rfl, k1, k2, k3, hc, he, hlv, hf⟩
  · obtain rfl : k = 0 := by simpa using hk
    have : gs = [] := by
      cases ao with
      | none => simpa [rowP] using he
      | some a => simpa [rowP, own] using he
    subst this
    refine ⟨_, _, [], [], ha, hb, ?_, ?_, rfl⟩
    · refine ⟨ao, 0, [], by simp [cutV, capV], Els.nil, ?_⟩
      cases ao with
      | none => exact .inl ⟨rfl, rfl, rfl⟩
      | some a => exact .inr ⟨a, rfl, fun j u hu => by simp at hu⟩
    · refine ⟨ao, 0, [], by simp [cutV, capV], Els.nil, ?_⟩
      cases ao with
      | none => exact .inl ⟨rfl, rfl, rfl⟩
      | some a => exact .inr ⟨a, rfl, fun j u hu => by simp at hu⟩
  · have hgs : gs = fs := List.append_cancel_left hf
    subst hgs
    rw [← List.take_append_drop k l] at he
    obtain ⟨c1, c2, g1, g2, rfl, e1, e2, rfl⟩ := Els.append.1 he
    have hc1 := e1.length
    rw [List.length_take, Nat.min_eq_left hk] at hc1
    obtain ⟨a1, a2⟩ := At.append.1 hc
    rw [hc1] at a2
    refine ⟨_, _, g1, g2, ha, hb, ?_, ?_, rfl⟩
    · refine ⟨some ⟨b, o, none⟩, cap, c1, ?_, e1, .inr ⟨_, rfl, fun j u hu => by rw [addr_add]; exact a1 j u hu⟩⟩
      have hl1 : (l.take k).length = k := by simp; omega
      by_cases h0 : cap = 0 <;> simp [cutV, capV, h0, addr_add, hl1]
    · by_cases hck : cap = k
      · have hl2 : l.length = k := by omega
        have : c2 = [] := by
          have := e2.length
          rw [List.length_drop, hl2, Nat.sub_self, Nat.zero_mul] at this
          exact List.eq_nil_of_length_eq_zero this
        subst this
        refine ⟨some ⟨b, o, none⟩, 0, [], ?_, e2, .inr ⟨_, rfl, fun j u hu => by simp at hu⟩⟩
        simp [cutV, capV, hck, hl2]
      · refine ⟨some ⟨b, o + k * GoT.n α, none⟩, cap - k, c2, ?_, e2, .inr ⟨_, rfl, fun j u hu => by rw [addr_add]; exact a2 j u hu⟩⟩
        simp [cutV, capV, hck, addr_add]

set_option maxHeartbeats 6000000 in
set_option maxRecDepth 100000 in
theorem spec_HubOpen_c (z : DHub) (v_docs v_subs : Value) (name : ByteArray) (t : List Int) (vt : Value) (w : World) (h_docs : RdS w v_docs z.docs) (h_subs : RdS w v_subs z.subs) (nn : name.size ≤ BIG) (ht : RdS w vt t) (b_t : t.length ≤ 4000000) : Calls Tryz.prog 18 #[.agg #[.bool z.shut, v_docs, v_subs, .int .i64 z.last], .string name, vt] w (Out_Hub_i w (hubOpen z name t).1 (hubOpen z name t).2) := by
  have hOK := fun (W' : World) (a : RdS W' v_docs z.docs) (b : RdS W' v_subs z.subs) => spec_HubOk_c z v_docs v_subs W' a b
  have hCP := fun (W' : World) (a : RdS W' v_docs z.docs) (b : RdS W' v_subs z.subs) (c : HubSz z) => spec_l11Copy_c z v_docs v_subs W' a b c
  have hF0 := fun (W' : World) (a : RdS W' v_docs z.docs) => spec_HubDoc_c z v_docs v_subs name W' a
  obtain ⟨sh, hsh⟩ : ∃ sh : Bool, z.shut = sh := ⟨_, rfl⟩
  simp only [hsh] at hOK hCP hF0
  rw [hsh]
  have HOK := Lib.hid hOK
  have HCP := Lib.hid hCP
  have HF0 := Lib.hid hF0
  clear hOK hCP hF0
  by_cases hnt : nameOk name = true ∧ textOk t = true
  rotate_left
  · have HV := Lib.hid (hubOpen_bad (z := z) hnt)
    have hdb := docNew_bad hnt
    have HDC := Lib.hid (fun (W' : World) (a : RdS W' vt t) => (by have := spec_DocNew_c name t vt W' nn a b_t; rw [hdb] at this; exact this : Calls Tryz.prog 61 #[.string name, vt] W' (Out_Doc_b W' (doc0) false)))
    cases h1 : hubOk z
    · clear hdb
      go_enter Tryz.func18, Tryz.ntmps18
      go_wp2_with fail
      refine (HDC.out _ (ht.below (((Below.refl w.heap.size w).alloc om _).alloc om _))).mono ?_
      rintro e' w1 ⟨v0t, v0l, v0s, f0t, f0l, f0s, rfl, st, sl, ss, _, kf, hb1⟩
      obtain ⟨a0t, c0t, rfl⟩ := st.nilS
      obtain ⟨a0l, c0l, rfl⟩ := sl.nilS
      obtain ⟨a0s, c0s, rfl⟩ := ss.nilS
      clear st sl ss kf
      (try dsimp only [doc0])
      have s1 : w.heap.size + 2 ≤ w1.heap.size := by have := hb1.size; (try simp at this); omega
      have HBN : Hid (Below w.heap.size w w1) := Lib.hid ((((Below.refl w.heap.size w).alloc om _).alloc om _).trans (hb1.mono om))
      have HBW := HBN
      clear HBN
      have HXz : Hid (Bx w1 (w.heap.size) [.bool sh, v_docs, v_subs, .int .i64 z.last]) := Lib.hid (((Bx.new (by first | rfl | simp | omega)).alloc _).at hb1)
      obtain ⟨Zz, Kz0, Kz1, Kz2, Kz3⟩ := HXz.out.o4
      have HXr : Hid (Bx w1 (w.heap.size + 1) [.bool false, .slice none 0 0, .slice none 0 0, .int .i64 0]) := Lib.hid ((Bx.new (by first | rfl | simp | omega)).at hb1)
      obtain ⟨Zr, Kr0, Kr1, Kr2, Kr3, Gr0, Gr1, Gr2, Gr3⟩ := HXr.out.q4
      clear hb1
      go_wp2_with fail
      refine (HOK.out _ (h_docs.below (HBW.out.alloc om _)) (h_subs.below (HBW.out.alloc om _))).mono ?_
      rintro e' w2 ⟨rfl, hb2⟩
      rw [h1]
      have s2 : w1.heap.size + 1 ≤ w2.heap.size := by have := hb2.size; (try simp at this); omega
      have HBN : Hid (Below w.heap.size w w2) := Lib.hid ((HBW.out.alloc om _).trans (hb2.mono om))
      clear HBW
      have HBW := HBN
      clear HBN
      replace HXz : Hid (Bx w2 (w.heap.size) [.bool sh, v_docs, v_subs, .int .i64 z.last]) := Lib.hid ((HXz.out.alloc _).at hb2)
      clear Zz Kz0 Kz1 Kz2 Kz3
      obtain ⟨Zz, Kz0, Kz1, Kz2, Kz3⟩ := HXz.out.o4
      replace HXr : Hid (Bx w2 (w.heap.size + 1) [.bool false, .slice none 0 0, .slice none 0 0, .int .i64 0]) := Lib.hid ((HXr.out.alloc _).at hb2)
      clear Zr Kr0 Kr1 Kr2 Kr3 Gr0 Gr1 Gr2 Gr3
      obtain ⟨Zr, Kr0, Kr1, Kr2, Kr3, Gr0, Gr1, Gr2, Gr3⟩ := HXr.out.q4
      have HXd : Hid (Bx w2 (w1.heap.size) [.string ⟨#[]⟩, .int .i64 0, .slice a0t 0 c0t, .slice a0l 0 c0l, .slice a0s 0 c0s]) := Lib.hid ((Bx.new (by first | rfl | simp | omega)).at hb2)
      obtain ⟨Zd, Kd0, Kd1, Kd2, Kd3, Kd4, Gd0, Gd1, Gd2, Gd3, Gd4⟩ := HXd.out.q5
      clear hb2
      go_wp2
      have HB : Hid (Below w.heap.size w ((((w2.setCell ⟨w.heap.size + 1, 0, none⟩ (.bool false)).setCell ⟨w.heap.size + 1, 1, none⟩ (.slice none 0 0)).setCell ⟨w.heap.size + 1, 2, none⟩ (.slice none 0 0)).setCell ⟨w.heap.size + 1, 3, none⟩ (.int .i64 0))) := Lib.hid ((((HBW.out.setCell (p := ⟨w.heap.size + 1, 0, none⟩) om _).setCell (p := ⟨w.heap.size + 1, 1, none⟩) om _).setCell (p := ⟨w.heap.size + 1, 2, none⟩) om _).setCell (p := ⟨w.heap.size + 1, 3, none⟩) om _)
      rw [HV.out]
      exact bodyPost_ret (v := .tuple #[.agg #[.bool false, .slice none 0 0, .slice none 0 0, .int .i64 0], .int .i64 1]) (by simp [results, Tryz.results18, go_sem, cell_setCell, *]) rfl (out_hub0_i HB.out)
    · clear hdb
      go_enter Tryz.func18, Tryz.ntmps18
      go_wp2_with fail
      refine (HDC.out _ (ht.below (((Below.refl w.heap.size w).alloc om _).alloc om _))).mono ?_
      rintro e' w1 ⟨v0t, v0l, v0s, f0t, f0l, f0s, rfl, st, sl, ss, _, kf, hb1⟩
      obtain ⟨a0t, c0t, rfl⟩ := st.nilS
      obtain ⟨a0l, c0l, rfl⟩ := sl.nilS
      obtain ⟨a0s, c0s, rfl⟩ := ss.nilS
      clear st sl ss kf
      (try dsimp only [doc0])
      have s1 : w.heap.size + 2 ≤ w1.heap.size := by have := hb1.size; (try simp at this); omega
      have HBN : Hid (Below w.heap.size w w1) := Lib.hid ((((Below.refl w.heap.size w).alloc om _).alloc om _).trans (hb1.mono om))
      have HBW := HBN
      clear HBN
      have HXz : Hid (Bx w1 (w.heap.size) [.bool sh, v_docs, v_subs, .int .i64 z.last]) := Lib.hid (((Bx.new (by first | rfl | simp | omega)).alloc _).at hb1)
      obtain ⟨Zz, Kz0, Kz1, Kz2, Kz3⟩ := HXz.out.o4
      have HXr : Hid (Bx w1 (w.heap.size + 1) [.bool false, .slice none 0 0, .slice none 0 0, .int .i64 0]) := Lib.hid ((Bx.new (by first | rfl | simp | omega)).at hb1)
      obtain ⟨Zr, Kr0, Kr1, Kr2, Kr3, Gr0, Gr1, Gr2, Gr3⟩ := HXr.out.q4
      clear hb1
      go_wp2_with fail
      refine (HOK.out _ (h_docs.below (HBW.out.alloc om _)) (h_subs.below (HBW.out.alloc om _))).mono ?_
      rintro e' w2 ⟨rfl, hb2⟩
      rw [h1]
      have s2 : w1.heap.size + 1 ≤ w2.heap.size := by have := hb2.size; (try simp at this); omega
      have HBN : Hid (Below w.heap.size w w2) := Lib.hid ((HBW.out.alloc om _).trans (hb2.mono om))
      clear HBW
      have HBW := HBN
      clear HBN
      replace HXz : Hid (Bx w2 (w.heap.size) [.bool sh, v_docs, v_subs, .int .i64 z.last]) := Lib.hid ((HXz.out.alloc _).at hb2)
      clear Zz Kz0 Kz1 Kz2 Kz3
      obtain ⟨Zz, Kz0, Kz1, Kz2, Kz3⟩ := HXz.out.o4
      replace HXr : Hid (Bx w2 (w.heap.size + 1) [.bool false, .slice none 0 0, .slice none 0 0, .int .i64 0]) := Lib.hid ((HXr.out.alloc _).at hb2)
      clear Zr Kr0 Kr1 Kr2 Kr3 Gr0 Gr1 Gr2 Gr3
      obtain ⟨Zr, Kr0, Kr1, Kr2, Kr3, Gr0, Gr1, Gr2, Gr3⟩ := HXr.out.q4
      have HXd : Hid (Bx w2 (w1.heap.size) [.string ⟨#[]⟩, .int .i64 0, .slice a0t 0 c0t, .slice a0l 0 c0l, .slice a0s 0 c0s]) := Lib.hid ((Bx.new (by first | rfl | simp | omega)).at hb2)
      obtain ⟨Zd, Kd0, Kd1, Kd2, Kd3, Kd4, Gd0, Gd1, Gd2, Gd3, Gd4⟩ := HXd.out.q5
      clear hb2
      go_wp2
      have HB : Hid (Below w.heap.size w ((((w2.setCell ⟨w.heap.size + 1, 0, none⟩ (.bool false)).setCell ⟨w.heap.size + 1, 1, none⟩ (.slice none 0 0)).setCell ⟨w.heap.size + 1, 2, none⟩ (.slice none 0 0)).setCell ⟨w.heap.size + 1, 3, none⟩ (.int .i64 0))) := Lib.hid ((((HBW.out.setCell (p := ⟨w.heap.size + 1, 0, none⟩) om _).setCell (p := ⟨w.heap.size + 1, 1, none⟩) om _).setCell (p := ⟨w.heap.size + 1, 2, none⟩) om _).setCell (p := ⟨w.heap.size + 1, 3, none⟩) om _)
      rw [HV.out]
      exact bodyPost_ret (v := .tuple #[.agg #[.bool false, .slice none 0 0, .slice none 0 0, .int .i64 0], .int .i64 1]) (by simp [results, Tryz.results18, go_sem, cell_setCell, *]) rfl (out_hub0_i HB.out)
  obtain ⟨hn, hx⟩ := hnt
  have hdn := docNew_of hn hx
  have HDK : Hid ((docNew name t).2 = true) := Lib.hid (by rw [hdn])
  have HDE := Lib.hid hdn
  have HDC := Lib.hid (fun (W' : World) (a : RdS W' vt t) => (by have := spec_DocNew_c name t vt W' nn a b_t; rw [hdn] at this; exact this : Calls Tryz.prog 61 #[.string name, vt] W' (Out_Doc_b W' (docAt name t) true)))
  clear hdn
  by_cases h1 : hubOk z = true
  rotate_left
  · have h1 : hubOk z = false := by simpa using h1
    have HV := Lib.hid (hubOpen_no (name := name) (t := t) h1)
    go_enter Tryz.func18, Tryz.ntmps18
    go_wp2_with fail
    refine (HDC.out _ (ht.below (((Below.refl w.heap.size w).alloc om _).alloc om _))).mono ?_
    rintro e' w1 ⟨v0t, v0l, v0s, f0t, f0l, f0s, rfl, st, sl, ss, _, kf, hb1⟩
    obtain ⟨a0t, c0t, rfl⟩ := RdS.isSlice ⟨_, st⟩
    obtain ⟨a0l, c0l, rfl⟩ := sl.nilS
    obtain ⟨a0s, c0s, rfl⟩ := ss.nilS
    have HDN : Hid (Tri (w.heap.size + 2) w1.heap.size w1 (.slice a0t t.length c0t) (.slice a0l 0 c0l) (.slice a0s 0 c0s) t ([] : List DEntry) ([] : List DSeen) f0t f0l f0s) := Lib.hid ⟨st, sl, ss, kf.mono (by first | exact Nat.le_refl _ | (simp; done) | (simp; omega)), Live.lt (Live.append.2 ⟨st.live, Live.append.2 ⟨sl.live, ss.live⟩⟩)⟩
    clear st sl ss kf
    (try dsimp only [docAt])
    have s1 : w.heap.size + 2 ≤ w1.heap.size := by have := hb1.size; (try simp at this); omega
    have HBN : Hid (Below w.heap.size w w1) := Lib.hid ((((Below.refl w.heap.size w).alloc om _).alloc om _).trans (hb1.mono om))
    have HBW := HBN
    clear HBN
    have HXz : Hid (Bx w1 (w.heap.size) [.bool sh, v_docs, v_subs, .int .i64 z.last]) := Lib.hid (((Bx.new (by first | rfl | simp | omega)).alloc _).at hb1)
    obtain ⟨Zz, Kz0, Kz1, Kz2, Kz3⟩ := HXz.out.o4
    have HXr : Hid (Bx w1 (w.heap.size + 1) [.bool false, .slice none 0 0, .slice none 0 0, .int .i64 0]) := Lib.hid ((Bx.new (by first | rfl | simp | omega)).at hb1)
    obtain ⟨Zr, Kr0, Kr1, Kr2, Kr3, Gr0, Gr1, Gr2, Gr3⟩ := HXr.out.q4
    clear hb1
    go_wp2_with fail
    refine (HOK.out _ (h_docs.below (HBW.out.alloc om _)) (h_subs.below (HBW.out.alloc om _))).mono ?_
    rintro e' w2 ⟨rfl, hb2⟩
    rw [h1]
    have s2 : w1.heap.size + 1 ≤ w2.heap.size := by have := hb2.size; (try simp at this); omega
    have HBN : Hid (Below w.heap.size w w2) := Lib.hid ((HBW.out.alloc om _).trans (hb2.mono om))
    clear HBW
    have HBW := HBN
    clear HBN
    replace HDN : Hid (Tri (w.heap.size + 2) (w1.heap.size) (w2) (.slice a0t t.length c0t) (.slice a0l 0 c0l) (.slice a0s 0 c0s) t ([] : List DEntry) ([] : List DSeen) f0t f0l f0s) := Lib.hid (((HDN.out.alloc om _).below (hb2.mono om)))
    replace HXz : Hid (Bx w2 (w.heap.size) [.bool sh, v_docs, v_subs, .int .i64 z.last]) := Lib.hid ((HXz.out.alloc _).at hb2)
    clear Zz Kz0 Kz1 Kz2 Kz3
    obtain ⟨Zz, Kz0, Kz1, Kz2, Kz3⟩ := HXz.out.o4
    replace HXr : Hid (Bx w2 (w.heap.size + 1) [.bool false, .slice none 0 0, .slice none 0 0, .int .i64 0]) := Lib.hid ((HXr.out.alloc _).at hb2)
    clear Zr Kr0 Kr1 Kr2 Kr3 Gr0 Gr1 Gr2 Gr3
    obtain ⟨Zr, Kr0, Kr1, Kr2, Kr3, Gr0, Gr1, Gr2, Gr3⟩ := HXr.out.q4
    have HXd : Hid (Bx w2 (w1.heap.size) [.string name, .int .i64 0, .slice a0t t.length c0t, .slice a0l 0 c0l, .slice a0s 0 c0s]) := Lib.hid ((Bx.new (by first | rfl | simp | omega)).at hb2)
    obtain ⟨Zd, Kd0, Kd1, Kd2, Kd3, Kd4, Gd0, Gd1, Gd2, Gd3, Gd4⟩ := HXd.out.q5
    clear hb2
    go_wp2
    have HB : Hid (Below w.heap.size w ((((w2.setCell ⟨w.heap.size + 1, 0, none⟩ (.bool false)).setCell ⟨w.heap.size + 1, 1, none⟩ (.slice none 0 0)).setCell ⟨w.heap.size + 1, 2, none⟩ (.slice none 0 0)).setCell ⟨w.heap.size + 1, 3, none⟩ (.int .i64 0))) := Lib.hid ((((HBW.out.setCell (p := ⟨w.heap.size + 1, 0, none⟩) om _).setCell (p := ⟨w.heap.size + 1, 1, none⟩) om _).setCell (p := ⟨w.heap.size + 1, 2, none⟩) om _).setCell (p := ⟨w.heap.size + 1, 3, none⟩) om _)
    rw [HV.out]
    exact bodyPost_ret (v := .tuple #[.agg #[.bool false, .slice none 0 0, .slice none 0 0, .int .i64 0], .int .i64 1]) (by simp [results, Tryz.results18, go_sem, cell_setCell, *]) rfl (out_hub0_i HB.out)
  have HZ := Lib.hid (hubSz h1)
  cases sh
  rotate_left
  · have HV := Lib.hid (hubOpen_shut ⟨h1, HDK.out⟩ hsh)
    go_enter Tryz.func18, Tryz.ntmps18
    go_wp2_with fail
    refine (HDC.out _ (ht.below (((Below.refl w.heap.size w).alloc om _).alloc om _))).mono ?_
    rintro e' w1 ⟨v0t, v0l, v0s, f0t, f0l, f0s, rfl, st, sl, ss, _, kf, hb1⟩
    obtain ⟨a0t, c0t, rfl⟩ := RdS.isSlice ⟨_, st⟩
    obtain ⟨a0l, c0l, rfl⟩ := sl.nilS
    obtain ⟨a0s, c0s, rfl⟩ := ss.nilS
    have HDN : Hid (Tri (w.heap.size + 2) w1.heap.size w1 (.slice a0t t.length c0t) (.slice a0l 0 c0l) (.slice a0s 0 c0s) t ([] : List DEntry) ([] : List DSeen) f0t f0l f0s) := Lib.hid ⟨st, sl, ss, kf.mono (by first | exact Nat.le_refl _ | (simp; done) | (simp; omega)), Live.lt (Live.append.2 ⟨st.live, Live.append.2 ⟨sl.live, ss.live⟩⟩)⟩
    clear st sl ss kf
    (try dsimp only [docAt])
    have s1 : w.heap.size + 2 ≤ w1.heap.size := by have := hb1.size; (try simp at this); omega
    have HBN : Hid (Below w.heap.size w w1) := Lib.hid ((((Below.refl w.heap.size w).alloc om _).alloc om _).trans (hb1.mono om))
    have HBW := HBN
    clear HBN
    have HXz : Hid (Bx w1 (w.heap.size) [.bool true, v_docs, v_subs, .int .i64 z.last]) := Lib.hid (((Bx.new (by first | rfl | simp | omega)).alloc _).at hb1)
    obtain ⟨Zz, Kz0, Kz1, Kz2, Kz3⟩ := HXz.out.o4
    have HXr : Hid (Bx w1 (w.heap.size + 1) [.bool false, .slice none 0 0, .slice none 0 0, .int .i64 0]) := Lib.hid ((Bx.new (by first | rfl | simp | omega)).at hb1)
    obtain ⟨Zr, Kr0, Kr1, Kr2, Kr3, Gr0, Gr1, Gr2, Gr3⟩ := HXr.out.q4
    clear hb1
    go_wp2_with fail
    refine (HOK.out _ (h_docs.below (HBW.out.alloc om _)) (h_subs.below (HBW.out.alloc om _))).mono ?_
    rintro e' w2 ⟨rfl, hb2⟩
    rw [h1]
    have s2 : w1.heap.size + 1 ≤ w2.heap.size := by have := hb2.size; (try simp at this); omega
    have HBN : Hid (Below w.heap.size w w2) := Lib.hid ((HBW.out.alloc om _).trans (hb2.mono om))
    clear HBW
    have HBW := HBN
    clear HBN
    replace HDN : Hid (Tri (w.heap.size + 2) (w1.heap.size) (w2) (.slice a0t t.length c0t) (.slice a0l 0 c0l) (.slice a0s 0 c0s) t ([] : List DEntry) ([] : List DSeen) f0t f0l f0s) := Lib.hid (((HDN.out.alloc om _).below (hb2.mono om)))
    replace HXz : Hid (Bx w2 (w.heap.size) [.bool true, v_docs, v_subs, .int .i64 z.last]) := Lib.hid ((HXz.out.alloc _).at hb2)
    clear Zz Kz0 Kz1 Kz2 Kz3
    obtain ⟨Zz, Kz0, Kz1, Kz2, Kz3⟩ := HXz.out.o4
    replace HXr : Hid (Bx w2 (w.heap.size + 1) [.bool false, .slice none 0 0, .slice none 0 0, .int .i64 0]) := Lib.hid ((HXr.out.alloc _).at hb2)
    clear Zr Kr0 Kr1 Kr2 Kr3 Gr0 Gr1 Gr2 Gr3
    obtain ⟨Zr, Kr0, Kr1, Kr2, Kr3, Gr0, Gr1, Gr2, Gr3⟩ := HXr.out.q4
    have HXd : Hid (Bx w2 (w1.heap.size) [.string name, .int .i64 0, .slice a0t t.length c0t, .slice a0l 0 c0l, .slice a0s 0 c0s]) := Lib.hid ((Bx.new (by first | rfl | simp | omega)).at hb2)
    obtain ⟨Zd, Kd0, Kd1, Kd2, Kd3, Kd4, Gd0, Gd1, Gd2, Gd3, Gd4⟩ := HXd.out.q5
    clear hb2
    go_wp2
    have HB : Hid (Below w.heap.size w ((((w2.setCell ⟨w.heap.size + 1, 0, none⟩ (.bool false)).setCell ⟨w.heap.size + 1, 1, none⟩ (.slice none 0 0)).setCell ⟨w.heap.size + 1, 2, none⟩ (.slice none 0 0)).setCell ⟨w.heap.size + 1, 3, none⟩ (.int .i64 0))) := Lib.hid ((((HBW.out.setCell (p := ⟨w.heap.size + 1, 0, none⟩) om _).setCell (p := ⟨w.heap.size + 1, 1, none⟩) om _).setCell (p := ⟨w.heap.size + 1, 2, none⟩) om _).setCell (p := ⟨w.heap.size + 1, 3, none⟩) om _)
    rw [HV.out]
    exact bodyPost_ret (v := .tuple #[.agg #[.bool false, .slice none 0 0, .slice none 0 0, .int .i64 0], .int .i64 12]) (by simp [results, Tryz.results18, go_sem, cell_setCell, *]) rfl (out_hub0_i HB.out)
  by_cases h3 : 0 ≤ hubDoc z name
  · have HV := Lib.hid (hubOpen_have ⟨h1, HDK.out⟩ hsh h3)
    have h3b : decide (0 ≤ hubDoc z name) = true := by simpa using h3
    go_enter Tryz.func18, Tryz.ntmps18
    go_wp2_with fail
    refine (HDC.out _ (ht.below (((Below.refl w.heap.size w).alloc om _).alloc om _))).mono ?_
    rintro e' w1 ⟨v0t, v0l, v0s, f0t, f0l, f0s, rfl, st, sl, ss, _, kf, hb1⟩
    obtain ⟨a0t, c0t, rfl⟩ := RdS.isSlice ⟨_, st⟩
    obtain ⟨a0l, c0l, rfl⟩ := sl.nilS
    obtain ⟨a0s, c0s, rfl⟩ := ss.nilS
    have HDN : Hid (Tri (w.heap.size + 2) w1.heap.size w1 (.slice a0t t.length c0t) (.slice a0l 0 c0l) (.slice a0s 0 c0s) t ([] : List DEntry) ([] : List DSeen) f0t f0l f0s) := Lib.hid ⟨st, sl, ss, kf.mono (by first | exact Nat.le_refl _ | (simp; done) | (simp; omega)), Live.lt (Live.append.2 ⟨st.live, Live.append.2 ⟨sl.live, ss.live⟩⟩)⟩
    clear st sl ss kf
    (try dsimp only [docAt])
    have s1 : w.heap.size + 2 ≤ w1.heap.size := by have := hb1.size; (try simp at this); omega
    have HBN : Hid (Below w.heap.size w w1) := Lib.hid ((((Below.refl w.heap.size w).alloc om _).alloc om _).trans (hb1.mono om))
    have HBW := HBN
    clear HBN
    have HXz : Hid (Bx w1 (w.heap.size) [.bool false, v_docs, v_subs, .int .i64 z.last]) := Lib.hid (((Bx.new (by first | rfl | simp | omega)).alloc _).at hb1)
    obtain ⟨Zz, Kz0, Kz1, Kz2, Kz3⟩ := HXz.out.o4
    have HXr : Hid (Bx w1 (w.heap.size + 1) [.bool false, .slice none 0 0, .slice none 0 0, .int .i64 0]) := Lib.hid ((Bx.new (by first | rfl | simp | omega)).at hb1)
    obtain ⟨Zr, Kr0, Kr1, Kr2, Kr3, Gr0, Gr1, Gr2, Gr3⟩ := HXr.out.q4
    clear hb1
    go_wp2_with fail
    refine (HOK.out _ (h_docs.below (HBW.out.alloc om _)) (h_subs.below (HBW.out.alloc om _))).mono ?_
    rintro e' w2 ⟨rfl, hb2⟩
    rw [h1]
    have s2 : w1.heap.size + 1 ≤ w2.heap.size := by have := hb2.size; (try simp at this); omega
    have HBN : Hid (Below w.heap.size w w2) := Lib.hid ((HBW.out.alloc om _).trans (hb2.mono om))
    clear HBW
    have HBW := HBN
    clear HBN
    replace HDN : Hid (Tri (w.heap.size + 2) (w1.heap.size) (w2) (.slice a0t t.length c0t) (.slice a0l 0 c0l) (.slice a0s 0 c0s) t ([] : List DEntry) ([] : List DSeen) f0t f0l f0s) := Lib.hid (((HDN.out.alloc om _).below (hb2.mono om)))
    replace HXz : Hid (Bx w2 (w.heap.size) [.bool false, v_docs, v_subs, .int .i64 z.last]) := Lib.hid ((HXz.out.alloc _).at hb2)
    clear Zz Kz0 Kz1 Kz2 Kz3
    obtain ⟨Zz, Kz0, Kz1, Kz2, Kz3⟩ := HXz.out.o4
    replace HXr : Hid (Bx w2 (w.heap.size + 1) [.bool false, .slice none 0 0, .slice none 0 0, .int .i64 0]) := Lib.hid ((HXr.out.alloc _).at hb2)
    clear Zr Kr0 Kr1 Kr2 Kr3 Gr0 Gr1 Gr2 Gr3
    obtain ⟨Zr, Kr0, Kr1, Kr2, Kr3, Gr0, Gr1, Gr2, Gr3⟩ := HXr.out.q4
    have HXd : Hid (Bx w2 (w1.heap.size) [.string name, .int .i64 0, .slice a0t t.length c0t, .slice a0l 0 c0l, .slice a0s 0 c0s]) := Lib.hid ((Bx.new (by first | rfl | simp | omega)).at hb2)
    obtain ⟨Zd, Kd0, Kd1, Kd2, Kd3, Kd4, Gd0, Gd1, Gd2, Gd3, Gd4⟩ := HXd.out.q5
    clear hb2
    go_wp2_with fail
    refine (HF0.out _ (h_docs.below HBW.out)).mono ?_
    rintro e' w3 ⟨rfl, hb3⟩
    have s3 : w2.heap.size ≤ w3.heap.size := by have := hb3.size; (try simp at this); omega
    have HBN : Hid (Below w.heap.size w w3) := Lib.hid (HBW.out.trans (hb3.mono om))
    clear HBW
    have HBW := HBN
    clear HBN
    replace HDN : Hid (Tri (w.heap.size + 2) (w1.heap.size) (w3) (.slice a0t t.length c0t) (.slice a0l 0 c0l) (.slice a0s 0 c0s) t ([] : List DEntry) ([] : List DSeen) f0t f0l f0s) := Lib.hid ((HDN.out.below (hb3.mono om)))
    replace HXz : Hid (Bx w3 (w.heap.size) [.bool false, v_docs, v_subs, .int .i64 z.last]) := Lib.hid (HXz.out.at hb3)
    clear Zz Kz0 Kz1 Kz2 Kz3
    obtain ⟨Zz, Kz0, Kz1, Kz2, Kz3⟩ := HXz.out.o4
    replace HXr : Hid (Bx w3 (w.heap.size + 1) [.bool false, .slice none 0 0, .slice none 0 0, .int .i64 0]) := Lib.hid (HXr.out.at hb3)
    clear Zr Kr0 Kr1 Kr2 Kr3 Gr0 Gr1 Gr2 Gr3
    obtain ⟨Zr, Kr0, Kr1, Kr2, Kr3, Gr0, Gr1, Gr2, Gr3⟩ := HXr.out.q4
    replace HXd : Hid (Bx w3 (w1.heap.size) [.string name, .int .i64 0, .slice a0t t.length c0t, .slice a0l 0 c0l, .slice a0s 0 c0s]) := Lib.hid (HXd.out.at hb3)
    clear Zd Kd0 Kd1 Kd2 Kd3 Kd4 Gd0 Gd1 Gd2 Gd3 Gd4
    obtain ⟨Zd, Kd0, Kd1, Kd2, Kd3, Kd4, Gd0, Gd1, Gd2, Gd3, Gd4⟩ := HXd.out.q5
    clear hb3
    go_wp2
    have HB : Hid (Below w.heap.size w ((((w3.setCell ⟨w.heap.size + 1, 0, none⟩ (.bool false)).setCell ⟨w.heap.size + 1, 1, none⟩ (.slice none 0 0)).setCell ⟨w.heap.size + 1, 2, none⟩ (.slice none 0 0)).setCell ⟨w.heap.size + 1, 3, none⟩ (.int .i64 0))) := Lib.hid ((((HBW.out.setCell (p := ⟨w.heap.size + 1, 0, none⟩) om _).setCell (p := ⟨w.heap.size + 1, 1, none⟩) om _).setCell (p := ⟨w.heap.size + 1, 2, none⟩) om _).setCell (p := ⟨w.heap.size + 1, 3, none⟩) om _)
    rw [HV.out]
    exact bodyPost_ret (v := .tuple #[.agg #[.bool false, .slice none 0 0, .slice none 0 0, .int .i64 0], .int .i64 7]) (by simp [results, Tryz.results18, go_sem, cell_setCell, *]) rfl (out_hub0_i HB.out)
  have h3b : decide (0 ≤ hubDoc z name) = false := by simpa using h3
  have hld := fun w1 ty => h_docs.len Tryz.underlying27 w1 ty
  by_cases h4 : z.docs.length = 5
  · have HV := Lib.hid (hubOpen_full ⟨h1, HDK.out⟩ hsh h3 h4)
    have e4 : ((z.docs.length : Int) == 5) = true := by simp; omega
    clear h4
    go_enter Tryz.func18, Tryz.ntmps18
    go_wp2_with fail
    refine (HDC.out _ (ht.below (((Below.refl w.heap.size w).alloc om _).alloc om _))).mono ?_
    rintro e' w1 ⟨v0t, v0l, v0s, f0t, f0l, f0s, rfl, st, sl, ss, _, kf, hb1⟩
    obtain ⟨a0t, c0t, rfl⟩ := RdS.isSlice ⟨_, st⟩
    obtain ⟨a0l, c0l, rfl⟩ := sl.nilS
    obtain ⟨a0s, c0s, rfl⟩ := ss.nilS
    have HDN : Hid (Tri (w.heap.size + 2) w1.heap.size w1 (.slice a0t t.length c0t) (.slice a0l 0 c0l) (.slice a0s 0 c0s) t ([] : List DEntry) ([] : List DSeen) f0t f0l f0s) := Lib.hid ⟨st, sl, ss, kf.mono (by first | exact Nat.le_refl _ | (simp; done) | (simp; omega)), Live.lt (Live.append.2 ⟨st.live, Live.append.2 ⟨sl.live, ss.live⟩⟩)⟩
    clear st sl ss kf
    (try dsimp only [docAt])
    have s1 : w.heap.size + 2 ≤ w1.heap.size := by have := hb1.size; (try simp at this); omega
    have HBN : Hid (Below w.heap.size w w1) := Lib.hid ((((Below.refl w.heap.size w).alloc om _).alloc om _).trans (hb1.mono om))
    have HBW := HBN
    clear HBN
    have HXz : Hid (Bx w1 (w.heap.size) [.bool false, v_docs, v_subs, .int .i64 z.last]) := Lib.hid (((Bx.new (by first | rfl | simp | omega)).alloc _).at hb1)
    obtain ⟨Zz, Kz0, Kz1, Kz2, Kz3⟩ := HXz.out.o4
    have HXr : Hid (Bx w1 (w.heap.size + 1) [.bool false, .slice none 0 0, .slice none 0 0, .int .i64 0]) := Lib.hid ((Bx.new (by first | rfl | simp | omega)).at hb1)
    obtain ⟨Zr, Kr0, Kr1, Kr2, Kr3, Gr0, Gr1, Gr2, Gr3⟩ := HXr.out.q4
    clear hb1
    go_wp2_with fail
    refine (HOK.out _ (h_docs.below (HBW.out.alloc om _)) (h_subs.below (HBW.out.alloc om _))).mono ?_
    rintro e' w2 ⟨rfl, hb2⟩
    rw [h1]
    have s2 : w1.heap.size + 1 ≤ w2.heap.size := by have := hb2.size; (try simp at this); omega
    have HBN : Hid (Below w.heap.size w w2) := Lib.hid ((HBW.out.alloc om _).trans (hb2.mono om))
    clear HBW
    have HBW := HBN
    clear HBN
    replace HDN : Hid (Tri (w.heap.size + 2) (w1.heap.size) (w2) (.slice a0t t.length c0t) (.slice a0l 0 c0l) (.slice a0s 0 c0s) t ([] : List DEntry) ([] : List DSeen) f0t f0l f0s) := Lib.hid (((HDN.out.alloc om _).below (hb2.mono om)))
    replace HXz : Hid (Bx w2 (w.heap.size) [.bool false, v_docs, v_subs, .int .i64 z.last]) := Lib.hid ((HXz.out.alloc _).at hb2)
    clear Zz Kz0 Kz1 Kz2 Kz3
    obtain ⟨Zz, Kz0, Kz1, Kz2, Kz3⟩ := HXz.out.o4
    replace HXr : Hid (Bx w2 (w.heap.size + 1) [.bool false, .slice none 0 0, .slice none 0 0, .int .i64 0]) := Lib.hid ((HXr.out.alloc _).at hb2)
    clear Zr Kr0 Kr1 Kr2 Kr3 Gr0 Gr1 Gr2 Gr3
    obtain ⟨Zr, Kr0, Kr1, Kr2, Kr3, Gr0, Gr1, Gr2, Gr3⟩ := HXr.out.q4
    have HXd : Hid (Bx w2 (w1.heap.size) [.string name, .int .i64 0, .slice a0t t.length c0t, .slice a0l 0 c0l, .slice a0s 0 c0s]) := Lib.hid ((Bx.new (by first | rfl | simp | omega)).at hb2)
    obtain ⟨Zd, Kd0, Kd1, Kd2, Kd3, Kd4, Gd0, Gd1, Gd2, Gd3, Gd4⟩ := HXd.out.q5
    clear hb2
    go_wp2_with fail
    refine (HF0.out _ (h_docs.below HBW.out)).mono ?_
    rintro e' w3 ⟨rfl, hb3⟩
    have s3 : w2.heap.size ≤ w3.heap.size := by have := hb3.size; (try simp at this); omega
    have HBN : Hid (Below w.heap.size w w3) := Lib.hid (HBW.out.trans (hb3.mono om))
    clear HBW
    have HBW := HBN
    clear HBN
    replace HDN : Hid (Tri (w.heap.size + 2) (w1.heap.size) (w3) (.slice a0t t.length c0t) (.slice a0l 0 c0l) (.slice a0s 0 c0s) t ([] : List DEntry) ([] : List DSeen) f0t f0l f0s) := Lib.hid ((HDN.out.below (hb3.mono om)))
    replace HXz : Hid (Bx w3 (w.heap.size) [.bool false, v_docs, v_subs, .int .i64 z.last]) := Lib.hid (HXz.out.at hb3)
    clear Zz Kz0 Kz1 Kz2 Kz3
    obtain ⟨Zz, Kz0, Kz1, Kz2, Kz3⟩ := HXz.out.o4
    replace HXr : Hid (Bx w3 (w.heap.size + 1) [.bool false, .slice none 0 0, .slice none 0 0, .int .i64 0]) := Lib.hid (HXr.out.at hb3)
    clear Zr Kr0 Kr1 Kr2 Kr3 Gr0 Gr1 Gr2 Gr3
    obtain ⟨Zr, Kr0, Kr1, Kr2, Kr3, Gr0, Gr1, Gr2, Gr3⟩ := HXr.out.q4
    replace HXd : Hid (Bx w3 (w1.heap.size) [.string name, .int .i64 0, .slice a0t t.length c0t, .slice a0l 0 c0l, .slice a0s 0 c0s]) := Lib.hid (HXd.out.at hb3)
    clear Zd Kd0 Kd1 Kd2 Kd3 Kd4 Gd0 Gd1 Gd2 Gd3 Gd4
    obtain ⟨Zd, Kd0, Kd1, Kd2, Kd3, Kd4, Gd0, Gd1, Gd2, Gd3, Gd4⟩ := HXd.out.q5
    clear hb3
    go_wp2
    have HB : Hid (Below w.heap.size w ((((w3.setCell ⟨w.heap.size + 1, 0, none⟩ (.bool false)).setCell ⟨w.heap.size + 1, 1, none⟩ (.slice none 0 0)).setCell ⟨w.heap.size + 1, 2, none⟩ (.slice none 0 0)).setCell ⟨w.heap.size + 1, 3, none⟩ (.int .i64 0))) := Lib.hid ((((HBW.out.setCell (p := ⟨w.heap.size + 1, 0, none⟩) om _).setCell (p := ⟨w.heap.size + 1, 1, none⟩) om _).setCell (p := ⟨w.heap.size + 1, 2, none⟩) om _).setCell (p := ⟨w.heap.size + 1, 3, none⟩) om _)
    rw [HV.out]
    exact bodyPost_ret (v := .tuple #[.agg #[.bool false, .slice none 0 0, .slice none 0 0, .int .i64 0], .int .i64 10]) (by simp [results, Tryz.results18, go_sem, cell_setCell, *]) rfl (out_hub0_i HB.out)
  have HV := Lib.hid (hubOpen_yes ⟨h1, HDK.out⟩ HDE.out hsh h3 h4)
  have e4 : ((z.docs.length : Int) == 5) = false := by simp; omega
  have bd := (hubOk_iff.1 h1).nd
  clear h4
  go_enter Tryz.func18, Tryz.ntmps18
  go_wp2_with fail
  refine (HDC.out _ (ht.below (((Below.refl w.heap.size w).alloc om _).alloc om _))).mono ?_
  rintro e' w1 ⟨v0t, v0l, v0s, f0t, f0l, f0s, rfl, st, sl, ss, _, kf, hb1⟩
  obtain ⟨a0t, c0t, rfl⟩ := RdS.isSlice ⟨_, st⟩
  obtain ⟨a0l, c0l, rfl⟩ := sl.nilS
  obtain ⟨a0s, c0s, rfl⟩ := ss.nilS
  have HDN : Hid (Tri (w.heap.size + 2) w1.heap.size w1 (.slice a0t t.length c0t) (.slice a0l 0 c0l) (.slice a0s 0 c0s) t ([] : List DEntry) ([] : List DSeen) f0t f0l f0s) := Lib.hid ⟨st, sl, ss, kf.mono (by first | exact Nat.le_refl _ | (simp; done) | (simp; omega)), Live.lt (Live.append.2 ⟨st.live, Live.append.2 ⟨sl.live, ss.live⟩⟩)⟩
  clear st sl ss kf
  (try dsimp only [docAt])
  have s1 : w.heap.size + 2 ≤ w1.heap.size := by have := hb1.size; (try simp at this); omega
  have HBN : Hid (Below w.heap.size w w1) := Lib.hid ((((Below.refl w.heap.size w).alloc om _).alloc om _).trans (hb1.mono om))
  have HBW := HBN
  clear HBN
  have HXz : Hid (Bx w1 (w.heap.size) [.bool false, v_docs, v_subs, .int .i64 z.last]) := Lib.hid (((Bx.new (by first | rfl | simp | omega)).alloc _).at hb1)
  obtain ⟨Zz, Kz0, Kz1, Kz2, Kz3⟩ := HXz.out.o4
  have HXr : Hid (Bx w1 (w.heap.size + 1) [.bool false, .slice none 0 0, .slice none 0 0, .int .i64 0]) := Lib.hid ((Bx.new (by first | rfl | simp | omega)).at hb1)
  obtain ⟨Zr, Kr0, Kr1, Kr2, Kr3, Gr0, Gr1, Gr2, Gr3⟩ := HXr.out.q4
  clear hb1
  go_wp2_with fail
  refine (HOK.out _ (h_docs.below (HBW.out.alloc om _)) (h_subs.below (HBW.out.alloc om _))).mono ?_
  rintro e' w2 ⟨rfl, hb2⟩
  rw [h1]
  have s2 : w1.heap.size + 1 ≤ w2.heap.size := by have := hb2.size; (try simp at this); omega
  have HBN : Hid (Below w.heap.size w w2) := Lib.hid ((HBW.out.alloc om _).trans (hb2.mono om))
  clear HBW
  have HBW := HBN
  clear HBN
  replace HDN : Hid (Tri (w.heap.size + 2) (w1.heap.size) (w2) (.slice a0t t.length c0t) (.slice a0l 0 c0l) (.slice a0s 0 c0s) t ([] : List DEntry) ([] : List DSeen) f0t f0l f0s) := Lib.hid (((HDN.out.alloc om _).below (hb2.mono om)))
  replace HXz : Hid (Bx w2 (w.heap.size) [.bool false, v_docs, v_subs, .int .i64 z.last]) := Lib.hid ((HXz.out.alloc _).at hb2)
  clear Zz Kz0 Kz1 Kz2 Kz3
  obtain ⟨Zz, Kz0, Kz1, Kz2, Kz3⟩ := HXz.out.o4
  replace HXr : Hid (Bx w2 (w.heap.size + 1) [.bool false, .slice none 0 0, .slice none 0 0, .int .i64 0]) := Lib.hid ((HXr.out.alloc _).at hb2)
  clear Zr Kr0 Kr1 Kr2 Kr3 Gr0 Gr1 Gr2 Gr3
  obtain ⟨Zr, Kr0, Kr1, Kr2, Kr3, Gr0, Gr1, Gr2, Gr3⟩ := HXr.out.q4
  have HXd : Hid (Bx w2 (w1.heap.size) [.string name, .int .i64 0, .slice a0t t.length c0t, .slice a0l 0 c0l, .slice a0s 0 c0s]) := Lib.hid ((Bx.new (by first | rfl | simp | omega)).at hb2)
  obtain ⟨Zd, Kd0, Kd1, Kd2, Kd3, Kd4, Gd0, Gd1, Gd2, Gd3, Gd4⟩ := HXd.out.q5
  clear hb2
  go_wp2_with fail
  refine (HF0.out _ (h_docs.below HBW.out)).mono ?_
  rintro e' w3 ⟨rfl, hb3⟩
  have s3 : w2.heap.size ≤ w3.heap.size := by have := hb3.size; (try simp at this); omega
  have HBN : Hid (Below w.heap.size w w3) := Lib.hid (HBW.out.trans (hb3.mono om))
  clear HBW
  have HBW := HBN
  clear HBN
  replace HDN : Hid (Tri (w.heap.size + 2) (w1.heap.size) (w3) (.slice a0t t.length c0t) (.slice a0l 0 c0l) (.slice a0s 0 c0s) t ([] : List DEntry) ([] : List DSeen) f0t f0l f0s) := Lib.hid ((HDN.out.below (hb3.mono om)))
  replace HXz : Hid (Bx w3 (w.heap.size) [.bool false, v_docs, v_subs, .int .i64 z.last]) := Lib.hid (HXz.out.at hb3)
  clear Zz Kz0 Kz1 Kz2 Kz3
  obtain ⟨Zz, Kz0, Kz1, Kz2, Kz3⟩ := HXz.out.o4
  replace HXr : Hid (Bx w3 (w.heap.size + 1) [.bool false, .slice none 0 0, .slice none 0 0, .int .i64 0]) := Lib.hid (HXr.out.at hb3)
  clear Zr Kr0 Kr1 Kr2 Kr3 Gr0 Gr1 Gr2 Gr3
  obtain ⟨Zr, Kr0, Kr1, Kr2, Kr3, Gr0, Gr1, Gr2, Gr3⟩ := HXr.out.q4
  replace HXd : Hid (Bx w3 (w1.heap.size) [.string name, .int .i64 0, .slice a0t t.length c0t, .slice a0l 0 c0l, .slice a0s 0 c0s]) := Lib.hid (HXd.out.at hb3)
  clear Zd Kd0 Kd1 Kd2 Kd3 Kd4 Gd0 Gd1 Gd2 Gd3 Gd4
  obtain ⟨Zd, Kd0, Kd1, Kd2, Kd3, Kd4, Gd0, Gd1, Gd2, Gd3, Gd4⟩ := HXd.out.q5
  clear hb3
  go_wp2_with fail
  refine (HCP.out _ (h_docs.below HBW.out) (h_subs.below HBW.out) HZ.out).mono ?_
  rintro e' w4 ⟨_, rfl, ho4, hb4⟩
  obtain ⟨vd, vs, rfl, hown⟩ := HubOwn.of_own ho4
  rw [hsh]
  obtain ⟨ad, cd, rfl⟩ := hown.rd1.isSlice
  obtain ⟨as_, cs_, rfl⟩ := hown.rd2.isSlice
  have HOWN := Lib.hid (hown.mono (C' := w3.heap.size) om)
  clear ho4 hown
  have s4 : w3.heap.size ≤ w4.heap.size := by have := hb4.size; (try simp at this); omega
  have HBN : Hid (Below w.heap.size w w4) := Lib.hid (HBW.out.trans (hb4.mono om))
  clear HBW
  have HBW := HBN
  clear HBN
  replace HDN : Hid (Tri (w.heap.size + 2) (w1.heap.size) (w4) (.slice a0t t.length c0t) (.slice a0l 0 c0l) (.slice a0s 0 c0s) t ([] : List DEntry) ([] : List DSeen) f0t f0l f0s) := Lib.hid ((HDN.out.below (hb4.mono om)))
  replace HXz : Hid (Bx w4 (w.heap.size) [.bool false, v_docs, v_subs, .int .i64 z.last]) := Lib.hid (HXz.out.at hb4)
  clear Zz Kz0 Kz1 Kz2 Kz3
  obtain ⟨Zz, Kz0, Kz1, Kz2, Kz3⟩ := HXz.out.o4
  replace HXr : Hid (Bx w4 (w.heap.size + 1) [.bool false, .slice none 0 0, .slice none 0 0, .int .i64 0]) := Lib.hid (HXr.out.at hb4)
  clear Zr Kr0 Kr1 Kr2 Kr3 Gr0 Gr1 Gr2 Gr3
  obtain ⟨Zr, Kr0, Kr1, Kr2, Kr3, Gr0, Gr1, Gr2, Gr3⟩ := HXr.out.q4
  replace HXd : Hid (Bx w4 (w1.heap.size) [.string name, .int .i64 0, .slice a0t t.length c0t, .slice a0l 0 c0l, .slice a0s 0 c0s]) := Lib.hid (HXd.out.at hb4)
  clear Zd Kd0 Kd1 Kd2 Kd3 Kd4 Gd0 Gd1 Gd2 Gd3 Gd4
  obtain ⟨Zd, Kd0, Kd1, Kd2, Kd3, Kd4, Gd0, Gd1, Gd2, Gd3, Gd4⟩ := HXd.out.q5
  clear hb4
  clear hld
  go_upto_region 11 with (fail)
  obtain ⟨V, hV⟩ : ∃ V : World, V = (w4.alloc (.cells #[.bool false, .slice ad z.docs.length cd, .slice as_ z.subs.length cs_, .int .i64 z.last] 30)) := ⟨_, rfl⟩
  have sV : w4.heap.size + 1 ≤ V.heap.size := by rw [hV]; first | (simp; done) | (simp; omega)
  have HBN : Hid (Below w.heap.size w V) := Lib.hid (by rw [hV]; exact (HBW.out.alloc om _))
  clear HBW
  have HBW := HBN
  clear HBN
  replace HDN : Hid (Tri (w.heap.size + 2) (w1.heap.size) (V) (.slice a0t t.length c0t) (.slice a0l 0 c0l) (.slice a0s 0 c0s) t ([] : List DEntry) ([] : List DSeen) f0t f0l f0s) := Lib.hid (by rw [hV]; exact (HDN.out.alloc om _))
  replace HOWN : Hid (HubOwn (w3.heap.size) (w4.heap.size) V (.slice ad z.docs.length cd) (.slice as_ z.subs.length cs_) (z.docs) (z.subs)) := Lib.hid (by rw [hV]; exact (HOWN.out.alloc om _))
  replace HXz : Hid (Bx V (w.heap.size) [.bool false, v_docs, v_subs, .int .i64 z.last]) := Lib.hid (by rw [hV]; exact (HXz.out.alloc _))
  clear Zz Kz0 Kz1 Kz2 Kz3
  obtain ⟨Zz, Kz0, Kz1, Kz2, Kz3⟩ := HXz.out.o4
  replace HXr : Hid (Bx V (w.heap.size + 1) [.bool false, .slice none 0 0, .slice none 0 0, .int .i64 0]) := Lib.hid (by rw [hV]; exact (HXr.out.alloc _))
  clear Zr Kr0 Kr1 Kr2 Kr3 Gr0 Gr1 Gr2 Gr3
  obtain ⟨Zr, Kr0, Kr1, Kr2, Kr3, Gr0, Gr1, Gr2, Gr3⟩ := HXr.out.q4
  replace HXd : Hid (Bx V (w1.heap.size) [.string name, .int .i64 0, .slice a0t t.length c0t, .slice a0l 0 c0l, .slice a0s 0 c0s]) := Lib.hid (by rw [hV]; exact (HXd.out.alloc _))
  clear Zd Kd0 Kd1 Kd2 Kd3 Kd4 Gd0 Gd1 Gd2 Gd3 Gd4
  obtain ⟨Zd, Kd0, Kd1, Kd2, Kd3, Kd4, Gd0, Gd1, Gd2, Gd3, Gd4⟩ := HXd.out.q5
  have HXo : Hid (Bx V (w4.heap.size) [.bool false, .slice ad z.docs.length cd, .slice as_ z.subs.length cs_, .int .i64 z.last]) := Lib.hid (by rw [hV]; exact (Bx.new (by first | rfl | simp | omega)))
  obtain ⟨Zo, Ko0, Ko1, Ko2, Ko3, Go0, Go1, Go2, Go3⟩ := HXo.out.q4
  rw [← hV]
  clear hV
  have hrd : RdS V (.slice ad z.docs.length cd) z.docs := HOWN.out.rd1
  have hls := fun w1 ty => hrd.len Tryz.underlying27 w1 ty
  have HRD := Lib.hid hrd
  clear hrd
  go_wp2_with fail
  go_loop [11] (fun i => ∃ k : Nat, k ≤ z.docs.length ∧ i = .int .i64 k ∧ ∀ j < k, ∀ d, z.docs[j]? = some d → slt d.name name = true) (fun i => z.docs.length - (intOf i).toNat)
  case atStart => exact ⟨0, Nat.zero_le _, rfl, fun j h => absurd h (Nat.not_lt_zero j)⟩
  case round =>
    obtain ⟨k, hk, rfl, hlow⟩ := hrel
    have HLOW := Lib.hid hlow
    clear hlow
    have fin : ∀ {m : Nat}, True → True := fun _ => trivial
    clear fin
    by_cases hlt : k < z.docs.length
    · obtain ⟨d, hd⟩ := get_some hlt
      obtain ⟨b1, o1, cs, g1, g2, g3⟩ := HRD.out.idx Tryz.underlying27 szi_DDoc k hd
      obtain ⟨d_text, d_list, d_seen, rfl, nd, r_text, r_list, r_seen⟩ := inv_DDoc g3
      have q0 := g2.zero
      have HD := Lib.hid hd
      clear g2 g3 r_text r_list r_seen hd
      by_cases e2 : slt d.name name = true
      · have e3 : Op.bytesLess d.name.toList name.toList = true := e2
        have hl2 : (k : Int) < (z.docs.length : Int) := by omega
        go_wp2
        go_round
        case rel =>
          refine ⟨k + 1, by omega, by go_num, fun j hj d' hd' => ?_⟩
          by_cases hjk : j < k
          · exact HLOW.out j hjk d' hd'
          · obtain rfl : j = k := by omega
            rw [HD.out] at hd'; cases hd'; exact e2
        case measure => simp [intOf]; omega
      · have e2 : slt d.name name = false := by simpa using e2
        have e3 : Op.bytesLess d.name.toList name.toList = false := e2
        have hl2 : (k : Int) < (z.docs.length : Int) := by omega
        have HAT := Lib.hid (hubAt_eq hk HLOW.out (fun d' hd' => by rw [HD.out] at hd'; cases hd'; exact e2))
        go_upto_region 14 with (fail)
        obtain ⟨gs, hrow, hlim, hfr, happ⟩ := HOWN.out.docs (B := w.heap.size + 2) (ob := w4.heap.size) (by omega) (by omega) (by omega)
        have hv1 : Below V.heap.size V (V.alloc (.cells #[] 61)) := (Below.refl _ _).alloc (Nat.le_refl _) _
        obtain ⟨va, vb, g1, g2, hca, hcb, hsa, hsb, hgs⟩ := (hrow.below hv1).srcs Tryz.underlying27 (E := 61) szi_DDoc hk
        obtain ⟨i0, hi, hz0, hz1, hz2⟩ := info_parts info_docI
        have hgx : GoT.rd BIG V [.string name, .int .i64 0, .slice a0t t.length c0t, .slice a0l 0 c0l, .slice a0s 0 c0s] (docAt name t) (f0t ++ (f0l ++ f0s)) := ⟨_, _, _, _, _, _, rfl, nn, HDN.out.1, HDN.out.2.1, HDN.out.2.2.1, rfl⟩
        have HLIM := Lib.hid hlim
        have HAPP := Lib.hid happ
        have HFR := Lib.hid hfr
        have HGX := Lib.hid hgx
        have HGS := Lib.hid hgs
        have HSA := Lib.hid hsa
        have HSB := Lib.hid hsb
        have HGL : Hid (∀ p ∈ gs, p.1 < V.heap.size) := Lib.hid (Live.lt hrow.live)
        have HXL : Hid (∀ p ∈ f0t ++ (f0l ++ f0s), p.1 < V.heap.size) := Lib.hid (Live.lt (GoT.live hgx))
        have HV1 := Lib.hid hv1
        have z0 : (((V.alloc (.cells #[] 61))).heap.size) = V.heap.size + 1 := by simp
        have hk1 : (z.docs.take k).length = k := by simp; omega
        have HK1 := Lib.hid hk1
        have HRE : Hid (Row (w.heap.size + 2) (V.alloc (.cells #[] 61)) (.slice (some ⟨V.heap.size, 0, none⟩) 0 0) ([] : List DDoc) []) := Lib.hid (Row.empty _ _ _)
        have HDE0 : Hid (∀ q ∈ g1, q ∉ rowP (GoT.n DDoc) (.slice (some ⟨V.heap.size, 0, none⟩) 0 0)) := Lib.hid fun q hq hm => by rw [rowP_zero] at hm; cases hm
        clear hrow hlim hfr happ hgx hgs hsa hsb hv1 hk1
        go_wp2_with (at_builtin; go_must (refine wpList_append_row rfl _ _ 27 rfl Tryz.underlying27 hi hz0 hz1 hz2 rfl rfl rfl HRE.out HSA.out HDE0.out ?c1 ?c2 ?c3 ?_))
        case c1 => have := HK1.out; refine le_BIG ?_; first | omega | (simp; omega)
        case c2 => have := HK1.out; first | omega | (simp; omega)
        case c3 => first | omega | (simp; omega)
        intro v21 w21 hr hw hn
        have HR1 := Lib.hid hr
        have HN1 := Lib.hid hn
        have B1 : Below V.heap.size V w21 := HV1.out.trans (hw.below (by simp) (fun q hq => by rw [rowP_zero] at hq; cases hq))
        have s21 := B1.size
        have s21b := hw.size
        have HB1V : Hid (Below ((V.alloc (.cells #[] 61))).heap.size (V.alloc (.cells #[] 61)) w21) := Lib.hid (hw.below (Nat.le_refl _) (fun q hq => by rw [rowP_zero] at hq; cases hq))
        obtain ⟨Zd1, Kd10, Kd11, Kd12, Kd13, Kd14, Gd10, Gd11, Gd12, Gd13, Gd14⟩ := (HXd.out.at B1).q5
        have HB1 := Lib.hid B1
        clear hr hw hn B1
        have W2 : Hid (Below w21.heap.size w21 (w21.alloc (.cells #[.string name, .int .i64 0, .slice a0t t.length c0t, .slice a0l 0 c0l, .slice a0s 0 c0s] 61))) := Lib.hid ((Below.refl _ _).alloc (Nat.le_refl _) _)
        have hsd := src_built (x := docAt name t) 61 (GoT.keep HGX.out (Live.same_below HB1.out HXL.out))
        have HSD := Lib.hid hsd
        clear hsd
        go_wp2_with (at_builtin; go_must (refine wpList_append_row rfl _ _ 27 rfl Tryz.underlying27 hi hz0 hz1 hz2 rfl rfl rfl (HR1.out.below W2.out) HSD.out (fun q hq hm => by have a1 := HXL.out q hq; have a2 := HN1.out q.1 q.2 hm; (try rw [rowP_zero] at a2); simp at a2; omega) ?c1 ?c2 ?c3 ?_))
        case c1 => have := HK1.out; refine le_BIG ?_; first | omega | (simp; omega)
        case c2 => have := HK1.out; first | omega | (simp; omega)
        case c3 => first | omega | (simp; omega)
        intro v22 w22 hr hw hn
        have HR2 := Lib.hid hr
        have HN2 : Hid (∀ q ∈ rowP (GoT.n DDoc) v22, V.heap.size < q.1) := Lib.hid fun q hq => by
          rcases hn q.1 q.2 hq with h | h
          · have a2 := HN1.out q.1 q.2 h; (try rw [rowP_zero] at a2); simp at a2; omega
          · (try simp at h); omega
        have B2 : Below V.heap.size V w22 := HB1.out.trans ((W2.out.mono s21).trans (hw.below (by simp; omega) (fun q hq => by have a2 := HN1.out q.1 q.2 hq; (try rw [rowP_zero] at a2); simp at a2; omega)))
        have s22 := B2.size
        obtain ⟨Zo2, Ko20, Ko21, Ko22, Ko23, Go20, Go21, Go22, Go23⟩ := (HXo.out.at B2).q4
        have HB2 := Lib.hid B2
        have HBV : Hid (Below ((V.alloc (.cells #[] 61))).heap.size (V.alloc (.cells #[] 61)) w22) := Lib.hid (HB1V.out.trans ((W2.out.mono s21b).trans (hw.below (by simp at s21b ⊢; omega) (fun q hq => by have a2 := HN1.out q.1 q.2 hq; (try rw [rowP_zero] at a2); simp at a2; simp; omega))))
        have s22c : V.heap.size + 1 ≤ w22.heap.size := by have := HBV.out.size; simp at this; omega
        clear hr hw hn B2 HN1 HR1
        go_wp2_with (at_builtin; go_must (refine wpList_append_row rfl _ _ 27 rfl Tryz.underlying27 hi hz0 hz1 hz2 rfl rfl rfl HR2.out (HSB.out.below HBV.out) (fun q hq hm => by have a1 := HGL.out q (by rw [HGS.out]; simp [hq]); have a2 := HN2.out q hm; omega) ?c1 ?c2 ?c3 ?_))
        case c1 => have := HK1.out; refine le_BIG ?_; first | omega | (simp; omega)
        case c2 => have := HK1.out; first | omega | (simp; omega)
        case c3 => first | omega | (simp; omega)
        intro v23 w23 hr hw hn
        obtain ⟨a20, c20, e20⟩ := hr.rd.isSlice
        have hll : (([] : List DDoc) ++ z.docs.take k ++ [docAt name t] ++ z.docs.drop k) = z.docs.take k ++ docAt name t :: z.docs.drop k := by simp
        (try rw [hll] at hr)
        (try rw [hll] at e20)
        have hgg : g1 ++ (f0t ++ (f0l ++ (f0s ++ g2))) = ([] ++ g1 ++ (f0t ++ (f0l ++ f0s))) ++ g2 := by simp
        (try rw [hgg] at hr)
        have hlen20 : (z.docs.take k ++ docAt name t :: z.docs.drop k).length = z.docs.length + 1 := by simp; omega
        rw [hlen20] at e20
        subst e20
        have B3 : Below V.heap.size V w23 := HB2.out.trans (hw.below (by omega) (fun q hq => by have := HN2.out q hq; omega))
        have hm3 : ∀ q ∈ rowP (GoT.n DDoc) (.slice a20 (z.docs.length + 1) c20), V.heap.size < q.1 := fun q hq => by
          rcases hn q.1 q.2 hq with h | h
          · exact HN2.out q h
          · omega
        have hel : Fresh (w.heap.size + 2) V (([] ++ g1 ++ (f0t ++ (f0l ++ f0s))) ++ g2) := by
          have h1 := HFR.out.right
          rw [HGS.out] at h1
          have h2 := HDN.out.2.2.2.1
          refine ((h1.left.mono (by omega)).join (h2.mono (by omega)) fun p hp q hq e => ?_).join (h1.right.mono (by omega)) fun p hp q hq e => ?_
          · have a1 := HLIM.out p (List.mem_append_right _ (by rw [HGS.out]; exact List.mem_append_left _ (by simpa using hp))); have a2 := HDN.out.2.2.2.2 q hq; rw [e] at a1; omega
          · subst e
            rcases List.mem_append.1 hp with hp | hp
            · exact (List.nodup_append.1 h1.nodup).2.2 p (by simpa using hp) p hq rfl
            · have a1 := HLIM.out p (List.mem_append_right _ (by rw [HGS.out]; exact List.mem_append_right _ hq)); have a2 := HDN.out.2.2.2.2 p hp; omega
        have hell : ∀ q ∈ ([] ++ g1 ++ (f0t ++ (f0l ++ f0s))) ++ g2, q.1 < V.heap.size := fun q hq => by
          rcases List.mem_append.1 hq with hq | hq
          · rcases List.mem_append.1 hq with hq | hq
            · exact HGL.out q (by rw [HGS.out]; exact List.mem_append_left _ (by simpa using hq))
            · exact HXL.out q hq
          · exact HGL.out q (by rw [HGS.out]; exact List.mem_append_right _ hq)
        have kp := (hr.2.1).join (hel.belowL B3 hell) fun p hp q hq e => hr.2.2 q hq (e ▸ hp)
        have HNEW : Hid (HubNe (w4.heap.size) (w.heap.size + 2) w23 (.slice a20 (z.docs.length + 1) c20) (.slice as_ z.subs.length cs_) (z.docs.take k ++ docAt name t :: z.docs.drop k) z.subs) := Lib.hid (HAPP.out V _ _ _ _ (Below.refl _ _) (Wr.of_below B3) hr.1 kp (fun p hp => by
          rcases List.mem_append.1 hp with h | h
          · have := hm3 p h; right; right; omega
          · rcases List.mem_append.1 h with h | h
            · rcases List.mem_append.1 h with h | h
              · exact .inl (List.mem_append_right _ (by rw [HGS.out]; exact List.mem_append_left _ (by simpa using h)))
              · have := HDN.out.2.2.2.2 p h; right; left; omega
            · exact .inl (List.mem_append_right _ (by rw [HGS.out]; exact List.mem_append_right _ h))))
        have HB3 := Lib.hid B3
        have s23 := B3.size
        clear hr hw hn hm3 hel hell kp B3
        have s23 : V.heap.size ≤ w23.heap.size := by have := HB3.out.size; (try simp at this); omega
        have HBN : Hid (Below w.heap.size w w23) := Lib.hid (HBW.out.trans (HB3.out.mono (by omega)))
        clear HBW
        have HBW := HBN
        clear HBN
        replace HXz : Hid (Bx w23 (w.heap.size) [.bool false, v_docs, v_subs, .int .i64 z.last]) := Lib.hid (HXz.out.at HB3.out)
        clear Zz Kz0 Kz1 Kz2 Kz3
        obtain ⟨Zz, Kz0, Kz1, Kz2, Kz3⟩ := HXz.out.o4
        replace HXr : Hid (Bx w23 (w.heap.size + 1) [.bool false, .slice none 0 0, .slice none 0 0, .int .i64 0]) := Lib.hid (HXr.out.at HB3.out)
        clear Zr Kr0 Kr1 Kr2 Kr3 Gr0 Gr1 Gr2 Gr3
        obtain ⟨Zr, Kr0, Kr1, Kr2, Kr3, Gr0, Gr1, Gr2, Gr3⟩ := HXr.out.q4
        replace HXo : Hid (Bx w23 (w4.heap.size) [.bool false, .slice ad z.docs.length cd, .slice as_ z.subs.length cs_, .int .i64 z.last]) := Lib.hid (HXo.out.at HB3.out)
        clear Zo Ko0 Ko1 Ko2 Ko3 Go0 Go1 Go2 Go3
        obtain ⟨Zo, Ko0, Ko1, Ko2, Ko3, Go0, Go1, Go2, Go3⟩ := HXo.out.q4
        clear HAPP HFR HGX HDN HOWN HRD HR2 HN2 HSB HSD W2 HB1 HB2 HBV HB1V
        go_upto_region 17 with (fail)
        obtain ⟨U, hU⟩ : ∃ U : World, U = (w23.setCell ⟨w4.heap.size, 1, none⟩ (.slice a20 (z.docs.length + 1) c20)) := ⟨_, rfl⟩
        have sU : w23.heap.size ≤ U.heap.size := by rw [hU]; first | (simp; done) | (simp; omega)
        have HBN : Hid (Below w.heap.size w U) := Lib.hid (by rw [hU]; exact (HBW.out.setCell (p := ⟨w4.heap.size, 1, none⟩) om _))
        clear HBW
        have HBW := HBN
        clear HBN
        replace HNEW : Hid (HubNe (w4.heap.size) (w.heap.size + 2) U (.slice a20 (z.docs.length + 1) c20) (.slice as_ z.subs.length cs_) (z.docs.take k ++ docAt name t :: z.docs.drop k) z.subs) := Lib.hid (by rw [hU]; exact (HNEW.out.setCell (by omega) _))
        replace HXz : Hid (Bx U (w.heap.size) [.bool false, v_docs, v_subs, .int .i64 z.last]) := Lib.hid (by rw [hU]; exact (HXz.out.setO om))
        clear Zz Kz0 Kz1 Kz2 Kz3
        obtain ⟨Zz, Kz0, Kz1, Kz2, Kz3⟩ := HXz.out.o4
        replace HXr : Hid (Bx U (w.heap.size + 1) [.bool false, .slice none 0 0, .slice none 0 0, .int .i64 0]) := Lib.hid (by rw [hU]; exact (HXr.out.setO om))
        clear Zr Kr0 Kr1 Kr2 Kr3 Gr0 Gr1 Gr2 Gr3
        obtain ⟨Zr, Kr0, Kr1, Kr2, Kr3, Gr0, Gr1, Gr2, Gr3⟩ := HXr.out.q4
        replace HXo : Hid (Bx U (w4.heap.size) [.bool false, .slice a20 (z.docs.length + 1) c20, .slice as_ z.subs.length cs_, .int .i64 z.last]) := Lib.hid (by rw [hU]; exact (HXo.out.set 1 (.slice a20 (z.docs.length + 1) c20)))
        clear Zo Ko0 Ko1 Ko2 Ko3 Go0 Go1 Go2 Go3
        obtain ⟨Zo, Ko0, Ko1, Ko2, Ko3, Go0, Go1, Go2, Go3⟩ := HXo.out.q4
        rw [← hU]
        clear hU
        have HH : Hid (HubNe (w4.heap.size) (w.heap.size + 2) ((((U.setCell ⟨w.heap.size + 1, 0, none⟩ (.bool false)).setCell ⟨w.heap.size + 1, 1, none⟩ (.slice a20 (z.docs.length + 1) c20)).setCell ⟨w.heap.size + 1, 2, none⟩ (.slice as_ z.subs.length cs_)).setCell ⟨w.heap.size + 1, 3, none⟩ (.int .i64 z.last)) (.slice a20 (z.docs.length + 1) c20) (.slice as_ z.subs.length cs_) (z.docs.take k ++ docAt name t :: z.docs.drop k) z.subs) := Lib.hid ((((HNEW.out.setCell (by omega) _).setCell (by omega) _).setCell (by omega) _).setCell (by omega) _)
        have HB : Hid (Below w.heap.size w ((((U.setCell ⟨w.heap.size + 1, 0, none⟩ (.bool false)).setCell ⟨w.heap.size + 1, 1, none⟩ (.slice a20 (z.docs.length + 1) c20)).setCell ⟨w.heap.size + 1, 2, none⟩ (.slice as_ z.subs.length cs_)).setCell ⟨w.heap.size + 1, 3, none⟩ (.int .i64 z.last))) := Lib.hid ((((HBW.out.setCell (p := ⟨w.heap.size + 1, 0, none⟩) om _).setCell (p := ⟨w.heap.size + 1, 1, none⟩) om _).setCell (p := ⟨w.heap.size + 1, 2, none⟩) om _).setCell (p := ⟨w.heap.size + 1, 3, none⟩) om _)
        go_wp2
        rw [HV.out, HAT.out]
        exact bodyPost_ret (v := .tuple #[.agg #[.bool false, .slice a20 (z.docs.length + 1) c20, .slice as_ z.subs.length cs_, .int .i64 z.last], .int .i64 0]) (by simp [results, Tryz.results18, go_sem, cell_setCell, *]) rfl (HubNe.out_i (y := ⟨false, z.docs.take k ++ docAt name t :: z.docs.drop k, z.subs, z.last⟩) HH.out (by omega) HB.out)
    · have HAT := Lib.hid (hubAt_eq hk HLOW.out (fun d' hd' => by have := (List.getElem?_eq_some_iff.1 hd').1; omega))
      have hl2 : ¬ (k : Int) < (z.docs.length : Int) := by omega
      go_upto_region 14 with (fail)
      obtain ⟨gs, hrow, hlim, hfr, happ⟩ := HOWN.out.docs (B := w.heap.size + 2) (ob := w4.heap.size) (by omega) (by omega) (by omega)
      have hv1 : Below V.heap.size V (V.alloc (.cells #[] 61)) := (Below.refl _ _).alloc (Nat.le_refl _) _
      obtain ⟨va, vb, g1, g2, hca, hcb, hsa, hsb, hgs⟩ := (hrow.below hv1).srcs Tryz.underlying27 (E := 61) szi_DDoc hk
      obtain ⟨i0, hi, hz0, hz1, hz2⟩ := info_parts info_docI
      have hgx : GoT.rd BIG V [.string name, .int .i64 0, .slice a0t t.length c0t, .slice a0l 0 c0l, .slice a0s 0 c0s] (docAt name t) (f0t ++ (f0l ++ f0s)) := ⟨_, _, _, _, _, _, rfl, nn, HDN.out.1, HDN.out.2.1, HDN.out.2.2.1, rfl⟩
      have HLIM := Lib.hid hlim
      have HAPP := Lib.hid happ
      have HFR := Lib.hid hfr
      have HGX := Lib.hid hgx
      have HGS := Lib.hid hgs
      have HSA := Lib.hid hsa
      have HSB := Lib.hid hsb
      have HGL : Hid (∀ p ∈ gs, p.1 < V.heap.size) := Lib.hid (Live.lt hrow.live)
      have HXL : Hid (∀ p ∈ f0t ++ (f0l ++ f0s), p.1 < V.heap.size) := Lib.hid (Live.lt (GoT.live hgx))
      have HV1 := Lib.hid hv1
      have z0 : (((V.alloc (.cells #[] 61))).heap.size) = V.heap.size + 1 := by simp
      have hk1 : (z.docs.take k).length = k := by simp; omega
      have HK1 := Lib.hid hk1
      have HRE : Hid (Row (w.heap.size + 2) (V.alloc (.cells #[] 61)) (.slice (some ⟨V.heap.size, 0, none⟩) 0 0) ([] : List DDoc) []) := Lib.hid (Row.empty _ _ _)
      have HDE0 : Hid (∀ q ∈ g1, q ∉ rowP (GoT.n DDoc) (.slice (some ⟨V.heap.size, 0, none⟩) 0 0)) := Lib.hid fun q hq hm => by rw [rowP_zero] at hm; cases hm
      clear hrow hlim hfr happ hgx hgs hsa hsb hv1 hk1
      go_wp2_with (at_builtin; go_must (refine wpList_append_row rfl _ _ 27 rfl Tryz.underlying27 hi hz0 hz1 hz2 rfl rfl rfl HRE.out HSA.out HDE0.out ?c1 ?c2 ?c3 ?_))
      case c1 => have := HK1.out; refine le_BIG ?_; first | omega | (simp; omega)
      case c2 => have := HK1.out; first | omega | (simp; omega)
      case c3 => first | omega | (simp; omega)
      intro v21 w21 hr hw hn
      have HR1 := Lib.hid hr
      have HN1 := Lib.hid hn
      have B1 : Below V.heap.size V w21 := HV1.out.trans (hw.below (by simp) (fun q hq => by rw [rowP_zero] at hq; cases hq))
      have s21 := B1.size
      have s21b := hw.size
      have HB1V : Hid (Below ((V.alloc (.cells #[] 61))).heap.size (V.alloc (.cells #[] 61)) w21) := Lib.hid (hw.below (Nat.le_refl _) (fun q hq => by rw [rowP_zero] at hq; cases hq))
      obtain ⟨Zd1, Kd10, Kd11, Kd12, Kd13, Kd14, Gd10, Gd11, Gd12, Gd13, Gd14⟩ := (HXd.out.at B1).q5
      have HB1 := Lib.hid B1
      clear hr hw hn B1
      have W2 : Hid (Below w21.heap.size w21 (w21.alloc (.cells #[.string name, .int .i64 0, .slice a0t t.length c0t, .slice a0l 0 c0l, .slice a0s 0 c0s] 61))) := Lib.hid ((Below.refl _ _).alloc (Nat.le_refl _) _)
      have hsd := src_built (x := docAt name t) 61 (GoT.keep HGX.out (Live.same_below HB1.out HXL.out))
      have HSD := Lib.hid hsd
      clear hsd
      go_wp2_with (at_builtin; go_must (refine wpList_append_row rfl _ _ 27 rfl Tryz.underlying27 hi hz0 hz1 hz2 rfl rfl rfl (HR1.out.below W2.out) HSD.out (fun q hq hm => by have a1 := HXL.out q hq; have a2 := HN1.out q.1 q.2 hm; (try rw [rowP_zero] at a2); simp at a2; omega) ?c1 ?c2 ?c3 ?_))
      case c1 => have := HK1.out; refine le_BIG ?_; first | omega | (simp; omega)
      case c2 => have := HK1.out; first | omega | (simp; omega)
      case c3 => first | omega | (simp; omega)
      intro v22 w22 hr hw hn
      have HR2 := Lib.hid hr
      have HN2 : Hid (∀ q ∈ rowP (GoT.n DDoc) v22, V.heap.size < q.1) := Lib.hid fun q hq => by
        rcases hn q.1 q.2 hq with h | h
        · have a2 := HN1.out q.1 q.2 h; (try rw [rowP_zero] at a2); simp at a2; omega
        · (try simp at h); omega
      have B2 : Below V.heap.size V w22 := HB1.out.trans ((W2.out.mono s21).trans (hw.below (by simp; omega) (fun q hq => by have a2 := HN1.out q.1 q.2 hq; (try rw [rowP_zero] at a2); simp at a2; omega)))
      have s22 := B2.size
      obtain ⟨Zo2, Ko20, Ko21, Ko22, Ko23, Go20, Go21, Go22, Go23⟩ := (HXo.out.at B2).q4
      have HB2 := Lib.hid B2
      have HBV : Hid (Below ((V.alloc (.cells #[] 61))).heap.size (V.alloc (.cells #[] 61)) w22) := Lib.hid (HB1V.out.trans ((W2.out.mono s21b).trans (hw.below (by simp at s21b ⊢; omega) (fun q hq => by have a2 := HN1.out q.1 q.2 hq; (try rw [rowP_zero] at a2); simp at a2; simp; omega))))
      have s22c : V.heap.size + 1 ≤ w22.heap.size := by have := HBV.out.size; simp at this; omega
      clear hr hw hn B2 HN1 HR1
      go_wp2_with (at_builtin; go_must (refine wpList_append_row rfl _ _ 27 rfl Tryz.underlying27 hi hz0 hz1 hz2 rfl rfl rfl HR2.out (HSB.out.below HBV.out) (fun q hq hm => by have a1 := HGL.out q (by rw [HGS.out]; simp [hq]); have a2 := HN2.out q hm; omega) ?c1 ?c2 ?c3 ?_))
      case c1 => have := HK1.out; refine le_BIG ?_; first | omega | (simp; omega)
      case c2 => have := HK1.out; first | omega | (simp; omega)
      case c3 => first | omega | (simp; omega)
      intro v23 w23 hr hw hn
      obtain ⟨a20, c20, e20⟩ := hr.rd.isSlice
      have hll : (([] : List DDoc) ++ z.docs.take k ++ [docAt name t] ++ z.docs.drop k) = z.docs.take k ++ docAt name t :: z.docs.drop k := by simp
      (try rw [hll] at hr)
      (try rw [hll] at e20)
      have hgg : g1 ++ (f0t ++ (f0l ++ (f0s ++ g2))) = ([] ++ g1 ++ (f0t ++ (f0l ++ f0s))) ++ g2 := by simp
      (try rw [hgg] at hr)
      have hlen20 : (z.docs.take k ++ docAt name t :: z.docs.drop k).length = z.docs.length + 1 := by simp; omega
      rw [hlen20] at e20
      subst e20
      have B3 : Below V.heap.size V w23 := HB2.out.trans (hw.below (by omega) (fun q hq => by have := HN2.out q hq; omega))
      have hm3 : ∀ q ∈ rowP (GoT.n DDoc) (.slice a20 (z.docs.length + 1) c20), V.heap.size < q.1 := fun q hq => by
        rcases hn q.1 q.2 hq with h | h
        · exact HN2.out q h
        · omega
      have hel : Fresh (w.heap.size + 2) V (([] ++ g1 ++ (f0t ++ (f0l ++ f0s))) ++ g2) := by
        have h1 := HFR.out.right
        rw [HGS.out] at h1
        have h2 := HDN.out.2.2.2.1
        refine ((h1.left.mono (by omega)).join (h2.mono (by omega)) fun p hp q hq e => ?_).join (h1.right.mono (by omega)) fun p hp q hq e => ?_
        · have a1 := HLIM.out p (List.mem_append_right _ (by rw [HGS.out]; exact List.mem_append_left _ (by simpa using hp))); have a2 := HDN.out.2.2.2.2 q hq; rw [e] at a1; omega
        · subst e
          rcases List.mem_append.1 hp with hp | hp
          · exact (List.nodup_append.1 h1.nodup).2.2 p (by simpa using hp) p hq rfl
          · have a1 := HLIM.out p (List.mem_append_right _ (by rw [HGS.out]; exact List.mem_append_right _ hq)); have a2 := HDN.out.2.2.2.2 p hp; omega
      have hell : ∀ q ∈ ([] ++ g1 ++ (f0t ++ (f0l ++ f0s))) ++ g2, q.1 < V.heap.size := fun q hq => by
        rcases List.mem_append.1 hq with hq | hq
        · rcases List.mem_append.1 hq with hq | hq
          · exact HGL.out q (by rw [HGS.out]; exact List.mem_append_left _ (by simpa using hq))
          · exact HXL.out q hq
        · exact HGL.out q (by rw [HGS.out]; exact List.mem_append_right _ hq)
      have kp := (hr.2.1).join (hel.belowL B3 hell) fun p hp q hq e => hr.2.2 q hq (e ▸ hp)
      have HNEW : Hid (HubNe (w4.heap.size) (w.heap.size + 2) w23 (.slice a20 (z.docs.length + 1) c20) (.slice as_ z.subs.length cs_) (z.docs.take k ++ docAt name t :: z.docs.drop k) z.subs) := Lib.hid (HAPP.out V _ _ _ _ (Below.refl _ _) (Wr.of_below B3) hr.1 kp (fun p hp => by
        rcases List.mem_append.1 hp with h | h
        · have := hm3 p h; right; right; omega
        · rcases List.mem_append.1 h with h | h
          · rcases List.mem_append.1 h with h | h
            · exact .inl (List.mem_append_right _ (by rw [HGS.out]; exact List.mem_append_left _ (by simpa using h)))
            · have := HDN.out.2.2.2.2 p h; right; left; omega
          · exact .inl (List.mem_append_right _ (by rw [HGS.out]; exact List.mem_append_right _ h))))
      have HB3 := Lib.hid B3
      have s23 := B3.size
      clear hr hw hn hm3 hel hell kp B3
      have s23 : V.heap.size ≤ w23.heap.size := by have := HB3.out.size; (try simp at this); omega
      have HBN : Hid (Below w.heap.size w w23) := Lib.hid (HBW.out.trans (HB3.out.mono (by omega)))
      clear HBW
      have HBW := HBN
      clear HBN
      replace HXz : Hid (Bx w23 (w.heap.size) [.bool false, v_docs, v_subs, .int .i64 z.last]) := Lib.hid (HXz.out.at HB3.out)
      clear Zz Kz0 Kz1 Kz2 Kz3
      obtain ⟨Zz, Kz0, Kz1, Kz2, Kz3⟩ := HXz.out.o4
      replace HXr : Hid (Bx w23 (w.heap.size + 1) [.bool false, .slice none 0 0, .slice none 0 0, .int .i64 0]) := Lib.hid (HXr.out.at HB3.out)
      clear Zr Kr0 Kr1 Kr2 Kr3 Gr0 Gr1 Gr2 Gr3
      obtain ⟨Zr, Kr0, Kr1, Kr2, Kr3, Gr0, Gr1, Gr2, Gr3⟩ := HXr.out.q4
      replace HXo : Hid (Bx w23 (w4.heap.size) [.bool false, .slice ad z.docs.length cd, .slice as_ z.subs.length cs_, .int .i64 z.last]) := Lib.hid (HXo.out.at HB3.out)
      clear Zo Ko0 Ko1 Ko2 Ko3 Go0 Go1 Go2 Go3
      obtain ⟨Zo, Ko0, Ko1, Ko2, Ko3, Go0, Go1, Go2, Go3⟩ := HXo.out.q4
      clear HAPP HFR HGX HDN HOWN HRD HR2 HN2 HSB HSD W2 HB1 HB2 HBV HB1V
      go_upto_region 17 with (fail)
      obtain ⟨U, hU⟩ : ∃ U : World, U = (w23.setCell ⟨w4.heap.size, 1, none⟩ (.slice a20 (z.docs.length + 1) c20)) := ⟨_, rfl⟩
      have sU : w23.heap.size ≤ U.heap.size := by rw [hU]; first | (simp; done) | (simp; omega)
      have HBN : Hid (Below w.heap.size w U) := Lib.hid (by rw [hU]; exact (HBW.out.setCell (p := ⟨w4.heap.size, 1, none⟩) om _))
      clear HBW
      have HBW := HBN
      clear HBN
      replace HNEW : Hid (HubNe (w4.heap.size) (w.heap.size + 2) U (.slice a20 (z.docs.length + 1) c20) (.slice as_ z.subs.length cs_) (z.docs.take k ++ docAt name t :: z.docs.drop k) z.subs) := Lib.hid (by rw [hU]; exact (HNEW.out.setCell (by omega) _))
      replace HXz : Hid (Bx U (w.heap.size) [.bool false, v_docs, v_subs, .int .i64 z.last]) := Lib.hid (by rw [hU]; exact (HXz.out.setO om))
      clear Zz Kz0 Kz1 Kz2 Kz3
      obtain ⟨Zz, Kz0, Kz1, Kz2, Kz3⟩ := HXz.out.o4
      replace HXr : Hid (Bx U (w.heap.size + 1) [.bool false, .slice none 0 0, .slice none 0 0, .int .i64 0]) := Lib.hid (by rw [hU]; exact (HXr.out.setO om))
      clear Zr Kr0 Kr1 Kr2 Kr3 Gr0 Gr1 Gr2 Gr3
      obtain ⟨Zr, Kr0, Kr1, Kr2, Kr3, Gr0, Gr1, Gr2, Gr3⟩ := HXr.out.q4
      replace HXo : Hid (Bx U (w4.heap.size) [.bool false, .slice a20 (z.docs.length + 1) c20, .slice as_ z.subs.length cs_, .int .i64 z.last]) := Lib.hid (by rw [hU]; exact (HXo.out.set 1 (.slice a20 (z.docs.length + 1) c20)))
      clear Zo Ko0 Ko1 Ko2 Ko3 Go0 Go1 Go2 Go3
      obtain ⟨Zo, Ko0, Ko1, Ko2, Ko3, Go0, Go1, Go2, Go3⟩ := HXo.out.q4
      rw [← hU]
      clear hU
      have HH : Hid (HubNe (w4.heap.size) (w.heap.size + 2) ((((U.setCell ⟨w.heap.size + 1, 0, none⟩ (.bool false)).setCell ⟨w.heap.size + 1, 1, none⟩ (.slice a20 (z.docs.length + 1) c20)).setCell ⟨w.heap.size + 1, 2, none⟩ (.slice as_ z.subs.length cs_)).setCell ⟨w.heap.size + 1, 3, none⟩ (.int .i64 z.last)) (.slice a20 (z.docs.length + 1) c20) (.slice as_ z.subs.length cs_) (z.docs.take k ++ docAt name t :: z.docs.drop k) z.subs) := Lib.hid ((((HNEW.out.setCell (by omega) _).setCell (by omega) _).setCell (by omega) _).setCell (by omega) _)
      have HB : Hid (Below w.heap.size w ((((U.setCell ⟨w.heap.size + 1, 0, none⟩ (.bool false)).setCell ⟨w.heap.size + 1, 1, none⟩ (.slice a20 (z.docs.length + 1) c20)).setCell ⟨w.heap.size + 1, 2, none⟩ (.slice as_ z.subs.length cs_)).setCell ⟨w.heap.size + 1, 3, none⟩ (.int .i64 z.last))) := Lib.hid ((((HBW.out.setCell (p := ⟨w.heap.size + 1, 0, none⟩) om _).setCell (p := ⟨w.heap.size + 1, 1, none⟩) om _).setCell (p := ⟨w.heap.size + 1, 2, none⟩) om _).setCell (p := ⟨w.heap.size + 1, 3, none⟩) om _)
      go_wp2
      rw [HV.out, HAT.out]
      exact bodyPost_ret (v := .tuple #[.agg #[.bool false, .slice a20 (z.docs.length + 1) c20, .slice as_ z.subs.length cs_, .int .i64 z.last], .int .i64 0]) (by simp [results, Tryz.results18, go_sem, cell_setCell, *]) rfl (HubNe.out_i (y := ⟨false, z.docs.take k ++ docAt name t :: z.docs.drop k, z.subs, z.last⟩) HH.out (by omega) HB.out)
set_option maxHeartbeats 6000000 in
set_option maxRecDepth 100000 in
theorem impl_HubOpen_c (z : DHub) (v_docs v_subs : Value) (name : ByteArray) (t : List Int) (vt : Value) (w : World) (h_docs : RdS w v_docs z.docs) (h_subs : RdS w v_subs z.subs) (nn : name.size ≤ BIG) (ht : RdS w vt t) (b_t : t.length ≤ 4000000) : Calls Tryz.prog 20 #[.agg #[.bool z.shut, v_docs, v_subs, .int .i64 z.last], .string name, vt] w (Out_Hub_i w (hubOpen z name t).1 (hubOpen z name t).2) := by
  have hOK := fun (W' : World) (a : RdS W' v_docs z.docs) (b : RdS W' v_subs z.subs) => impl_HubOk_c z v_docs v_subs W' a b
  have hCP := fun (W' : World) (a : RdS W' v_docs z.docs) (b : RdS W' v_subs z.subs) (c : HubSz z) => impl_copyHub_c z v_docs v_subs W' a b c
  have hF0 := fun (W' : World) (a : RdS W' v_docs z.docs) => impl_HubDoc_c z v_docs v_subs name W' a
  obtain ⟨sh, hsh⟩ : ∃ sh : Bool, z.shut = sh := ⟨_, rfl⟩
  simp only [hsh] at hOK hCP hF0
  rw [hsh]
  have HOK := Lib.hid hOK
  have HCP := Lib.hid hCP
  have HF0 := Lib.hid hF0
  clear hOK hCP hF0
  by_cases hnt : nameOk name = true ∧ textOk t = true
  rotate_left
  · have HV := Lib.hid (hubOpen_bad (z := z) hnt)
    have hdb := docNew_bad hnt
    cases h1 : hubOk z
    · clear hdb
      go_enter Tryz.func20, Tryz.ntmps20
      go_wp2_with fail
      refine (HOK.out _ (h_docs.below (((Below.refl w.heap.size w).alloc om _).alloc om _)) (h_subs.below (((Below.refl w.heap.size w).alloc om _).alloc om _))).mono ?_
      rintro e' w1 ⟨rfl, hb1⟩
      rw [h1]
      have s1 : w.heap.size + 2 ≤ w1.heap.size := by have := hb1.size; (try simp at this); omega
      have HBN : Hid (Below w.heap.size w w1) := Lib.hid ((((Below.refl w.heap.size w).alloc om _).alloc om _).trans (hb1.mono om))
      have HBW := HBN
      clear HBN
      have HXz : Hid (Bx w1 (w.heap.size) [.bool sh, v_docs, v_subs, .int .i64 z.last]) := Lib.hid (((Bx.new (by first | rfl | simp | omega)).alloc _).at hb1)
      obtain ⟨Zz, Kz0, Kz1, Kz2, Kz3⟩ := HXz.out.o4
      have HXr : Hid (Bx w1 (w.heap.size + 1) [.bool false, .slice none 0 0, .slice none 0 0, .int .i64 0]) := Lib.hid ((Bx.new (by first | rfl | simp | omega)).at hb1)
      obtain ⟨Zr, Kr0, Kr1, Kr2, Kr3, Gr0, Gr1, Gr2, Gr3⟩ := HXr.out.q4
      clear hb1
      go_wp2
      have HB : Hid (Below w.heap.size w ((((w1.setCell ⟨w.heap.size + 1, 0, none⟩ (.bool false)).setCell ⟨w.heap.size + 1, 1, none⟩ (.slice none 0 0)).setCell ⟨w.heap.size + 1, 2, none⟩ (.slice none 0 0)).setCell ⟨w.heap.size + 1, 3, none⟩ (.int .i64 0))) := Lib.hid ((((HBW.out.setCell (p := ⟨w.heap.size + 1, 0, none⟩) om _).setCell (p := ⟨w.heap.size + 1, 1, none⟩) om _).setCell (p := ⟨w.heap.size + 1, 2, none⟩) om _).setCell (p := ⟨w.heap.size + 1, 3, none⟩) om _)
      rw [HV.out]
      exact bodyPost_ret (v := .tuple #[.agg #[.bool false, .slice none 0 0, .slice none 0 0, .int .i64 0], .int .i64 1]) (by simp [results, Tryz.results20, go_sem, cell_setCell, *]) rfl (out_hub0_i HB.out)
    · clear hdb
      by_cases hn : nameOk name = true
      · have hx : textOk t = false := by cases h : textOk t; rfl; exact absurd ⟨hn, h⟩ hnt
        go_enter Tryz.func20, Tryz.ntmps20
        go_wp2_with fail
        refine (HOK.out _ (h_docs.below (((Below.refl w.heap.size w).alloc om _).alloc om _)) (h_subs.below (((Below.refl w.heap.size w).alloc om _).alloc om _))).mono ?_
        rintro e' w1 ⟨rfl, hb1⟩
        rw [h1]
        have s1 : w.heap.size + 2 ≤ w1.heap.size := by have := hb1.size; (try simp at this); omega
        have HBN : Hid (Below w.heap.size w w1) := Lib.hid ((((Below.refl w.heap.size w).alloc om _).alloc om _).trans (hb1.mono om))
        have HBW := HBN
        clear HBN
        have HXz : Hid (Bx w1 (w.heap.size) [.bool sh, v_docs, v_subs, .int .i64 z.last]) := Lib.hid (((Bx.new (by first | rfl | simp | omega)).alloc _).at hb1)
        obtain ⟨Zz, Kz0, Kz1, Kz2, Kz3⟩ := HXz.out.o4
        have HXr : Hid (Bx w1 (w.heap.size + 1) [.bool false, .slice none 0 0, .slice none 0 0, .int .i64 0]) := Lib.hid ((Bx.new (by first | rfl | simp | omega)).at hb1)
        obtain ⟨Zr, Kr0, Kr1, Kr2, Kr3, Gr0, Gr1, Gr2, Gr3⟩ := HXr.out.q4
        clear hb1
        go_wp2_with fail
        refine (impl_NameOk_c name _ nn).mono ?_
        rintro e' w2 ⟨rfl, hb2⟩
        rw [hn]
        have s2 : w1.heap.size ≤ w2.heap.size := by have := hb2.size; (try simp at this); omega
        have HBN : Hid (Below w.heap.size w w2) := Lib.hid (HBW.out.trans (hb2.mono om))
        clear HBW
        have HBW := HBN
        clear HBN
        replace HXz : Hid (Bx w2 (w.heap.size) [.bool sh, v_docs, v_subs, .int .i64 z.last]) := Lib.hid (HXz.out.at hb2)
        clear Zz Kz0 Kz1 Kz2 Kz3
        obtain ⟨Zz, Kz0, Kz1, Kz2, Kz3⟩ := HXz.out.o4
        replace HXr : Hid (Bx w2 (w.heap.size + 1) [.bool false, .slice none 0 0, .slice none 0 0, .int .i64 0]) := Lib.hid (HXr.out.at hb2)
        clear Zr Kr0 Kr1 Kr2 Kr3 Gr0 Gr1 Gr2 Gr3
        obtain ⟨Zr, Kr0, Kr1, Kr2, Kr3, Gr0, Gr1, Gr2, Gr3⟩ := HXr.out.q4
        clear hb2
        go_wp2_with fail
        refine (impl_TextOk_c _ t _ (ht.below HBW.out)).mono ?_
        rintro e' w3 ⟨rfl, hb3⟩
        rw [hx]
        have s3 : w2.heap.size ≤ w3.heap.size := by have := hb3.size; (try simp at this); omega
        have HBN : Hid (Below w.heap.size w w3) := Lib.hid (HBW.out.trans (hb3.mono om))
        clear HBW
        have HBW := HBN
        clear HBN
        replace HXz : Hid (Bx w3 (w.heap.size) [.bool sh, v_docs, v_subs, .int .i64 z.last]) := Lib.hid (HXz.out.at hb3)
        clear Zz Kz0 Kz1 Kz2 Kz3
        obtain ⟨Zz, Kz0, Kz1, Kz2, Kz3⟩ := HXz.out.o4
        replace HXr : Hid (Bx w3 (w.heap.size + 1) [.bool false, .slice none 0 0, .slice none 0 0, .int .i64 0]) := Lib.hid (HXr.out.at hb3)
        clear Zr Kr0 Kr1 Kr2 Kr3 Gr0 Gr1 Gr2 Gr3
        obtain ⟨Zr, Kr0, Kr1, Kr2, Kr3, Gr0, Gr1, Gr2, Gr3⟩ := HXr.out.q4
        clear hb3
        go_wp2
        have HB : Hid (Below w.heap.size w ((((w3.setCell ⟨w.heap.size + 1, 0, none⟩ (.bool false)).setCell ⟨w.heap.size + 1, 1, none⟩ (.slice none 0 0)).setCell ⟨w.heap.size + 1, 2, none⟩ (.slice none 0 0)).setCell ⟨w.heap.size + 1, 3, none⟩ (.int .i64 0))) := Lib.hid ((((HBW.out.setCell (p := ⟨w.heap.size + 1, 0, none⟩) om _).setCell (p := ⟨w.heap.size + 1, 1, none⟩) om _).setCell (p := ⟨w.heap.size + 1, 2, none⟩) om _).setCell (p := ⟨w.heap.size + 1, 3, none⟩) om _)
        rw [HV.out]
        exact bodyPost_ret (v := .tuple #[.agg #[.bool false, .slice none 0 0, .slice none 0 0, .int .i64 0], .int .i64 1]) (by simp [results, Tryz.results20, go_sem, cell_setCell, *]) rfl (out_hub0_i HB.out)
      have hn : nameOk name = false := by simpa using hn
      go_enter Tryz.func20, Tryz.ntmps20
      go_wp2_with fail
      refine (HOK.out _ (h_docs.below (((Below.refl w.heap.size w).alloc om _).alloc om _)) (h_subs.below (((Below.refl w.heap.size w).alloc om _).alloc om _))).mono ?_
      rintro e' w1 ⟨rfl, hb1⟩
      rw [h1]
      have s1 : w.heap.size + 2 ≤ w1.heap.size := by have := hb1.size; (try simp at this); omega
      have HBN : Hid (Below w.heap.size w w1) := Lib.hid ((((Below.refl w.heap.size w).alloc om _).alloc om _).trans (hb1.mono om))
      have HBW := HBN
      clear HBN
      have HXz : Hid (Bx w1 (w.heap.size) [.bool sh, v_docs, v_subs, .int .i64 z.last]) := Lib.hid (((Bx.new (by first | rfl | simp | omega)).alloc _).at hb1)
      obtain ⟨Zz, Kz0, Kz1, Kz2, Kz3⟩ := HXz.out.o4
      have HXr : Hid (Bx w1 (w.heap.size + 1) [.bool false, .slice none 0 0, .slice none 0 0, .int .i64 0]) := Lib.hid ((Bx.new (by first | rfl | simp | omega)).at hb1)
      obtain ⟨Zr, Kr0, Kr1, Kr2, Kr3, Gr0, Gr1, Gr2, Gr3⟩ := HXr.out.q4
      clear hb1
      go_wp2_with fail
      refine (impl_NameOk_c name _ nn).mono ?_
      rintro e' w2 ⟨rfl, hb2⟩
      rw [hn]
      have s2 : w1.heap.size ≤ w2.heap.size := by have := hb2.size; (try simp at this); omega
      have HBN : Hid (Below w.heap.size w w2) := Lib.hid (HBW.out.trans (hb2.mono om))
      clear HBW
      have HBW := HBN
      clear HBN
      replace HXz : Hid (Bx w2 (w.heap.size) [.bool sh, v_docs, v_subs, .int .i64 z.last]) := Lib.hid (HXz.out.at hb2)
      clear Zz Kz0 Kz1 Kz2 Kz3
      obtain ⟨Zz, Kz0, Kz1, Kz2, Kz3⟩ := HXz.out.o4
      replace HXr : Hid (Bx w2 (w.heap.size + 1) [.bool false, .slice none 0 0, .slice none 0 0, .int .i64 0]) := Lib.hid (HXr.out.at hb2)
      clear Zr Kr0 Kr1 Kr2 Kr3 Gr0 Gr1 Gr2 Gr3
      obtain ⟨Zr, Kr0, Kr1, Kr2, Kr3, Gr0, Gr1, Gr2, Gr3⟩ := HXr.out.q4
      clear hb2
      go_wp2
      have HB : Hid (Below w.heap.size w ((((w2.setCell ⟨w.heap.size + 1, 0, none⟩ (.bool false)).setCell ⟨w.heap.size + 1, 1, none⟩ (.slice none 0 0)).setCell ⟨w.heap.size + 1, 2, none⟩ (.slice none 0 0)).setCell ⟨w.heap.size + 1, 3, none⟩ (.int .i64 0))) := Lib.hid ((((HBW.out.setCell (p := ⟨w.heap.size + 1, 0, none⟩) om _).setCell (p := ⟨w.heap.size + 1, 1, none⟩) om _).setCell (p := ⟨w.heap.size + 1, 2, none⟩) om _).setCell (p := ⟨w.heap.size + 1, 3, none⟩) om _)
      rw [HV.out]
      exact bodyPost_ret (v := .tuple #[.agg #[.bool false, .slice none 0 0, .slice none 0 0, .int .i64 0], .int .i64 1]) (by simp [results, Tryz.results20, go_sem, cell_setCell, *]) rfl (out_hub0_i HB.out)
  obtain ⟨hn, hx⟩ := hnt
  have hdn := docNew_of hn hx
  have HDK : Hid ((docNew name t).2 = true) := Lib.hid (by rw [hdn])
  have HDE := Lib.hid hdn
  have HDC := Lib.hid (fun (W' : World) (a : RdS W' vt t) => (by have := impl_DocNew_c name t vt W' nn a b_t; rw [hdn] at this; exact this : Calls Tryz.prog 64 #[.string name, vt] W' (Out_Doc_b W' (docAt name t) true)))
  clear hdn
  by_cases h1 : hubOk z = true
  rotate_left
  · have h1 : hubOk z = false := by simpa using h1
    have HV := Lib.hid (hubOpen_no (name := name) (t := t) h1)
    go_enter Tryz.func20, Tryz.ntmps20
    go_wp2_with fail
    refine (HOK.out _ (h_docs.below (((Below.refl w.heap.size w).alloc om _).alloc om _)) (h_subs.below (((Below.refl w.heap.size w).alloc om _).alloc om _))).mono ?_
    rintro e' w1 ⟨rfl, hb1⟩
    rw [h1]
    have s1 : w.heap.size + 2 ≤ w1.heap.size := by have := hb1.size; (try simp at this); omega
    have HBN : Hid (Below w.heap.size w w1) := Lib.hid ((((Below.refl w.heap.size w).alloc om _).alloc om _).trans (hb1.mono om))
    have HBW := HBN
    clear HBN
    have HXz : Hid (Bx w1 (w.heap.size) [.bool sh, v_docs, v_subs, .int .i64 z.last]) := Lib.hid (((Bx.new (by first | rfl | simp | omega)).alloc _).at hb1)
    obtain ⟨Zz, Kz0, Kz1, Kz2, Kz3⟩ := HXz.out.o4
    have HXr : Hid (Bx w1 (w.heap.size + 1) [.bool false, .slice none 0 0, .slice none 0 0, .int .i64 0]) := Lib.hid ((Bx.new (by first | rfl | simp | omega)).at hb1)
    obtain ⟨Zr, Kr0, Kr1, Kr2, Kr3, Gr0, Gr1, Gr2, Gr3⟩ := HXr.out.q4
    clear hb1
    go_wp2
    have HB : Hid (Below w.heap.size w ((((w1.setCell ⟨w.heap.size + 1, 0, none⟩ (.bool false)).setCell ⟨w.heap.size + 1, 1, none⟩ (.slice none 0 0)).setCell ⟨w.heap.size + 1, 2, none⟩ (.slice none 0 0)).setCell ⟨w.heap.size + 1, 3, none⟩ (.int .i64 0))) := Lib.hid ((((HBW.out.setCell (p := ⟨w.heap.size + 1, 0, none⟩) om _).setCell (p := ⟨w.heap.size + 1, 1, none⟩) om _).setCell (p := ⟨w.heap.size + 1, 2, none⟩) om _).setCell (p := ⟨w.heap.size + 1, 3, none⟩) om _)
    rw [HV.out]
    exact bodyPost_ret (v := .tuple #[.agg #[.bool false, .slice none 0 0, .slice none 0 0, .int .i64 0], .int .i64 1]) (by simp [results, Tryz.results20, go_sem, cell_setCell, *]) rfl (out_hub0_i HB.out)
  have HZ := Lib.hid (hubSz h1)
  cases sh
  rotate_left
  · have HV := Lib.hid (hubOpen_shut ⟨h1, HDK.out⟩ hsh)
    go_enter Tryz.func20, Tryz.ntmps20
    go_wp2_with fail
    refine (HOK.out _ (h_docs.below (((Below.refl w.heap.size w).alloc om _).alloc om _)) (h_subs.below (((Below.refl w.heap.size w).alloc om _).alloc om _))).mono ?_
    rintro e' w1 ⟨rfl, hb1⟩
    rw [h1]
    have s1 : w.heap.size + 2 ≤ w1.heap.size := by have := hb1.size; (try simp at this); omega
    have HBN : Hid (Below w.heap.size w w1) := Lib.hid ((((Below.refl w.heap.size w).alloc om _).alloc om _).trans (hb1.mono om))
    have HBW := HBN
    clear HBN
    have HXz : Hid (Bx w1 (w.heap.size) [.bool true, v_docs, v_subs, .int .i64 z.last]) := Lib.hid (((Bx.new (by first | rfl | simp | omega)).alloc _).at hb1)
    obtain ⟨Zz, Kz0, Kz1, Kz2, Kz3⟩ := HXz.out.o4
    have HXr : Hid (Bx w1 (w.heap.size + 1) [.bool false, .slice none 0 0, .slice none 0 0, .int .i64 0]) := Lib.hid ((Bx.new (by first | rfl | simp | omega)).at hb1)
    obtain ⟨Zr, Kr0, Kr1, Kr2, Kr3, Gr0, Gr1, Gr2, Gr3⟩ := HXr.out.q4
    clear hb1
    go_wp2_with fail
    refine (impl_NameOk_c name _ nn).mono ?_
    rintro e' w2 ⟨rfl, hb2⟩
    rw [hn]
    have s2 : w1.heap.size ≤ w2.heap.size := by have := hb2.size; (try simp at this); omega
    have HBN : Hid (Below w.heap.size w w2) := Lib.hid (HBW.out.trans (hb2.mono om))
    clear HBW
    have HBW := HBN
    clear HBN
    replace HXz : Hid (Bx w2 (w.heap.size) [.bool true, v_docs, v_subs, .int .i64 z.last]) := Lib.hid (HXz.out.at hb2)
    clear Zz Kz0 Kz1 Kz2 Kz3
    obtain ⟨Zz, Kz0, Kz1, Kz2, Kz3⟩ := HXz.out.o4
    replace HXr : Hid (Bx w2 (w.heap.size + 1) [.bool false, .slice none 0 0, .slice none 0 0, .int .i64 0]) := Lib.hid (HXr.out.at hb2)
    clear Zr Kr0 Kr1 Kr2 Kr3 Gr0 Gr1 Gr2 Gr3
    obtain ⟨Zr, Kr0, Kr1, Kr2, Kr3, Gr0, Gr1, Gr2, Gr3⟩ := HXr.out.q4
    clear hb2
    go_wp2_with fail
    refine (impl_TextOk_c _ t _ (ht.below HBW.out)).mono ?_
    rintro e' w3 ⟨rfl, hb3⟩
    rw [hx]
    have s3 : w2.heap.size ≤ w3.heap.size := by have := hb3.size; (try simp at this); omega
    have HBN : Hid (Below w.heap.size w w3) := Lib.hid (HBW.out.trans (hb3.mono om))
    clear HBW
    have HBW := HBN
    clear HBN
    replace HXz : Hid (Bx w3 (w.heap.size) [.bool true, v_docs, v_subs, .int .i64 z.last]) := Lib.hid (HXz.out.at hb3)
    clear Zz Kz0 Kz1 Kz2 Kz3
    obtain ⟨Zz, Kz0, Kz1, Kz2, Kz3⟩ := HXz.out.o4
    replace HXr : Hid (Bx w3 (w.heap.size + 1) [.bool false, .slice none 0 0, .slice none 0 0, .int .i64 0]) := Lib.hid (HXr.out.at hb3)
    clear Zr Kr0 Kr1 Kr2 Kr3 Gr0 Gr1 Gr2 Gr3
    obtain ⟨Zr, Kr0, Kr1, Kr2, Kr3, Gr0, Gr1, Gr2, Gr3⟩ := HXr.out.q4
    clear hb3
    go_wp2
    have HB : Hid (Below w.heap.size w ((((w3.setCell ⟨w.heap.size + 1, 0, none⟩ (.bool false)).setCell ⟨w.heap.size + 1, 1, none⟩ (.slice none 0 0)).setCell ⟨w.heap.size + 1, 2, none⟩ (.slice none 0 0)).setCell ⟨w.heap.size + 1, 3, none⟩ (.int .i64 0))) := Lib.hid ((((HBW.out.setCell (p := ⟨w.heap.size + 1, 0, none⟩) om _).setCell (p := ⟨w.heap.size + 1, 1, none⟩) om _).setCell (p := ⟨w.heap.size + 1, 2, none⟩) om _).setCell (p := ⟨w.heap.size + 1, 3, none⟩) om _)
    rw [HV.out]
    exact bodyPost_ret (v := .tuple #[.agg #[.bool false, .slice none 0 0, .slice none 0 0, .int .i64 0], .int .i64 12]) (by simp [results, Tryz.results20, go_sem, cell_setCell, *]) rfl (out_hub0_i HB.out)
  by_cases h3 : 0 ≤ hubDoc z name
  · have HV := Lib.hid (hubOpen_have ⟨h1, HDK.out⟩ hsh h3)
    have h3b : decide (0 ≤ hubDoc z name) = true := by simpa using h3
    go_enter Tryz.func20, Tryz.ntmps20
    go_wp2_with fail
    refine (HOK.out _ (h_docs.below (((Below.refl w.heap.size w).alloc om _).alloc om _)) (h_subs.below (((Below.refl w.heap.size w).alloc om _).alloc om _))).mono ?_
    rintro e' w1 ⟨rfl, hb1⟩
    rw [h1]
    have s1 : w.heap.size + 2 ≤ w1.heap.size := by have := hb1.size; (try simp at this); omega
    have HBN : Hid (Below w.heap.size w w1) := Lib.hid ((((Below.refl w.heap.size w).alloc om _).alloc om _).trans (hb1.mono om))
    have HBW := HBN
    clear HBN
    have HXz : Hid (Bx w1 (w.heap.size) [.bool false, v_docs, v_subs, .int .i64 z.last]) := Lib.hid (((Bx.new (by first | rfl | simp | omega)).alloc _).at hb1)
    obtain ⟨Zz, Kz0, Kz1, Kz2, Kz3⟩ := HXz.out.o4
    have HXr : Hid (Bx w1 (w.heap.size + 1) [.bool false, .slice none 0 0, .slice none 0 0, .int .i64 0]) := Lib.hid ((Bx.new (by first | rfl | simp | omega)).at hb1)
    obtain ⟨Zr, Kr0, Kr1, Kr2, Kr3, Gr0, Gr1, Gr2, Gr3⟩ := HXr.out.q4
    clear hb1
    go_wp2_with fail
    refine (impl_NameOk_c name _ nn).mono ?_
    rintro e' w2 ⟨rfl, hb2⟩
    rw [hn]
    have s2 : w1.heap.size ≤ w2.heap.size := by have := hb2.size; (try simp at this); omega
    have HBN : Hid (Below w.heap.size w w2) := Lib.hid (HBW.out.trans (hb2.mono om))
    clear HBW
    have HBW := HBN
    clear HBN
    replace HXz : Hid (Bx w2 (w.heap.size) [.bool false, v_docs, v_subs, .int .i64 z.last]) := Lib.hid (HXz.out.at hb2)
    clear Zz Kz0 Kz1 Kz2 Kz3
    obtain ⟨Zz, Kz0, Kz1, Kz2, Kz3⟩ := HXz.out.o4
    replace HXr : Hid (Bx w2 (w.heap.size + 1) [.bool false, .slice none 0 0, .slice none 0 0, .int .i64 0]) := Lib.hid (HXr.out.at hb2)
    clear Zr Kr0 Kr1 Kr2 Kr3 Gr0 Gr1 Gr2 Gr3
    obtain ⟨Zr, Kr0, Kr1, Kr2, Kr3, Gr0, Gr1, Gr2, Gr3⟩ := HXr.out.q4
    clear hb2
    go_wp2_with fail
    refine (impl_TextOk_c _ t _ (ht.below HBW.out)).mono ?_
    rintro e' w3 ⟨rfl, hb3⟩
    rw [hx]
    have s3 : w2.heap.size ≤ w3.heap.size := by have := hb3.size; (try simp at this); omega
    have HBN : Hid (Below w.heap.size w w3) := Lib.hid (HBW.out.trans (hb3.mono om))
    clear HBW
    have HBW := HBN
    clear HBN
    replace HXz : Hid (Bx w3 (w.heap.size) [.bool false, v_docs, v_subs, .int .i64 z.last]) := Lib.hid (HXz.out.at hb3)
    clear Zz Kz0 Kz1 Kz2 Kz3
    obtain ⟨Zz, Kz0, Kz1, Kz2, Kz3⟩ := HXz.out.o4
    replace HXr : Hid (Bx w3 (w.heap.size + 1) [.bool false, .slice none 0 0, .slice none 0 0, .int .i64 0]) := Lib.hid (HXr.out.at hb3)
    clear Zr Kr0 Kr1 Kr2 Kr3 Gr0 Gr1 Gr2 Gr3
    obtain ⟨Zr, Kr0, Kr1, Kr2, Kr3, Gr0, Gr1, Gr2, Gr3⟩ := HXr.out.q4
    clear hb3
    go_wp2_with fail
    refine (HF0.out _ (h_docs.below HBW.out)).mono ?_
    rintro e' w4 ⟨rfl, hb4⟩
    have s4 : w3.heap.size ≤ w4.heap.size := by have := hb4.size; (try simp at this); omega
    have HBN : Hid (Below w.heap.size w w4) := Lib.hid (HBW.out.trans (hb4.mono om))
    clear HBW
    have HBW := HBN
    clear HBN
    replace HXz : Hid (Bx w4 (w.heap.size) [.bool false, v_docs, v_subs, .int .i64 z.last]) := Lib.hid (HXz.out.at hb4)
    clear Zz Kz0 Kz1 Kz2 Kz3
    obtain ⟨Zz, Kz0, Kz1, Kz2, Kz3⟩ := HXz.out.o4
    replace HXr : Hid (Bx w4 (w.heap.size + 1) [.bool false, .slice none 0 0, .slice none 0 0, .int .i64 0]) := Lib.hid (HXr.out.at hb4)
    clear Zr Kr0 Kr1 Kr2 Kr3 Gr0 Gr1 Gr2 Gr3
    obtain ⟨Zr, Kr0, Kr1, Kr2, Kr3, Gr0, Gr1, Gr2, Gr3⟩ := HXr.out.q4
    clear hb4
    go_wp2
    have HB : Hid (Below w.heap.size w ((((w4.setCell ⟨w.heap.size + 1, 0, none⟩ (.bool false)).setCell ⟨w.heap.size + 1, 1, none⟩ (.slice none 0 0)).setCell ⟨w.heap.size + 1, 2, none⟩ (.slice none 0 0)).setCell ⟨w.heap.size + 1, 3, none⟩ (.int .i64 0))) := Lib.hid ((((HBW.out.setCell (p := ⟨w.heap.size + 1, 0, none⟩) om _).setCell (p := ⟨w.heap.size + 1, 1, none⟩) om _).setCell (p := ⟨w.heap.size + 1, 2, none⟩) om _).setCell (p := ⟨w.heap.size + 1, 3, none⟩) om _)
    rw [HV.out]
    exact bodyPost_ret (v := .tuple #[.agg #[.bool false, .slice none 0 0, .slice none 0 0, .int .i64 0], .int .i64 7]) (by simp [results, Tryz.results20, go_sem, cell_setCell, *]) rfl (out_hub0_i HB.out)
  have h3b : decide (0 ≤ hubDoc z name) = false := by simpa using h3
  have hld := fun w1 ty => h_docs.len Tryz.underlying27 w1 ty
  by_cases h4 : z.docs.length = 5
  · have HV := Lib.hid (hubOpen_full ⟨h1, HDK.out⟩ hsh h3 h4)
    have e4 : ((z.docs.length : Int) == 5) = true := by simp; omega
    clear h4
    go_enter Tryz.func20, Tryz.ntmps20
    go_wp2_with fail
    refine (HOK.out _ (h_docs.below (((Below.refl w.heap.size w).alloc om _).alloc om _)) (h_subs.below (((Below.refl w.heap.size w).alloc om _).alloc om _))).mono ?_
    rintro e' w1 ⟨rfl, hb1⟩
    rw [h1]
    have s1 : w.heap.size + 2 ≤ w1.heap.size := by have := hb1.size; (try simp at this); omega
    have HBN : Hid (Below w.heap.size w w1) := Lib.hid ((((Below.refl w.heap.size w).alloc om _).alloc om _).trans (hb1.mono om))
    have HBW := HBN
    clear HBN
    have HXz : Hid (Bx w1 (w.heap.size) [.bool false, v_docs, v_subs, .int .i64 z.last]) := Lib.hid (((Bx.new (by first | rfl | simp | omega)).alloc _).at hb1)
    obtain ⟨Zz, Kz0, Kz1, Kz2, Kz3⟩ := HXz.out.o4
    have HXr : Hid (Bx w1 (w.heap.size + 1) [.bool false, .slice none 0 0, .slice none 0 0, .int .i64 0]) := Lib.hid ((Bx.new (by first | rfl | simp | omega)).at hb1)
    obtain ⟨Zr, Kr0, Kr1, Kr2, Kr3, Gr0, Gr1, Gr2, Gr3⟩ := HXr.out.q4
    clear hb1
    go_wp2_with fail
    refine (impl_NameOk_c name _ nn).mono ?_
    rintro e' w2 ⟨rfl, hb2⟩
    rw [hn]
    have s2 : w1.heap.size ≤ w2.heap.size := by have := hb2.size; (try simp at this); omega
    have HBN : Hid (Below w.heap.size w w2) := Lib.hid (HBW.out.trans (hb2.mono om))
    clear HBW
    have HBW := HBN
    clear HBN
    replace HXz : Hid (Bx w2 (w.heap.size) [.bool false, v_docs, v_subs, .int .i64 z.last]) := Lib.hid (HXz.out.at hb2)
    clear Zz Kz0 Kz1 Kz2 Kz3
    obtain ⟨Zz, Kz0, Kz1, Kz2, Kz3⟩ := HXz.out.o4
    replace HXr : Hid (Bx w2 (w.heap.size + 1) [.bool false, .slice none 0 0, .slice none 0 0, .int .i64 0]) := Lib.hid (HXr.out.at hb2)
    clear Zr Kr0 Kr1 Kr2 Kr3 Gr0 Gr1 Gr2 Gr3
    obtain ⟨Zr, Kr0, Kr1, Kr2, Kr3, Gr0, Gr1, Gr2, Gr3⟩ := HXr.out.q4
    clear hb2
    go_wp2_with fail
    refine (impl_TextOk_c _ t _ (ht.below HBW.out)).mono ?_
    rintro e' w3 ⟨rfl, hb3⟩
    rw [hx]
    have s3 : w2.heap.size ≤ w3.heap.size := by have := hb3.size; (try simp at this); omega
    have HBN : Hid (Below w.heap.size w w3) := Lib.hid (HBW.out.trans (hb3.mono om))
    clear HBW
    have HBW := HBN
    clear HBN
    replace HXz : Hid (Bx w3 (w.heap.size) [.bool false, v_docs, v_subs, .int .i64 z.last]) := Lib.hid (HXz.out.at hb3)
    clear Zz Kz0 Kz1 Kz2 Kz3
    obtain ⟨Zz, Kz0, Kz1, Kz2, Kz3⟩ := HXz.out.o4
    replace HXr : Hid (Bx w3 (w.heap.size + 1) [.bool false, .slice none 0 0, .slice none 0 0, .int .i64 0]) := Lib.hid (HXr.out.at hb3)
    clear Zr Kr0 Kr1 Kr2 Kr3 Gr0 Gr1 Gr2 Gr3
    obtain ⟨Zr, Kr0, Kr1, Kr2, Kr3, Gr0, Gr1, Gr2, Gr3⟩ := HXr.out.q4
    clear hb3
    go_wp2_with fail
    refine (HF0.out _ (h_docs.below HBW.out)).mono ?_
    rintro e' w4 ⟨rfl, hb4⟩
    have s4 : w3.heap.size ≤ w4.heap.size := by have := hb4.size; (try simp at this); omega
    have HBN : Hid (Below w.heap.size w w4) := Lib.hid (HBW.out.trans (hb4.mono om))
    clear HBW
    have HBW := HBN
    clear HBN
    replace HXz : Hid (Bx w4 (w.heap.size) [.bool false, v_docs, v_subs, .int .i64 z.last]) := Lib.hid (HXz.out.at hb4)
    clear Zz Kz0 Kz1 Kz2 Kz3
    obtain ⟨Zz, Kz0, Kz1, Kz2, Kz3⟩ := HXz.out.o4
    replace HXr : Hid (Bx w4 (w.heap.size + 1) [.bool false, .slice none 0 0, .slice none 0 0, .int .i64 0]) := Lib.hid (HXr.out.at hb4)
    clear Zr Kr0 Kr1 Kr2 Kr3 Gr0 Gr1 Gr2 Gr3
    obtain ⟨Zr, Kr0, Kr1, Kr2, Kr3, Gr0, Gr1, Gr2, Gr3⟩ := HXr.out.q4
    clear hb4
    go_wp2
    have HB : Hid (Below w.heap.size w ((((w4.setCell ⟨w.heap.size + 1, 0, none⟩ (.bool false)).setCell ⟨w.heap.size + 1, 1, none⟩ (.slice none 0 0)).setCell ⟨w.heap.size + 1, 2, none⟩ (.slice none 0 0)).setCell ⟨w.heap.size + 1, 3, none⟩ (.int .i64 0))) := Lib.hid ((((HBW.out.setCell (p := ⟨w.heap.size + 1, 0, none⟩) om _).setCell (p := ⟨w.heap.size + 1, 1, none⟩) om _).setCell (p := ⟨w.heap.size + 1, 2, none⟩) om _).setCell (p := ⟨w.heap.size + 1, 3, none⟩) om _)
    rw [HV.out]
    exact bodyPost_ret (v := .tuple #[.agg #[.bool false, .slice none 0 0, .slice none 0 0, .int .i64 0], .int .i64 10]) (by simp [results, Tryz.results20, go_sem, cell_setCell, *]) rfl (out_hub0_i HB.out)
  have HV := Lib.hid (hubOpen_yes ⟨h1, HDK.out⟩ HDE.out hsh h3 h4)
  have e4 : ((z.docs.length : Int) == 5) = false := by simp; omega
  have bd := (hubOk_iff.1 h1).nd
  clear h4
  go_enter Tryz.func20, Tryz.ntmps20
  go_wp2_with fail
  refine (HOK.out _ (h_docs.below (((Below.refl w.heap.size w).alloc om _).alloc om _)) (h_subs.below (((Below.refl w.heap.size w).alloc om _).alloc om _))).mono ?_
  rintro e' w1 ⟨rfl, hb1⟩
  rw [h1]
  have s1 : w.heap.size + 2 ≤ w1.heap.size := by have := hb1.size; (try simp at this); omega
  have HBN : Hid (Below w.heap.size w w1) := Lib.hid ((((Below.refl w.heap.size w).alloc om _).alloc om _).trans (hb1.mono om))
  have HBW := HBN
  clear HBN
  have HXz : Hid (Bx w1 (w.heap.size) [.bool false, v_docs, v_subs, .int .i64 z.last]) := Lib.hid (((Bx.new (by first | rfl | simp | omega)).alloc _).at hb1)
  obtain ⟨Zz, Kz0, Kz1, Kz2, Kz3⟩ := HXz.out.o4
  have HXr : Hid (Bx w1 (w.heap.size + 1) [.bool false, .slice none 0 0, .slice none 0 0, .int .i64 0]) := Lib.hid ((Bx.new (by first | rfl | simp | omega)).at hb1)
  obtain ⟨Zr, Kr0, Kr1, Kr2, Kr3, Gr0, Gr1, Gr2, Gr3⟩ := HXr.out.q4
  clear hb1
  go_wp2_with fail
  refine (impl_NameOk_c name _ nn).mono ?_
  rintro e' w2 ⟨rfl, hb2⟩
  rw [hn]
  have s2 : w1.heap.size ≤ w2.heap.size := by have := hb2.size; (try simp at this); omega
  have HBN : Hid (Below w.heap.size w w2) := Lib.hid (HBW.out.trans (hb2.mono om))
  clear HBW
  have HBW := HBN
  clear HBN
  replace HXz : Hid (Bx w2 (w.heap.size) [.bool false, v_docs, v_subs, .int .i64 z.last]) := Lib.hid (HXz.out.at hb2)
  clear Zz Kz0 Kz1 Kz2 Kz3
  obtain ⟨Zz, Kz0, Kz1, Kz2, Kz3⟩ := HXz.out.o4
  replace HXr : Hid (Bx w2 (w.heap.size + 1) [.bool false, .slice none 0 0, .slice none 0 0, .int .i64 0]) := Lib.hid (HXr.out.at hb2)
  clear Zr Kr0 Kr1 Kr2 Kr3 Gr0 Gr1 Gr2 Gr3
  obtain ⟨Zr, Kr0, Kr1, Kr2, Kr3, Gr0, Gr1, Gr2, Gr3⟩ := HXr.out.q4
  clear hb2
  go_wp2_with fail
  refine (impl_TextOk_c _ t _ (ht.below HBW.out)).mono ?_
  rintro e' w3 ⟨rfl, hb3⟩
  rw [hx]
  have s3 : w2.heap.size ≤ w3.heap.size := by have := hb3.size; (try simp at this); omega
  have HBN : Hid (Below w.heap.size w w3) := Lib.hid (HBW.out.trans (hb3.mono om))
  clear HBW
  have HBW := HBN
  clear HBN
  replace HXz : Hid (Bx w3 (w.heap.size) [.bool false, v_docs, v_subs, .int .i64 z.last]) := Lib.hid (HXz.out.at hb3)
  clear Zz Kz0 Kz1 Kz2 Kz3
  obtain ⟨Zz, Kz0, Kz1, Kz2, Kz3⟩ := HXz.out.o4
  replace HXr : Hid (Bx w3 (w.heap.size + 1) [.bool false, .slice none 0 0, .slice none 0 0, .int .i64 0]) := Lib.hid (HXr.out.at hb3)
  clear Zr Kr0 Kr1 Kr2 Kr3 Gr0 Gr1 Gr2 Gr3
  obtain ⟨Zr, Kr0, Kr1, Kr2, Kr3, Gr0, Gr1, Gr2, Gr3⟩ := HXr.out.q4
  clear hb3
  go_wp2_with fail
  refine (HF0.out _ (h_docs.below HBW.out)).mono ?_
  rintro e' w4 ⟨rfl, hb4⟩
  have s4 : w3.heap.size ≤ w4.heap.size := by have := hb4.size; (try simp at this); omega
  have HBN : Hid (Below w.heap.size w w4) := Lib.hid (HBW.out.trans (hb4.mono om))
  clear HBW
  have HBW := HBN
  clear HBN
  replace HXz : Hid (Bx w4 (w.heap.size) [.bool false, v_docs, v_subs, .int .i64 z.last]) := Lib.hid (HXz.out.at hb4)
  clear Zz Kz0 Kz1 Kz2 Kz3
  obtain ⟨Zz, Kz0, Kz1, Kz2, Kz3⟩ := HXz.out.o4
  replace HXr : Hid (Bx w4 (w.heap.size + 1) [.bool false, .slice none 0 0, .slice none 0 0, .int .i64 0]) := Lib.hid (HXr.out.at hb4)
  clear Zr Kr0 Kr1 Kr2 Kr3 Gr0 Gr1 Gr2 Gr3
  obtain ⟨Zr, Kr0, Kr1, Kr2, Kr3, Gr0, Gr1, Gr2, Gr3⟩ := HXr.out.q4
  clear hb4
  go_wp2_with fail
  refine (HDC.out _ (ht.below HBW.out)).mono ?_
  rintro e' w5 ⟨v0t, v0l, v0s, f0t, f0l, f0s, rfl, st, sl, ss, _, kf, hb5⟩
  obtain ⟨a0t, c0t, rfl⟩ := RdS.isSlice ⟨_, st⟩
  obtain ⟨a0l, c0l, rfl⟩ := sl.nilS
  obtain ⟨a0s, c0s, rfl⟩ := ss.nilS
  have HDN : Hid (Tri (w4.heap.size) w5.heap.size w5 (.slice a0t t.length c0t) (.slice a0l 0 c0l) (.slice a0s 0 c0s) t ([] : List DEntry) ([] : List DSeen) f0t f0l f0s) := Lib.hid ⟨st, sl, ss, kf.mono (by first | exact Nat.le_refl _ | (simp; done) | (simp; omega)), Live.lt (Live.append.2 ⟨st.live, Live.append.2 ⟨sl.live, ss.live⟩⟩)⟩
  clear st sl ss kf
  (try dsimp only [docAt])
  have s5 : w4.heap.size ≤ w5.heap.size := by have := hb5.size; (try simp at this); omega
  have HBN : Hid (Below w.heap.size w w5) := Lib.hid (HBW.out.trans (hb5.mono om))
  clear HBW
  have HBW := HBN
  clear HBN
  replace HXz : Hid (Bx w5 (w.heap.size) [.bool false, v_docs, v_subs, .int .i64 z.last]) := Lib.hid (HXz.out.at hb5)
  clear Zz Kz0 Kz1 Kz2 Kz3
  obtain ⟨Zz, Kz0, Kz1, Kz2, Kz3⟩ := HXz.out.o4
  replace HXr : Hid (Bx w5 (w.heap.size + 1) [.bool false, .slice none 0 0, .slice none 0 0, .int .i64 0]) := Lib.hid (HXr.out.at hb5)
  clear Zr Kr0 Kr1 Kr2 Kr3 Gr0 Gr1 Gr2 Gr3
  obtain ⟨Zr, Kr0, Kr1, Kr2, Kr3, Gr0, Gr1, Gr2, Gr3⟩ := HXr.out.q4
  clear hb5
  go_wp2_with fail
  refine (HCP.out _ (h_docs.below (HBW.out.alloc om _)) (h_subs.below (HBW.out.alloc om _)) HZ.out).mono ?_
  rintro e' w6 ⟨_, rfl, ho6, hb6⟩
  obtain ⟨vd, vs, rfl, hown⟩ := HubOwn.of_own ho6
  rw [hsh]
  obtain ⟨ad, cd, rfl⟩ := hown.rd1.isSlice
  obtain ⟨as_, cs_, rfl⟩ := hown.rd2.isSlice
  have HOWN := Lib.hid (hown.mono (C' := w5.heap.size + 1) om)
  clear ho6 hown
  have s6 : w5.heap.size + 1 ≤ w6.heap.size := by have := hb6.size; (try simp at this); omega
  have HBN : Hid (Below w.heap.size w w6) := Lib.hid ((HBW.out.alloc om _).trans (hb6.mono om))
  clear HBW
  have HBW := HBN
  clear HBN
  replace HDN : Hid (Tri (w4.heap.size) (w5.heap.size) (w6) (.slice a0t t.length c0t) (.slice a0l 0 c0l) (.slice a0s 0 c0s) t ([] : List DEntry) ([] : List DSeen) f0t f0l f0s) := Lib.hid (((HDN.out.alloc om _).below (hb6.mono om)))
  replace HXz : Hid (Bx w6 (w.heap.size) [.bool false, v_docs, v_subs, .int .i64 z.last]) := Lib.hid ((HXz.out.alloc _).at hb6)
  clear Zz Kz0 Kz1 Kz2 Kz3
  obtain ⟨Zz, Kz0, Kz1, Kz2, Kz3⟩ := HXz.out.o4
  replace HXr : Hid (Bx w6 (w.heap.size + 1) [.bool false, .slice none 0 0, .slice none 0 0, .int .i64 0]) := Lib.hid ((HXr.out.alloc _).at hb6)
  clear Zr Kr0 Kr1 Kr2 Kr3 Gr0 Gr1 Gr2 Gr3
  obtain ⟨Zr, Kr0, Kr1, Kr2, Kr3, Gr0, Gr1, Gr2, Gr3⟩ := HXr.out.q4
  have HXd : Hid (Bx w6 (w5.heap.size) [.string name, .int .i64 0, .slice a0t t.length c0t, .slice a0l 0 c0l, .slice a0s 0 c0s]) := Lib.hid ((Bx.new (by first | rfl | simp | omega)).at hb6)
  obtain ⟨Zd, Kd0, Kd1, Kd2, Kd3, Kd4, Gd0, Gd1, Gd2, Gd3, Gd4⟩ := HXd.out.q5
  clear hb6
  clear hld
  go_upto_region 11 with (fail)
  obtain ⟨V, hV⟩ : ∃ V : World, V = (w6.alloc (.cells #[.bool false, .slice ad z.docs.length cd, .slice as_ z.subs.length cs_, .int .i64 z.last] 30)) := ⟨_, rfl⟩
  have sV : w6.heap.size + 1 ≤ V.heap.size := by rw [hV]; first | (simp; done) | (simp; omega)
  have HBN : Hid (Below w.heap.size w V) := Lib.hid (by rw [hV]; exact (HBW.out.alloc om _))
  clear HBW
  have HBW := HBN
  clear HBN
  replace HDN : Hid (Tri (w4.heap.size) (w5.heap.size) (V) (.slice a0t t.length c0t) (.slice a0l 0 c0l) (.slice a0s 0 c0s) t ([] : List DEntry) ([] : List DSeen) f0t f0l f0s) := Lib.hid (by rw [hV]; exact (HDN.out.alloc om _))
  replace HOWN : Hid (HubOwn (w5.heap.size + 1) (w6.heap.size) V (.slice ad z.docs.length cd) (.slice as_ z.subs.length cs_) (z.docs) (z.subs)) := Lib.hid (by rw [hV]; exact (HOWN.out.alloc om _))
  replace HXz : Hid (Bx V (w.heap.size) [.bool false, v_docs, v_subs, .int .i64 z.last]) := Lib.hid (by rw [hV]; exact (HXz.out.alloc _))
  clear Zz Kz0 Kz1 Kz2 Kz3
  obtain ⟨Zz, Kz0, Kz1, Kz2, Kz3⟩ := HXz.out.o4
  replace HXr : Hid (Bx V (w.heap.size + 1) [.bool false, .slice none 0 0, .slice none 0 0, .int .i64 0]) := Lib.hid (by rw [hV]; exact (HXr.out.alloc _))
  clear Zr Kr0 Kr1 Kr2 Kr3 Gr0 Gr1 Gr2 Gr3
  obtain ⟨Zr, Kr0, Kr1, Kr2, Kr3, Gr0, Gr1, Gr2, Gr3⟩ := HXr.out.q4
  replace HXd : Hid (Bx V (w5.heap.size) [.string name, .int .i64 0, .slice a0t t.length c0t, .slice a0l 0 c0l, .slice a0s 0 c0s]) := Lib.hid (by rw [hV]; exact (HXd.out.alloc _))
  clear Zd Kd0 Kd1 Kd2 Kd3 Kd4 Gd0 Gd1 Gd2 Gd3 Gd4
  obtain ⟨Zd, Kd0, Kd1, Kd2, Kd3, Kd4, Gd0, Gd1, Gd2, Gd3, Gd4⟩ := HXd.out.q5
  have HXo : Hid (Bx V (w6.heap.size) [.bool false, .slice ad z.docs.length cd, .slice as_ z.subs.length cs_, .int .i64 z.last]) := Lib.hid (by rw [hV]; exact (Bx.new (by first | rfl | simp | omega)))
  obtain ⟨Zo, Ko0, Ko1, Ko2, Ko3, Go0, Go1, Go2, Go3⟩ := HXo.out.q4
  rw [← hV]
  clear hV
  have hrd : RdS V (.slice ad z.docs.length cd) z.docs := HOWN.out.rd1
  have hls := fun w1 ty => hrd.len Tryz.underlying27 w1 ty
  have HRD := Lib.hid hrd
  clear hrd
  go_wp2_with fail
  go_loop [11] (fun i => ∃ k : Nat, k ≤ z.docs.length ∧ i = .int .i64 k ∧ ∀ j < k, ∀ d, z.docs[j]? = some d → slt d.name name = true) (fun i => z.docs.length - (intOf i).toNat)
  case atStart => exact ⟨0, Nat.zero_le _, rfl, fun j h => absurd h (Nat.not_lt_zero j)⟩
  case round =>
    obtain ⟨k, hk, rfl, hlow⟩ := hrel
    have HLOW := Lib.hid hlow
    clear hlow
    have fin : ∀ {m : Nat}, True → True := fun _ => trivial
    clear fin
    by_cases hlt : k < z.docs.length
    · obtain ⟨d, hd⟩ := get_some hlt
      obtain ⟨b1, o1, cs, g1, g2, g3⟩ := HRD.out.idx Tryz.underlying27 szi_DDoc k hd
      obtain ⟨d_text, d_list, d_seen, rfl, nd, r_text, r_list, r_seen⟩ := inv_DDoc g3
      have q0 := g2.zero
      have HD := Lib.hid hd
      clear g2 g3 r_text r_list r_seen hd
      by_cases e2 : slt d.name name = true
      · have e3 : Op.bytesLess d.name.toList name.toList = true := e2
        have hl2 : (k : Int) < (z.docs.length : Int) := by omega
        go_wp2
        go_round
        case rel =>
          refine ⟨k + 1, by omega, by go_num, fun j hj d' hd' => ?_⟩
          by_cases hjk : j < k
          · exact HLOW.out j hjk d' hd'
          · obtain rfl : j = k := by omega
            rw [HD.out] at hd'; cases hd'; exact e2
        case measure => simp [intOf]; omega
      · have e2 : slt d.name name = false := by simpa using e2
        have e3 : Op.bytesLess d.name.toList name.toList = false := e2
        have hl2 : (k : Int) < (z.docs.length : Int) := by omega
        have HAT := Lib.hid (hubAt_eq hk HLOW.out (fun d' hd' => by rw [HD.out] at hd'; cases hd'; exact e2))
        go_upto_region 14 with (fail)
        obtain ⟨gs, hrow, hlim, hfr, happ⟩ := HOWN.out.docs (B := w.heap.size + 2) (ob := w6.heap.size) (by omega) (by omega) (by omega)
        have hgx : GoT.rd BIG V [.string name, .int .i64 0, .slice a0t t.length c0t, .slice a0l 0 c0l, .slice a0s 0 c0s] (docAt name t) (f0t ++ (f0l ++ f0s)) := ⟨_, _, _, _, _, _, rfl, nn, HDN.out.1, HDN.out.2.1, HDN.out.2.2.1, rfl⟩
        have hdis : ∀ p ∈ f0t ++ (f0l ++ f0s), p ∉ rowP (GoT.n DDoc) (.slice ad z.docs.length cd) := fun p hp hq => by have a1 := HDN.out.2.2.2.2 p hp; have a2 := hlim p (List.mem_append_left _ hq); omega
        have HINS := Lib.hid (Insert_Doc_c (B := w.heap.size + 2) (.slice ad z.docs.length cd) z.docs gs k (docAt name t) [.string name, .int .i64 0, .slice a0t t.length c0t, .slice a0l 0 c0l, .slice a0s 0 c0s] _ V (hrow.mono (by omega)) hk hgx hdis (by omega) (by omega))
        have HLIM := Lib.hid hlim
        have HAPP := Lib.hid happ
        have HFR := Lib.hid hfr
        have HGX := Lib.hid hgx
        have HLG := Lib.hid hrow.live
        clear hrow hlim hfr happ hgx hdis
        go_wp2_with fail
        refine HINS.out.mono ?_
        rintro e' w20 hins
        have hba : Below V.heap.size V (V.alloc (.cells #[.string name, .int .i64 0, .slice a0t t.length c0t, .slice a0l 0 c0l, .slice a0s 0 c0s] 61)) := (Below.refl _ _).alloc (Nat.le_refl _) _
        have hff : Fresh (w.heap.size + 2) (V.alloc (.cells #[.string name, .int .i64 0, .slice a0t t.length c0t, .slice a0l 0 c0l, .slice a0s 0 c0s] 61)) (gs ++ (f0t ++ (f0l ++ f0s))) := ((HFR.out.right.mono (by omega)).join (HDN.out.2.2.2.1.mono (by omega)) fun p hp q hq e => by have a1 := HDN.out.2.2.2.2 q hq; have a2 := HLIM.out p (List.mem_append_right _ hp); rw [e] at a2; omega).belowL hba (fun p hp => by
          rcases List.mem_append.1 hp with hp | hp
          · have := HLIM.out p (List.mem_append_right _ hp); omega
          · have := HDN.out.2.2.2.2 p hp; omega)
        have hlv : Live (V.alloc (.cells #[.string name, .int .i64 0, .slice a0t t.length c0t, .slice a0l 0 c0l, .slice a0s 0 c0s] 61)) (gs ++ (f0t ++ (f0l ++ f0s))) := Live.append.2 ⟨HLG.out.keep (Live.same_below hba (Live.lt HLG.out)), (GoT.live HGX.out).keep (Live.same_below hba (Live.lt (GoT.live HGX.out)))⟩
        obtain ⟨v20, fp, rfl, sp, kp, wp, mp⟩ := hins.owns hff hlv
        obtain ⟨a20, c20, e20⟩ := sp.isS
        have hlen20 : (z.docs.take k ++ docAt name t :: z.docs.drop k).length = z.docs.length + 1 := by simp; omega
        rw [hlen20] at e20
        subst e20
        have HNEW : Hid (HubNe (w6.heap.size) (w.heap.size + 2) w20 (.slice a20 (z.docs.length + 1) c20) (.slice as_ z.subs.length cs_) (z.docs.take k ++ docAt name t :: z.docs.drop k) z.subs) := Lib.hid (HAPP.out _ _ _ _ _ hba wp sp kp (fun p hp => by
          rcases mp p hp with h | h | h
          · exact .inl (List.mem_append_left _ h)
          · right; right; simp at h; omega
          · rcases List.mem_append.1 h with h | h
            · exact .inl (List.mem_append_right _ h)
            · have := HDN.out.2.2.2.2 p h; right; left; omega))
        have s20 : V.heap.size + 1 ≤ w20.heap.size := by have := wp.size; (try simp at this); omega
        have HBN : Hid (Below w.heap.size w w20) := Lib.hid ((HBW.out.alloc om _).trans (wp.below (by simp; omega) (fun p hp => by have := HLIM.out p (List.mem_append_left _ hp); omega)))
        clear HBW
        have HBW := HBN
        clear HBN
        replace HXz : Hid (Bx w20 (w.heap.size) [.bool false, v_docs, v_subs, .int .i64 z.last]) := Lib.hid ((HXz.out.alloc _).wr wp (fun p hp e => by have := HLIM.out p (List.mem_append_left _ hp); omega))
        clear Zz Kz0 Kz1 Kz2 Kz3
        obtain ⟨Zz, Kz0, Kz1, Kz2, Kz3⟩ := HXz.out.o4
        replace HXr : Hid (Bx w20 (w.heap.size + 1) [.bool false, .slice none 0 0, .slice none 0 0, .int .i64 0]) := Lib.hid ((HXr.out.alloc _).wr wp (fun p hp e => by have := HLIM.out p (List.mem_append_left _ hp); omega))
        clear Zr Kr0 Kr1 Kr2 Kr3 Gr0 Gr1 Gr2 Gr3
        obtain ⟨Zr, Kr0, Kr1, Kr2, Kr3, Gr0, Gr1, Gr2, Gr3⟩ := HXr.out.q4
        replace HXo : Hid (Bx w20 (w6.heap.size) [.bool false, .slice ad z.docs.length cd, .slice as_ z.subs.length cs_, .int .i64 z.last]) := Lib.hid ((HXo.out.alloc _).wr wp (fun p hp e => by have := HLIM.out p (List.mem_append_left _ hp); omega))
        clear Zo Ko0 Ko1 Ko2 Ko3 Go0 Go1 Go2 Go3
        obtain ⟨Zo, Ko0, Ko1, Ko2, Ko3, Go0, Go1, Go2, Go3⟩ := HXo.out.q4
        clear hins sp kp wp mp hba hff hlv HINS HAPP HFR HGX HLG HDN HOWN HRD
        go_upto_region 15 with (fail)
        obtain ⟨U, hU⟩ : ∃ U : World, U = (w20.setCell ⟨w6.heap.size, 1, none⟩ (.slice a20 (z.docs.length + 1) c20)) := ⟨_, rfl⟩
        have sU : w20.heap.size ≤ U.heap.size := by rw [hU]; first | (simp; done) | (simp; omega)
        have HBN : Hid (Below w.heap.size w U) := Lib.hid (by rw [hU]; exact (HBW.out.setCell (p := ⟨w6.heap.size, 1, none⟩) om _))
        clear HBW
        have HBW := HBN
        clear HBN
        replace HNEW : Hid (HubNe (w6.heap.size) (w.heap.size + 2) U (.slice a20 (z.docs.length + 1) c20) (.slice as_ z.subs.length cs_) (z.docs.take k ++ docAt name t :: z.docs.drop k) z.subs) := Lib.hid (by rw [hU]; exact (HNEW.out.setCell (by omega) _))
        replace HXz : Hid (Bx U (w.heap.size) [.bool false, v_docs, v_subs, .int .i64 z.last]) := Lib.hid (by rw [hU]; exact (HXz.out.setO om))
        clear Zz Kz0 Kz1 Kz2 Kz3
        obtain ⟨Zz, Kz0, Kz1, Kz2, Kz3⟩ := HXz.out.o4
        replace HXr : Hid (Bx U (w.heap.size + 1) [.bool false, .slice none 0 0, .slice none 0 0, .int .i64 0]) := Lib.hid (by rw [hU]; exact (HXr.out.setO om))
        clear Zr Kr0 Kr1 Kr2 Kr3 Gr0 Gr1 Gr2 Gr3
        obtain ⟨Zr, Kr0, Kr1, Kr2, Kr3, Gr0, Gr1, Gr2, Gr3⟩ := HXr.out.q4
        replace HXo : Hid (Bx U (w6.heap.size) [.bool false, .slice a20 (z.docs.length + 1) c20, .slice as_ z.subs.length cs_, .int .i64 z.last]) := Lib.hid (by rw [hU]; exact (HXo.out.set 1 (.slice a20 (z.docs.length + 1) c20)))
        clear Zo Ko0 Ko1 Ko2 Ko3 Go0 Go1 Go2 Go3
        obtain ⟨Zo, Ko0, Ko1, Ko2, Ko3, Go0, Go1, Go2, Go3⟩ := HXo.out.q4
        rw [← hU]
        clear hU
        have HH : Hid (HubNe (w6.heap.size) (w.heap.size + 2) ((((U.setCell ⟨w.heap.size + 1, 0, none⟩ (.bool false)).setCell ⟨w.heap.size + 1, 1, none⟩ (.slice a20 (z.docs.length + 1) c20)).setCell ⟨w.heap.size + 1, 2, none⟩ (.slice as_ z.subs.length cs_)).setCell ⟨w.heap.size + 1, 3, none⟩ (.int .i64 z.last)) (.slice a20 (z.docs.length + 1) c20) (.slice as_ z.subs.length cs_) (z.docs.take k ++ docAt name t :: z.docs.drop k) z.subs) := Lib.hid ((((HNEW.out.setCell (by omega) _).setCell (by omega) _).setCell (by omega) _).setCell (by omega) _)
        have HB : Hid (Below w.heap.size w ((((U.setCell ⟨w.heap.size + 1, 0, none⟩ (.bool false)).setCell ⟨w.heap.size + 1, 1, none⟩ (.slice a20 (z.docs.length + 1) c20)).setCell ⟨w.heap.size + 1, 2, none⟩ (.slice as_ z.subs.length cs_)).setCell ⟨w.heap.size + 1, 3, none⟩ (.int .i64 z.last))) := Lib.hid ((((HBW.out.setCell (p := ⟨w.heap.size + 1, 0, none⟩) om _).setCell (p := ⟨w.heap.size + 1, 1, none⟩) om _).setCell (p := ⟨w.heap.size + 1, 2, none⟩) om _).setCell (p := ⟨w.heap.size + 1, 3, none⟩) om _)
        go_wp2
        rw [HV.out, HAT.out]
        exact bodyPost_ret (v := .tuple #[.agg #[.bool false, .slice a20 (z.docs.length + 1) c20, .slice as_ z.subs.length cs_, .int .i64 z.last], .int .i64 0]) (by simp [results, Tryz.results20, go_sem, cell_setCell, *]) rfl (HubNe.out_i (y := ⟨false, z.docs.take k ++ docAt name t :: z.docs.drop k, z.subs, z.last⟩) HH.out (by omega) HB.out)
    · have HAT := Lib.hid (hubAt_eq hk HLOW.out (fun d' hd' => by have := (List.getElem?_eq_some_iff.1 hd').1; omega))
      have hl2 : ¬ (k : Int) < (z.docs.length : Int) := by omega
      go_upto_region 14 with (fail)
      obtain ⟨gs, hrow, hlim, hfr, happ⟩ := HOWN.out.docs (B := w.heap.size + 2) (ob := w6.heap.size) (by omega) (by omega) (by omega)
      have hgx : GoT.rd BIG V [.string name, .int .i64 0, .slice a0t t.length c0t, .slice a0l 0 c0l, .slice a0s 0 c0s] (docAt name t) (f0t ++ (f0l ++ f0s)) := ⟨_, _, _, _, _, _, rfl, nn, HDN.out.1, HDN.out.2.1, HDN.out.2.2.1, rfl⟩
      have hdis : ∀ p ∈ f0t ++ (f0l ++ f0s), p ∉ rowP (GoT.n DDoc) (.slice ad z.docs.length cd) := fun p hp hq => by have a1 := HDN.out.2.2.2.2 p hp; have a2 := hlim p (List.mem_append_left _ hq); omega
      have HINS := Lib.hid (Insert_Doc_c (B := w.heap.size + 2) (.slice ad z.docs.length cd) z.docs gs k (docAt name t) [.string name, .int .i64 0, .slice a0t t.length c0t, .slice a0l 0 c0l, .slice a0s 0 c0s] _ V (hrow.mono (by omega)) hk hgx hdis (by omega) (by omega))
      have HLIM := Lib.hid hlim
      have HAPP := Lib.hid happ
      have HFR := Lib.hid hfr
      have HGX := Lib.hid hgx
      have HLG := Lib.hid hrow.live
      clear hrow hlim hfr happ hgx hdis
      go_wp2_with fail
      refine HINS.out.mono ?_
      rintro e' w20 hins
      have hba : Below V.heap.size V (V.alloc (.cells #[.string name, .int .i64 0, .slice a0t t.length c0t, .slice a0l 0 c0l, .slice a0s 0 c0s] 61)) := (Below.refl _ _).alloc (Nat.le_refl _) _
      have hff : Fresh (w.heap.size + 2) (V.alloc (.cells #[.string name, .int .i64 0, .slice a0t t.length c0t, .slice a0l 0 c0l, .slice a0s 0 c0s] 61)) (gs ++ (f0t ++ (f0l ++ f0s))) := ((HFR.out.right.mono (by omega)).join (HDN.out.2.2.2.1.mono (by omega)) fun p hp q hq e => by have a1 := HDN.out.2.2.2.2 q hq; have a2 := HLIM.out p (List.mem_append_right _ hp); rw [e] at a2; omega).belowL hba (fun p hp => by
        rcases List.mem_append.1 hp with hp | hp
        · have := HLIM.out p (List.mem_append_right _ hp); omega
        · have := HDN.out.2.2.2.2 p hp; omega)
      have hlv : Live (V.alloc (.cells #[.string name, .int .i64 0, .slice a0t t.length c0t, .slice a0l 0 c0l, .slice a0s 0 c0s] 61)) (gs ++ (f0t ++ (f0l ++ f0s))) := Live.append.2 ⟨HLG.out.keep (Live.same_below hba (Live.lt HLG.out)), (GoT.live HGX.out).keep (Live.same_below hba (Live.lt (GoT.live HGX.out)))⟩
      obtain ⟨v20, fp, rfl, sp, kp, wp, mp⟩ := hins.owns hff hlv
      obtain ⟨a20, c20, e20⟩ := sp.isS
      have hlen20 : (z.docs.take k ++ docAt name t :: z.docs.drop k).length = z.docs.length + 1 := by simp; omega
      rw [hlen20] at e20
      subst e20
      have HNEW : Hid (HubNe (w6.heap.size) (w.heap.size + 2) w20 (.slice a20 (z.docs.length + 1) c20) (.slice as_ z.subs.length cs_) (z.docs.take k ++ docAt name t :: z.docs.drop k) z.subs) := Lib.hid (HAPP.out _ _ _ _ _ hba wp sp kp (fun p hp => by
        rcases mp p hp with h | h | h
        · exact .inl (List.mem_append_left _ h)
        · right; right; simp at h; omega
        · rcases List.mem_append.1 h with h | h
          · exact .inl (List.mem_append_right _ h)
          · have := HDN.out.2.2.2.2 p h; right; left; omega))
      have s20 : V.heap.size + 1 ≤ w20.heap.size := by have := wp.size; (try simp at this); omega
      have HBN : Hid (Below w.heap.size w w20) := Lib.hid ((HBW.out.alloc om _).trans (wp.below (by simp; omega) (fun p hp => by have := HLIM.out p (List.mem_append_left _ hp); omega)))
      clear HBW
      have HBW := HBN
      clear HBN
      replace HXz : Hid (Bx w20 (w.heap.size) [.bool false, v_docs, v_subs, .int .i64 z.last]) := Lib.hid ((HXz.out.alloc _).wr wp (fun p hp e => by have := HLIM.out p (List.mem_append_left _ hp); omega))
      clear Zz Kz0 Kz1 Kz2 Kz3
      obtain ⟨Zz, Kz0, Kz1, Kz2, Kz3⟩ := HXz.out.o4
      replace HXr : Hid (Bx w20 (w.heap.size + 1) [.bool false, .slice none 0 0, .slice none 0 0, .int .i64 0]) := Lib.hid ((HXr.out.alloc _).wr wp (fun p hp e => by have := HLIM.out p (List.mem_append_left _ hp); omega))
      clear Zr Kr0 Kr1 Kr2 Kr3 Gr0 Gr1 Gr2 Gr3
      obtain ⟨Zr, Kr0, Kr1, Kr2, Kr3, Gr0, Gr1, Gr2, Gr3⟩ := HXr.out.q4
      replace HXo : Hid (Bx w20 (w6.heap.size) [.bool false, .slice ad z.docs.length cd, .slice as_ z.subs.length cs_, .int .i64 z.last]) := Lib.hid ((HXo.out.alloc _).wr wp (fun p hp e => by have := HLIM.out p (List.mem_append_left _ hp); omega))
      clear Zo Ko0 Ko1 Ko2 Ko3 Go0 Go1 Go2 Go3
      obtain ⟨Zo, Ko0, Ko1, Ko2, Ko3, Go0, Go1, Go2, Go3⟩ := HXo.out.q4
      clear hins sp kp wp mp hba hff hlv HINS HAPP HFR HGX HLG HDN HOWN HRD
      go_upto_region 15 with (fail)
      obtain ⟨U, hU⟩ : ∃ U : World, U = (w20.setCell ⟨w6.heap.size, 1, none⟩ (.slice a20 (z.docs.length + 1) c20)) := ⟨_, rfl⟩
      have sU : w20.heap.size ≤ U.heap.size := by rw [hU]; first | (simp; done) | (simp; omega)
      have HBN : Hid (Below w.heap.size w U) := Lib.hid (by rw [hU]; exact (HBW.out.setCell (p := ⟨w6.heap.size, 1, none⟩) om _))
      clear HBW
      have HBW := HBN
      clear HBN
      replace HNEW : Hid (HubNe (w6.heap.size) (w.heap.size + 2) U (.slice a20 (z.docs.length + 1) c20) (.slice as_ z.subs.length cs_) (z.docs.take k ++ docAt name t :: z.docs.drop k) z.subs) := Lib.hid (by rw [hU]; exact (HNEW.out.setCell (by omega) _))
      replace HXz : Hid (Bx U (w.heap.size) [.bool false, v_docs, v_subs, .int .i64 z.last]) := Lib.hid (by rw [hU]; exact (HXz.out.setO om))
      clear Zz Kz0 Kz1 Kz2 Kz3
      obtain ⟨Zz, Kz0, Kz1, Kz2, Kz3⟩ := HXz.out.o4
      replace HXr : Hid (Bx U (w.heap.size + 1) [.bool false, .slice none 0 0, .slice none 0 0, .int .i64 0]) := Lib.hid (by rw [hU]; exact (HXr.out.setO om))
      clear Zr Kr0 Kr1 Kr2 Kr3 Gr0 Gr1 Gr2 Gr3
      obtain ⟨Zr, Kr0, Kr1, Kr2, Kr3, Gr0, Gr1, Gr2, Gr3⟩ := HXr.out.q4
      replace HXo : Hid (Bx U (w6.heap.size) [.bool false, .slice a20 (z.docs.length + 1) c20, .slice as_ z.subs.length cs_, .int .i64 z.last]) := Lib.hid (by rw [hU]; exact (HXo.out.set 1 (.slice a20 (z.docs.length + 1) c20)))
      clear Zo Ko0 Ko1 Ko2 Ko3 Go0 Go1 Go2 Go3
      obtain ⟨Zo, Ko0, Ko1, Ko2, Ko3, Go0, Go1, Go2, Go3⟩ := HXo.out.q4
      rw [← hU]
      clear hU
      have HH : Hid (HubNe (w6.heap.size) (w.heap.size + 2) ((((U.setCell ⟨w.heap.size + 1, 0, none⟩ (.bool false)).setCell ⟨w.heap.size + 1, 1, none⟩ (.slice a20 (z.docs.length + 1) c20)).setCell ⟨w.heap.size + 1, 2, none⟩ (.slice as_ z.subs.length cs_)).setCell ⟨w.heap.size + 1, 3, none⟩ (.int .i64 z.last)) (.slice a20 (z.docs.length + 1) c20) (.slice as_ z.subs.length cs_) (z.docs.take k ++ docAt name t :: z.docs.drop k) z.subs) := Lib.hid ((((HNEW.out.setCell (by omega) _).setCell (by omega) _).setCell (by omega) _).setCell (by omega) _)
      have HB : Hid (Below w.heap.size w ((((U.setCell ⟨w.heap.size + 1, 0, none⟩ (.bool false)).setCell ⟨w.heap.size + 1, 1, none⟩ (.slice a20 (z.docs.length + 1) c20)).setCell ⟨w.heap.size + 1, 2, none⟩ (.slice as_ z.subs.length cs_)).setCell ⟨w.heap.size + 1, 3, none⟩ (.int .i64 z.last))) := Lib.hid ((((HBW.out.setCell (p := ⟨w.heap.size + 1, 0, none⟩) om _).setCell (p := ⟨w.heap.size + 1, 1, none⟩) om _).setCell (p := ⟨w.heap.size + 1, 2, none⟩) om _).setCell (p := ⟨w.heap.size + 1, 3, none⟩) om _)
      go_wp2
      rw [HV.out, HAT.out]
      exact bodyPost_ret (v := .tuple #[.agg #[.bool false, .slice a20 (z.docs.length + 1) c20, .slice as_ z.subs.length cs_, .int .i64 z.last], .int .i64 0]) (by simp [results, Tryz.results20, go_sem, cell_setCell, *]) rfl (HubNe.out_i (y := ⟨false, z.docs.take k ++ docAt name t :: z.docs.drop k, z.subs, z.last⟩) HH.out (by omega) HB.out)
end Go.Proofs.YtdjfmbdcdmmdfaaGreat
