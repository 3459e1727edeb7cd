/- The state of the walks that put two operations together. -/
import Derived.Test.YtiahgjnpinjblaaCur
import Derived.Test.YtiahgjnpinjblaaStf
import Derived.Test.YtiahgjnpinjblaaCmw
import Derived.BigRegion
namespace Go.Proofs.Ytiahgjnpinjblaa
open Go.RowKit
/-- two cursors and a builder -/
structure CS1 (w0 : World) (bp bq bx : Nat) (va vb : Value) (a b : List DPart) (w : World) (kp dp kq dq : Nat) (sx : Bst) : Prop where
  o1 : w0.heap.size ≤ bp
  o2 : bp < bq
  o3 : bq < bx
  o4 : bx < w.heap.size
  p : Bx w bp [va, .int .i64 kp, .int .i64 dp]
  q : Bx w bq [vb, .int .i64 kq, .int .i64 dq]
  xy : ∃ fx, Bld bx w (bx, 0) (bx, 1) (bx, 2) sx fx ∧ ∀ p ∈ fx, p.1 < w.heap.size
  bel : Below w0.heap.size w0 w
  cp : Cok a kp dp
  cq : Cok b kq dq
section
variable {w0 w w' : World} {bp bq bx : Nat} {va vb : Value} {a b : List DPart} {kp dp kq dq k d : Nat} {sx s : Bst}
theorem CS1.below (h : CS1 w0 bp bq bx va vb a b w kp dp kq dq sx) (hb : Below w.heap.size w w') : CS1 w0 bp bq bx va vb a b w' kp dp kq dq sx := by
  obtain ⟨fx, h1, h4⟩ := h.xy
  have hs := hb.size
  exact ⟨h.o1, h.o2, h.o3, Nat.lt_of_lt_of_le h.o4 hs, h.p.at hb, h.q.at hb, ⟨fx, h1.below hb, fun p hp => Nat.lt_of_lt_of_le (h4 p hp) hs⟩, h.bel.trans (hb.mono h.bel.size), h.cp, h.cq⟩
theorem CS1.stepP (h : CS1 w0 bp bq bx va vb a b w kp dp kq dq sx) (hw : Wr (own bp 0 3) w w') (hx : Bx w' bp [va, .int .i64 k, .int .i64 d]) (hc : Cok a k d) : CS1 w0 bp bq bx va vb a b w' k d kq dq sx := by
  obtain ⟨fx, h1, h4⟩ := h.xy
  have hs := hw.size
  have o1 := h.o1
  have o2 := h.o2
  have o3 := h.o3
  have hn : ∀ p ∈ fx, p ∉ own bp 0 3 := fun p hp hq => by have := h1.fr.ge p hp; have := own_blk hq; omega
  exact ⟨o1, o2, o3, Nat.lt_of_lt_of_le h.o4 hs, hx, h.q.wr hw fun p hp => by have := own_blk hp; omega, ⟨fx, h1.wr hw hn h4, fun p hp => Nat.lt_of_lt_of_le (h4 p hp) hs⟩,
    h.bel.trans (hw.below h.bel.size fun p hp => by have := own_blk hp; omega), hc, h.cq⟩
theorem CS1.stepQ (h : CS1 w0 bp bq bx va vb a b w kp dp kq dq sx) (hw : Wr (own bq 0 3) w w') (hx : Bx w' bq [vb, .int .i64 k, .int .i64 d]) (hc : Cok b k d) : CS1 w0 bp bq bx va vb a b w' kp dp k d sx := by
  obtain ⟨fx, h1, h4⟩ := h.xy
  have hs := hw.size
  have o1 := h.o1
  have o2 := h.o2
  have o3 := h.o3
  have hn : ∀ p ∈ fx, p ∉ own bq 0 3 := fun p hp hq => by have := h1.fr.ge p hp; have := own_blk hq; omega
  exact ⟨o1, o2, o3, Nat.lt_of_lt_of_le h.o4 hs, h.p.wr hw fun p hp => by have := own_blk hp; omega, hx, ⟨fx, h1.wr hw hn h4, fun p hp => Nat.lt_of_lt_of_le (h4 p hp) hs⟩,
    h.bel.trans (hw.below h.bel.size fun p hp => by have := own_blk hp; omega), h.cp, hc⟩
theorem CS1.x (h : CS1 w0 bp bq bx va vb a b w kp dp kq dq sx) : ∃ fx, Bld bx w (bx, 0) (bx, 1) (bx, 2) sx fx ∧ ∀ (s : Bst) (e : Ending) (w' : World), BStep bx w (bx, 0) (bx, 1) (bx, 2) s fx e w' → e = .returned (.tuple #[]) ∧ CS1 w0 bp bq bx va vb a b w' kp dp kq dq s := by
  obtain ⟨fx, h1, h4⟩ := h.xy
  refine ⟨fx, h1, fun s e w' hb => ?_⟩
  obtain ⟨he, f, k1, k2, k3⟩ := hb
  have hs := k2.size
  have o1 := h.o1
  have o2 := h.o2
  have o3 := h.o3
  have hge := h1.fr.ge
  obtain ⟨vl, vp, fl, fq, hbl, _, _, sq, hf, _⟩ := k1.open
  have hl : ∀ p ∈ f, p.1 < w'.heap.size := by
    intro p hp
    rw [hf] at hp
    rcases List.mem_append.1 hp with hp | hp
    · exact Live.lt hbl.live p (List.mem_append.2 (.inl hp))
    · rcases List.mem_append.1 hp with hp | hp
      · exact Live.lt hbl.live p (List.mem_append.2 (.inr hp))
      · exact Live.lt sq.live p hp
  exact ⟨he, o1, o2, o3, Nat.lt_of_lt_of_le h.o4 hs, h.p.wr k2 fun p hp => by have := hge p hp; omega, h.q.wr k2 fun p hp => by have := hge p hp; omega,
    ⟨f, k1, hl⟩, h.bel.trans (k2.below h.bel.size fun p hp => by have := hge p hp; omega), h.cp, h.cq⟩
theorem CS1.new {E1 E2 : TypeId} (hb : Below w0.heap.size w0 w) :
    CS1 w0 w.heap.size (w.heap.size + 1) (w.heap.size + 2) va vb a b (((w.alloc (.cells #[va, .int .i64 0, .int .i64 0] E1)).alloc (.cells #[vb, .int .i64 0, .int .i64 0] E1)).alloc (.cells #[.slice none 0 0, .slice none 0 0, .int .i64 0] E2)) 0 0 0 0 (bstOf []) := by
  have b1 : Bx (w.alloc (.cells #[va, .int .i64 0, .int .i64 0] E1)) w.heap.size [va, .int .i64 0, .int .i64 0] := Bx.new rfl
  have b2 : Bx ((w.alloc (.cells #[va, .int .i64 0, .int .i64 0] E1)).alloc (.cells #[vb, .int .i64 0, .int .i64 0] E1)) (w.heap.size + 1) [vb, .int .i64 0, .int .i64 0] := Bx.new (by simp)
  have k1 := bld_new ((w.alloc (.cells #[va, .int .i64 0, .int .i64 0] E1)).alloc (.cells #[vb, .int .i64 0, .int .i64 0] E1)) E2 (w.heap.size + 2) (by simp)
  have e1 : ((w.alloc (.cells #[va, .int .i64 0, .int .i64 0] E1)).alloc (.cells #[vb, .int .i64 0, .int .i64 0] E1)).heap.size = w.heap.size + 2 := by simp
  rw [e1] at k1
  refine ⟨hb.size, Nat.lt_succ_self _, Nat.lt_succ_self _, by simp, (b1.alloc _).alloc _, b2.alloc _, ⟨_, k1, ?_⟩, ((hb.alloc hb.size _).alloc (by simp; have := hb.size; omega) _).alloc (by simp; have := hb.size; omega) _, Cok.zero (Nat.zero_le _), Cok.zero (Nat.zero_le _)⟩
  intro p hp
  simp only [bpl, List.append_nil, List.mem_cons, List.not_mem_nil, or_false] at hp
  rcases hp with rfl | rfl | rfl <;> simp
end
theorem compose_no {a b : List DPart} (h : ¬ (opOk a = true ∧ opOk b = true ∧ opTo a = opFrom b)) : compose a b = none := by unfold compose; rw [if_neg h]
theorem compose_bad {a b : List DPart} (h : opOk (normal (cfz a b)) = false) : compose a b = none := by
  unfold compose; rw [if_neg (by simp [h] : ¬ opOk (normal (cfz a b)) = true)]; split <;> rfl
theorem compose_yes {a b : List DPart} (h : opOk a = true ∧ opOk b = true ∧ opTo a = opFrom b) (h2 : opOk (normal (cfz a b)) = true) : compose a b = some (normal (cfz a b)) := by
  unfold compose; rw [if_pos h, if_pos h2]
/-- what a call of Compose gives back -/
def OutCo (w : World) (z : Option (List DPart)) (e : Ending) (w' : World) : Prop :=
  ∃ v, e = .returned (.tuple #[v, .bool z.isSome]) ∧ OwnS w.heap.size w' v (z.getD []) ∧ Below w.heap.size w w'
theorem OutCo.no {w w' : World} {z : Option (List DPart)} (h : z = none) (hb : Below w.heap.size w w') : OutCo w z (.returned (.tuple #[.slice none 0 0, .bool false])) w' := by
  subst h
  exact ⟨_, rfl, OwnS.empty _ _ _, hb⟩
theorem OutCo.yes {w w' : World} {z : Option (List DPart)} {x : List DPart} {v : Value} (h : z = some x) (h0 : OwnS w.heap.size w' v x) (hb : Below w.heap.size w w') : OutCo w z (.returned (.tuple #[v, .bool true])) w' := by
  subst h
  exact ⟨_, rfl, h0, hb⟩
theorem cutL_put {p : DPart} (n : Nat) (k : p.kind = 2) : (cutL p n).signs = p.signs.take n := by unfold cutL; rw [if_pos k]
set_option maxHeartbeats 2000000 in
set_option maxRecDepth 100000 in
theorem spec_l04TakeN_c (w0 : World) (b : Nat) (v : Value) (o : List DPart) (k d : Nat) (p : DPart) (l : List DPart) (w : World) (hX : Bx w b [v, .int .i64 k, .int .i64 d]) (h : RdS w0 v o) (hb0 : w0.heap.size ≤ b) (hbw : Below w0.heap.size w0 w) (hall : o.all partOk = true) (hc : Cok o k d) (hcur : curRem o k d = p :: l) (k2 : p.kind = 2) (n : Nat) (hn : n ≤ nsz p) : Calls Try.prog 98 #[.pointer (some ⟨b, 0, none⟩), .int .i64 n] w (fun e w' => ∃ vs, e = .returned vs ∧ RdS w' vs (p.signs.take n) ∧ Bx w' b [v, .int .i64 k, .int .i64 ((d + n : Nat) : Int)] ∧ Wr (own b 0 3) w w') := by
  obtain ⟨q, hq, hpo, hsz, hn2, hdn, hnp, hkp, _, hput⟩ := cur_left hall hc hcur
  obtain ⟨zl, c0, c1, c2, g0, g1, g2⟩ := hX.q3
  have rr := h.below hbw
  have HX := Lib.hid hX
  have HNP := Lib.hid hnp
  have HPUT := Lib.hid hput
  have hkq : q.kind = 2 := by omega
  obtain ⟨hps, hql⟩ := hput hkq
  obtain ⟨b1, o1, cs, i1, i2, i3⟩ := h.idx Try.underlying32 szi_DPart k hq
  obtain ⟨vg, rfl, r_signs⟩ := inv_DPart i3
  have e0 := i2.zero
  have e1 : w0.cell? ⟨b1, o1 + 1, none⟩ = some _ := i2 1 _ rfl
  have e2 : w0.cell? ⟨b1, o1 + 2, none⟩ = some _ := i2 2 _ rfl
  have l1 : b1 < w0.heap.size := World.block_lt_of_cell? (w := w0) (a := ⟨b1, o1, none⟩) e0
  have HRS := Lib.hid r_signs
  clear i2 i3 r_signs
  replace e0 : w.cell? ⟨b1, o1, none⟩ = some _ := (hbw.cell (p := ⟨b1, o1, none⟩) l1).trans e0
  replace e1 : w.cell? ⟨b1, o1 + 1, none⟩ = some _ := (hbw.cell (p := ⟨b1, o1 + 1, none⟩) l1).trans e1
  replace e2 : w.cell? ⟨b1, o1 + 2, none⟩ = some _ := (hbw.cell (p := ⟨b1, o1 + 2, none⟩) l1).trans e2
  replace l1 := Nat.lt_of_lt_of_le l1 hbw.size
  have HBW := Lib.hid hbw
  obtain ⟨vs, hcut, hvs⟩ := HRS.out.cut Try.underlying23 (E := 3) (fun _ => by kernel_rfl) (lo := d) (hi := d + n) (by omega) (by omega)
  have HVS : Hid (RdS w0 vs (p.signs.take n)) := Lib.hid (by rw [hps, List.take_drop]; exact hvs)
  rw [Int.natCast_add] at hcut
  have hpb : n ≤ 200 := by omega
  have hdb : d ≤ 200 := by omega
  clear hall hc hX h hbw rr hput hcur hkp hpo hsz hps hvs hql hkq k2 hnp hn
  go_enter Try.func98, Try.ntmps98
  go_wp2_with fail
  obtain ⟨X, hX, F, hF, hFs⟩ := fam_of w
  obtain ⟨fc0, fc1, fc2⟩ := mx3 hF zl c0 c1 c2
  have fe0 : ∀ x, (F x).cell? ⟨b1, o1, none⟩ = some (.int .i64 q.kind) := fun x => ((hF x).cell (p := ⟨b1, o1, none⟩) l1).trans e0
  obtain ⟨fe1, fe2⟩ := mx2 hF l1 e1 e2
  have HF := Lib.hid hF
  have HFs := Lib.hid hFs
  clear hF hFs
  refine wp_region_fam (F := F) (by kernel_rfl) (by kernel_rfl) (HFs.out _ (Below.refl _ _).drew) ?_
  repeat (go_big_quiet_step (fail))
  refine wpQuiet_nil ?_
  intro x
  obtain ⟨w1, hwx⟩ : ∃ wx : World, F x = wx := ⟨_, rfl⟩
  have B1 : Below w.heap.size w w1 := by rw [← hwx]; exact HF.out x
  rw [hwx]
  clear hwx fc0 fc1 fc2 fe0 fe1 fe2 HF HFs
  have s1 := B1.size
  replace c0 : w1.cell? ⟨b, 0, none⟩ = some (v) := (B1.cell (p := ⟨b, 0, none⟩) zl).trans c0
  replace c1 : w1.cell? ⟨b, 1, none⟩ = some (.int .i64 k) := (B1.cell (p := ⟨b, 1, none⟩) zl).trans c1
  replace c2 : w1.cell? ⟨b, 2, none⟩ = some (.int .i64 d) := (B1.cell (p := ⟨b, 2, none⟩) zl).trans c2
  replace e0 : w1.cell? ⟨b1, o1, none⟩ = some (.int .i64 q.kind) := (B1.cell (p := ⟨b1, o1, none⟩) l1).trans e0
  replace e1 : w1.cell? ⟨b1, o1 + 1, none⟩ = some (.int .i64 q.n) := (B1.cell (p := ⟨b1, o1 + 1, none⟩) l1).trans e1
  replace e2 : w1.cell? ⟨b1, o1 + 2, none⟩ = some (vg) := (B1.cell (p := ⟨b1, o1 + 2, none⟩) l1).trans e2
  replace g0 : w1.frozen? ⟨b, 0, none⟩ = false := (B1.frozen (p := ⟨b, 0, none⟩) zl).trans g0
  replace g1 : w1.frozen? ⟨b, 1, none⟩ = false := (B1.frozen (p := ⟨b, 1, none⟩) zl).trans g1
  replace g2 : w1.frozen? ⟨b, 2, none⟩ = false := (B1.frozen (p := ⟨b, 2, none⟩) zl).trans g2
  replace l1 := Nat.lt_of_lt_of_le l1 s1
  replace zl := Nat.lt_of_lt_of_le zl s1
  go_wp2
  go_ret
  have hx1 : Bx w1 b [v, .int .i64 k, .int .i64 d] := ⟨zl, fun j u hj => by
    match j, hj with
    | 0, hj => simp at hj; subst hj; exact ⟨c0, g0⟩
    | 1, hj => simp at hj; subst hj; exact ⟨c1, g1⟩
    | 2, hj => simp at hj; subst hj; exact ⟨c2, g2⟩⟩
  refine ⟨vs, rfl, HVS.out.below ((HBW.out.trans (B1.mono HBW.out.size)).setCell (p := ⟨b, 2, none⟩) hb0 _), ?_, (Wr.of_below B1).put (b := b) (o := 2) (mem_own.2 ⟨rfl, by simp, by simp⟩) _⟩
  have := hx1.set 2 (.int .i64 ((d + n : Nat) : Int))
  rw [Int.natCast_add] at this ⊢
  exact this
end Go.Proofs.Ytiahgjnpinjblaa
