/- The reference's cursors; the state of its walk through two operations. -/
import Derived.Test.YtiahgjnpinjblaaCrw
import Derived.Test.YtiahgjnpinjblaaRo
import Derived.Test.YtiahgjnpinjblaaBu
import Derived.BigRegion
namespace Go.Proofs.Ytiahgjnpinjblaa
open Go.RowKit
/-- two cursors and two builders -/
structure CS (w0 : World) (bp bq bx b2 : Nat) (va vb : Value) (a b : List DPart) (w : World) (kp dp kq dq : Nat) (sx sy : Bst) : Prop where
  o1 : w0.heap.size ≤ bp
  o2 : bp < bq
  o3 : bq < bx
  o4 : bx < b2
  o5 : b2 < w.heap.size
  p : Bx w bp [va, .int .i64 kp, .int .i64 dp]
  q : Bx w bq [vb, .int .i64 kq, .int .i64 dq]
  xy : ∃ fx fy, Bld bx w (bx, 0) (bx, 1) (bx, 2) sx fx ∧ Bld bx w (b2, 0) (b2, 1) (b2, 2) sy fy ∧ (∀ p ∈ fx, p ∉ fy) ∧ (∀ p ∈ fx, p.1 < w.heap.size) ∧ ∀ p ∈ fy, p.1 < w.heap.size
  bel : Below w0.heap.size w0 w
  cp : Cok a kp dp
  cq : Cok b kq dq
section
variable {w0 w w' : World} {bp bq bx b2 : Nat} {va vb : Value} {a b : List DPart} {kp dp kq dq k d : Nat} {sx sy s : Bst}
theorem Bld.wr {B : Nat} {pl pp pd : Pos} {fp g : List Pos} (h : Bld B w pl pp pd s fp) (hw : Wr g w w') (hd : ∀ p ∈ fp, p ∉ g) (hl : ∀ p ∈ fp, p.1 < w.heap.size) : Bld B w' pl pp pd s fp := by
  obtain ⟨vl, vp, fl, fq, h1, h2, h3, h4, h5, rfl⟩ := h.ex
  have hc : ∀ p ∈ bpl pl pp pd ++ (fl ++ fq), w'.cell? ⟨p.1, p.2, none⟩ = w.cell? ⟨p.1, p.2, none⟩ := fun p hp => hw.cell p (hl p hp) (hd p hp)
  exact ⟨⟨vl, vp, fl, fq, (hc pl (by simp [bpl])).trans h1, (hc pp (by simp [bpl])).trans h2, (hc pd (by simp [bpl])).trans h3, h4.wr hw fun p hp => hd p (by simp [hp]), h5.wr hw fun p hp => hd p (by simp [hp]), rfl⟩,
    ⟨h.fr.nodup, h.fr.ge, fun p hp => (hw.frozen p (hl p hp)).trans (h.fr.free p hp)⟩⟩
theorem own_blk {b o n : Nat} {p : Pos} (h : p ∈ own b o n) : p.1 = b := (mem_own.1 h).1
theorem CS.below (h : CS w0 bp bq bx b2 va vb a b w kp dp kq dq sx sy) (hb : Below w.heap.size w w') : CS w0 bp bq bx b2 va vb a b w' kp dp kq dq sx sy := by
  obtain ⟨fx, fy, h1, h2, h3, h4, h5⟩ := h.xy
  have hs := hb.size
  exact ⟨h.o1, h.o2, h.o3, h.o4, Nat.lt_of_lt_of_le h.o5 hs, h.p.at hb, h.q.at hb, ⟨fx, fy, h1.below hb, h2.below hb, h3, fun p hp => Nat.lt_of_lt_of_le (h4 p hp) hs, fun p hp => Nat.lt_of_lt_of_le (h5 p hp) hs⟩, h.bel.trans (hb.mono h.bel.size), h.cp, h.cq⟩
/-- the first cursor moves -/
theorem CS.stepP (h : CS w0 bp bq bx b2 va vb a b w kp dp kq dq sx sy) (hw : Wr (own bp 0 3) w w') (hx : Bx w' bp [va, .int .i64 k, .int .i64 d]) (hc : Cok a k d) : CS w0 bp bq bx b2 va vb a b w' k d kq dq sx sy := by
  obtain ⟨fx, fy, h1, h2, h3, h4, h5⟩ := h.xy
  have hs := hw.size
  have o1 := h.o1
  have o2 := h.o2
  have o3 := h.o3
  have o4 := h.o4
  have hn : ∀ {f : List Pos} {pl pp pd : Pos} {s : Bst}, Bld bx w pl pp pd s f → ∀ p ∈ f, p ∉ own bp 0 3 := fun hb p hp hq => by have := hb.fr.ge p hp; have := own_blk hq; omega
  exact ⟨o1, o2, o3, o4, Nat.lt_of_lt_of_le h.o5 hs, hx, h.q.wr hw fun p hp => by have := own_blk hp; omega, ⟨fx, fy, h1.wr hw (hn h1) h4, h2.wr hw (hn h2) h5, h3, fun p hp => Nat.lt_of_lt_of_le (h4 p hp) hs, fun p hp => Nat.lt_of_lt_of_le (h5 p hp) hs⟩,
    h.bel.trans (hw.below h.bel.size fun p hp => by have := own_blk hp; omega), hc, h.cq⟩
theorem CS.stepQ (h : CS w0 bp bq bx b2 va vb a b w kp dp kq dq sx sy) (hw : Wr (own bq 0 3) w w') (hx : Bx w' bq [vb, .int .i64 k, .int .i64 d]) (hc : Cok b k d) : CS w0 bp bq bx b2 va vb a b w' kp dp k d sx sy := by
  obtain ⟨fx, fy, h1, h2, h3, h4, h5⟩ := h.xy
  have hs := hw.size
  have o1 := h.o1
  have o2 := h.o2
  have o3 := h.o3
  have o4 := h.o4
  have hn : ∀ {f : List Pos} {pl pp pd : Pos} {s : Bst}, Bld bx w pl pp pd s f → ∀ p ∈ f, p ∉ own bq 0 3 := fun hb p hp hq => by have := hb.fr.ge p hp; have := own_blk hq; omega
  exact ⟨o1, o2, o3, o4, Nat.lt_of_lt_of_le h.o5 hs, h.p.wr hw fun p hp => by have := own_blk hp; omega, hx, ⟨fx, fy, h1.wr hw (hn h1) h4, h2.wr hw (hn h2) h5, h3, fun p hp => Nat.lt_of_lt_of_le (h4 p hp) hs, fun p hp => Nat.lt_of_lt_of_le (h5 p hp) hs⟩,
    h.bel.trans (hw.below h.bel.size fun p hp => by have := own_blk hp; omega), h.cp, hc⟩
/-- the first builder -/
theorem CS.x (h : CS w0 bp bq bx b2 va vb a b w kp dp kq dq sx sy) : ∃ fx, Bld bx w (bx, 0) (bx, 1) (bx, 2) sx fx ∧ ∀ (s : Bst) (e : Ending) (w' : World), BStep bx w (bx, 0) (bx, 1) (bx, 2) s fx e w' → e = .returned (.tuple #[]) ∧ CS w0 bp bq bx b2 va vb a b w' kp dp kq dq s sy := by
  obtain ⟨fx, fy, h1, h2, h3, h4, h5⟩ := h.xy
  refine ⟨fx, h1, fun s e w' hb => ?_⟩
  obtain ⟨he, f, k1, k2, k3⟩ := hb
  have hs := k2.size
  have o1 := h.o1
  have o2 := h.o2
  have o3 := h.o3
  have hge := h1.fr.ge
  obtain ⟨vl, vp, fl, fq, hbl, _, _, sq, hf, _⟩ := k1.open
  have hl : ∀ p ∈ f, p.1 < w'.heap.size := by
    intro p hp
    rw [hf] at hp
    rcases List.mem_append.1 hp with hp | hp
    · exact Live.lt hbl.live p (List.mem_append.2 (.inl hp))
    · rcases List.mem_append.1 hp with hp | hp
      · exact Live.lt hbl.live p (List.mem_append.2 (.inr hp))
      · exact Live.lt sq.live p hp
  refine ⟨he, o1, o2, o3, h.o4, Nat.lt_of_lt_of_le h.o5 hs, h.p.wr k2 fun p hp => by have := hge p hp; omega, h.q.wr k2 fun p hp => by have := hge p hp; omega,
    ⟨f, fy, k1, h2.wr k2 (fun p hp hq => h3 p hq hp) h5, fun p hp hq => ?_, hl, fun p hp => Nat.lt_of_lt_of_le (h5 p hp) hs⟩, h.bel.trans (k2.below h.bel.size fun p hp => by have := hge p hp; omega), h.cp, h.cq⟩
  rcases k3 p hp with hp | hp
  · exact h3 p hp hq
  · have := h5 p hq; omega
theorem CS.y (h : CS w0 bp bq bx b2 va vb a b w kp dp kq dq sx sy) : ∃ fy, Bld bx w (b2, 0) (b2, 1) (b2, 2) sy fy ∧ ∀ (s : Bst) (e : Ending) (w' : World), BStep bx w (b2, 0) (b2, 1) (b2, 2) s fy e w' → e = .returned (.tuple #[]) ∧ CS w0 bp bq bx b2 va vb a b w' kp dp kq dq sx s := by
  obtain ⟨fx, fy, h1, h2, h3, h4, h5⟩ := h.xy
  refine ⟨fy, h2, fun s e w' hb => ?_⟩
  obtain ⟨he, f, k1, k2, k3⟩ := hb
  have hs := k2.size
  have o1 := h.o1
  have o2 := h.o2
  have o3 := h.o3
  have hge := h2.fr.ge
  obtain ⟨vl, vp, fl, fq, hbl, _, _, sq, hf, _⟩ := k1.open
  have hl : ∀ p ∈ f, p.1 < w'.heap.size := by
    intro p hp
    rw [hf] at hp
    rcases List.mem_append.1 hp with hp | hp
    · exact Live.lt hbl.live p (List.mem_append.2 (.inl hp))
    · rcases List.mem_append.1 hp with hp | hp
      · exact Live.lt hbl.live p (List.mem_append.2 (.inr hp))
      · exact Live.lt sq.live p hp
  refine ⟨he, o1, o2, o3, h.o4, Nat.lt_of_lt_of_le h.o5 hs, h.p.wr k2 fun p hp => by have := hge p hp; omega, h.q.wr k2 fun p hp => by have := hge p hp; omega,
    ⟨fx, f, h1.wr k2 h3 h4, k1, fun p hp hq => ?_, fun p hp => Nat.lt_of_lt_of_le (h4 p hp) hs, hl⟩, h.bel.trans (k2.below h.bel.size fun p hp => by have := hge p hp; omega), h.cp, h.cq⟩
  rcases k3 p hq with hq | hq
  · exact h3 p hp hq
  · have := h4 p hp; omega
end
/-- a builder that has taken a list of parts -/
def bstOf (X : List DPart) : Bst := X.foldl Bst.step ⟨[], [], 0⟩
theorem bstOf_snoc (X : List DPart) (p : DPart) : bstOf (X ++ [p]) = (bstOf X).step p := by unfold bstOf; rw [List.foldl_append]; rfl
theorem bstOf_inv {X : List DPart} (h : X.all partOk = true) : (bstOf X).inv X.length := by
  have := bstTo_inv h X.length (Nat.le_refl _)
  unfold bstTo at this
  rwa [List.take_length] at this
theorem bstOf_normal (X : List DPart) : (bstOf X).flush.list = normal X := rfl
theorem spec_l04Size_c (p : DPart) (v : Value) (w : World) (h : RdS w v p.signs) : Calls Try.prog 101 #[.agg #[.int .i64 p.kind, .int .i64 p.n, v]] w (Tells w (.int .i64 (szOf p))) := by
  have hl := fun w1 ty => h.len Try.underlying23 w1 ty
  by_cases k : p.kind = 2
  · have e : szOf p = p.signs.length := if_pos k
    go_enter Try.func101, Try.ntmps101
    go_wp2
    go_ret
    exact ⟨ret_int (by rw [e]), blw⟩
  · have e : szOf p = p.n := if_neg k
    go_enter Try.func101, Try.ntmps101
    go_wp2
    go_ret
    exact ⟨ret_int (by rw [e]), blw⟩
end Go.Proofs.Ytiahgjnpinjblaa
