/- The program's cursor: taking a whole part. -/
import Derived.Test.YtiahgjnpinjblaaRst
import Derived.Deep.Cut
namespace Go.Proofs.Ytiahgjnpinjblaa
open Go.RowKit
set_option maxHeartbeats 4000000 in
set_option maxRecDepth 100000 in
theorem impl_whole_c (b : Nat) (v : Value) (p : DPart) (l : List DPart) (f : List Pos) (w : World) (hX : Bx w b [v]) (hr : Sl BIG w v (p :: l) f) (hf : ∀ q ∈ f, q.1 ≠ b) (hp : partOk p = true) (hlen : l.length ≤ 5000) :
    Calls Try.prog 58 #[.pointer (some ⟨b, 0, none⟩)] w (fun e w' => ∃ v' f' vs fs, e = .returned (.agg #[.int .i64 p.kind, .int .i64 (cutL p (nsz p)).n, vs]) ∧ Sl BIG w' vs (cutL p (nsz p)).signs fs ∧ Bx w' b [v'] ∧ Sl BIG w' v' (cutR p (nsz p) :: l) f' ∧ (∀ q ∈ f' ++ fs, q ∈ f ∨ w.heap.size ≤ q.1 ∧ q.1 ≠ w.heap.size) ∧ Wr [(b, 0)] w w') := by
  have HX := Lib.hid hX
  have HR := Lib.hid hr
  have HF := Lib.hid hf
  have HP := Lib.hid hp
  have HL := Lib.hid hlen
  have HFL := Lib.hid (Live.lt hr.live)
  have hz := Lib.hid (nsz_eq hp)
  obtain ⟨pb0, pb1, pb2⟩ := nsz_bd hp
  obtain ⟨zl, c0, g0⟩ := hX.q1
  obtain ⟨b1, o1, vg, fg, i1, i2, ig, if_⟩ := Sl.head Try.underlying32 szi_DPart hr
  have e0 := i2.zero
  have e1 : w.cell? ⟨b1, o1 + 1, none⟩ = some _ := i2 1 _ rfl
  have e2 : w.cell? ⟨b1, o1 + 2, none⟩ = some _ := i2 2 _ rfl
  have l1 : b1 < w.heap.size := World.block_lt_of_cell? (w := w) (a := ⟨b1, o1, none⟩) e0
  have HIG := Lib.hid ig
  clear i2 ig if_ hX hr hf hp hlen
  obtain ⟨W, hW⟩ : ∃ W : World, W = w.alloc (.cells #[.int .i64 0, .int .i64 0, .slice none 0 0] 60) := ⟨_, rfl⟩
  have BW : Below w.heap.size w W := by rw [hW]; exact (Below.refl _ _).alloc (Nat.le_refl _) _
  have HR0 : Hid (Bx W w.heap.size [.int .i64 0, .int .i64 0, .slice none 0 0]) := Lib.hid (by rw [hW]; exact Bx.new rfl)
  have HBW := Lib.hid BW
  have sW := BW.size
  replace c0 : W.cell? ⟨b, 0, none⟩ = some _ := (BW.cell (p := ⟨b, 0, none⟩) zl).trans c0
  replace e0 : W.cell? ⟨b1, o1, none⟩ = some _ := (BW.cell (p := ⟨b1, o1, none⟩) l1).trans e0
  replace e1 : W.cell? ⟨b1, o1 + 1, none⟩ = some _ := (BW.cell (p := ⟨b1, o1 + 1, none⟩) l1).trans e1
  replace e2 : W.cell? ⟨b1, o1 + 2, none⟩ = some _ := (BW.cell (p := ⟨b1, o1 + 2, none⟩) l1).trans e2
  clear BW
  go_enter Try.func58, Try.ntmps58
  go_upto_region 1 with (fail)
  rw [← hW]
  clear hW
  go_wp2_with fail
  refine (impl_size_c p vg _ pb0 pb1 pb2 ⟨_, HIG.out.belowW HBW.out⟩).mono ?_
  rintro e' w1 ⟨rfl, hb1⟩
  rw [← hz.out]
  have B1 := Lib.hid (HBW.out.trans (hb1.mono sW))
  have HX1 := Lib.hid ((HX.out.at HBW.out).at hb1)
  have HR1 := Lib.hid (HR0.out.at hb1)
  have s1 := hb1.size
  obtain ⟨zr, _⟩ := HR0.out.o3
  clear hb1 c0 g0 e0 e1 e2
  go_wp2_with fail
  refine (impl_take_c b (nsz p) v p l f _ HX1.out (HR.out.belowW B1.out) HF.out HP.out (Nat.le_refl _) HL.out).mono ?_
  rintro e' w2 ⟨v', f', vs, fs, rfl, s1', x1, s2', m, wr⟩
  obtain ⟨as_, qs, rfl⟩ := s1'.isS
  have nb : ¬ (w.heap.size = b) := by omega
  have nb2 : ¬ (b = w.heap.size) := by omega
  obtain ⟨zr2, r0, r1, r2, x0, x1', x2⟩ := (HR1.out.wr wr (fun q hq => by simp only [List.mem_singleton] at hq; subst hq; exact fun e => nb2 e)).q3
  have HS1 := Lib.hid s1'
  have HS2 := Lib.hid s2'
  have HX2 := Lib.hid x1
  have HM := Lib.hid m
  have HW2 := Lib.hid wr
  clear s1' s2' x1 m wr
  go_wp2
  refine bodyPost_ret (v := .agg #[.int .i64 p.kind, .int .i64 (cutL p (nsz p)).n, .slice as_ (cutL p (nsz p)).signs.length qs]) (by simp [results, Try.results58, go_sem, cell_setCell, *]) rfl ?_
  have hset : Wr [(w.heap.size, 0), (w.heap.size, 1), (w.heap.size, 2)] w2 (((w2.setCell ⟨w.heap.size, 0, none⟩ (.int .i64 p.kind)).setCell ⟨w.heap.size, 1, none⟩ (.int .i64 (cutL p (nsz p)).n)).setCell ⟨w.heap.size, 2, none⟩ (.slice as_ (cutL p (nsz p)).signs.length qs)) := (((Wr.refl _ _).put (b := w.heap.size) (o := 0) (by simp) _).put (b := w.heap.size) (o := 1) (by simp) _).put (b := w.heap.size) (o := 2) (by simp) _
  have hout : ∀ q : Pos, q.1 ≠ w.heap.size → q ∉ [(w.heap.size, 0), (w.heap.size, 1), (w.heap.size, 2)] := by
    rintro q h2 hm
    simp only [List.mem_cons, List.not_mem_nil, or_false] at hm
    rcases hm with rfl | rfl | rfl <;> exact h2 rfl
  have hmm : ∀ q ∈ f' ++ fs, q ∈ f ∨ w.heap.size ≤ q.1 ∧ q.1 ≠ w.heap.size := fun q hq => (HM.out q hq).imp id fun h => by omega
  have hne : ∀ q ∈ f' ++ fs, q.1 ≠ w.heap.size := fun q hq => by
    rcases hmm q hq with h | h
    · have := HFL.out q h; omega
    · exact h.2
  have hbw : Below w.heap.size w2 (((w2.setCell ⟨w.heap.size, 0, none⟩ (.int .i64 p.kind)).setCell ⟨w.heap.size, 1, none⟩ (.int .i64 (cutL p (nsz p)).n)).setCell ⟨w.heap.size, 2, none⟩ (.slice as_ (cutL p (nsz p)).signs.length qs)) := (((Below.refl _ _).setCell (p := ⟨w.heap.size, 0, none⟩) (Nat.le_refl _) _).setCell (p := ⟨w.heap.size, 1, none⟩) (Nat.le_refl _) _).setCell (p := ⟨w.heap.size, 2, none⟩) (Nat.le_refl _) _
  exact ⟨v', f', _, fs, rfl, HS1.out.wr hset fun q hq => hout q (hne q (by simp [hq])), ((HX2.out.setO nb2).setO nb2).setO nb2, HS2.out.wr hset fun q hq => hout q (hne q (by simp [hq])), hmm, ((Wr.of_below B1.out).trans HW2.out).tr_below hbw⟩
end Go.Proofs.Ytiahgjnpinjblaa
