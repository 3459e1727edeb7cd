/- Slices of ints: marked, and held against their marks. -/
import Derived.Test.YtihbmefidbmmdaaMark
import Derived.Test.YtihbmefidbmmdaaInts
namespace Go.Proofs.Ytihbmefidbmmdaa
open Go.RowKit
instance : GoM Int where
  cnt := fun _ => 1
  mrk := fun k _ => k
  cnt_mk := fun _ _ => rfl
  mk_mk := fun _ _ => rfl
instance {α : Type} [GoM α] : GoM (List α) where
  cnt := cntL
  mrk := mkL
  cnt_mk := fun k x => cntL_mkL x k
  mk_mk := fun k x => mkL_mkL x k
/-- what marking leaves -/
def Marks {α : Type} [GoT α] [GoM α] (w : World) (v : Value) (k : Int) (l : List α) (fp : List Pos) (e : Ending) (w' : World) : Prop :=
  e = .returned (.int .i64 (k + cntL l)) ∧ Sl BIG w' v (mkL k l) fp ∧ Wr fp w w'
theorem cntI (l : List Int) : cntL l = l.length := by
  induction l with
  | nil => rfl
  | cons x xs ih => simp [cntL, ih, GoM.cnt]; omega

set_option maxHeartbeats 400000 in
theorem markIntS_c (B : Nat) (v : Value) (l : List Int) (fp : List Pos) (w : World) (m : Int) (h0 : 0 ≤ m) (h1 : m + cntL l ≤ 4611686018427387904) (h : Sl BIG w v l fp) (hf : Fresh B w fp) :
    Calls Try.prog 100 #[v, .int .i64 m] w (Marks w v m l fp) := by
  have hl := fun w1 ty => h.len Try.underlying48 w1 ty
  have hb := BIG_le h.leM
  go_enter Try.func100, Try.ntmps100
  go_wp2
  go_loopw [1, 5] (fun c i wr => ∃ k : Nat, k ≤ l.length ∧ i = .int .i64 k ∧ c = .int .i64 (m + cntL (l.take k)) ∧ Sl BIG wr v (marked m l k) fp ∧ Wr fp w wr) (fun _ i _ => l.length - (intOf i).toNat)
  case atStart => exact ⟨0, Nat.zero_le _, rfl, by simp [cntL], by rw [marked_zero]; exact h, Wr.refl _ _⟩
  case round =>
    obtain ⟨k, hk, rfl, rfl, hs, hw⟩ := hrel
    have hc0 := cntL_take_le l k
    by_cases hlt : k < l.length
    · obtain ⟨x, hx⟩ := get_some hlt
      have hcs := cntL_take_succ hx
      have hcl := cntL_take_le l (k + 1)
      obtain ⟨b1, o1, _, f, g1, g2, ⟨rfl, rfl⟩, g4, g5, _, g7⟩ := hs.lens hf.nodup Try.underlying48 sz_int k (marked_get hx)
      have g2 := g2.one
      have g4 := g4 0 (by decide)
      have gz := (hw.fresh h.live hf).free _ g4.1
      simp only [Nat.add_zero] at gz g4
      have hnew := World.cell?_setCell_same wr ⟨b1, o1, none⟩ (.int .i64 (m + cntL (l.take k))) g2
      have HS : Hid (Sl BIG (wr.setCell ⟨b1, o1, none⟩ (.int .i64 (m + cntL (l.take k)))) v (marked m l (k + 1)) fp) := by
        have := g7 (wr.setCell ⟨b1, o1, none⟩ (.int .i64 (m + cntL (l.take k)))) [.int .i64 (m + cntL (l.take k))] (m + cntL (l.take k)) (by
          intro j u hj
          cases j with
          | zero => simp only [List.getElem?_cons_zero, Option.some.injEq] at hj; subst hj; exact hnew
          | succ j => simp at hj) ⟨rfl, rfl⟩ (fun p hp _ hn => World.cell?_setCell_other _ _ _ _ (fun e => hn 0 (by decide) (by
            have e1 : b1 = p.1 := congrArg Addr.block e
            have e2 : o1 = p.2 := congrArg Addr.off e
            rw [e1, e2]; rfl)))
        rw [← marked_set hx]
        exact this
      have HW : Hid (Wr fp w (wr.setCell ⟨b1, o1, none⟩ (.int .i64 (m + cntL (l.take k))))) := hw.trans (Wr.setCell wr g4.1 _)
      have HC := Lib.hid hcs
      have hone : GoM.cnt x = 1 := rfl
      rw [hone] at hcs
      have hcs' : cntL (l.take (k + 1)) = cntL (l.take k) + 1 := hcs
      have HC' := Lib.hid hcs'
      have hlim : cntL (l.take k) + 1 ≤ cntL l := by omega
      clear hx hcs hcs' hone hcl hnew hs hw HC
      go_wp2
      go_roundw
      case rel => exact ⟨k + 1, by omega, by go_num, by rw [HC'.out]; go_num, HS.out, HW.out⟩
      case measure => simp [intOf]; omega
    · obtain rfl : k = l.length := by omega
      rw [marked_all] at hs
      go_wp2
      go_ret
      exact ⟨ret_int (by simp), hs, hw⟩

set_option maxHeartbeats 400000 in
theorem heldIntS_c (v : Value) (l : List Int) (w : World) (m : Int) (h0 : 0 ≤ m) (h1 : m + cntL l ≤ 4611686018427387904) (h : RdS w v l) (hm : mkL m l = l) :
    Calls Try.prog 101 #[v, .int .i64 m] w (Tells w (.int .i64 (m + cntL l))) := by
  have hl := fun w1 ty => h.len Try.underlying48 w1 ty
  have hb := h.le
  have HM := Lib.hid hm; clear hm
  go_enter Try.func101, Try.ntmps101
  go_wp2
  go_loopw [1, 5] (fun c i wr => ∃ k : Nat, k ≤ l.length ∧ i = .int .i64 k ∧ c = .int .i64 (m + cntL (l.take k)) ∧ Below w.heap.size w wr) (fun _ i _ => l.length - (intOf i).toNat)
  case atStart => exact ⟨0, Nat.zero_le _, rfl, by simp [cntL], Below.refl _ _⟩
  case round =>
    obtain ⟨k, hk, rfl, rfl, hbw⟩ := hrel
    have hc0 := cntL_take_le l k
    by_cases hlt : k < l.length
    · obtain ⟨x, hx⟩ := get_some hlt
      have hcs : cntL (l.take (k + 1)) = cntL (l.take k) + 1 := cntL_take_succ hx
      have hcl := cntL_take_le l (k + 1)
      obtain ⟨b1, o1, _, g1, g2, _, rfl, rfl⟩ := (h.below hbw).idx Try.underlying48 sz_int k hx
      have g2 := g2.one
      have hg : m + cntL (l.take k) = x := held_get HM.out hx
      rw [← hg] at g2
      have HC := Lib.hid hcs
      have hlim : cntL (l.take k) + 1 ≤ cntL l := by omega
      clear hx hcs hcl hg
      go_wp2
      go_roundw
      case rel => exact ⟨k + 1, by omega, by go_num, by rw [HC.out]; go_num, hbw⟩
      case measure => simp [intOf]; omega
    · obtain rfl : k = l.length := by omega
      go_wp2
      go_ret
      exact ⟨ret_int (by simp), hbw⟩
end Go.Proofs.Ytihbmefidbmmdaa
