/- Comparisons: they decide whether two data are alike. -/
import Derived.Test.YtbpbeomngflkfaaGreatCm
import Derived.Test.YtbpbeomngflkfaaGreatEz
import Derived.Deep.RegionHeld3
import Derived.StillTailTactics
namespace Go.Proofs.YtbpbeomngflkfaaGreat
open Go.RowKit

/-- the place of the first that fits, or -1 -/
def firstIdx {α : Type} (p : α → Bool) (l : List α) : Int := match l.findIdx? p with | some k => k | none => -1
theorem firstIdx_at {α : Type} {p : α → Bool} {l : List α} {k : Nat} {x : α} (hj : ∀ j < k, ∀ y, l[j]? = some y → p y = false) (hx : l[k]? = some x) (hp : p x = true) : firstIdx p l = k := by
  have hk := (List.getElem?_eq_some_iff.1 hx).1
  have : l.findIdx? p = some k := by
    rw [List.findIdx?_eq_some_iff_getElem]
    obtain ⟨_, e⟩ := List.getElem?_eq_some_iff.1 hx
    refine ⟨hk, by rw [e]; exact hp, fun j hjk => ?_⟩
    rw [hj j hjk _ (List.getElem?_eq_getElem (by omega))]
    decide
  unfold firstIdx
  rw [this]
theorem firstIdx_no {α : Type} {p : α → Bool} {l : List α} (hj : ∀ j < l.length, ∀ y, l[j]? = some y → p y = false) : firstIdx p l = -1 := by
  have : l.findIdx? p = none := by
    rw [List.findIdx?_eq_none_iff]
    intro x hx
    obtain ⟨j, hjl, e⟩ := List.mem_iff_getElem.1 hx
    exact hj j hjl x (by rw [List.getElem?_eq_getElem hjl, e])
  unfold firstIdx
  rw [this]
theorem no_step {α : Type} {p : α → Bool} {l : List α} {k : Nat} {x : α} (hx : l[k]? = some x) (hp : p x = false) (hj : ∀ j < k, ∀ y, l[j]? = some y → p y = false) : ∀ j < k + 1, ∀ y, l[j]? = some y → p y = false := by
  intro j hlt y hy
  by_cases e : j = k
  · subst e; rw [hx] at hy; cases hy; exact hp
  · exact hj j (by omega) y hy
theorem firstIdx_lt {α : Type} (p : α → Bool) (l : List α) : -1 ≤ firstIdx p l ∧ firstIdx p l < l.length := by
  unfold firstIdx
  cases h : l.findIdx? p with
  | none => simp; omega
  | some k =>
    obtain ⟨hk, _⟩ := List.findIdx?_eq_some_iff_getElem.1 h
    simp; omega
def hubDoc (x : DHub) (name : ByteArray) : Int := firstIdx (fun d => decide (d.name = name)) x.docs
def hubSub (x : DHub) (id : Int) : Int := firstIdx (fun d => decide (d.id = id)) x.subs

set_option maxHeartbeats 1000000 in
theorem spec_HubDoc_c (z : DHub) (v_docs : Value) (v_subs : Value) (name : ByteArray) (w : World) (h_docs : RdS w v_docs z.docs) :
    Calls Tryz.prog 67 #[.agg #[.bool z.shut, v_docs, v_subs, .int .i64 z.last], .string name] w (Tells w (.int .i64 (hubDoc z name))) := by
  have hl := fun w1 ty => h_docs.len Tryz.underlying49 w1 ty
  have ba := h_docs.le
  go_enter Tryz.func67, Tryz.ntmps67
  go_wp2
  go_loopw [10] (fun i wr => ∃ k : Nat, k ≤ z.docs.length ∧ i = .int .i64 k ∧ (∀ j < k, ∀ y, z.docs[j]? = some y → (decide (y.name = name)) = false) ∧ Below w.heap.size w wr) (fun i _ => z.docs.length - (intOf i).toNat)
  case atStart => exact ⟨0, Nat.zero_le _, rfl, fun _ h => absurd h (Nat.not_lt_zero _), blw⟩
  case round =>
    obtain ⟨k, hk, rfl, hj, hbw⟩ := hrel
    have hsz := hbw.size
    have HJ := Lib.hid hj; clear hj
    by_cases hlt : k < z.docs.length
    · obtain ⟨x, hx⟩ := get_some hlt
      obtain ⟨b1, o1, cs, h1, h2, h3⟩ := (h_docs.below hbw).idx Tryz.underlying49 szi_DDoc k hx
      obtain ⟨v_text, v_list, v_seen, rfl, _, r_text, r_list, r_seen⟩ := inv_DDoc h3
      have q0 := h2.zero
      have q1 := h2 1 _ rfl
      have q2 := h2 2 _ rfl
      have q3 := h2 3 _ rfl
      have q4 := h2 4 _ rfl
      have l1 : b1 < wr.heap.size := World.block_lt_of_cell? (w := wr) (a := ⟨b1, o1, none⟩) q0
      obtain ⟨aa_text, ca_text, rfl⟩ := r_text.isSlice
      obtain ⟨aa_list, ca_list, rfl⟩ := r_list.isSlice
      obtain ⟨aa_seen, ca_seen, rfl⟩ := r_seen.isSlice
      have HX := Lib.hid hx; clear hx
      by_cases e : x.name = name
      · have e1 : (x.name.toList == name.toList) = true := str_t e
        have e2 : decide (x.name = name) = true := dec_t e
        have HN : Hid (hubDoc z name = k) := Lib.hid (firstIdx_at HJ.out HX.out e2)
        clear e e2
        go_wp2
        go_ret
        exact ⟨ret_int HN.out.symm, blw⟩
      · have e1 : (x.name.toList == name.toList) = false := str_f e
        have e2 : decide (x.name = name) = false := dec_f e
        have E2 := Lib.hid e2
        clear e e2
        go_wp2
        go_roundw
        case rel => exact ⟨k + 1, by omega, by go_num, no_step HX.out E2.out HJ.out, blw⟩
        case measure => simp [intOf]; omega
    · have HN : Hid (hubDoc z name = -1) := Lib.hid (firstIdx_no fun j hj => HJ.out j (by omega))
      go_wp2
      go_ret
      exact ⟨ret_int HN.out.symm, blw⟩


set_option maxHeartbeats 400000 in
theorem impl_HubDoc_f (x : DDoc) (v_text : Value) (v_list : Value) (v_seen : Value) (name : ByteArray) (w : World) (g o : Nat) (hg : w.cell? ⟨g, o, none⟩ = some (.string name)) :
    Calls Tryz.prog 127 #[.agg #[.string x.name, .int .i64 x.from_, v_text, v_list, v_seen], .pointer (some ⟨g, o, none⟩)] w (Tells w (.bool (decide (x.name = name)))) := by
  have hgl := World.block_lt_of_cell? (w := w) (a := ⟨g, o, none⟩) hg
  by_cases e : x.name = name
  · rw [dec_t e]
    have e1 : (x.name.toList == name.toList) = true := str_t e
    clear e
    go_enter Tryz.func127, Tryz.ntmps127
    go_wp2
    go_ret
    exact ⟨rfl, blw⟩
  · rw [dec_f e]
    have e1 : (x.name.toList == name.toList) = false := str_f e
    clear e
    go_enter Tryz.func127, Tryz.ntmps127
    go_wp2
    go_ret
    exact ⟨rfl, blw⟩
set_option maxHeartbeats 1000000 in
theorem IndexFunc_impl_HubDoc (v : Value) (l : List DDoc) (name : ByteArray) (w : World) (g o : Nat) (hg : w.cell? ⟨g, o, none⟩ = some (.string name)) (h : RdS w v l) :
    Calls Tryz.prog 126 #[v, .func (.func 127) #[] #[.pointer (some ⟨g, o, none⟩)]] w (Tells w (.int .i64 (firstIdx (fun d => decide (d.name = name)) l))) := by
  have hl := fun w1 ty => h.len Tryz.underlying49 w1 ty
  have ba := h.le
  have hgl := World.block_lt_of_cell? (w := w) (a := ⟨g, o, none⟩) hg
  go_enter Tryz.func126, Tryz.ntmps126
  go_wp2
  go_loopw [8] (fun i wr => ∃ k : Nat, k ≤ l.length ∧ i = .int .i64 k ∧ (∀ j < k, ∀ y, l[j]? = some y → (decide (y.name = name)) = false) ∧ Below w.heap.size w wr) (fun i _ => l.length - (intOf i).toNat)
  case atStart => exact ⟨0, Nat.zero_le _, rfl, fun _ h => absurd h (Nat.not_lt_zero _), blw⟩
  case round =>
    obtain ⟨k, hk, rfl, hj, hbw⟩ := hrel
    have hsz := hbw.size
    have HJ := Lib.hid hj; clear hj
    have hgr : wr.cell? ⟨g, o, none⟩ = some (.string name) := (hbw.cell (p := ⟨g, o, none⟩) hgl).trans hg
    by_cases hlt : k < l.length
    · obtain ⟨x, hx⟩ := get_some hlt
      obtain ⟨b1, o1, cs, h1, h2, h3⟩ := (h.below hbw).idx Tryz.underlying49 szi_DDoc k hx
      obtain ⟨v_text, v_list, v_seen, rfl, _, r_text, r_list, r_seen⟩ := inv_DDoc h3
      have q0 := h2.zero
      have q1 := h2 1 _ rfl
      have q2 := h2 2 _ rfl
      have q3 := h2 3 _ rfl
      have q4 := h2 4 _ rfl
      have l1 : b1 < wr.heap.size := World.block_lt_of_cell? (w := wr) (a := ⟨b1, o1, none⟩) q0
      obtain ⟨aa_text, ca_text, rfl⟩ := r_text.isSlice
      obtain ⟨aa_list, ca_list, rfl⟩ := r_list.isSlice
      obtain ⟨aa_seen, ca_seen, rfl⟩ := r_seen.isSlice
      have HX := Lib.hid hx; clear hx
      by_cases e : x.name = name
      · have e2 : decide (x.name = name) = true := dec_t e
        have HN : Hid (firstIdx (fun d => decide (d.name = name)) l = k) := Lib.hid (firstIdx_at HJ.out HX.out e2)
        clear e
        go_wp2_with fail
        refine (impl_HubDoc_f x _ _ _ name _ g o hgr).mono ?_
        rintro e w1 ⟨rfl, hb1⟩
        rw [e2]
        clear e2
        go_wp2
        go_ret
        exact ⟨ret_int HN.out.symm, blw⟩
      · have e2 : decide (x.name = name) = false := dec_f e
        clear e
        go_wp2_with fail
        refine (impl_HubDoc_f x _ _ _ name _ g o hgr).mono ?_
        rintro e w1 ⟨rfl, hb1⟩
        rw [e2]
        have E2 := Lib.hid e2
        clear e2
        go_wp2
        go_roundw
        case rel => exact ⟨k + 1, by omega, by go_num, no_step HX.out E2.out HJ.out, blw⟩
        case measure => simp [intOf]; omega
    · have HN : Hid (firstIdx (fun d => decide (d.name = name)) l = -1) := Lib.hid (firstIdx_no fun j hj => HJ.out j (by omega))
      go_wp2
      go_ret
      exact ⟨ret_int HN.out.symm, blw⟩
set_option maxHeartbeats 1000000 in
theorem impl_HubDoc_c (z : DHub) (v_docs : Value) (v_subs : Value) (name : ByteArray) (w : World) (h_docs : RdS w v_docs z.docs) :
    Calls Tryz.prog 73 #[.agg #[.bool z.shut, v_docs, v_subs, .int .i64 z.last], .string name] w (Tells w (.int .i64 (hubDoc z name))) := by
  go_enter Tryz.func73, Tryz.ntmps73
  go_wp2_with fail
  refine (IndexFunc_impl_HubDoc _ z.docs name _ (w.heap.size + 1) 0 (by simp) (h_docs.below blw)).mono ?_
  rintro e w1 ⟨rfl, hb1⟩
  go_wp2
  go_ret
  exact ⟨rfl, blw⟩


end Go.Proofs.YtbpbeomngflkfaaGreat
