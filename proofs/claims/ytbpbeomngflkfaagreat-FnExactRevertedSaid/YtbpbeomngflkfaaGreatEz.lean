/- Equalities, sizes and readings of the laws. -/
import Derived.Test.YtbpbeomngflkfaaGreatTos
import Derived.StillTailTactics
import Derived.Test.YtbpbeomngflkfaaGreatChecked
import Derived.Deep.Slices
import Derived.ChangeArms
namespace Go.Proofs.YtbpbeomngflkfaaGreat
open Go.RowKit

set_option maxHeartbeats 1000000 in
theorem eqPart_c (x : DPart) (v_signs u_signs : Value) (w : World) (h_signs : RdS w v_signs x.signs) (k_signs : RdS w u_signs x.signs) :
    Calls Tryz.prog 58 #[.agg #[.int .i64 x.kind, .int .i64 x.n, v_signs], .agg #[.int .i64 x.kind, .int .i64 x.n, u_signs]] w (Tells w (.bool true)) := by
  go_enter Tryz.func58, Tryz.ntmps58
  go_wp2_with fail
  refine (eqIntS_c _ _ _ _ (h_signs.below blw) (k_signs.below blw)).mono ?_
  rintro e w1 ⟨rfl, hb1⟩
  have s1 : w.heap.size + 2 ≤ w1.heap.size := by have := hb1.size; (try simp at this); omega
  obtain ⟨hc1, hf1⟩ := bcell hb1
  have z1_0 : w.heap.size < w1.heap.size := by omega
  have z1_1 : w.heap.size + 1 < w1.heap.size := by omega
  go_wp2
  go_ret
  exact ⟨rfl, blw⟩

theorem szi_DPart : ∀ w1, (sizeOf 86).run Tryz.prog w1 = .ok 3 w1 := fun _ => by kernel_rfl
set_option maxHeartbeats 1000000 in
set_option maxRecDepth 100000 in
theorem eqPartS_c (va vb : Value) (a : List DPart) (w : World) (ha : RdS w va a) (hb : RdS w vb a) :
    Calls Tryz.prog 14 #[va, vb] w (Tells w (.bool true)) := by
  have hla := fun w1 ty => ha.len Tryz.underlying37 w1 ty
  have hlb := fun w1 ty => hb.len Tryz.underlying37 w1 ty
  have ba := ha.le
  go_enter Tryz.func14, Tryz.ntmps14
  go_wp2
  go_loopw [5] (fun i wr => ∃ k : Nat, k ≤ a.length ∧ i = .int .i64 k ∧ Below w.heap.size w wr) (fun i _ => a.length - (intOf i).toNat)
  case atStart => exact ⟨0, Nat.zero_le _, rfl, Below.refl _ _⟩
  case round =>
    obtain ⟨k, hk, rfl, hbw⟩ := hrel
    by_cases hlt : k < a.length
    · obtain ⟨x, hx⟩ := get_some hlt
      obtain ⟨b1, o1, cs, h1, h2, h3⟩ := (ha.below hbw).idx Tryz.underlying37 szi_DPart k hx
      obtain ⟨v_signs, rfl, r_signs⟩ := inv_DPart h3
      obtain ⟨b2, o2, cs, g1, g2, g3⟩ := (hb.below hbw).idx Tryz.underlying37 szi_DPart k hx
      obtain ⟨u_signs, rfl, t_signs⟩ := inv_DPart g3
      have q0 := h2.zero
      have q1 := h2 1 _ rfl
      have q2 := h2 2 _ rfl
      have p0 := g2.zero
      have p1 := g2 1 _ rfl
      have p2 := g2 2 _ rfl
      clear hx
      go_wp2_with fail
      go_still_tail 8, (by kernel_rfl)
      go_wp2_with fail
      refine (eqPart_c x _ _ _ (r_signs.below blw) (t_signs.below blw)).mono ?_
      rintro e w2 ⟨rfl, hb2⟩
      have HBW : Hid (Below w.heap.size w w2) := (Below.drew hbw).trans (hb2.mono hbw.size)
      clear hb2 hbw
      go_wp2
      go_roundw
      case rel => exact ⟨k + 1, by omega, by go_num, HBW.out⟩
      case measure => simp [intOf]; omega
    · go_wp2
      go_ret
      exact ⟨rfl, hbw⟩

set_option maxHeartbeats 1000000 in
theorem eqEntry_c (x : DEntry) (v_o u_o : Value) (w : World) (h_o : RdS w v_o x.o) (k_o : RdS w u_o x.o) :
    Calls Tryz.prog 118 #[.agg #[.int .i64 x.client, .int .i64 x.seq, v_o], .agg #[.int .i64 x.client, .int .i64 x.seq, u_o]] w (Tells w (.bool true)) := by
  go_enter Tryz.func118, Tryz.ntmps118
  go_wp2_with fail
  refine (eqPartS_c _ _ _ _ (h_o.below blw) (k_o.below blw)).mono ?_
  rintro e w1 ⟨rfl, hb1⟩
  have s1 : w.heap.size + 2 ≤ w1.heap.size := by have := hb1.size; (try simp at this); omega
  obtain ⟨hc1, hf1⟩ := bcell hb1
  have z1_0 : w.heap.size < w1.heap.size := by omega
  have z1_1 : w.heap.size + 1 < w1.heap.size := by omega
  go_wp2
  go_ret
  exact ⟨rfl, blw⟩

theorem szi_DEntry : ∀ w1, (sizeOf 80).run Tryz.prog w1 = .ok 3 w1 := fun _ => by kernel_rfl
set_option maxHeartbeats 1000000 in
set_option maxRecDepth 100000 in
theorem eqEntryS_c (va vb : Value) (a : List DEntry) (w : World) (ha : RdS w va a) (hb : RdS w vb a) :
    Calls Tryz.prog 56 #[va, vb] w (Tells w (.bool true)) := by
  have hla := fun w1 ty => ha.len Tryz.underlying30 w1 ty
  have hlb := fun w1 ty => hb.len Tryz.underlying30 w1 ty
  have ba := ha.le
  go_enter Tryz.func56, Tryz.ntmps56
  go_wp2
  go_loopw [5] (fun i wr => ∃ k : Nat, k ≤ a.length ∧ i = .int .i64 k ∧ Below w.heap.size w wr) (fun i _ => a.length - (intOf i).toNat)
  case atStart => exact ⟨0, Nat.zero_le _, rfl, Below.refl _ _⟩
  case round =>
    obtain ⟨k, hk, rfl, hbw⟩ := hrel
    by_cases hlt : k < a.length
    · obtain ⟨x, hx⟩ := get_some hlt
      obtain ⟨b1, o1, cs, h1, h2, h3⟩ := (ha.below hbw).idx Tryz.underlying30 szi_DEntry k hx
      obtain ⟨v_o, rfl, r_o⟩ := inv_DEntry h3
      obtain ⟨b2, o2, cs, g1, g2, g3⟩ := (hb.below hbw).idx Tryz.underlying30 szi_DEntry k hx
      obtain ⟨u_o, rfl, t_o⟩ := inv_DEntry g3
      have q0 := h2.zero
      have q1 := h2 1 _ rfl
      have q2 := h2 2 _ rfl
      have p0 := g2.zero
      have p1 := g2 1 _ rfl
      have p2 := g2 2 _ rfl
      clear hx
      go_wp2_with fail
      go_still_tail 8, (by kernel_rfl)
      go_wp2_with fail
      refine (eqEntry_c x _ _ _ (r_o.below blw) (t_o.below blw)).mono ?_
      rintro e w2 ⟨rfl, hb2⟩
      have HBW : Hid (Below w.heap.size w w2) := (Below.drew hbw).trans (hb2.mono hbw.size)
      clear hb2 hbw
      go_wp2
      go_roundw
      case rel => exact ⟨k + 1, by omega, by go_num, HBW.out⟩
      case measure => simp [intOf]; omega
    · go_wp2
      go_ret
      exact ⟨rfl, hbw⟩

set_option maxHeartbeats 1000000 in
theorem eqSeen_c (x : DSeen)  (w : World)  :
    Calls Tryz.prog 119 #[.agg #[.int .i64 x.client, .int .i64 x.seq, .int .i64 x.rev], .agg #[.int .i64 x.client, .int .i64 x.seq, .int .i64 x.rev]] w (Tells w (.bool true)) := by
  go_enter Tryz.func119, Tryz.ntmps119
  go_wp2
  go_ret
  exact ⟨rfl, blw⟩

theorem szi_DSeen : ∀ w1, (sizeOf 72).run Tryz.prog w1 = .ok 3 w1 := fun _ => by kernel_rfl
set_option maxHeartbeats 1000000 in
set_option maxRecDepth 100000 in
theorem eqSeenS_c (va vb : Value) (a : List DSeen) (w : World) (ha : RdS w va a) (hb : RdS w vb a) :
    Calls Tryz.prog 57 #[va, vb] w (Tells w (.bool true)) := by
  have hla := fun w1 ty => ha.len Tryz.underlying31 w1 ty
  have hlb := fun w1 ty => hb.len Tryz.underlying31 w1 ty
  have ba := ha.le
  go_enter Tryz.func57, Tryz.ntmps57
  go_wp2
  go_loopw [5] (fun i wr => ∃ k : Nat, k ≤ a.length ∧ i = .int .i64 k ∧ Below w.heap.size w wr) (fun i _ => a.length - (intOf i).toNat)
  case atStart => exact ⟨0, Nat.zero_le _, rfl, Below.refl _ _⟩
  case round =>
    obtain ⟨k, hk, rfl, hbw⟩ := hrel
    by_cases hlt : k < a.length
    · obtain ⟨x, hx⟩ := get_some hlt
      obtain ⟨b1, o1, cs, h1, h2, h3⟩ := (ha.below hbw).idx Tryz.underlying31 szi_DSeen k hx
      obtain rfl := inv_DSeen h3
      obtain ⟨b2, o2, cs, g1, g2, g3⟩ := (hb.below hbw).idx Tryz.underlying31 szi_DSeen k hx
      obtain rfl := inv_DSeen g3
      have q0 := h2.zero
      have q1 := h2 1 _ rfl
      have q2 := h2 2 _ rfl
      have p0 := g2.zero
      have p1 := g2 1 _ rfl
      have p2 := g2 2 _ rfl
      clear hx
      go_wp2_with fail
      go_still_tail 8, (by kernel_rfl)
      go_wp2_with fail
      refine (eqSeen_c x _).mono ?_
      rintro e w2 ⟨rfl, hb2⟩
      have HBW : Hid (Below w.heap.size w w2) := (Below.drew hbw).trans (hb2.mono hbw.size)
      clear hb2 hbw
      go_wp2
      go_roundw
      case rel => exact ⟨k + 1, by omega, by go_num, HBW.out⟩
      case measure => simp [intOf]; omega
    · go_wp2
      go_ret
      exact ⟨rfl, hbw⟩

end Go.Proofs.YtbpbeomngflkfaaGreat

namespace Go.Proofs.YtbpbeomngflkfaaGreat
open Go.RowKit

set_option maxHeartbeats 1000000 in
theorem eqDoc_c (x : DDoc) (v_text u_text : Value) (v_list u_list : Value) (v_seen u_seen : Value) (w : World) (h_text : RdS w v_text x.text) (k_text : RdS w u_text x.text) (h_list : RdS w v_list x.list) (k_list : RdS w u_list x.list) (h_seen : RdS w v_seen x.seen) (k_seen : RdS w u_seen x.seen) :
    Calls Tryz.prog 13 #[.agg #[.string x.name, .int .i64 x.from_, v_text, v_list, v_seen], .agg #[.string x.name, .int .i64 x.from_, u_text, u_list, u_seen]] w (Tells w (.bool true)) := by
  go_enter Tryz.func13, Tryz.ntmps13
  go_wp2_with fail
  refine (eqIntS_c _ _ _ _ (h_text.below blw) (k_text.below blw)).mono ?_
  rintro e w1 ⟨rfl, hb1⟩
  have s1 : w.heap.size + 2 ≤ w1.heap.size := by have := hb1.size; (try simp at this); omega
  obtain ⟨hc1, hf1⟩ := bcell hb1
  have z1_0 : w.heap.size < w1.heap.size := by omega
  have z1_1 : w.heap.size + 1 < w1.heap.size := by omega
  go_wp2_with fail
  refine (eqEntryS_c _ _ _ _ (h_list.below blw) (k_list.below blw)).mono ?_
  rintro e w2 ⟨rfl, hb2⟩
  have s2 : w1.heap.size ≤ w2.heap.size := by have := hb2.size; (try simp at this); omega
  obtain ⟨hc2, hf2⟩ := bcell hb2
  have z2_0 : w.heap.size < w2.heap.size := by omega
  have z2_1 : w.heap.size + 1 < w2.heap.size := by omega
  go_wp2_with fail
  refine (eqSeenS_c _ _ _ _ (h_seen.below blw) (k_seen.below blw)).mono ?_
  rintro e w3 ⟨rfl, hb3⟩
  have s3 : w2.heap.size ≤ w3.heap.size := by have := hb3.size; (try simp at this); omega
  obtain ⟨hc3, hf3⟩ := bcell hb3
  have z3_0 : w.heap.size < w3.heap.size := by omega
  have z3_1 : w.heap.size + 1 < w3.heap.size := by omega
  go_wp2
  go_ret
  exact ⟨rfl, blw⟩

theorem szi_DDoc : ∀ w1, (sizeOf 33).run Tryz.prog w1 = .ok 5 w1 := fun _ => by kernel_rfl
set_option maxHeartbeats 1000000 in
set_option maxRecDepth 100000 in
theorem eqDocS_c (va vb : Value) (a : List DDoc) (w : World) (ha : RdS w va a) (hb : RdS w vb a) :
    Calls Tryz.prog 77 #[va, vb] w (Tells w (.bool true)) := by
  have hla := fun w1 ty => ha.len Tryz.underlying49 w1 ty
  have hlb := fun w1 ty => hb.len Tryz.underlying49 w1 ty
  have ba := ha.le
  go_enter Tryz.func77, Tryz.ntmps77
  go_wp2
  go_loopw [5] (fun i wr => ∃ k : Nat, k ≤ a.length ∧ i = .int .i64 k ∧ Below w.heap.size w wr) (fun i _ => a.length - (intOf i).toNat)
  case atStart => exact ⟨0, Nat.zero_le _, rfl, Below.refl _ _⟩
  case round =>
    obtain ⟨k, hk, rfl, hbw⟩ := hrel
    by_cases hlt : k < a.length
    · obtain ⟨x, hx⟩ := get_some hlt
      obtain ⟨b1, o1, cs, h1, h2, h3⟩ := (ha.below hbw).idx Tryz.underlying49 szi_DDoc k hx
      obtain ⟨v_text, v_list, v_seen, rfl, _, r_text, r_list, r_seen⟩ := inv_DDoc h3
      obtain ⟨b2, o2, cs, g1, g2, g3⟩ := (hb.below hbw).idx Tryz.underlying49 szi_DDoc k hx
      obtain ⟨u_text, u_list, u_seen, rfl, _, t_text, t_list, t_seen⟩ := inv_DDoc g3
      have q0 := h2.zero
      have q1 := h2 1 _ rfl
      have q2 := h2 2 _ rfl
      have q3 := h2 3 _ rfl
      have q4 := h2 4 _ rfl
      have p0 := g2.zero
      have p1 := g2 1 _ rfl
      have p2 := g2 2 _ rfl
      have p3 := g2 3 _ rfl
      have p4 := g2 4 _ rfl
      clear hx
      go_wp2_with fail
      go_still_tail 8, (by kernel_rfl)
      go_wp2_with fail
      refine (eqDoc_c x _ _ _ _ _ _ _ (r_text.below blw) (t_text.below blw) (r_list.below blw) (t_list.below blw) (r_seen.below blw) (t_seen.below blw)).mono ?_
      rintro e w2 ⟨rfl, hb2⟩
      have HBW : Hid (Below w.heap.size w w2) := (Below.drew hbw).trans (hb2.mono hbw.size)
      clear hb2 hbw
      go_wp2
      go_roundw
      case rel => exact ⟨k + 1, by omega, by go_num, HBW.out⟩
      case measure => simp [intOf]; omega
    · go_wp2
      go_ret
      exact ⟨rfl, hbw⟩

set_option maxHeartbeats 1000000 in
theorem eqRing_c (x : DRing) (v_list u_list : Value) (w : World) (h_list : RdS w v_list x.list) (k_list : RdS w u_list x.list) :
    Calls Tryz.prog 157 #[.agg #[.int .i64 x.cap, .int .i64 x.next, .bool x.out, v_list], .agg #[.int .i64 x.cap, .int .i64 x.next, .bool x.out, u_list]] w (Tells w (.bool true)) := by
  go_enter Tryz.func157, Tryz.ntmps157
  go_wp2_with fail
  refine (eqEntryS_c _ _ _ _ (h_list.below blw) (k_list.below blw)).mono ?_
  rintro e w1 ⟨rfl, hb1⟩
  have s1 : w.heap.size + 2 ≤ w1.heap.size := by have := hb1.size; (try simp at this); omega
  obtain ⟨hc1, hf1⟩ := bcell hb1
  have z1_0 : w.heap.size < w1.heap.size := by omega
  have z1_1 : w.heap.size + 1 < w1.heap.size := by omega
  go_wp2
  go_ret
  exact ⟨rfl, blw⟩

set_option maxHeartbeats 1000000 in
theorem eqSub_c (x : DSub) (v_r_list u_r_list : Value) (w : World) (h_r_list : RdS w v_r_list x.r.list) (k_r_list : RdS w u_r_list x.r.list) :
    Calls Tryz.prog 130 #[.agg #[.int .i64 x.id, .string x.doc, .int .i64 x.r.cap, .int .i64 x.r.next, .bool x.r.out, v_r_list], .agg #[.int .i64 x.id, .string x.doc, .int .i64 x.r.cap, .int .i64 x.r.next, .bool x.r.out, u_r_list]] w (Tells w (.bool true)) := by
  go_enter Tryz.func130, Tryz.ntmps130
  go_wp2_with fail
  refine (eqRing_c x.r _ _ _ (h_r_list.below blw) (k_r_list.below blw)).mono ?_
  rintro e w1 ⟨rfl, hb1⟩
  have s1 : w.heap.size + 2 ≤ w1.heap.size := by have := hb1.size; (try simp at this); omega
  obtain ⟨hc1, hf1⟩ := bcell hb1
  have z1_0 : w.heap.size < w1.heap.size := by omega
  have z1_1 : w.heap.size + 1 < w1.heap.size := by omega
  go_wp2
  go_ret
  exact ⟨rfl, blw⟩

theorem szi_DSub : ∀ w1, (sizeOf 103).run Tryz.prog w1 = .ok 6 w1 := fun _ => by kernel_rfl
set_option maxHeartbeats 1000000 in
set_option maxRecDepth 100000 in
theorem eqSubS_c (va vb : Value) (a : List DSub) (w : World) (ha : RdS w va a) (hb : RdS w vb a) :
    Calls Tryz.prog 78 #[va, vb] w (Tells w (.bool true)) := by
  have hla := fun w1 ty => ha.len Tryz.underlying50 w1 ty
  have hlb := fun w1 ty => hb.len Tryz.underlying50 w1 ty
  have ba := ha.le
  go_enter Tryz.func78, Tryz.ntmps78
  go_wp2
  go_loopw [5] (fun i wr => ∃ k : Nat, k ≤ a.length ∧ i = .int .i64 k ∧ Below w.heap.size w wr) (fun i _ => a.length - (intOf i).toNat)
  case atStart => exact ⟨0, Nat.zero_le _, rfl, Below.refl _ _⟩
  case round =>
    obtain ⟨k, hk, rfl, hbw⟩ := hrel
    by_cases hlt : k < a.length
    · obtain ⟨x, hx⟩ := get_some hlt
      obtain ⟨b1, o1, cs, h1, h2, h3⟩ := (ha.below hbw).idx Tryz.underlying50 szi_DSub k hx
      obtain ⟨v_r_list, rfl, _, r_r_list⟩ := inv_DSub h3
      obtain ⟨b2, o2, cs, g1, g2, g3⟩ := (hb.below hbw).idx Tryz.underlying50 szi_DSub k hx
      obtain ⟨u_r_list, rfl, _, t_r_list⟩ := inv_DSub g3
      have q0 := h2.zero
      have q1 := h2 1 _ rfl
      have q2 := h2 2 _ rfl
      have q3 := h2 3 _ rfl
      have q4 := h2 4 _ rfl
      have q5 := h2 5 _ rfl
      have p0 := g2.zero
      have p1 := g2 1 _ rfl
      have p2 := g2 2 _ rfl
      have p3 := g2 3 _ rfl
      have p4 := g2 4 _ rfl
      have p5 := g2 5 _ rfl
      clear hx
      go_wp2_with fail
      go_still_tail 8, (by kernel_rfl)
      go_wp2_with fail
      refine (eqSub_c x _ _ _ (r_r_list.below blw) (t_r_list.below blw)).mono ?_
      rintro e w2 ⟨rfl, hb2⟩
      have HBW : Hid (Below w.heap.size w w2) := (Below.drew hbw).trans (hb2.mono hbw.size)
      clear hb2 hbw
      go_wp2
      go_roundw
      case rel => exact ⟨k + 1, by omega, by go_num, HBW.out⟩
      case measure => simp [intOf]; omega
    · go_wp2
      go_ret
      exact ⟨rfl, hbw⟩

end Go.Proofs.YtbpbeomngflkfaaGreat

namespace Go.Proofs.YtbpbeomngflkfaaGreat
open Go.RowKit

set_option maxHeartbeats 1000000 in
theorem eqHub_c (x : DHub) (v_docs u_docs : Value) (v_subs u_subs : Value) (w : World) (h_docs : RdS w v_docs x.docs) (k_docs : RdS w u_docs x.docs) (h_subs : RdS w v_subs x.subs) (k_subs : RdS w u_subs x.subs) :
    Calls Tryz.prog 22 #[.agg #[.bool x.shut, v_docs, v_subs, .int .i64 x.last], .agg #[.bool x.shut, u_docs, u_subs, .int .i64 x.last]] w (Tells w (.bool true)) := by
  go_enter Tryz.func22, Tryz.ntmps22
  go_wp2_with fail
  refine (eqDocS_c _ _ _ _ (h_docs.below blw) (k_docs.below blw)).mono ?_
  rintro e w1 ⟨rfl, hb1⟩
  have s1 : w.heap.size + 2 ≤ w1.heap.size := by have := hb1.size; (try simp at this); omega
  obtain ⟨hc1, hf1⟩ := bcell hb1
  have z1_0 : w.heap.size < w1.heap.size := by omega
  have z1_1 : w.heap.size + 1 < w1.heap.size := by omega
  go_wp2_with fail
  refine (eqSubS_c _ _ _ _ (h_subs.below blw) (k_subs.below blw)).mono ?_
  rintro e w2 ⟨rfl, hb2⟩
  have s2 : w1.heap.size ≤ w2.heap.size := by have := hb2.size; (try simp at this); omega
  obtain ⟨hc2, hf2⟩ := bcell hb2
  have z2_0 : w.heap.size < w2.heap.size := by omega
  have z2_1 : w.heap.size + 1 < w2.heap.size := by omega
  go_wp2
  go_ret
  exact ⟨rfl, blw⟩





end Go.Proofs.YtbpbeomngflkfaaGreat

namespace Go.Proofs.YtbpbeomngflkfaaGreat
open Go.RowKit

/-- readings without a bound of ours on the lists -/
def RdM {α : Type} [GoT α] (M : Nat) (w : World) (cs : List Value) (x : α) : Prop := ∃ fp, GoT.rd M w cs x fp
def RdSM {α : Type} [GoT α] (M : Nat) (w : World) (v : Value) (l : List α) : Prop := ∃ fp, Sl M w v l fp
section
variable {α : Type} [GoT α] {M : Nat} {w w' : World} {v : Value} {l : List α}
theorem RdSM.below (h : RdSM M w v l) (hb : Below w.heap.size w w') : RdSM M w' v l := by
  obtain ⟨fp, h⟩ := h
  exact ⟨fp, h.keep (Live.same_below hb (Live.lt h.live))⟩
theorem RdSM.len (h : RdSM M w v l) {P : Program} {T E : TypeId} (hT : P.underlying T = some (.slice E)) (w1 : World) (ty : TypeId) :
    (Builtin.len_ #[T] ty #[v]).run P w1 = .ok (.int .i64 l.length) w1 := let ⟨_, h⟩ := h; h.len hT w1 ty
theorem RdSM.le (h : RdSM M w v l) : l.length ≤ 9223372036854775807 := let ⟨_, h⟩ := h; by have := h.le; unfold maxLen at this; omega
theorem RdSM.idx (h : RdSM M w v l) {P : Program} {T E : TypeId} (hT : P.underlying T = some (.slice E)) (hl : ∀ w1, (sizeOf E).run P w1 = .ok (GoT.n α) w1) (k : Nat) {x : α} (hk : l[k]? = some x) :
    ∃ b o cs, (∀ w1, (Instr.indexAt T v (.int .i64 k)).run P w1 = .ok (.pointer (some ⟨b, o, none⟩)) w1) ∧ At w b o cs ∧ RdM M w cs x := by
  obtain ⟨fp, h⟩ := h
  obtain ⟨b, o, cs, f, h1, h2, h3, _⟩ := h.idx hT hl k hk
  exact ⟨b, o, cs, h1, h2, f, h3⟩
end
/-- a datum's measure: lengths of lists and strings -/
class GoS (α : Type) [GoT α] where
  sz : α → Nat
  up : ∀ {M N : Nat} {w : World} {cs : List Value} {x : α} {fp : List Pos}, GoT.rd M w cs x fp → sz x ≤ N → GoT.rd N w cs x fp
def szs {α : Type} [GoT α] [GoS α] : List α → Nat
  | [] => 0
  | x :: xs => GoS.sz x + szs xs
def szL {α : Type} [GoT α] [GoS α] (l : List α) : Nat := l.length + szs l
section
variable {α : Type} [GoT α] [GoS α]
theorem szs_append : ∀ (a b : List α), szs (a ++ b) = szs a + szs b
  | [], b => by simp [szs]
  | x :: xs, b => by simp [szs, szs_append xs]; omega
theorem szs_take_succ {l : List α} {k : Nat} {x : α} (h : l[k]? = some x) : szs (l.take (k + 1)) = szs (l.take k) + GoS.sz x := by
  rw [take_snoc h, szs_append]; simp [szs]
theorem szs_take_le (l : List α) (k : Nat) : szs (l.take k) ≤ szs l := by
  have := szs_append (l.take k) (l.drop k)
  rw [List.take_append_drop] at this
  omega
theorem Els.up {M N : Nat} {w : World} : ∀ {l : List α} {cs : List Value} {fp : List Pos}, Els M w cs l fp → szs l ≤ N → Els N w cs l fp
  | [], _, _, h, _ => h
  | x :: xs, _, _, ⟨c1, c2, f1, f2, hc, h1, h2, hf⟩, hs => by
    simp only [szs] at hs
    exact ⟨c1, c2, f1, f2, hc, GoS.up h1 (by omega), Els.up h2 (by omega), hf⟩
theorem Sl.up {M N : Nat} {w : World} {v : Value} {l : List α} {fp : List Pos} (h : Sl M w v l fp) (hs : szL l ≤ N) : Sl N w v l fp := by
  unfold szL at hs
  rcases h with h | ⟨b, o, cap, cs, fs, rfl, h1, h2, h3, ha, he, hl, rfl⟩
  · exact .inl h
  · exact .inr ⟨b, o, cap, cs, fs, rfl, h1, h2, by omega, ha, he.up (by omega), hl, rfl⟩
end
instance : GoS Int where
  sz := fun _ => 0
  up := fun h _ => h
theorem szs_int : ∀ (l : List Int), szs l = 0
  | [] => rfl
  | x :: xs => by simp [szs, szs_int xs, GoS.sz]
theorem szL_int (l : List Int) : szL l = l.length := by simp [szL, szs_int]

instance : GoS DPart where
  sz := fun x => szL x.signs
  up := by
    rintro M N w cs x fp ⟨v_signs, f_signs, rfl, h_signs, rfl⟩ hs
    exact ⟨v_signs, _, rfl, h_signs.up (by omega), rfl⟩
instance : GoS DEntry where
  sz := fun x => szL x.o
  up := by
    rintro M N w cs x fp ⟨v_o, f_o, rfl, h_o, rfl⟩ hs
    exact ⟨v_o, _, rfl, h_o.up (by omega), rfl⟩
instance : GoS DSeen where
  sz := fun _ => 0
  up := fun h _ => h
instance : GoS DDoc where
  sz := fun x => x.name.size + szL x.text + szL x.list + szL x.seen
  up := by
    rintro M N w cs x fp ⟨v_text, v_list, v_seen, f_text, f_list, f_seen, rfl, n_name, h_text, h_list, h_seen, rfl⟩ hs
    exact ⟨v_text, v_list, v_seen, _, _, _, rfl, (by omega), h_text.up (by omega), h_list.up (by omega), h_seen.up (by omega), rfl⟩
instance : GoS DRing where
  sz := fun x => szL x.list
  up := by
    rintro M N w cs x fp ⟨v_list, f_list, rfl, h_list, rfl⟩ hs
    exact ⟨v_list, _, rfl, h_list.up (by omega), rfl⟩
instance : GoS DSub where
  sz := fun x => x.doc.size + GoS.sz x.r
  up := by
    rintro M N w cs x fp ⟨v_r, f_r, rfl, n_doc, h_r, rfl⟩ hs
    exact ⟨v_r, _, rfl, (by omega), GoS.up h_r (by omega), rfl⟩
instance : GoS DHub where
  sz := fun x => szL x.docs + szL x.subs
  up := by
    rintro M N w cs x fp ⟨v_docs, v_subs, f_docs, f_subs, rfl, h_docs, h_subs, rfl⟩ hs
    exact ⟨v_docs, v_subs, _, _, rfl, h_docs.up (by omega), h_subs.up (by omega), rfl⟩
instance : GoS DCall where
  sz := fun x => x.doc.size + szL x.o + szL x.text
  up := by
    rintro M N w cs x fp ⟨v_o, v_text, f_o, f_text, rfl, n_doc, h_o, h_text, rfl⟩ hs
    exact ⟨v_o, v_text, _, _, rfl, (by omega), h_o.up (by omega), h_text.up (by omega), rfl⟩
instance : GoS DAnswer where
  sz := fun x => szL x.text + szL x.list
  up := by
    rintro M N w cs x fp ⟨v_text, v_list, f_text, f_list, rfl, h_text, h_list, rfl⟩ hs
    exact ⟨v_text, v_list, _, _, rfl, h_text.up (by omega), h_list.up (by omega), rfl⟩
instance : GoS DTask where
  sz := fun x => GoS.sz x.c + GoS.sz x.a
  up := by
    rintro M N w cs x fp ⟨v_c, v_a, f_c, f_a, rfl, h_c, h_a, rfl⟩ hs
    exact ⟨v_c, v_a, _, _, rfl, GoS.up h_c (by omega), GoS.up h_a (by omega), rfl⟩
instance : GoS DQueue where
  sz := fun x => x.doc.size + szL x.list
  up := by
    rintro M N w cs x fp ⟨v_list, f_list, rfl, n_doc, h_list, rfl⟩ hs
    exact ⟨v_list, _, rfl, (by omega), h_list.up (by omega), rfl⟩
instance : GoS DWorld where
  sz := fun x => GoS.sz x.h + szL x.locks + szL x.queues + szL x.tasks
  up := by
    rintro M N w cs x fp ⟨v_h, v_locks, v_queues, v_tasks, f_h, f_locks, f_queues, f_tasks, rfl, h_h, h_locks, h_queues, h_tasks, rfl⟩ hs
    exact ⟨v_h, v_locks, v_queues, v_tasks, _, _, _, _, rfl, GoS.up h_h (by omega), h_locks.up (by omega), h_queues.up (by omega), h_tasks.up (by omega), rfl⟩
theorem invM_DPart {M : Nat} {w : World} {cs : List Value} {x : DPart} (h : RdM M w cs x) : ∃ v_signs, cs = [.int .i64 x.kind, .int .i64 x.n, v_signs] ∧ RdSM M w v_signs x.signs := by
  obtain ⟨fp, h⟩ := h
  obtain ⟨v_signs, f_signs, rfl, h_signs, rfl⟩ := h
  exact ⟨v_signs, rfl, ⟨_, h_signs⟩⟩
theorem invM_DEntry {M : Nat} {w : World} {cs : List Value} {x : DEntry} (h : RdM M w cs x) : ∃ v_o, cs = [.int .i64 x.client, .int .i64 x.seq, v_o] ∧ RdSM M w v_o x.o := by
  obtain ⟨fp, h⟩ := h
  obtain ⟨v_o, f_o, rfl, h_o, rfl⟩ := h
  exact ⟨v_o, rfl, ⟨_, h_o⟩⟩
theorem invM_DSeen {M : Nat} {w : World} {cs : List Value} {x : DSeen} (h : RdM M w cs x) : cs = [.int .i64 x.client, .int .i64 x.seq, .int .i64 x.rev] := by
  obtain ⟨fp, h⟩ := h
  obtain ⟨rfl, rfl⟩ := h
  exact rfl
theorem invM_DDoc {M : Nat} {w : World} {cs : List Value} {x : DDoc} (h : RdM M w cs x) : ∃ v_text v_list v_seen, cs = [.string x.name, .int .i64 x.from_, v_text, v_list, v_seen] ∧ x.name.size ≤ M ∧ RdSM M w v_text x.text ∧ RdSM M w v_list x.list ∧ RdSM M w v_seen x.seen := by
  obtain ⟨fp, h⟩ := h
  obtain ⟨v_text, v_list, v_seen, f_text, f_list, f_seen, rfl, n_name, h_text, h_list, h_seen, rfl⟩ := h
  exact ⟨v_text, v_list, v_seen, rfl, n_name, ⟨_, h_text⟩, ⟨_, h_list⟩, ⟨_, h_seen⟩⟩
theorem invM_DRing {M : Nat} {w : World} {cs : List Value} {x : DRing} (h : RdM M w cs x) : ∃ v_list, cs = [.int .i64 x.cap, .int .i64 x.next, .bool x.out, v_list] ∧ RdSM M w v_list x.list := by
  obtain ⟨fp, h⟩ := h
  obtain ⟨v_list, f_list, rfl, h_list, rfl⟩ := h
  exact ⟨v_list, rfl, ⟨_, h_list⟩⟩
theorem invM_DSub {M : Nat} {w : World} {cs : List Value} {x : DSub} (h : RdM M w cs x) : ∃ v_r_list, cs = [.int .i64 x.id, .string x.doc, .int .i64 x.r.cap, .int .i64 x.r.next, .bool x.r.out, v_r_list] ∧ x.doc.size ≤ M ∧ RdSM M w v_r_list x.r.list := by
  obtain ⟨fp, h⟩ := h
  obtain ⟨c_r, f_r, rfl, n_doc, h_r, rfl⟩ := h
  obtain ⟨v_r_list, f_r_list, rfl, h_r_list, rfl⟩ := h_r
  exact ⟨v_r_list, rfl, n_doc, ⟨_, h_r_list⟩⟩
theorem invM_DHub {M : Nat} {w : World} {cs : List Value} {x : DHub} (h : RdM M w cs x) : ∃ v_docs v_subs, cs = [.bool x.shut, v_docs, v_subs, .int .i64 x.last] ∧ RdSM M w v_docs x.docs ∧ RdSM M w v_subs x.subs := by
  obtain ⟨fp, h⟩ := h
  obtain ⟨v_docs, v_subs, f_docs, f_subs, rfl, h_docs, h_subs, rfl⟩ := h
  exact ⟨v_docs, v_subs, rfl, ⟨_, h_docs⟩, ⟨_, h_subs⟩⟩
theorem invM_DCall {M : Nat} {w : World} {cs : List Value} {x : DCall} (h : RdM M w cs x) : ∃ v_o v_text, cs = [.int .i64 x.kind, .string x.doc, .int .i64 x.client, .int .i64 x.seq, .int .i64 x.n, v_o, v_text] ∧ x.doc.size ≤ M ∧ RdSM M w v_o x.o ∧ RdSM M w v_text x.text := by
  obtain ⟨fp, h⟩ := h
  obtain ⟨v_o, v_text, f_o, f_text, rfl, n_doc, h_o, h_text, rfl⟩ := h
  exact ⟨v_o, v_text, rfl, n_doc, ⟨_, h_o⟩, ⟨_, h_text⟩⟩
theorem invM_DAnswer {M : Nat} {w : World} {cs : List Value} {x : DAnswer} (h : RdM M w cs x) : ∃ v_text v_list, cs = [.int .i64 x.code, .int .i64 x.rev, v_text, v_list] ∧ RdSM M w v_text x.text ∧ RdSM M w v_list x.list := by
  obtain ⟨fp, h⟩ := h
  obtain ⟨v_text, v_list, f_text, f_list, rfl, h_text, h_list, rfl⟩ := h
  exact ⟨v_text, v_list, rfl, ⟨_, h_text⟩, ⟨_, h_list⟩⟩
theorem invM_DTask {M : Nat} {w : World} {cs : List Value} {x : DTask} (h : RdM M w cs x) : ∃ v_c_o v_c_text v_a_text v_a_list, cs = [.int .i64 x.c.kind, .string x.c.doc, .int .i64 x.c.client, .int .i64 x.c.seq, .int .i64 x.c.n, v_c_o, v_c_text, .int .i64 x.pc, .int .i64 x.inv, .int .i64 x.lin, .int .i64 x.res, .int .i64 x.a.code, .int .i64 x.a.rev, v_a_text, v_a_list] ∧ x.c.doc.size ≤ M ∧ RdSM M w v_c_o x.c.o ∧ RdSM M w v_c_text x.c.text ∧ RdSM M w v_a_text x.a.text ∧ RdSM M w v_a_list x.a.list := by
  obtain ⟨fp, h⟩ := h
  obtain ⟨c_c, c_a, f_c, f_a, rfl, h_c, h_a, rfl⟩ := h
  obtain ⟨v_c_o, v_c_text, f_c_o, f_c_text, rfl, n_c_doc, h_c_o, h_c_text, rfl⟩ := h_c
  obtain ⟨v_a_text, v_a_list, f_a_text, f_a_list, rfl, h_a_text, h_a_list, rfl⟩ := h_a
  exact ⟨v_c_o, v_c_text, v_a_text, v_a_list, rfl, n_c_doc, ⟨_, h_c_o⟩, ⟨_, h_c_text⟩, ⟨_, h_a_text⟩, ⟨_, h_a_list⟩⟩
theorem invM_DQueue {M : Nat} {w : World} {cs : List Value} {x : DQueue} (h : RdM M w cs x) : ∃ v_list, cs = [.string x.doc, v_list] ∧ x.doc.size ≤ M ∧ RdSM M w v_list x.list := by
  obtain ⟨fp, h⟩ := h
  obtain ⟨v_list, f_list, rfl, n_doc, h_list, rfl⟩ := h
  exact ⟨v_list, rfl, n_doc, ⟨_, h_list⟩⟩
theorem invM_DWorld {M : Nat} {w : World} {cs : List Value} {x : DWorld} (h : RdM M w cs x) : ∃ v_h_docs v_h_subs v_locks v_queues v_tasks, cs = [.bool x.h.shut, v_h_docs, v_h_subs, .int .i64 x.h.last, v_locks, v_queues, v_tasks, .int .i64 x.step] ∧ RdSM M w v_h_docs x.h.docs ∧ RdSM M w v_h_subs x.h.subs ∧ RdSM M w v_locks x.locks ∧ RdSM M w v_queues x.queues ∧ RdSM M w v_tasks x.tasks := by
  obtain ⟨fp, h⟩ := h
  obtain ⟨c_h, v_locks, v_queues, v_tasks, f_h, f_locks, f_queues, f_tasks, rfl, h_h, h_locks, h_queues, h_tasks, rfl⟩ := h
  obtain ⟨v_h_docs, v_h_subs, f_h_docs, f_h_subs, rfl, h_h_docs, h_h_subs, rfl⟩ := h_h
  exact ⟨v_h_docs, v_h_subs, v_locks, v_queues, v_tasks, rfl, ⟨_, h_h_docs⟩, ⟨_, h_h_subs⟩, ⟨_, h_locks⟩, ⟨_, h_queues⟩, ⟨_, h_tasks⟩⟩
theorem szIntS_c2 (v : Value) (l : List Int) (w : World) (left : Int) (g0 : 0 ≤ left) (g1 : left ≤ 1048576) (h : RdSM maxLen w v l) :
    Calls Tryz.prog 30 #[v, .int .i64 left] w (Tells w (.int .i64 (less left (szL l)))) := by
  obtain ⟨fp, h⟩ := h
  rw [szL_int]
  exact szIntS_c maxLen v l fp w left g0 g1 h
end Go.Proofs.YtbpbeomngflkfaaGreat

namespace Go.Proofs.YtbpbeomngflkfaaGreat
open Go.RowKit

set_option maxHeartbeats 1000000 in
theorem szPart_c (x : DPart) (v_signs : Value) (w : World) (left : Int) (g0 : 0 ≤ left) (g1 : left ≤ 1048576)  (h_signs : RdSM maxLen w v_signs x.signs) :
    Calls Tryz.prog 33 #[.agg #[.int .i64 x.kind, .int .i64 x.n, v_signs], .int .i64 left] w (Tells w (.int .i64 (less left (GoS.sz x)))) := by
  have E : GoS.sz x = szL x.signs := rfl
  by_cases c0 : ((szL x.signs : Nat) : Int) ≤ left
  · rw [less_pos (show ((GoS.sz x : Nat) : Int) ≤ left by rw [E]; omega)]
    have E2 : left - (GoS.sz x : Int) = left - ((szL x.signs : Nat) : Int) := by rw [E] <;> omega
    rw [E2]; clear E2 E
    go_enter Tryz.func33, Tryz.ntmps33
    go_wp2_with fail
    refine (szIntS_c2 _ _ _ _ (by omega) (by omega) (h_signs.below blw)).mono ?_
    rintro e w1 ⟨rfl, hb1⟩
    rw [less_pos (by omega)]
    have s1 : w.heap.size + 1 ≤ w1.heap.size := by have := hb1.size; (try simp at this); omega
    obtain ⟨hc1, hf1⟩ := bcell hb1
    have z1_0 : w.heap.size < w1.heap.size := by omega
    go_wp2
    go_ret
    exact ⟨ret_int (by first | rfl | omega), blw⟩
  · rw [less_neg (show ¬ ((GoS.sz x : Nat) : Int) ≤ left by rw [E]; omega)]; clear E
    go_enter Tryz.func33, Tryz.ntmps33
    go_wp2_with fail
    refine (szIntS_c2 _ _ _ _ (by omega) (by omega) (h_signs.below blw)).mono ?_
    rintro e w1 ⟨rfl, hb1⟩
    rw [less_neg (by omega)]
    have s1 : w.heap.size + 1 ≤ w1.heap.size := by have := hb1.size; (try simp at this); omega
    obtain ⟨hc1, hf1⟩ := bcell hb1
    have z1_0 : w.heap.size < w1.heap.size := by omega
    go_wp2
    go_ret
    exact ⟨ret_int (by first | rfl | omega), blw⟩

set_option maxHeartbeats 1000000 in
theorem szPartS_c (v : Value) (l : List DPart) (w : World) (left : Int) (g0 : 0 ≤ left) (g1 : left ≤ 1048576) (h : RdSM maxLen w v l) :
    Calls Tryz.prog 8 #[v, .int .i64 left] w (Tells w (.int .i64 (less left (szL l)))) := by
  have hl := fun w1 ty => h.len Tryz.underlying27 w1 ty
  have hb := h.le
  have E := Lib.hid (show szL l = l.length + szs l from rfl)
  by_cases hle : (l.length : Int) ≤ left
  · go_enter Tryz.func8, Tryz.ntmps8
    go_wp2
    go_loopw [1, 5] (fun c i wr => ∃ k : Nat, k ≤ l.length ∧ i = .int .i64 k ∧ ((szs (l.take k) : Nat) : Int) ≤ left - l.length ∧ c = .int .i64 (left - l.length - szs (l.take k)) ∧ Below w.heap.size w wr) (fun _ i _ => l.length - (intOf i).toNat)
    case atStart => exact ⟨0, Nat.zero_le _, rfl, by simp [szs]; omega, by simp [szs], Below.refl _ _⟩
    case round =>
      obtain ⟨k, hk, rfl, hc, rfl, hbw⟩ := hrel
      by_cases hlt : k < l.length
      · obtain ⟨x, hx⟩ := get_some hlt
        have hs := szs_take_succ hx
        have hsl := szs_take_le l (k + 1)
        obtain ⟨b1, o1, cs, h1, h2, h3⟩ := (h.below hbw).idx Tryz.underlying27 szl_DPart k hx
        obtain ⟨v_signs, rfl, r_signs⟩ := invM_DPart h3
        have q0 := h2.zero
        have q1 := h2 1 _ rfl
        have q2 := h2 2 _ rfl
        have HS := Lib.hid hs
        clear hx
        by_cases hfit : ((GoS.sz x : Nat) : Int) ≤ left - l.length - szs (l.take k)
        · have hs2 : ((szs (l.take (k + 1)) : Nat) : Int) ≤ left - l.length := by omega
          clear hs
          go_wp2_with fail
          refine (szPart_c x _ _ _ (by omega) (by omega) r_signs).mono ?_
          rintro e w2 ⟨rfl, hb2⟩
          rw [less_pos hfit]
          have HBW : Hid (Below w.heap.size w w2) := hbw.trans (hb2.mono hbw.size)
          clear hb2 hbw
          go_wp2
          go_roundw
          case rel => exact ⟨k + 1, by omega, by go_num, hs2, by rw [HS.out]; go_num, HBW.out⟩
          case measure => simp [intOf]; omega
        · have HN : Hid (less left (szL l) = -1) := less_neg (by rw [E.out]; omega)
          clear hs
          go_wp2_with fail
          refine (szPart_c x _ _ _ (by omega) (by omega) r_signs).mono ?_
          rintro e w2 ⟨rfl, hb2⟩
          rw [less_neg (by omega)]
          have HBW : Hid (Below w.heap.size w w2) := hbw.trans (hb2.mono hbw.size)
          clear hb2 hbw
          go_wp2
          go_ret
          exact ⟨ret_int HN.out.symm, HBW.out⟩
      · obtain rfl : k = l.length := by omega
        go_wp2
        go_ret
        rw [List.take_length] at hc
        exact ⟨ret_int (by rw [less_pos (by rw [E.out]; omega), E.out, List.take_length]; omega), hbw⟩
  · rw [less_neg (by rw [E.out]; omega)]
    go_enter Tryz.func8, Tryz.ntmps8
    go_wp2
    go_ret
    exact ⟨rfl, Below.refl _ _⟩

set_option maxHeartbeats 1000000 in
theorem szEntry_c (x : DEntry) (v_o : Value) (w : World) (left : Int) (g0 : 0 ≤ left) (g1 : left ≤ 1048576)  (h_o : RdSM maxLen w v_o x.o) :
    Calls Tryz.prog 91 #[.agg #[.int .i64 x.client, .int .i64 x.seq, v_o], .int .i64 left] w (Tells w (.int .i64 (less left (GoS.sz x)))) := by
  have E : GoS.sz x = szL x.o := rfl
  by_cases c0 : ((szL x.o : Nat) : Int) ≤ left
  · rw [less_pos (show ((GoS.sz x : Nat) : Int) ≤ left by rw [E]; omega)]
    have E2 : left - (GoS.sz x : Int) = left - ((szL x.o : Nat) : Int) := by rw [E] <;> omega
    rw [E2]; clear E2 E
    go_enter Tryz.func91, Tryz.ntmps91
    go_wp2_with fail
    refine (szPartS_c _ _ _ _ (by omega) (by omega) (h_o.below blw)).mono ?_
    rintro e w1 ⟨rfl, hb1⟩
    rw [less_pos (by omega)]
    have s1 : w.heap.size + 1 ≤ w1.heap.size := by have := hb1.size; (try simp at this); omega
    obtain ⟨hc1, hf1⟩ := bcell hb1
    have z1_0 : w.heap.size < w1.heap.size := by omega
    go_wp2
    go_ret
    exact ⟨ret_int (by first | rfl | omega), blw⟩
  · rw [less_neg (show ¬ ((GoS.sz x : Nat) : Int) ≤ left by rw [E]; omega)]; clear E
    go_enter Tryz.func91, Tryz.ntmps91
    go_wp2_with fail
    refine (szPartS_c _ _ _ _ (by omega) (by omega) (h_o.below blw)).mono ?_
    rintro e w1 ⟨rfl, hb1⟩
    rw [less_neg (by omega)]
    have s1 : w.heap.size + 1 ≤ w1.heap.size := by have := hb1.size; (try simp at this); omega
    obtain ⟨hc1, hf1⟩ := bcell hb1
    have z1_0 : w.heap.size < w1.heap.size := by omega
    go_wp2
    go_ret
    exact ⟨ret_int (by first | rfl | omega), blw⟩

set_option maxHeartbeats 1000000 in
theorem szEntryS_c (v : Value) (l : List DEntry) (w : World) (left : Int) (g0 : 0 ≤ left) (g1 : left ≤ 1048576) (h : RdSM maxLen w v l) :
    Calls Tryz.prog 31 #[v, .int .i64 left] w (Tells w (.int .i64 (less left (szL l)))) := by
  have hl := fun w1 ty => h.len Tryz.underlying23 w1 ty
  have hb := h.le
  have E := Lib.hid (show szL l = l.length + szs l from rfl)
  by_cases hle : (l.length : Int) ≤ left
  · go_enter Tryz.func31, Tryz.ntmps31
    go_wp2
    go_loopw [1, 5] (fun c i wr => ∃ k : Nat, k ≤ l.length ∧ i = .int .i64 k ∧ ((szs (l.take k) : Nat) : Int) ≤ left - l.length ∧ c = .int .i64 (left - l.length - szs (l.take k)) ∧ Below w.heap.size w wr) (fun _ i _ => l.length - (intOf i).toNat)
    case atStart => exact ⟨0, Nat.zero_le _, rfl, by simp [szs]; omega, by simp [szs], Below.refl _ _⟩
    case round =>
      obtain ⟨k, hk, rfl, hc, rfl, hbw⟩ := hrel
      by_cases hlt : k < l.length
      · obtain ⟨x, hx⟩ := get_some hlt
        have hs := szs_take_succ hx
        have hsl := szs_take_le l (k + 1)
        obtain ⟨b1, o1, cs, h1, h2, h3⟩ := (h.below hbw).idx Tryz.underlying23 szl_DEntry k hx
        obtain ⟨v_o, rfl, r_o⟩ := invM_DEntry h3
        have q0 := h2.zero
        have q1 := h2 1 _ rfl
        have q2 := h2 2 _ rfl
        have HS := Lib.hid hs
        clear hx
        by_cases hfit : ((GoS.sz x : Nat) : Int) ≤ left - l.length - szs (l.take k)
        · have hs2 : ((szs (l.take (k + 1)) : Nat) : Int) ≤ left - l.length := by omega
          clear hs
          go_wp2_with fail
          refine (szEntry_c x _ _ _ (by omega) (by omega) r_o).mono ?_
          rintro e w2 ⟨rfl, hb2⟩
          rw [less_pos hfit]
          have HBW : Hid (Below w.heap.size w w2) := hbw.trans (hb2.mono hbw.size)
          clear hb2 hbw
          go_wp2
          go_roundw
          case rel => exact ⟨k + 1, by omega, by go_num, hs2, by rw [HS.out]; go_num, HBW.out⟩
          case measure => simp [intOf]; omega
        · have HN : Hid (less left (szL l) = -1) := less_neg (by rw [E.out]; omega)
          clear hs
          go_wp2_with fail
          refine (szEntry_c x _ _ _ (by omega) (by omega) r_o).mono ?_
          rintro e w2 ⟨rfl, hb2⟩
          rw [less_neg (by omega)]
          have HBW : Hid (Below w.heap.size w w2) := hbw.trans (hb2.mono hbw.size)
          clear hb2 hbw
          go_wp2
          go_ret
          exact ⟨ret_int HN.out.symm, HBW.out⟩
      · obtain rfl : k = l.length := by omega
        go_wp2
        go_ret
        rw [List.take_length] at hc
        exact ⟨ret_int (by rw [less_pos (by rw [E.out]; omega), E.out, List.take_length]; omega), hbw⟩
  · rw [less_neg (by rw [E.out]; omega)]
    go_enter Tryz.func31, Tryz.ntmps31
    go_wp2
    go_ret
    exact ⟨rfl, Below.refl _ _⟩

set_option maxHeartbeats 1000000 in
theorem szSeenS_c (v : Value) (l : List DSeen) (w : World) (left : Int) (g0 : 0 ≤ left) (g1 : left ≤ 1048576) (h : RdSM maxLen w v l) :
    Calls Tryz.prog 32 #[v, .int .i64 left] w (Tells w (.int .i64 (less left (szL l)))) := by
  have hl := fun w1 ty => h.len Tryz.underlying24 w1 ty
  have hb := h.le
  have E : szL l = l.length := by
    have : ∀ (m : List DSeen), szs m = 0 := fun m => by
      induction m with
      | nil => rfl
      | cons x xs ih => simp [szs, ih, GoS.sz]
    simp [szL, this]
  rw [E]
  clear E
  by_cases hle : (l.length : Int) ≤ left
  · rw [less_pos hle]
    go_enter Tryz.func32, Tryz.ntmps32
    go_wp2
    go_ret
    exact ⟨rfl, Below.refl _ _⟩
  · rw [less_neg hle]
    go_enter Tryz.func32, Tryz.ntmps32
    go_wp2
    go_ret
    exact ⟨rfl, Below.refl _ _⟩

end Go.Proofs.YtbpbeomngflkfaaGreat

namespace Go.Proofs.YtbpbeomngflkfaaGreat
open Go.RowKit

set_option maxHeartbeats 1000000 in
theorem szDoc_c (x : DDoc) (v_text : Value) (v_list : Value) (v_seen : Value) (w : World) (left : Int) (g0 : 0 ≤ left) (g1 : left ≤ 1048576) (n_name : x.name.size ≤ maxLen) (h_text : RdSM maxLen w v_text x.text) (h_list : RdSM maxLen w v_list x.list) (h_seen : RdSM maxLen w v_seen x.seen) :
    Calls Tryz.prog 7 #[.agg #[.string x.name, .int .i64 x.from_, v_text, v_list, v_seen], .int .i64 left] w (Tells w (.int .i64 (less left (GoS.sz x)))) := by
  have E : GoS.sz x = x.name.size + szL x.text + szL x.list + szL x.seen := rfl
  unfold maxLen at n_name
  by_cases c0 : ((x.name.size : Nat) : Int) ≤ left
  · by_cases c1 : ((szL x.text : Nat) : Int) ≤ left - ((x.name.size : Nat) : Int)
    · by_cases c2 : ((szL x.list : Nat) : Int) ≤ left - ((x.name.size : Nat) : Int) - ((szL x.text : Nat) : Int)
      · by_cases c3 : ((szL x.seen : Nat) : Int) ≤ left - ((x.name.size : Nat) : Int) - ((szL x.text : Nat) : Int) - ((szL x.list : Nat) : Int)
        · rw [less_pos (show ((GoS.sz x : Nat) : Int) ≤ left by rw [E]; omega)]
          have E2 : left - (GoS.sz x : Int) = left - ((x.name.size : Nat) : Int) - ((szL x.text : Nat) : Int) - ((szL x.list : Nat) : Int) - ((szL x.seen : Nat) : Int) := by rw [E] <;> omega
          rw [E2]; clear E2 E
          go_enter Tryz.func7, Tryz.ntmps7
          go_wp2_with fail
          refine (szIntS_c2 _ _ _ _ (by omega) (by omega) (h_text.below blw)).mono ?_
          rintro e w1 ⟨rfl, hb1⟩
          rw [less_pos (by omega)]
          have s1 : w.heap.size + 1 ≤ w1.heap.size := by have := hb1.size; (try simp at this); omega
          obtain ⟨hc1, hf1⟩ := bcell hb1
          have z1_0 : w.heap.size < w1.heap.size := by omega
          go_wp2_with fail
          refine (szEntryS_c _ _ _ _ (by omega) (by omega) (h_list.below blw)).mono ?_
          rintro e w2 ⟨rfl, hb2⟩
          rw [less_pos (by omega)]
          have s2 : w1.heap.size ≤ w2.heap.size := by have := hb2.size; (try simp at this); omega
          obtain ⟨hc2, hf2⟩ := bcell hb2
          have z2_0 : w.heap.size < w2.heap.size := by omega
          go_wp2_with fail
          refine (szSeenS_c _ _ _ _ (by omega) (by omega) (h_seen.below blw)).mono ?_
          rintro e w3 ⟨rfl, hb3⟩
          rw [less_pos (by omega)]
          have s3 : w2.heap.size ≤ w3.heap.size := by have := hb3.size; (try simp at this); omega
          obtain ⟨hc3, hf3⟩ := bcell hb3
          have z3_0 : w.heap.size < w3.heap.size := by omega
          go_wp2
          go_ret
          exact ⟨ret_int (by first | rfl | omega), blw⟩
        · rw [less_neg (show ¬ ((GoS.sz x : Nat) : Int) ≤ left by rw [E]; omega)]; clear E
          go_enter Tryz.func7, Tryz.ntmps7
          go_wp2_with fail
          refine (szIntS_c2 _ _ _ _ (by omega) (by omega) (h_text.below blw)).mono ?_
          rintro e w1 ⟨rfl, hb1⟩
          rw [less_pos (by omega)]
          have s1 : w.heap.size + 1 ≤ w1.heap.size := by have := hb1.size; (try simp at this); omega
          obtain ⟨hc1, hf1⟩ := bcell hb1
          have z1_0 : w.heap.size < w1.heap.size := by omega
          go_wp2_with fail
          refine (szEntryS_c _ _ _ _ (by omega) (by omega) (h_list.below blw)).mono ?_
          rintro e w2 ⟨rfl, hb2⟩
          rw [less_pos (by omega)]
          have s2 : w1.heap.size ≤ w2.heap.size := by have := hb2.size; (try simp at this); omega
          obtain ⟨hc2, hf2⟩ := bcell hb2
          have z2_0 : w.heap.size < w2.heap.size := by omega
          go_wp2_with fail
          refine (szSeenS_c _ _ _ _ (by omega) (by omega) (h_seen.below blw)).mono ?_
          rintro e w3 ⟨rfl, hb3⟩
          rw [less_neg (by omega)]
          have s3 : w2.heap.size ≤ w3.heap.size := by have := hb3.size; (try simp at this); omega
          obtain ⟨hc3, hf3⟩ := bcell hb3
          have z3_0 : w.heap.size < w3.heap.size := by omega
          go_wp2
          go_ret
          exact ⟨ret_int (by first | rfl | omega), blw⟩
      · rw [less_neg (show ¬ ((GoS.sz x : Nat) : Int) ≤ left by rw [E]; omega)]; clear E
        go_enter Tryz.func7, Tryz.ntmps7
        go_wp2_with fail
        refine (szIntS_c2 _ _ _ _ (by omega) (by omega) (h_text.below blw)).mono ?_
        rintro e w1 ⟨rfl, hb1⟩
        rw [less_pos (by omega)]
        have s1 : w.heap.size + 1 ≤ w1.heap.size := by have := hb1.size; (try simp at this); omega
        obtain ⟨hc1, hf1⟩ := bcell hb1
        have z1_0 : w.heap.size < w1.heap.size := by omega
        go_wp2_with fail
        refine (szEntryS_c _ _ _ _ (by omega) (by omega) (h_list.below blw)).mono ?_
        rintro e w2 ⟨rfl, hb2⟩
        rw [less_neg (by omega)]
        have s2 : w1.heap.size ≤ w2.heap.size := by have := hb2.size; (try simp at this); omega
        obtain ⟨hc2, hf2⟩ := bcell hb2
        have z2_0 : w.heap.size < w2.heap.size := by omega
        go_wp2
        go_ret
        exact ⟨ret_int (by first | rfl | omega), blw⟩
    · rw [less_neg (show ¬ ((GoS.sz x : Nat) : Int) ≤ left by rw [E]; omega)]; clear E
      go_enter Tryz.func7, Tryz.ntmps7
      go_wp2_with fail
      refine (szIntS_c2 _ _ _ _ (by omega) (by omega) (h_text.below blw)).mono ?_
      rintro e w1 ⟨rfl, hb1⟩
      rw [less_neg (by omega)]
      have s1 : w.heap.size + 1 ≤ w1.heap.size := by have := hb1.size; (try simp at this); omega
      obtain ⟨hc1, hf1⟩ := bcell hb1
      have z1_0 : w.heap.size < w1.heap.size := by omega
      go_wp2
      go_ret
      exact ⟨ret_int (by first | rfl | omega), blw⟩
  · rw [less_neg (show ¬ ((GoS.sz x : Nat) : Int) ≤ left by rw [E]; omega)]; clear E
    go_enter Tryz.func7, Tryz.ntmps7
    go_wp2
    go_ret
    exact ⟨ret_int (by first | rfl | omega), blw⟩

set_option maxHeartbeats 1000000 in
theorem szDocS_c (v : Value) (l : List DDoc) (w : World) (left : Int) (g0 : 0 ≤ left) (g1 : left ≤ 1048576) (h : RdSM maxLen w v l) :
    Calls Tryz.prog 65 #[v, .int .i64 left] w (Tells w (.int .i64 (less left (szL l)))) := by
  have hl := fun w1 ty => h.len Tryz.underlying44 w1 ty
  have hb := h.le
  have E := Lib.hid (show szL l = l.length + szs l from rfl)
  by_cases hle : (l.length : Int) ≤ left
  · go_enter Tryz.func65, Tryz.ntmps65
    go_wp2
    go_loopw [1, 5] (fun c i wr => ∃ k : Nat, k ≤ l.length ∧ i = .int .i64 k ∧ ((szs (l.take k) : Nat) : Int) ≤ left - l.length ∧ c = .int .i64 (left - l.length - szs (l.take k)) ∧ Below w.heap.size w wr) (fun _ i _ => l.length - (intOf i).toNat)
    case atStart => exact ⟨0, Nat.zero_le _, rfl, by simp [szs]; omega, by simp [szs], Below.refl _ _⟩
    case round =>
      obtain ⟨k, hk, rfl, hc, rfl, hbw⟩ := hrel
      by_cases hlt : k < l.length
      · obtain ⟨x, hx⟩ := get_some hlt
        have hs := szs_take_succ hx
        have hsl := szs_take_le l (k + 1)
        obtain ⟨b1, o1, cs, h1, h2, h3⟩ := (h.below hbw).idx Tryz.underlying44 szl_DDoc k hx
        obtain ⟨v_text, v_list, v_seen, rfl, n_name, r_text, r_list, r_seen⟩ := invM_DDoc h3
        have q0 := h2.zero
        have q1 := h2 1 _ rfl
        have q2 := h2 2 _ rfl
        have q3 := h2 3 _ rfl
        have q4 := h2 4 _ rfl
        have HS := Lib.hid hs
        clear hx
        by_cases hfit : ((GoS.sz x : Nat) : Int) ≤ left - l.length - szs (l.take k)
        · have hs2 : ((szs (l.take (k + 1)) : Nat) : Int) ≤ left - l.length := by omega
          clear hs
          go_wp2_with fail
          refine (szDoc_c x _ _ _ _ _ (by omega) (by omega) n_name r_text r_list r_seen).mono ?_
          rintro e w2 ⟨rfl, hb2⟩
          rw [less_pos hfit]
          have HBW : Hid (Below w.heap.size w w2) := hbw.trans (hb2.mono hbw.size)
          clear hb2 hbw
          go_wp2
          go_roundw
          case rel => exact ⟨k + 1, by omega, by go_num, hs2, by rw [HS.out]; go_num, HBW.out⟩
          case measure => simp [intOf]; omega
        · have HN : Hid (less left (szL l) = -1) := less_neg (by rw [E.out]; omega)
          clear hs
          go_wp2_with fail
          refine (szDoc_c x _ _ _ _ _ (by omega) (by omega) n_name r_text r_list r_seen).mono ?_
          rintro e w2 ⟨rfl, hb2⟩
          rw [less_neg (by omega)]
          have HBW : Hid (Below w.heap.size w w2) := hbw.trans (hb2.mono hbw.size)
          clear hb2 hbw
          go_wp2
          go_ret
          exact ⟨ret_int HN.out.symm, HBW.out⟩
      · obtain rfl : k = l.length := by omega
        go_wp2
        go_ret
        rw [List.take_length] at hc
        exact ⟨ret_int (by rw [less_pos (by rw [E.out]; omega), E.out, List.take_length]; omega), hbw⟩
  · rw [less_neg (by rw [E.out]; omega)]
    go_enter Tryz.func65, Tryz.ntmps65
    go_wp2
    go_ret
    exact ⟨rfl, Below.refl _ _⟩

set_option maxHeartbeats 1000000 in
theorem szRing_c (x : DRing) (v_list : Value) (w : World) (left : Int) (g0 : 0 ≤ left) (g1 : left ≤ 1048576)  (h_list : RdSM maxLen w v_list x.list) :
    Calls Tryz.prog 155 #[.agg #[.int .i64 x.cap, .int .i64 x.next, .bool x.out, v_list], .int .i64 left] w (Tells w (.int .i64 (less left (GoS.sz x)))) := by
  have E : GoS.sz x = szL x.list := rfl
  by_cases c0 : ((szL x.list : Nat) : Int) ≤ left
  · rw [less_pos (show ((GoS.sz x : Nat) : Int) ≤ left by rw [E]; omega)]
    have E2 : left - (GoS.sz x : Int) = left - ((szL x.list : Nat) : Int) := by rw [E] <;> omega
    rw [E2]; clear E2 E
    go_enter Tryz.func155, Tryz.ntmps155
    go_wp2_with fail
    refine (szEntryS_c _ _ _ _ (by omega) (by omega) (h_list.below blw)).mono ?_
    rintro e w1 ⟨rfl, hb1⟩
    rw [less_pos (by omega)]
    have s1 : w.heap.size + 1 ≤ w1.heap.size := by have := hb1.size; (try simp at this); omega
    obtain ⟨hc1, hf1⟩ := bcell hb1
    have z1_0 : w.heap.size < w1.heap.size := by omega
    go_wp2
    go_ret
    exact ⟨ret_int (by first | rfl | omega), blw⟩
  · rw [less_neg (show ¬ ((GoS.sz x : Nat) : Int) ≤ left by rw [E]; omega)]; clear E
    go_enter Tryz.func155, Tryz.ntmps155
    go_wp2_with fail
    refine (szEntryS_c _ _ _ _ (by omega) (by omega) (h_list.below blw)).mono ?_
    rintro e w1 ⟨rfl, hb1⟩
    rw [less_neg (by omega)]
    have s1 : w.heap.size + 1 ≤ w1.heap.size := by have := hb1.size; (try simp at this); omega
    obtain ⟨hc1, hf1⟩ := bcell hb1
    have z1_0 : w.heap.size < w1.heap.size := by omega
    go_wp2
    go_ret
    exact ⟨ret_int (by first | rfl | omega), blw⟩

set_option maxHeartbeats 1000000 in
theorem szSub_c (x : DSub) (v_r_list : Value) (w : World) (left : Int) (g0 : 0 ≤ left) (g1 : left ≤ 1048576) (n_doc : x.doc.size ≤ maxLen) (h_r_list : RdSM maxLen w v_r_list x.r.list) :
    Calls Tryz.prog 120 #[.agg #[.int .i64 x.id, .string x.doc, .int .i64 x.r.cap, .int .i64 x.r.next, .bool x.r.out, v_r_list], .int .i64 left] w (Tells w (.int .i64 (less left (GoS.sz x)))) := by
  have E : GoS.sz x = x.doc.size + GoS.sz x.r := rfl
  unfold maxLen at n_doc
  by_cases c0 : ((x.doc.size : Nat) : Int) ≤ left
  · by_cases c1 : ((GoS.sz x.r : Nat) : Int) ≤ left - ((x.doc.size : Nat) : Int)
    · rw [less_pos (show ((GoS.sz x : Nat) : Int) ≤ left by rw [E]; omega)]
      have E2 : left - (GoS.sz x : Int) = left - ((x.doc.size : Nat) : Int) - ((GoS.sz x.r : Nat) : Int) := by rw [E] <;> omega
      rw [E2]; clear E2 E
      go_enter Tryz.func120, Tryz.ntmps120
      go_wp2_with fail
      refine (szRing_c x.r _ _ _ (by omega) (by omega)  (h_r_list.below blw)).mono ?_
      rintro e w1 ⟨rfl, hb1⟩
      rw [less_pos (by omega)]
      have s1 : w.heap.size + 1 ≤ w1.heap.size := by have := hb1.size; (try simp at this); omega
      obtain ⟨hc1, hf1⟩ := bcell hb1
      have z1_0 : w.heap.size < w1.heap.size := by omega
      go_wp2
      go_ret
      exact ⟨ret_int (by first | rfl | omega), blw⟩
    · rw [less_neg (show ¬ ((GoS.sz x : Nat) : Int) ≤ left by rw [E]; omega)]; clear E
      go_enter Tryz.func120, Tryz.ntmps120
      go_wp2_with fail
      refine (szRing_c x.r _ _ _ (by omega) (by omega)  (h_r_list.below blw)).mono ?_
      rintro e w1 ⟨rfl, hb1⟩
      rw [less_neg (by omega)]
      have s1 : w.heap.size + 1 ≤ w1.heap.size := by have := hb1.size; (try simp at this); omega
      obtain ⟨hc1, hf1⟩ := bcell hb1
      have z1_0 : w.heap.size < w1.heap.size := by omega
      go_wp2
      go_ret
      exact ⟨ret_int (by first | rfl | omega), blw⟩
  · rw [less_neg (show ¬ ((GoS.sz x : Nat) : Int) ≤ left by rw [E]; omega)]; clear E
    go_enter Tryz.func120, Tryz.ntmps120
    go_wp2
    go_ret
    exact ⟨ret_int (by first | rfl | omega), blw⟩

set_option maxHeartbeats 1000000 in
theorem szSubS_c (v : Value) (l : List DSub) (w : World) (left : Int) (g0 : 0 ≤ left) (g1 : left ≤ 1048576) (h : RdSM maxLen w v l) :
    Calls Tryz.prog 66 #[v, .int .i64 left] w (Tells w (.int .i64 (less left (szL l)))) := by
  have hl := fun w1 ty => h.len Tryz.underlying45 w1 ty
  have hb := h.le
  have E := Lib.hid (show szL l = l.length + szs l from rfl)
  by_cases hle : (l.length : Int) ≤ left
  · go_enter Tryz.func66, Tryz.ntmps66
    go_wp2
    go_loopw [1, 5] (fun c i wr => ∃ k : Nat, k ≤ l.length ∧ i = .int .i64 k ∧ ((szs (l.take k) : Nat) : Int) ≤ left - l.length ∧ c = .int .i64 (left - l.length - szs (l.take k)) ∧ Below w.heap.size w wr) (fun _ i _ => l.length - (intOf i).toNat)
    case atStart => exact ⟨0, Nat.zero_le _, rfl, by simp [szs]; omega, by simp [szs], Below.refl _ _⟩
    case round =>
      obtain ⟨k, hk, rfl, hc, rfl, hbw⟩ := hrel
      by_cases hlt : k < l.length
      · obtain ⟨x, hx⟩ := get_some hlt
        have hs := szs_take_succ hx
        have hsl := szs_take_le l (k + 1)
        obtain ⟨b1, o1, cs, h1, h2, h3⟩ := (h.below hbw).idx Tryz.underlying45 szl_DSub k hx
        obtain ⟨v_r_list, rfl, n_doc, r_r_list⟩ := invM_DSub h3
        have q0 := h2.zero
        have q1 := h2 1 _ rfl
        have q2 := h2 2 _ rfl
        have q3 := h2 3 _ rfl
        have q4 := h2 4 _ rfl
        have q5 := h2 5 _ rfl
        have HS := Lib.hid hs
        clear hx
        by_cases hfit : ((GoS.sz x : Nat) : Int) ≤ left - l.length - szs (l.take k)
        · have hs2 : ((szs (l.take (k + 1)) : Nat) : Int) ≤ left - l.length := by omega
          clear hs
          go_wp2_with fail
          refine (szSub_c x _ _ _ (by omega) (by omega) n_doc r_r_list).mono ?_
          rintro e w2 ⟨rfl, hb2⟩
          rw [less_pos hfit]
          have HBW : Hid (Below w.heap.size w w2) := hbw.trans (hb2.mono hbw.size)
          clear hb2 hbw
          go_wp2
          go_roundw
          case rel => exact ⟨k + 1, by omega, by go_num, hs2, by rw [HS.out]; go_num, HBW.out⟩
          case measure => simp [intOf]; omega
        · have HN : Hid (less left (szL l) = -1) := less_neg (by rw [E.out]; omega)
          clear hs
          go_wp2_with fail
          refine (szSub_c x _ _ _ (by omega) (by omega) n_doc r_r_list).mono ?_
          rintro e w2 ⟨rfl, hb2⟩
          rw [less_neg (by omega)]
          have HBW : Hid (Below w.heap.size w w2) := hbw.trans (hb2.mono hbw.size)
          clear hb2 hbw
          go_wp2
          go_ret
          exact ⟨ret_int HN.out.symm, HBW.out⟩
      · obtain rfl : k = l.length := by omega
        go_wp2
        go_ret
        rw [List.take_length] at hc
        exact ⟨ret_int (by rw [less_pos (by rw [E.out]; omega), E.out, List.take_length]; omega), hbw⟩
  · rw [less_neg (by rw [E.out]; omega)]
    go_enter Tryz.func66, Tryz.ntmps66
    go_wp2
    go_ret
    exact ⟨rfl, Below.refl _ _⟩

end Go.Proofs.YtbpbeomngflkfaaGreat

namespace Go.Proofs.YtbpbeomngflkfaaGreat
open Go.RowKit

set_option maxHeartbeats 1000000 in
theorem szHub_c (x : DHub) (v_docs : Value) (v_subs : Value) (w : World) (left : Int) (g0 : 0 ≤ left) (g1 : left ≤ 1048576)  (h_docs : RdSM maxLen w v_docs x.docs) (h_subs : RdSM maxLen w v_subs x.subs) :
    Calls Tryz.prog 18 #[.agg #[.bool x.shut, v_docs, v_subs, .int .i64 x.last], .int .i64 left] w (Tells w (.int .i64 (less left (GoS.sz x)))) := by
  have E : GoS.sz x = szL x.docs + szL x.subs := rfl
  by_cases c0 : ((szL x.docs : Nat) : Int) ≤ left
  · by_cases c1 : ((szL x.subs : Nat) : Int) ≤ left - ((szL x.docs : Nat) : Int)
    · rw [less_pos (show ((GoS.sz x : Nat) : Int) ≤ left by rw [E]; omega)]
      have E2 : left - (GoS.sz x : Int) = left - ((szL x.docs : Nat) : Int) - ((szL x.subs : Nat) : Int) := by rw [E] <;> omega
      rw [E2]; clear E2 E
      go_enter Tryz.func18, Tryz.ntmps18
      go_wp2_with fail
      refine (szDocS_c _ _ _ _ (by omega) (by omega) (h_docs.below blw)).mono ?_
      rintro e w1 ⟨rfl, hb1⟩
      rw [less_pos (by omega)]
      have s1 : w.heap.size + 1 ≤ w1.heap.size := by have := hb1.size; (try simp at this); omega
      obtain ⟨hc1, hf1⟩ := bcell hb1
      have z1_0 : w.heap.size < w1.heap.size := by omega
      go_wp2_with fail
      refine (szSubS_c _ _ _ _ (by omega) (by omega) (h_subs.below blw)).mono ?_
      rintro e w2 ⟨rfl, hb2⟩
      rw [less_pos (by omega)]
      have s2 : w1.heap.size ≤ w2.heap.size := by have := hb2.size; (try simp at this); omega
      obtain ⟨hc2, hf2⟩ := bcell hb2
      have z2_0 : w.heap.size < w2.heap.size := by omega
      go_wp2
      go_ret
      exact ⟨ret_int (by first | rfl | omega), blw⟩
    · rw [less_neg (show ¬ ((GoS.sz x : Nat) : Int) ≤ left by rw [E]; omega)]; clear E
      go_enter Tryz.func18, Tryz.ntmps18
      go_wp2_with fail
      refine (szDocS_c _ _ _ _ (by omega) (by omega) (h_docs.below blw)).mono ?_
      rintro e w1 ⟨rfl, hb1⟩
      rw [less_pos (by omega)]
      have s1 : w.heap.size + 1 ≤ w1.heap.size := by have := hb1.size; (try simp at this); omega
      obtain ⟨hc1, hf1⟩ := bcell hb1
      have z1_0 : w.heap.size < w1.heap.size := by omega
      go_wp2_with fail
      refine (szSubS_c _ _ _ _ (by omega) (by omega) (h_subs.below blw)).mono ?_
      rintro e w2 ⟨rfl, hb2⟩
      rw [less_neg (by omega)]
      have s2 : w1.heap.size ≤ w2.heap.size := by have := hb2.size; (try simp at this); omega
      obtain ⟨hc2, hf2⟩ := bcell hb2
      have z2_0 : w.heap.size < w2.heap.size := by omega
      go_wp2
      go_ret
      exact ⟨ret_int (by first | rfl | omega), blw⟩
  · rw [less_neg (show ¬ ((GoS.sz x : Nat) : Int) ≤ left by rw [E]; omega)]; clear E
    go_enter Tryz.func18, Tryz.ntmps18
    go_wp2_with fail
    refine (szDocS_c _ _ _ _ (by omega) (by omega) (h_docs.below blw)).mono ?_
    rintro e w1 ⟨rfl, hb1⟩
    rw [less_neg (by omega)]
    have s1 : w.heap.size + 1 ≤ w1.heap.size := by have := hb1.size; (try simp at this); omega
    obtain ⟨hc1, hf1⟩ := bcell hb1
    have z1_0 : w.heap.size < w1.heap.size := by omega
    go_wp2
    go_ret
    exact ⟨ret_int (by first | rfl | omega), blw⟩




end Go.Proofs.YtbpbeomngflkfaaGreat

namespace Go.Proofs.YtbpbeomngflkfaaGreat
open Go.RowKit
theorem i64_bounds {n : Int} (h : (Lit.int .i64 n).wf = true) : -9223372036854775808 ≤ n ∧ n ≤ 9223372036854775807 := by
  simp [Lit.wf, IntKind.min, IntKind.max, IntKind.bits, IntKind.signed] at h
  omega
def ringLag (x : DRing) : Int := if x.out = true then -1 else x.list.length
theorem ringLag_t {x : DRing} (h : x.out = true) : ringLag x = -1 := if_pos h
theorem ringLag_f {x : DRing} (h : x.out = false) : ringLag x = x.list.length := by unfold ringLag; rw [h]; rfl
end Go.Proofs.YtbpbeomngflkfaaGreat

namespace Go.Proofs.YtbpbeomngflkfaaGreat
open Go.RowKit

theorem list2 {α : Type} : ∀ {l : List α}, l.length = 2 → ∃ x0 x1, l = [x0, x1]
  | [x0, x1], _ => ⟨x0, x1, rfl⟩
theorem list3 {α : Type} : ∀ {l : List α}, l.length = 3 → ∃ x0 x1 x2, l = [x0, x1, x2]
  | [x0, x1, x2], _ => ⟨x0, x1, x2, rfl⟩
theorem list4 {α : Type} : ∀ {l : List α}, l.length = 4 → ∃ x0 x1 x2 x3, l = [x0, x1, x2, x3]
  | [x0, x1, x2, x3], _ => ⟨x0, x1, x2, x3, rfl⟩
theorem list5 {α : Type} : ∀ {l : List α}, l.length = 5 → ∃ x0 x1 x2 x3 x4, l = [x0, x1, x2, x3, x4]
  | [x0, x1, x2, x3, x4], _ => ⟨x0, x1, x2, x3, x4, rfl⟩
theorem list6 {α : Type} : ∀ {l : List α}, l.length = 6 → ∃ x0 x1 x2 x3 x4 x5, l = [x0, x1, x2, x3, x4, x5]
  | [x0, x1, x2, x3, x4, x5], _ => ⟨x0, x1, x2, x3, x4, x5, rfl⟩
theorem list7 {α : Type} : ∀ {l : List α}, l.length = 7 → ∃ x0 x1 x2 x3 x4 x5 x6, l = [x0, x1, x2, x3, x4, x5, x6]
  | [x0, x1, x2, x3, x4, x5, x6], _ => ⟨x0, x1, x2, x3, x4, x5, x6, rfl⟩
theorem list8 {α : Type} : ∀ {l : List α}, l.length = 8 → ∃ x0 x1 x2 x3 x4 x5 x6 x7, l = [x0, x1, x2, x3, x4, x5, x6, x7]
  | [x0, x1, x2, x3, x4, x5, x6, x7], _ => ⟨x0, x1, x2, x3, x4, x5, x6, x7, rfl⟩
theorem list14 {α : Type} : ∀ {l : List α}, l.length = 14 → ∃ x0 x1 x2 x3 x4 x5 x6 x7 x8 x9 x10 x11 x12 x13, l = [x0, x1, x2, x3, x4, x5, x6, x7, x8, x9, x10, x11, x12, x13]
  | [x0, x1, x2, x3, x4, x5, x6, x7, x8, x9, x10, x11, x12, x13], _ => ⟨x0, x1, x2, x3, x4, x5, x6, x7, x8, x9, x10, x11, x12, x13, rfl⟩
theorem list15 {α : Type} : ∀ {l : List α}, l.length = 15 → ∃ x0 x1 x2 x3 x4 x5 x6 x7 x8 x9 x10 x11 x12 x13 x14, l = [x0, x1, x2, x3, x4, x5, x6, x7, x8, x9, x10, x11, x12, x13, x14]
  | [x0, x1, x2, x3, x4, x5, x6, x7, x8, x9, x10, x11, x12, x13, x14], _ => ⟨x0, x1, x2, x3, x4, x5, x6, x7, x8, x9, x10, x11, x12, x13, x14, rfl⟩
theorem list16 {α : Type} : ∀ {l : List α}, l.length = 16 → ∃ x0 x1 x2 x3 x4 x5 x6 x7 x8 x9 x10 x11 x12 x13 x14 x15, l = [x0, x1, x2, x3, x4, x5, x6, x7, x8, x9, x10, x11, x12, x13, x14, x15]
  | [x0, x1, x2, x3, x4, x5, x6, x7, x8, x9, x10, x11, x12, x13, x14, x15], _ => ⟨x0, x1, x2, x3, x4, x5, x6, x7, x8, x9, x10, x11, x12, x13, x14, x15, rfl⟩
theorem mapM_some {α β : Type} {f : α → Option β} : ∀ {l : List α} {r : List β}, l.mapM f = some r → r.length = l.length ∧ ∀ (j : Nat) (x : α), l[j]? = some x → f x = r[j]?
  | [], r, h => by
    simp at h; subst h
    exact ⟨rfl, fun j x hj => by simp at hj⟩
  | a :: l, r, h => by
    simp only [List.mapM_cons, Option.bind_eq_bind, Option.bind_eq_some_iff, Option.pure_def, Option.some.injEq] at h
    obtain ⟨y, hy, ys, hys, rfl⟩ := h
    obtain ⟨h1, h2⟩ := mapM_some hys
    refine ⟨by simp [h1], fun j x hj => ?_⟩
    cases j with
    | zero => simp only [List.getElem?_cons_zero, Option.some.injEq] at hj ⊢; subst hj; exact hy
    | succ j => simp only [List.getElem?_cons_succ] at hj ⊢; exact h2 j x hj
theorem cells_some {w : World} {base n : Nat} {a : Addr} {cs : List Value} (h : w.cells? base a n = some cs) : cs.length = n ∧ ∀ j, j < n → w.cell? (a.add j) = cs[j]? := by
  unfold World.cells? at h
  split at h
  · obtain ⟨h1, h2⟩ := mapM_some h
    rw [List.length_range] at h1
    exact ⟨h1, fun j hj => h2 j j (by rw [List.getElem?_range hj])⟩
  · cases h
/-- type t's readings are readings of α's -/
def Opens (α : Type) [GoT α] (P : Program) (t : TypeId) : Prop :=
  ∀ (H : Type) (enc : TypeId × Value → H) (w : World) (base : Nat) (held : Bool) (fuel : Nat) (cs : List Value) (x : DataW H × List MemPlace), DataW.trod enc P w base (fun _ => true) held fuel t cs = some x → ∃ d : α, RdM maxLen w cs d
theorem opens_int {P : Program} {t : TypeId} (ht : P.underlying t = some (.int .i64)) : Opens Int P t := by
  intro H enc w base held fuel cs x h
  obtain ⟨n, rfl, _, _⟩ := DataW.trod_int ht h
  exact ⟨n, [], rfl, rfl⟩
theorem choose_data {α : Type} [GoT α] {w : World} : ∀ (css : List (List Value)), (∀ cs ∈ css, ∃ d : α, RdM maxLen w cs d) → ∃ (l : List α) (fp : List Pos), l.length = css.length ∧ Els maxLen w css.flatten l fp
  | [], _ => ⟨[], [], rfl, rfl, rfl⟩
  | c :: css, h => by
    obtain ⟨d, f, hd⟩ := h c (by simp)
    obtain ⟨l, fp, hl, he⟩ := choose_data css (fun cs hc => h cs (by simp [hc]))
    exact ⟨d :: l, f ++ fp, by simp [hl], c, css.flatten, f, fp, by simp, hd, he, rfl⟩
theorem opens_slice {α : Type} [GoT α] {P : Program} {t e : TypeId} (ht : P.underlying t = some (.slice e)) (hn : P.cellsOf e = GoT.n α) (ho : Opens α P e) : Opens (List α) P t := by
  intro H enc w base held fuel cs x h
  rcases Go.Deep.open_slice ht h with ⟨rfl, _⟩ | ⟨a, len, cap, m, n, D, Pl, rfl, hb, hl, hm, hmm, _, hx⟩
  · exact ⟨[], [], _, rfl, Sl.nil⟩
  · simp only [if_true] at hmm
    subst hmm
    have hpos := GoT.pos (α := α)
    rw [hn] at hx
    by_cases hc0 : m = 0
    · subst hc0
      obtain rfl : len = 0 := by omega
      exact ⟨[], [], _, rfl, .inl ⟨_, rfl, rfl, rfl⟩⟩
    · have hspot : a.spot = none := by
        obtain ⟨cs', h1, _⟩ := hx 0 (by omega)
        obtain ⟨h2, h3⟩ := cells_some h1
        have h4 := h3 0 hpos
        rw [List.getElem?_eq_getElem (by omega)] at h4
        simp only [Nat.zero_mul, Addr.add, if_true] at h4
        unfold World.cell? at h4
        cases hsp : a.spot with
        | none => rfl
        | some s =>
          rw [hsp] at h4
          split at h4 <;> simp at h4
      obtain ⟨b, o, sp⟩ := a
      simp only at hspot
      subst hspot
      have hcell : ∀ i, i < m → ∃ cs', cs'.length = GoT.n α ∧ (∀ j, j < GoT.n α → w.cell? ⟨b, o + i * GoT.n α + j, none⟩ = cs'[j]?) ∧ ∃ d : α, RdM maxLen w cs' d := by
        intro i hi
        obtain ⟨cs', h1, h2⟩ := hx i hi
        obtain ⟨h3, h4⟩ := cells_some h1
        refine ⟨cs', h3, fun j hj => ?_, ho _ _ _ _ _ _ _ _ h2⟩
        have := h4 j hj
        rwa [Addr.add_lit, Addr.add_lit] at this
      obtain ⟨css, hcss⟩ : ∃ css : List (List Value), css.length = m ∧ ∀ i, i < m → ∃ cs', css[i]? = some cs' ∧ cs'.length = GoT.n α ∧ (∀ j, j < GoT.n α → w.cell? ⟨b, o + i * GoT.n α + j, none⟩ = cs'[j]?) ∧ ∃ d : α, RdM maxLen w cs' d := by
        refine ⟨(List.range m).map fun i => if h : i < m then Classical.choose (hcell i h) else [], by simp, fun i hi => ⟨Classical.choose (hcell i hi), ?_, Classical.choose_spec (hcell i hi)⟩⟩
        rw [List.getElem?_map, List.getElem?_range hi]
        simp [hi]
      obtain ⟨hcl, hcs⟩ := hcss
      have hlenc : ∀ c ∈ css, c.length = GoT.n α := by
        intro c hc
        obtain ⟨i, hi, rfl⟩ := List.getElem_of_mem hc
        obtain ⟨cs', h1, h2, _⟩ := hcs i (by omega)
        rw [List.getElem?_eq_getElem hi] at h1
        cases h1
        exact h2
      have hflat : ∀ (L : List (List Value)) (i : Nat) (c : List Value), (∀ c ∈ L, c.length = GoT.n α) → L[i]? = some c → ∀ j, j < GoT.n α → L.flatten[i * GoT.n α + j]? = c[j]? := by
        intro L
        induction L with
        | nil => intro i c _ h; simp at h
        | cons c0 L ih =>
          intro i c hL hi j hj
          have h0 := hL c0 (by simp)
          cases i with
          | zero =>
            simp only [List.getElem?_cons_zero, Option.some.injEq] at hi
            subst hi
            rw [List.flatten_cons, Nat.zero_mul, Nat.zero_add, List.getElem?_append_left (by omega)]
          | succ i =>
            simp only [List.getElem?_cons_succ] at hi
            rw [List.flatten_cons, List.getElem?_append_right (by rw [h0, Nat.add_mul]; omega), h0, Nat.add_mul, Nat.one_mul]
            rw [show i * GoT.n α + GoT.n α + j - GoT.n α = i * GoT.n α + j by omega]
            exact ih i c (fun c hc => hL c (by simp [hc])) hi j hj
      have hcellAll : ∀ q, q < m * GoT.n α → ∃ v, w.cell? ⟨b, o + q, none⟩ = some v ∧ css.flatten[q]? = some v := by
        intro q hq
        have hi : q / GoT.n α < m := (Nat.div_lt_iff_lt_mul hpos).2 hq
        have hj : q % GoT.n α < GoT.n α := Nat.mod_lt _ hpos
        obtain ⟨cs', h1, h2, h3, _⟩ := hcs _ hi
        have hq' : q / GoT.n α * GoT.n α + q % GoT.n α = q := by rw [Nat.mul_comm]; exact Nat.div_add_mod q _
        have h4 := h3 _ hj
        have h5 := hflat css _ cs' hlenc h1 _ hj
        rw [hq'] at h5
        rw [Nat.add_assoc, hq'] at h4
        obtain ⟨v, hv⟩ := get_some (l := cs') (k := q % GoT.n α) (by omega)
        rw [hv] at h4 h5
        exact ⟨v, h4, h5⟩
      obtain ⟨l, fp, hll, hle⟩ := choose_data (css.take len) (fun c hc => by
        obtain ⟨i, hi, rfl⟩ := List.getElem_of_mem (List.mem_of_mem_take hc)
        obtain ⟨cs', h1, _, _, h4⟩ := hcs i (by omega)
        rw [List.getElem?_eq_getElem hi] at h1
        cases h1
        exact h4)
      have hlen : l.length = len := by rw [hll, List.length_take]; omega
      refine ⟨l, own b o (m * GoT.n α) ++ fp, _, rfl, .inr ⟨b, o, m, (css.take len).flatten, fp, by rw [hlen], by omega, hm, by omega, ?_, hle, ?_, rfl⟩⟩
      · intro j v hj
        have hjl := (List.getElem?_eq_some_iff.1 hj).1
        rw [hle.length, hlen] at hjl
        have hjm : j < m * GoT.n α := Nat.lt_of_lt_of_le hjl (Nat.mul_le_mul_right _ hl)
        obtain ⟨u, h1, h2⟩ := hcellAll j hjm
        have hpre : css.flatten = (css.take len).flatten ++ (css.drop len).flatten := by rw [← List.flatten_append, List.take_append_drop]
        rw [hpre, List.getElem?_append_left (by rw [hle.length, hlen]; exact hjl), hj] at h2
        rw [h1, ← h2]
      · intro p hp
        obtain ⟨e1, e2, e3⟩ := mem_own.1 hp
        obtain ⟨v, h1, _⟩ := hcellAll (p.2 - o) (by omega)
        rw [e1, show p.2 = o + (p.2 - o) by omega, h1]
        rfl

theorem opens_DPart : Opens DPart Tryz.prog 67 := by
  intro H enc w base held fuel cs x h
  obtain ⟨xs, n, _, _, hc, hxs, hf⟩ := DataW.trod_struct Tryz.underlying67 h
  rw [show Tryz.prog.cellsOf 67 = 3 by kernel_rfl] at hc
  obtain ⟨c0, c1, c2, rfl⟩ := list3 hc
  have hxl : xs.length = 3 := hxs
  have f0 : DataW.trod enc Tryz.prog w base (fun _ => true) held n 3 (List.take (Tryz.prog.cellsOf 3) (List.drop 0 [c0, c1, c2])) = xs[0]? := hf 0 _ rfl
  obtain ⟨y0, hy0⟩ := get_some (l := xs) (k := 0) (by omega)
  rw [hy0, show Tryz.prog.cellsOf 3 = 1 by kernel_rfl] at f0
  replace f0 : DataW.trod enc Tryz.prog w base (fun _ => true) held n 3 [c0] = some y0 := f0
  have f1 : DataW.trod enc Tryz.prog w base (fun _ => true) held n 3 (List.take (Tryz.prog.cellsOf 3) (List.drop 1 [c0, c1, c2])) = xs[1]? := hf 1 _ rfl
  obtain ⟨y1, hy1⟩ := get_some (l := xs) (k := 1) (by omega)
  rw [hy1, show Tryz.prog.cellsOf 3 = 1 by kernel_rfl] at f1
  replace f1 : DataW.trod enc Tryz.prog w base (fun _ => true) held n 3 [c1] = some y1 := f1
  have f2 : DataW.trod enc Tryz.prog w base (fun _ => true) held n 22 (List.take (Tryz.prog.cellsOf 22) (List.drop 2 [c0, c1, c2])) = xs[2]? := hf 2 _ rfl
  obtain ⟨y2, hy2⟩ := get_some (l := xs) (k := 2) (by omega)
  rw [hy2, show Tryz.prog.cellsOf 22 = 1 by kernel_rfl] at f2
  replace f2 : DataW.trod enc Tryz.prog w base (fun _ => true) held n 22 [c2] = some y2 := f2
  obtain ⟨d0, e0, _, _⟩ := DataW.trod_int Tryz.underlying3 f0; simp only [List.cons.injEq, and_true] at e0; subst e0
  obtain ⟨d1, e1, _, _⟩ := DataW.trod_int Tryz.underlying3 f1; simp only [List.cons.injEq, and_true] at e1; subst e1
  obtain ⟨d2, f_signs, v_signs, e2, h_signs⟩ := opens_slice Tryz.underlying22 (by kernel_rfl) (opens_int Tryz.underlying3) _ _ _ _ _ _ _ _ f2; simp only [List.cons.injEq, and_true] at e2; subst e2
  exact ⟨⟨d0, d1, d2⟩, _, _, _, rfl, h_signs, rfl⟩

theorem opens_DEntry : Opens DEntry Tryz.prog 119 := by
  intro H enc w base held fuel cs x h
  obtain ⟨xs, n, _, _, hc, hxs, hf⟩ := DataW.trod_struct Tryz.underlying119 h
  rw [show Tryz.prog.cellsOf 119 = 3 by kernel_rfl] at hc
  obtain ⟨c0, c1, c2, rfl⟩ := list3 hc
  have hxl : xs.length = 3 := hxs
  have f0 : DataW.trod enc Tryz.prog w base (fun _ => true) held n 3 (List.take (Tryz.prog.cellsOf 3) (List.drop 0 [c0, c1, c2])) = xs[0]? := hf 0 _ rfl
  obtain ⟨y0, hy0⟩ := get_some (l := xs) (k := 0) (by omega)
  rw [hy0, show Tryz.prog.cellsOf 3 = 1 by kernel_rfl] at f0
  replace f0 : DataW.trod enc Tryz.prog w base (fun _ => true) held n 3 [c0] = some y0 := f0
  have f1 : DataW.trod enc Tryz.prog w base (fun _ => true) held n 3 (List.take (Tryz.prog.cellsOf 3) (List.drop 1 [c0, c1, c2])) = xs[1]? := hf 1 _ rfl
  obtain ⟨y1, hy1⟩ := get_some (l := xs) (k := 1) (by omega)
  rw [hy1, show Tryz.prog.cellsOf 3 = 1 by kernel_rfl] at f1
  replace f1 : DataW.trod enc Tryz.prog w base (fun _ => true) held n 3 [c1] = some y1 := f1
  have f2 : DataW.trod enc Tryz.prog w base (fun _ => true) held n 27 (List.take (Tryz.prog.cellsOf 27) (List.drop 2 [c0, c1, c2])) = xs[2]? := hf 2 _ rfl
  obtain ⟨y2, hy2⟩ := get_some (l := xs) (k := 2) (by omega)
  rw [hy2, show Tryz.prog.cellsOf 27 = 1 by kernel_rfl] at f2
  replace f2 : DataW.trod enc Tryz.prog w base (fun _ => true) held n 27 [c2] = some y2 := f2
  obtain ⟨d0, e0, _, _⟩ := DataW.trod_int Tryz.underlying3 f0; simp only [List.cons.injEq, and_true] at e0; subst e0
  obtain ⟨d1, e1, _, _⟩ := DataW.trod_int Tryz.underlying3 f1; simp only [List.cons.injEq, and_true] at e1; subst e1
  obtain ⟨d2, f_o, v_o, e2, h_o⟩ := opens_slice Tryz.underlying27 (by kernel_rfl) opens_DPart _ _ _ _ _ _ _ _ f2; simp only [List.cons.injEq, and_true] at e2; subst e2
  exact ⟨⟨d0, d1, d2⟩, _, _, _, rfl, h_o, rfl⟩

theorem opens_DSeen : Opens DSeen Tryz.prog 130 := by
  intro H enc w base held fuel cs x h
  obtain ⟨xs, n, _, _, hc, hxs, hf⟩ := DataW.trod_struct Tryz.underlying130 h
  rw [show Tryz.prog.cellsOf 130 = 3 by kernel_rfl] at hc
  obtain ⟨c0, c1, c2, rfl⟩ := list3 hc
  have hxl : xs.length = 3 := hxs
  have f0 : DataW.trod enc Tryz.prog w base (fun _ => true) held n 3 (List.take (Tryz.prog.cellsOf 3) (List.drop 0 [c0, c1, c2])) = xs[0]? := hf 0 _ rfl
  obtain ⟨y0, hy0⟩ := get_some (l := xs) (k := 0) (by omega)
  rw [hy0, show Tryz.prog.cellsOf 3 = 1 by kernel_rfl] at f0
  replace f0 : DataW.trod enc Tryz.prog w base (fun _ => true) held n 3 [c0] = some y0 := f0
  have f1 : DataW.trod enc Tryz.prog w base (fun _ => true) held n 3 (List.take (Tryz.prog.cellsOf 3) (List.drop 1 [c0, c1, c2])) = xs[1]? := hf 1 _ rfl
  obtain ⟨y1, hy1⟩ := get_some (l := xs) (k := 1) (by omega)
  rw [hy1, show Tryz.prog.cellsOf 3 = 1 by kernel_rfl] at f1
  replace f1 : DataW.trod enc Tryz.prog w base (fun _ => true) held n 3 [c1] = some y1 := f1
  have f2 : DataW.trod enc Tryz.prog w base (fun _ => true) held n 3 (List.take (Tryz.prog.cellsOf 3) (List.drop 2 [c0, c1, c2])) = xs[2]? := hf 2 _ rfl
  obtain ⟨y2, hy2⟩ := get_some (l := xs) (k := 2) (by omega)
  rw [hy2, show Tryz.prog.cellsOf 3 = 1 by kernel_rfl] at f2
  replace f2 : DataW.trod enc Tryz.prog w base (fun _ => true) held n 3 [c2] = some y2 := f2
  obtain ⟨d0, e0, _, _⟩ := DataW.trod_int Tryz.underlying3 f0; simp only [List.cons.injEq, and_true] at e0; subst e0
  obtain ⟨d1, e1, _, _⟩ := DataW.trod_int Tryz.underlying3 f1; simp only [List.cons.injEq, and_true] at e1; subst e1
  obtain ⟨d2, e2, _, _⟩ := DataW.trod_int Tryz.underlying3 f2; simp only [List.cons.injEq, and_true] at e2; subst e2
  exact ⟨⟨d0, d1, d2⟩, [], rfl, rfl⟩

theorem opens_DDoc : Opens DDoc Tryz.prog 26 := by
  intro H enc w base held fuel cs x h
  obtain ⟨xs, n, _, _, hc, hxs, hf⟩ := DataW.trod_struct Tryz.underlying26 h
  rw [show Tryz.prog.cellsOf 26 = 5 by kernel_rfl] at hc
  obtain ⟨c0, c1, c2, c3, c4, rfl⟩ := list5 hc
  have hxl : xs.length = 5 := hxs
  have f0 : DataW.trod enc Tryz.prog w base (fun _ => true) held n 9 (List.take (Tryz.prog.cellsOf 9) (List.drop 0 [c0, c1, c2, c3, c4])) = xs[0]? := hf 0 _ rfl
  obtain ⟨y0, hy0⟩ := get_some (l := xs) (k := 0) (by omega)
  rw [hy0, show Tryz.prog.cellsOf 9 = 1 by kernel_rfl] at f0
  replace f0 : DataW.trod enc Tryz.prog w base (fun _ => true) held n 9 [c0] = some y0 := f0
  have f1 : DataW.trod enc Tryz.prog w base (fun _ => true) held n 3 (List.take (Tryz.prog.cellsOf 3) (List.drop 1 [c0, c1, c2, c3, c4])) = xs[1]? := hf 1 _ rfl
  obtain ⟨y1, hy1⟩ := get_some (l := xs) (k := 1) (by omega)
  rw [hy1, show Tryz.prog.cellsOf 3 = 1 by kernel_rfl] at f1
  replace f1 : DataW.trod enc Tryz.prog w base (fun _ => true) held n 3 [c1] = some y1 := f1
  have f2 : DataW.trod enc Tryz.prog w base (fun _ => true) held n 22 (List.take (Tryz.prog.cellsOf 22) (List.drop 2 [c0, c1, c2, c3, c4])) = xs[2]? := hf 2 _ rfl
  obtain ⟨y2, hy2⟩ := get_some (l := xs) (k := 2) (by omega)
  rw [hy2, show Tryz.prog.cellsOf 22 = 1 by kernel_rfl] at f2
  replace f2 : DataW.trod enc Tryz.prog w base (fun _ => true) held n 22 [c2] = some y2 := f2
  have f3 : DataW.trod enc Tryz.prog w base (fun _ => true) held n 23 (List.take (Tryz.prog.cellsOf 23) (List.drop 3 [c0, c1, c2, c3, c4])) = xs[3]? := hf 3 _ rfl
  obtain ⟨y3, hy3⟩ := get_some (l := xs) (k := 3) (by omega)
  rw [hy3, show Tryz.prog.cellsOf 23 = 1 by kernel_rfl] at f3
  replace f3 : DataW.trod enc Tryz.prog w base (fun _ => true) held n 23 [c3] = some y3 := f3
  have f4 : DataW.trod enc Tryz.prog w base (fun _ => true) held n 24 (List.take (Tryz.prog.cellsOf 24) (List.drop 4 [c0, c1, c2, c3, c4])) = xs[4]? := hf 4 _ rfl
  obtain ⟨y4, hy4⟩ := get_some (l := xs) (k := 4) (by omega)
  rw [hy4, show Tryz.prog.cellsOf 24 = 1 by kernel_rfl] at f4
  replace f4 : DataW.trod enc Tryz.prog w base (fun _ => true) held n 24 [c4] = some y4 := f4
  obtain ⟨d0, e0, _, n_name⟩ := DataW.trod_string Tryz.underlying9 f0; simp only [List.cons.injEq, and_true] at e0; subst e0
  obtain ⟨d1, e1, _, _⟩ := DataW.trod_int Tryz.underlying3 f1; simp only [List.cons.injEq, and_true] at e1; subst e1
  obtain ⟨d2, f_text, v_text, e2, h_text⟩ := opens_slice Tryz.underlying22 (by kernel_rfl) (opens_int Tryz.underlying3) _ _ _ _ _ _ _ _ f2; simp only [List.cons.injEq, and_true] at e2; subst e2
  obtain ⟨d3, f_list, v_list, e3, h_list⟩ := opens_slice Tryz.underlying23 (by kernel_rfl) opens_DEntry _ _ _ _ _ _ _ _ f3; simp only [List.cons.injEq, and_true] at e3; subst e3
  obtain ⟨d4, f_seen, v_seen, e4, h_seen⟩ := opens_slice Tryz.underlying24 (by kernel_rfl) opens_DSeen _ _ _ _ _ _ _ _ f4; simp only [List.cons.injEq, and_true] at e4; subst e4
  exact ⟨⟨d0, d1, d2, d3, d4⟩, _, _, _, _, _, _, _, rfl, n_name, h_text, h_list, h_seen, rfl⟩

theorem opens_DRing : Opens DRing Tryz.prog 138 := by
  intro H enc w base held fuel cs x h
  obtain ⟨xs, n, _, _, hc, hxs, hf⟩ := DataW.trod_struct Tryz.underlying138 h
  rw [show Tryz.prog.cellsOf 138 = 4 by kernel_rfl] at hc
  obtain ⟨c0, c1, c2, c3, rfl⟩ := list4 hc
  have hxl : xs.length = 4 := hxs
  have f0 : DataW.trod enc Tryz.prog w base (fun _ => true) held n 3 (List.take (Tryz.prog.cellsOf 3) (List.drop 0 [c0, c1, c2, c3])) = xs[0]? := hf 0 _ rfl
  obtain ⟨y0, hy0⟩ := get_some (l := xs) (k := 0) (by omega)
  rw [hy0, show Tryz.prog.cellsOf 3 = 1 by kernel_rfl] at f0
  replace f0 : DataW.trod enc Tryz.prog w base (fun _ => true) held n 3 [c0] = some y0 := f0
  have f1 : DataW.trod enc Tryz.prog w base (fun _ => true) held n 3 (List.take (Tryz.prog.cellsOf 3) (List.drop 1 [c0, c1, c2, c3])) = xs[1]? := hf 1 _ rfl
  obtain ⟨y1, hy1⟩ := get_some (l := xs) (k := 1) (by omega)
  rw [hy1, show Tryz.prog.cellsOf 3 = 1 by kernel_rfl] at f1
  replace f1 : DataW.trod enc Tryz.prog w base (fun _ => true) held n 3 [c1] = some y1 := f1
  have f2 : DataW.trod enc Tryz.prog w base (fun _ => true) held n 4 (List.take (Tryz.prog.cellsOf 4) (List.drop 2 [c0, c1, c2, c3])) = xs[2]? := hf 2 _ rfl
  obtain ⟨y2, hy2⟩ := get_some (l := xs) (k := 2) (by omega)
  rw [hy2, show Tryz.prog.cellsOf 4 = 1 by kernel_rfl] at f2
  replace f2 : DataW.trod enc Tryz.prog w base (fun _ => true) held n 4 [c2] = some y2 := f2
  have f3 : DataW.trod enc Tryz.prog w base (fun _ => true) held n 23 (List.take (Tryz.prog.cellsOf 23) (List.drop 3 [c0, c1, c2, c3])) = xs[3]? := hf 3 _ rfl
  obtain ⟨y3, hy3⟩ := get_some (l := xs) (k := 3) (by omega)
  rw [hy3, show Tryz.prog.cellsOf 23 = 1 by kernel_rfl] at f3
  replace f3 : DataW.trod enc Tryz.prog w base (fun _ => true) held n 23 [c3] = some y3 := f3
  obtain ⟨d0, e0, _, _⟩ := DataW.trod_int Tryz.underlying3 f0; simp only [List.cons.injEq, and_true] at e0; subst e0
  obtain ⟨d1, e1, _, _⟩ := DataW.trod_int Tryz.underlying3 f1; simp only [List.cons.injEq, and_true] at e1; subst e1
  obtain ⟨d2, e2, _⟩ := DataW.trod_bool Tryz.underlying4 f2; simp only [List.cons.injEq, and_true] at e2; subst e2
  obtain ⟨d3, f_list, v_list, e3, h_list⟩ := opens_slice Tryz.underlying23 (by kernel_rfl) opens_DEntry _ _ _ _ _ _ _ _ f3; simp only [List.cons.injEq, and_true] at e3; subst e3
  exact ⟨⟨d0, d1, d2, d3⟩, _, _, _, rfl, h_list, rfl⟩

theorem opens_DSub : Opens DSub Tryz.prog 140 := by
  intro H enc w base held fuel cs x h
  obtain ⟨xs, n, _, _, hc, hxs, hf⟩ := DataW.trod_struct Tryz.underlying140 h
  rw [show Tryz.prog.cellsOf 140 = 6 by kernel_rfl] at hc
  obtain ⟨c0, c1, c2, c3, c4, c5, rfl⟩ := list6 hc
  have hxl : xs.length = 3 := hxs
  have f0 : DataW.trod enc Tryz.prog w base (fun _ => true) held n 3 (List.take (Tryz.prog.cellsOf 3) (List.drop 0 [c0, c1, c2, c3, c4, c5])) = xs[0]? := hf 0 _ rfl
  obtain ⟨y0, hy0⟩ := get_some (l := xs) (k := 0) (by omega)
  rw [hy0, show Tryz.prog.cellsOf 3 = 1 by kernel_rfl] at f0
  replace f0 : DataW.trod enc Tryz.prog w base (fun _ => true) held n 3 [c0] = some y0 := f0
  have f1 : DataW.trod enc Tryz.prog w base (fun _ => true) held n 9 (List.take (Tryz.prog.cellsOf 9) (List.drop 1 [c0, c1, c2, c3, c4, c5])) = xs[1]? := hf 1 _ rfl
  obtain ⟨y1, hy1⟩ := get_some (l := xs) (k := 1) (by omega)
  rw [hy1, show Tryz.prog.cellsOf 9 = 1 by kernel_rfl] at f1
  replace f1 : DataW.trod enc Tryz.prog w base (fun _ => true) held n 9 [c1] = some y1 := f1
  have f2 : DataW.trod enc Tryz.prog w base (fun _ => true) held n 138 (List.take (Tryz.prog.cellsOf 138) (List.drop 2 [c0, c1, c2, c3, c4, c5])) = xs[2]? := hf 2 _ rfl
  obtain ⟨y2, hy2⟩ := get_some (l := xs) (k := 2) (by omega)
  rw [hy2, show Tryz.prog.cellsOf 138 = 4 by kernel_rfl] at f2
  replace f2 : DataW.trod enc Tryz.prog w base (fun _ => true) held n 138 [c2, c3, c4, c5] = some y2 := f2
  obtain ⟨d0, e0, _, _⟩ := DataW.trod_int Tryz.underlying3 f0; simp only [List.cons.injEq, and_true] at e0; subst e0
  obtain ⟨d1, e1, _, n_doc⟩ := DataW.trod_string Tryz.underlying9 f1; simp only [List.cons.injEq, and_true] at e1; subst e1
  obtain ⟨d2, f_r, h_r⟩ := opens_DRing _ _ _ _ _ _ _ _ f2
  exact ⟨⟨d0, d1, d2⟩, _, _, _, rfl, n_doc, h_r, rfl⟩

theorem opens_DHub : Opens DHub Tryz.prog 47 := by
  intro H enc w base held fuel cs x h
  obtain ⟨xs, n, _, _, hc, hxs, hf⟩ := DataW.trod_struct Tryz.underlying47 h
  rw [show Tryz.prog.cellsOf 47 = 4 by kernel_rfl] at hc
  obtain ⟨c0, c1, c2, c3, rfl⟩ := list4 hc
  have hxl : xs.length = 4 := hxs
  have f0 : DataW.trod enc Tryz.prog w base (fun _ => true) held n 4 (List.take (Tryz.prog.cellsOf 4) (List.drop 0 [c0, c1, c2, c3])) = xs[0]? := hf 0 _ rfl
  obtain ⟨y0, hy0⟩ := get_some (l := xs) (k := 0) (by omega)
  rw [hy0, show Tryz.prog.cellsOf 4 = 1 by kernel_rfl] at f0
  replace f0 : DataW.trod enc Tryz.prog w base (fun _ => true) held n 4 [c0] = some y0 := f0
  have f1 : DataW.trod enc Tryz.prog w base (fun _ => true) held n 44 (List.take (Tryz.prog.cellsOf 44) (List.drop 1 [c0, c1, c2, c3])) = xs[1]? := hf 1 _ rfl
  obtain ⟨y1, hy1⟩ := get_some (l := xs) (k := 1) (by omega)
  rw [hy1, show Tryz.prog.cellsOf 44 = 1 by kernel_rfl] at f1
  replace f1 : DataW.trod enc Tryz.prog w base (fun _ => true) held n 44 [c1] = some y1 := f1
  have f2 : DataW.trod enc Tryz.prog w base (fun _ => true) held n 45 (List.take (Tryz.prog.cellsOf 45) (List.drop 2 [c0, c1, c2, c3])) = xs[2]? := hf 2 _ rfl
  obtain ⟨y2, hy2⟩ := get_some (l := xs) (k := 2) (by omega)
  rw [hy2, show Tryz.prog.cellsOf 45 = 1 by kernel_rfl] at f2
  replace f2 : DataW.trod enc Tryz.prog w base (fun _ => true) held n 45 [c2] = some y2 := f2
  have f3 : DataW.trod enc Tryz.prog w base (fun _ => true) held n 3 (List.take (Tryz.prog.cellsOf 3) (List.drop 3 [c0, c1, c2, c3])) = xs[3]? := hf 3 _ rfl
  obtain ⟨y3, hy3⟩ := get_some (l := xs) (k := 3) (by omega)
  rw [hy3, show Tryz.prog.cellsOf 3 = 1 by kernel_rfl] at f3
  replace f3 : DataW.trod enc Tryz.prog w base (fun _ => true) held n 3 [c3] = some y3 := f3
  obtain ⟨d0, e0, _⟩ := DataW.trod_bool Tryz.underlying4 f0; simp only [List.cons.injEq, and_true] at e0; subst e0
  obtain ⟨d1, f_docs, v_docs, e1, h_docs⟩ := opens_slice Tryz.underlying44 (by kernel_rfl) opens_DDoc _ _ _ _ _ _ _ _ f1; simp only [List.cons.injEq, and_true] at e1; subst e1
  obtain ⟨d2, f_subs, v_subs, e2, h_subs⟩ := opens_slice Tryz.underlying45 (by kernel_rfl) opens_DSub _ _ _ _ _ _ _ _ f2; simp only [List.cons.injEq, and_true] at e2; subst e2
  obtain ⟨d3, e3, _, _⟩ := DataW.trod_int Tryz.underlying3 f3; simp only [List.cons.injEq, and_true] at e3; subst e3
  exact ⟨⟨d0, d1, d2, d3⟩, _, _, _, _, _, rfl, h_docs, h_subs, rfl⟩






end Go.Proofs.YtbpbeomngflkfaaGreat

