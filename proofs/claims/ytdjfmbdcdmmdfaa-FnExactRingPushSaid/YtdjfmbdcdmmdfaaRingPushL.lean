/- 'laws.FnExactRingPush' answers true for every input, and each argument reads afterwards as before. No conditions. -/
import Derived.Test.YtdjfmbdcdmmdfaaEz
import Derived.Test.YtdjfmbdcdmmdfaaRps
import Derived.Test.YtdjfmbdcdmmdfaaCdr
import Derived.Test.YtdjfmbdcdmmdfaaMk
import Derived.Test.YtdjfmbdcdmmdfaaRo
import Derived.Test.YtdjfmbdcdmmdfaaRows
import Derived.ProofKit
import Derived.OpenShut
import Derived.ChangeMaps5
import Derived.Deep.RegionHeld3
import Derived.Deep.CutRange
namespace Go.Proofs.Ytdjfmbdcdmmdfaa
open Go.ChangeShapes Go.WideShapes Go.ChangeAt Go.RowKit
theorem mem_pre {α : Type} {p : α} {a b c : List α} (h : p ∈ a ++ b) : p ∈ a ++ (b ++ c) := by
  simp only [List.mem_append] at *
  rcases h with h | h <;> simp [h]
theorem mem_pre3 {α : Type} {p : α} {a b c d : List α} (h : p ∈ a ++ (b ++ c)) : p ∈ a ++ (b ++ (c ++ d)) := by
  simp only [List.mem_append] at *
  rcases h with h | h | h <;> simp [h]
set_option maxHeartbeats 16000000 in
theorem walk_FnExactRingPush (x : DRing) (v_x_list : Value) (q : DEntry) (v_q_o : Value) (w : World) (h_x_list : RdSM maxLen w v_x_list x.list) (h_q_o : RdSM maxLen w v_q_o q.o) (y0 : DRing)
    (HS0 : (GoS.sz x : Nat) ≤ 1048576 → (GoS.sz q : Nat) ≤ 1048576 → ∀ (v_x_list v_q_o : Value) (W : World), RdS W v_x_list x.list → RdS W v_q_o q.o → Calls Try.prog 6 #[.agg #[.int .i64 x.cap, .int .i64 x.next, .bool x.out, v_x_list], .agg #[.int .i64 q.client, .int .i64 q.seq, v_q_o]] W (Out_Ring W y0))
    (HI0 : (GoS.sz x : Nat) ≤ 1048576 → (GoS.sz q : Nat) ≤ 1048576 → ∀ (v_x_list v_q_o : Value) (W : World), RdS W v_x_list x.list → RdS W v_q_o q.o → Calls Try.prog 9 #[.agg #[.int .i64 x.cap, .int .i64 x.next, .bool x.out, v_x_list], .agg #[.int .i64 q.client, .int .i64 q.seq, v_q_o]] W (Out_Ring W y0))
    (HC0 : (GoS.sz x : Nat) ≤ 1048576 → (GoS.sz q : Nat) ≤ 1048576 → cntL y0.list ≤ 1099511627776) :
    Calls Try.prog 3 #[.agg #[.int .i64 x.cap, .int .i64 x.next, .bool x.out, v_x_list], .agg #[.int .i64 q.client, .int .i64 q.seq, v_q_o]] w (Tells w (.bool true)) := by
  have HS1 := Lib.hid HS0
  have HI1 := Lib.hid HI0
  clear HS0 HI0
  by_cases cz_x : ((GoS.sz x : Nat) : Int) ≤ 1048576
  rotate_left
  · go_enter Try.func3, Try.ntmps3
    go_wp2_with fail
    refine (szRing_c x _ _ _ (by omega) (by omega)  (h_x_list.below blw2)).mono ?_
    rintro e w1 ⟨rfl, hb1⟩
    have hN : Below (w.heap.size + 2) ((w.alloc (.cells #[.int .i64 x.cap, .int .i64 x.next, .bool x.out, v_x_list] 24)).alloc (.cells #[.int .i64 q.client, .int .i64 q.seq, v_q_o] 27)) w1 := blw2
    have B1 : Below w.heap.size w w1 := blw2
    have s1 : w.heap.size + 2 ≤ w1.heap.size := (by have := hb1.size; (try simp at this); omega)
    have cp0_0 : w1.cell? ⟨w.heap.size, 0, none⟩ = some (.int .i64 x.cap) := by rw [hN.cell (by simp; try omega)]; simp
    have cp0_1 : w1.cell? ⟨w.heap.size, 1, none⟩ = some (.int .i64 x.next) := by rw [hN.cell (by simp; try omega)]; simp
    have cp0_2 : w1.cell? ⟨w.heap.size, 2, none⟩ = some (.bool x.out) := by rw [hN.cell (by simp; try omega)]; simp
    have cp0_3 : w1.cell? ⟨w.heap.size, 3, none⟩ = some (v_x_list) := by rw [hN.cell (by simp; try omega)]; simp
    have cp1_0 : w1.cell? ⟨w.heap.size + 1, 0, none⟩ = some (.int .i64 q.client) := by rw [hN.cell (by simp; try omega)]; simp
    have cp1_1 : w1.cell? ⟨w.heap.size + 1, 1, none⟩ = some (.int .i64 q.seq) := by rw [hN.cell (by simp; try omega)]; simp
    have cp1_2 : w1.cell? ⟨w.heap.size + 1, 2, none⟩ = some (v_q_o) := by rw [hN.cell (by simp; try omega)]; simp
    clear hN
    have z1_p0 : w.heap.size < w1.heap.size := (by omega)
    have z1_p1 : w.heap.size + 1 < w1.heap.size := (by omega)
    clear hb1
    rw [less_neg (by omega)]
    go_wp2
    go_ret
    exact ⟨rfl, blw2⟩
  by_cases cz_q : ((GoS.sz q : Nat) : Int) ≤ 1048576 - ((GoS.sz x : Nat) : Int)
  rotate_left
  · go_enter Try.func3, Try.ntmps3
    go_wp2_with fail
    refine (szRing_c x _ _ _ (by omega) (by omega)  (h_x_list.below blw2)).mono ?_
    rintro e w1 ⟨rfl, hb1⟩
    have hN : Below (w.heap.size + 2) ((w.alloc (.cells #[.int .i64 x.cap, .int .i64 x.next, .bool x.out, v_x_list] 24)).alloc (.cells #[.int .i64 q.client, .int .i64 q.seq, v_q_o] 27)) w1 := blw2
    have B1 : Below w.heap.size w w1 := blw2
    have s1 : w.heap.size + 2 ≤ w1.heap.size := (by have := hb1.size; (try simp at this); omega)
    have cp0_0 : w1.cell? ⟨w.heap.size, 0, none⟩ = some (.int .i64 x.cap) := by rw [hN.cell (by simp; try omega)]; simp
    have cp0_1 : w1.cell? ⟨w.heap.size, 1, none⟩ = some (.int .i64 x.next) := by rw [hN.cell (by simp; try omega)]; simp
    have cp0_2 : w1.cell? ⟨w.heap.size, 2, none⟩ = some (.bool x.out) := by rw [hN.cell (by simp; try omega)]; simp
    have cp0_3 : w1.cell? ⟨w.heap.size, 3, none⟩ = some (v_x_list) := by rw [hN.cell (by simp; try omega)]; simp
    have cp1_0 : w1.cell? ⟨w.heap.size + 1, 0, none⟩ = some (.int .i64 q.client) := by rw [hN.cell (by simp; try omega)]; simp
    have cp1_1 : w1.cell? ⟨w.heap.size + 1, 1, none⟩ = some (.int .i64 q.seq) := by rw [hN.cell (by simp; try omega)]; simp
    have cp1_2 : w1.cell? ⟨w.heap.size + 1, 2, none⟩ = some (v_q_o) := by rw [hN.cell (by simp; try omega)]; simp
    clear hN
    have z1_p0 : w.heap.size < w1.heap.size := (by omega)
    have z1_p1 : w.heap.size + 1 < w1.heap.size := (by omega)
    clear hb1
    rw [less_pos (by omega)]
    go_wp2_with fail
    refine (szEntry_c q _ _ _ (by omega) (by omega)  (h_q_o.below blw2)).mono ?_
    rintro e w2 ⟨rfl, hb2⟩
    have B2 : Below w1.heap.size w1 w2 := blw2
    have s2 : w1.heap.size ≤ w2.heap.size := (by have := hb2.size; (try simp at this); omega)
    have hh := mc7 B2 cp0_0 cp0_1 cp0_2 cp0_3 cp1_0 cp1_1 cp1_2
    clear cp0_0 cp0_1 cp0_2 cp0_3 cp1_0 cp1_1 cp1_2
    obtain ⟨cp0_0, cp0_1, cp0_2, cp0_3, cp1_0, cp1_1, cp1_2⟩ := hh
    have z2_p0 : w.heap.size < w2.heap.size := (by omega)
    have z2_p1 : w.heap.size + 1 < w2.heap.size := (by omega)
    clear hb2
    rw [less_neg (by omega)]
    go_wp2
    go_ret
    exact ⟨rfl, blw2⟩
  have hr_x_list : RdS w v_x_list x.list := let ⟨fp, s⟩ := h_x_list; ⟨fp, s.up (by have : GoS.sz x = szL x.list := rfl; exact le_BIG (by omega))⟩
  have cx_x : cntL x.list ≤ 5 * 1048576 := by have : GoS.sz x = szL x.list := rfl; have := cntL_le x.list; omega
  have hr_q_o : RdS w v_q_o q.o := let ⟨fp, s⟩ := h_q_o; ⟨fp, s.up (by have : GoS.sz q = szL q.o := rfl; exact le_BIG (by omega))⟩
  have cx_q : cntL q.o ≤ 5 * 1048576 := by have : GoS.sz q = szL q.o := rfl; have := cntL_le q.o; omega
  have HS := Lib.hid (HS1.out (by omega) (by omega))
  have HI := Lib.hid (HI1.out (by omega) (by omega))
  clear HS1 HI1
  have hcnt : cntL y0.list ≤ 1099511627776 := HC0 (by omega) (by omega)
  clear HC0
  go_enter Try.func3, Try.ntmps3
  go_wp2_with fail
  refine (szRing_c x _ _ _ (by omega) (by omega)  (h_x_list.below blw2)).mono ?_
  rintro e w1 ⟨rfl, hb1⟩
  have hN : Below (w.heap.size + 2) ((w.alloc (.cells #[.int .i64 x.cap, .int .i64 x.next, .bool x.out, v_x_list] 24)).alloc (.cells #[.int .i64 q.client, .int .i64 q.seq, v_q_o] 27)) w1 := blw2
  have B1 : Below w.heap.size w w1 := blw2
  have s1 : w.heap.size + 2 ≤ w1.heap.size := (by have := hb1.size; (try simp at this); omega)
  have cp0_0 : w1.cell? ⟨w.heap.size, 0, none⟩ = some (.int .i64 x.cap) := by rw [hN.cell (by simp; try omega)]; simp
  have cp0_1 : w1.cell? ⟨w.heap.size, 1, none⟩ = some (.int .i64 x.next) := by rw [hN.cell (by simp; try omega)]; simp
  have cp0_2 : w1.cell? ⟨w.heap.size, 2, none⟩ = some (.bool x.out) := by rw [hN.cell (by simp; try omega)]; simp
  have cp0_3 : w1.cell? ⟨w.heap.size, 3, none⟩ = some (v_x_list) := by rw [hN.cell (by simp; try omega)]; simp
  have cp1_0 : w1.cell? ⟨w.heap.size + 1, 0, none⟩ = some (.int .i64 q.client) := by rw [hN.cell (by simp; try omega)]; simp
  have cp1_1 : w1.cell? ⟨w.heap.size + 1, 1, none⟩ = some (.int .i64 q.seq) := by rw [hN.cell (by simp; try omega)]; simp
  have cp1_2 : w1.cell? ⟨w.heap.size + 1, 2, none⟩ = some (v_q_o) := by rw [hN.cell (by simp; try omega)]; simp
  clear hN
  have z1_p0 : w.heap.size < w1.heap.size := (by omega)
  have z1_p1 : w.heap.size + 1 < w1.heap.size := (by omega)
  clear hb1
  rw [less_pos (by omega)]
  go_wp2_with fail
  refine (szEntry_c q _ _ _ (by omega) (by omega)  (h_q_o.below blw2)).mono ?_
  rintro e w2 ⟨rfl, hb2⟩
  have B2 : Below w1.heap.size w1 w2 := blw2
  have s2 : w1.heap.size ≤ w2.heap.size := (by have := hb2.size; (try simp at this); omega)
  have hh := mc7 B2 cp0_0 cp0_1 cp0_2 cp0_3 cp1_0 cp1_1 cp1_2
  clear cp0_0 cp0_1 cp0_2 cp0_3 cp1_0 cp1_1 cp1_2
  obtain ⟨cp0_0, cp0_1, cp0_2, cp0_3, cp1_0, cp1_1, cp1_2⟩ := hh
  have z2_p0 : w.heap.size < w2.heap.size := (by omega)
  have z2_p1 : w.heap.size + 1 < w2.heap.size := (by omega)
  clear hb2
  rw [less_pos (by omega)]
  go_wp2_with fail
  go_cut [6] from 24 to 28 (fun z0 wx => ∃ (b_0 : Nat) (a_0_list : Option Addr) (c_0_list : Nat) (f_0_list : List Pos), z0 = .pointer (some ⟨b_0, 0, none⟩) ∧ b_0 < wx.heap.size ∧ wx.cell? ⟨b_0, 0, none⟩ = some (.int .i64 y0.cap) ∧ wx.cell? ⟨b_0, 1, none⟩ = some (.int .i64 y0.next) ∧ wx.cell? ⟨b_0, 2, none⟩ = some (.bool y0.out) ∧ wx.cell? ⟨b_0, 3, none⟩ = some (.slice a_0_list y0.list.length c_0_list) ∧ Sl BIG wx (.slice a_0_list y0.list.length c_0_list) y0.list f_0_list ∧ Below w2.heap.size w2 wx)
  case first =>
    go_region_held3 (fun w' => w'.cell? ⟨w.heap.size, 0, none⟩ = some (.int .i64 x.cap) ∧ w'.cell? ⟨w.heap.size, 1, none⟩ = some (.int .i64 x.next) ∧ w'.cell? ⟨w.heap.size, 2, none⟩ = some (.bool x.out) ∧ w'.cell? ⟨w.heap.size, 3, none⟩ = some (v_x_list) ∧ w'.cell? ⟨w.heap.size + 1, 0, none⟩ = some (.int .i64 q.client) ∧ w'.cell? ⟨w.heap.size + 1, 1, none⟩ = some (.int .i64 q.seq) ∧ w'.cell? ⟨w.heap.size + 1, 2, none⟩ = some (v_q_o)) (first | go_keep | (simp [go_sem, cell_setCell, *]; done))
      (first | (go_at_call 7; refine (toRing_c x _ _  (hr_x_list.below blw2)).mono ?_; rintro e wA ⟨_, rfl, ⟨fA_list, hoA, FRA⟩, hbA⟩; obtain ⟨vA_list, fA_list', rfl, SA_list, rfl⟩ := hoA; obtain ⟨aA_list, cA_list, rfl⟩ := RdS.isSlice ⟨_, SA_list⟩; have szA := hbA.size; (try simp at szA); have BBA : Below w2.heap.size w2 wA := (show Below w2.heap.size w2 _ from blw2).trans (hbA.mono om); have swA := BBA.size; (try (have BBA : Below wB.heap.size wB wA := (show Below wB.heap.size wB _ from blw2).trans (hbA.mono om))); (try (have sBA := BBA.size)); have neA0 : ¬ (w.heap.size = wA.heap.size) := (by omega); have nfA0 : ¬ (w.heap.size = w2.heap.size) := (by omega); have neA1 : ¬ (w.heap.size + 1 = wA.heap.size) := (by omega); have nfA1 : ¬ (w.heap.size + 1 = w2.heap.size) := (by omega); have yA0 : wA.cell? ⟨w.heap.size, 0, none⟩ = some (.int .i64 x.cap) := (hbA.cell (p := ⟨w.heap.size, 0, none⟩) (by first | (simp; omega) | omega)).trans (by first | exact cp0_0 | (simp [go_sem, *]; done)); have yA1 : wA.cell? ⟨w.heap.size, 1, none⟩ = some (.int .i64 x.next) := (hbA.cell (p := ⟨w.heap.size, 1, none⟩) (by first | (simp; omega) | omega)).trans (by first | exact cp0_1 | (simp [go_sem, *]; done)); have yA2 : wA.cell? ⟨w.heap.size, 2, none⟩ = some (.bool x.out) := (hbA.cell (p := ⟨w.heap.size, 2, none⟩) (by first | (simp; omega) | omega)).trans (by first | exact cp0_2 | (simp [go_sem, *]; done)); have yA3 : wA.cell? ⟨w.heap.size, 3, none⟩ = some (v_x_list) := (hbA.cell (p := ⟨w.heap.size, 3, none⟩) (by first | (simp; omega) | omega)).trans (by first | exact cp0_3 | (simp [go_sem, *]; done)); have yA4 : wA.cell? ⟨w.heap.size + 1, 0, none⟩ = some (.int .i64 q.client) := (hbA.cell (p := ⟨w.heap.size + 1, 0, none⟩) (by first | (simp; omega) | omega)).trans (by first | exact cp1_0 | (simp [go_sem, *]; done)); have yA5 : wA.cell? ⟨w.heap.size + 1, 1, none⟩ = some (.int .i64 q.seq) := (hbA.cell (p := ⟨w.heap.size + 1, 1, none⟩) (by first | (simp; omega) | omega)).trans (by first | exact cp1_1 | (simp [go_sem, *]; done)); have yA6 : wA.cell? ⟨w.heap.size + 1, 2, none⟩ = some (v_q_o) := (hbA.cell (p := ⟨w.heap.size + 1, 2, none⟩) (by first | (simp; omega) | omega)).trans (by first | exact cp1_2 | (simp [go_sem, *]; done)); (try (have nbAc_0 : wA.cell? ⟨w2.heap.size, 0, none⟩ = some (.int .i64 0) := (hbA.cell (p := ⟨w2.heap.size, 0, none⟩) (by first | (simp; done) | (simp; omega) | omega)).trans (by first | exact nbAc_0 | exact nbBc_0 | (simp [go_sem]; done)))); (try (have ngAc_0 : wA.frozen? ⟨w2.heap.size, 0, none⟩ = false := (hbA.frozen (p := ⟨w2.heap.size, 0, none⟩) (by first | (simp; done) | (simp; omega) | omega)).trans (by first | exact ngAc_0 | exact ngBc_0 | (simp [go_sem]; done)))); (try (have nbAc_1 : wA.cell? ⟨w2.heap.size, 1, none⟩ = some (.int .i64 0) := (hbA.cell (p := ⟨w2.heap.size, 1, none⟩) (by first | (simp; done) | (simp; omega) | omega)).trans (by first | exact nbAc_1 | exact nbBc_1 | (simp [go_sem]; done)))); (try (have ngAc_1 : wA.frozen? ⟨w2.heap.size, 1, none⟩ = false := (hbA.frozen (p := ⟨w2.heap.size, 1, none⟩) (by first | (simp; done) | (simp; omega) | omega)).trans (by first | exact ngAc_1 | exact ngBc_1 | (simp [go_sem]; done)))); (try (have nbAc_2 : wA.cell? ⟨w2.heap.size, 2, none⟩ = some (.bool false) := (hbA.cell (p := ⟨w2.heap.size, 2, none⟩) (by first | (simp; done) | (simp; omega) | omega)).trans (by first | exact nbAc_2 | exact nbBc_2 | (simp [go_sem]; done)))); (try (have ngAc_2 : wA.frozen? ⟨w2.heap.size, 2, none⟩ = false := (hbA.frozen (p := ⟨w2.heap.size, 2, none⟩) (by first | (simp; done) | (simp; omega) | omega)).trans (by first | exact ngAc_2 | exact ngBc_2 | (simp [go_sem]; done)))); (try (have nbAc_3 : wA.cell? ⟨w2.heap.size, 3, none⟩ = some (.slice none 0 0) := (hbA.cell (p := ⟨w2.heap.size, 3, none⟩) (by first | (simp; done) | (simp; omega) | omega)).trans (by first | exact nbAc_3 | exact nbBc_3 | (simp [go_sem]; done)))); (try (have ngAc_3 : wA.frozen? ⟨w2.heap.size, 3, none⟩ = false := (hbA.frozen (p := ⟨w2.heap.size, 3, none⟩) (by first | (simp; done) | (simp; omega) | omega)).trans (by first | exact ngAc_3 | exact ngBc_3 | (simp [go_sem]; done)))); clear hbA) | (go_at_call 8; refine (toEntry_c q _ _  (hr_q_o.below blw2)).mono ?_; rintro e wB ⟨_, rfl, ⟨fB_o, hoB, FRB⟩, hbB⟩; obtain ⟨vB_o, fB_o', rfl, SB_o, rfl⟩ := hoB; obtain ⟨aB_o, cB_o, rfl⟩ := RdS.isSlice ⟨_, SB_o⟩; have szB := hbB.size; (try simp at szB); have BBB : Below w2.heap.size w2 wB := (show Below w2.heap.size w2 _ from blw2).trans (hbB.mono om); have swB := BBB.size; (try (have BAB : Below wA.heap.size wA wB := (show Below wA.heap.size wA _ from blw2).trans (hbB.mono om))); (try (have sAB := BAB.size)); have neB0 : ¬ (w.heap.size = wB.heap.size) := (by omega); have nfB0 : ¬ (w.heap.size = w2.heap.size) := (by omega); have neB1 : ¬ (w.heap.size + 1 = wB.heap.size) := (by omega); have nfB1 : ¬ (w.heap.size + 1 = w2.heap.size) := (by omega); have yB0 : wB.cell? ⟨w.heap.size, 0, none⟩ = some (.int .i64 x.cap) := (hbB.cell (p := ⟨w.heap.size, 0, none⟩) (by first | (simp; omega) | omega)).trans (by first | exact yA0 | (simp [go_sem, *]; done)); have yB1 : wB.cell? ⟨w.heap.size, 1, none⟩ = some (.int .i64 x.next) := (hbB.cell (p := ⟨w.heap.size, 1, none⟩) (by first | (simp; omega) | omega)).trans (by first | exact yA1 | (simp [go_sem, *]; done)); have yB2 : wB.cell? ⟨w.heap.size, 2, none⟩ = some (.bool x.out) := (hbB.cell (p := ⟨w.heap.size, 2, none⟩) (by first | (simp; omega) | omega)).trans (by first | exact yA2 | (simp [go_sem, *]; done)); have yB3 : wB.cell? ⟨w.heap.size, 3, none⟩ = some (v_x_list) := (hbB.cell (p := ⟨w.heap.size, 3, none⟩) (by first | (simp; omega) | omega)).trans (by first | exact yA3 | (simp [go_sem, *]; done)); have yB4 : wB.cell? ⟨w.heap.size + 1, 0, none⟩ = some (.int .i64 q.client) := (hbB.cell (p := ⟨w.heap.size + 1, 0, none⟩) (by first | (simp; omega) | omega)).trans (by first | exact yA4 | (simp [go_sem, *]; done)); have yB5 : wB.cell? ⟨w.heap.size + 1, 1, none⟩ = some (.int .i64 q.seq) := (hbB.cell (p := ⟨w.heap.size + 1, 1, none⟩) (by first | (simp; omega) | omega)).trans (by first | exact yA5 | (simp [go_sem, *]; done)); have yB6 : wB.cell? ⟨w.heap.size + 1, 2, none⟩ = some (v_q_o) := (hbB.cell (p := ⟨w.heap.size + 1, 2, none⟩) (by first | (simp; omega) | omega)).trans (by first | exact yA6 | (simp [go_sem, *]; done)); (try (have nbBc_0 : wB.cell? ⟨w2.heap.size, 0, none⟩ = some (.int .i64 0) := (hbB.cell (p := ⟨w2.heap.size, 0, none⟩) (by first | (simp; done) | (simp; omega) | omega)).trans (by first | exact nbAc_0 | exact nbBc_0 | (simp [go_sem]; done)))); (try (have ngBc_0 : wB.frozen? ⟨w2.heap.size, 0, none⟩ = false := (hbB.frozen (p := ⟨w2.heap.size, 0, none⟩) (by first | (simp; done) | (simp; omega) | omega)).trans (by first | exact ngAc_0 | exact ngBc_0 | (simp [go_sem]; done)))); (try (have nbBc_1 : wB.cell? ⟨w2.heap.size, 1, none⟩ = some (.int .i64 0) := (hbB.cell (p := ⟨w2.heap.size, 1, none⟩) (by first | (simp; done) | (simp; omega) | omega)).trans (by first | exact nbAc_1 | exact nbBc_1 | (simp [go_sem]; done)))); (try (have ngBc_1 : wB.frozen? ⟨w2.heap.size, 1, none⟩ = false := (hbB.frozen (p := ⟨w2.heap.size, 1, none⟩) (by first | (simp; done) | (simp; omega) | omega)).trans (by first | exact ngAc_1 | exact ngBc_1 | (simp [go_sem]; done)))); (try (have nbBc_2 : wB.cell? ⟨w2.heap.size, 2, none⟩ = some (.bool false) := (hbB.cell (p := ⟨w2.heap.size, 2, none⟩) (by first | (simp; done) | (simp; omega) | omega)).trans (by first | exact nbAc_2 | exact nbBc_2 | (simp [go_sem]; done)))); (try (have ngBc_2 : wB.frozen? ⟨w2.heap.size, 2, none⟩ = false := (hbB.frozen (p := ⟨w2.heap.size, 2, none⟩) (by first | (simp; done) | (simp; omega) | omega)).trans (by first | exact ngAc_2 | exact ngBc_2 | (simp [go_sem]; done)))); (try (have nbBc_3 : wB.cell? ⟨w2.heap.size, 3, none⟩ = some (.slice none 0 0) := (hbB.cell (p := ⟨w2.heap.size, 3, none⟩) (by first | (simp; done) | (simp; omega) | omega)).trans (by first | exact nbAc_3 | exact nbBc_3 | (simp [go_sem]; done)))); (try (have ngBc_3 : wB.frozen? ⟨w2.heap.size, 3, none⟩ = false := (hbB.frozen (p := ⟨w2.heap.size, 3, none⟩) (by first | (simp; done) | (simp; omega) | omega)).trans (by first | exact ngAc_3 | exact ngBc_3 | (simp [go_sem]; done)))); (try (have nbBA_0 : wB.cell? ⟨wA.heap.size, 0, none⟩ = some (.int .i64 0) := (hbB.cell (p := ⟨wA.heap.size, 0, none⟩) (by first | (simp; done) | (simp; omega) | omega)).trans (by first | exact nbAA_0 | exact nbBA_0 | (simp [go_sem]; done)))); (try (have ngBA_0 : wB.frozen? ⟨wA.heap.size, 0, none⟩ = false := (hbB.frozen (p := ⟨wA.heap.size, 0, none⟩) (by first | (simp; done) | (simp; omega) | omega)).trans (by first | exact ngAA_0 | exact ngBA_0 | (simp [go_sem]; done)))); (try (have nbBA_1 : wB.cell? ⟨wA.heap.size, 1, none⟩ = some (.int .i64 0) := (hbB.cell (p := ⟨wA.heap.size, 1, none⟩) (by first | (simp; done) | (simp; omega) | omega)).trans (by first | exact nbAA_1 | exact nbBA_1 | (simp [go_sem]; done)))); (try (have ngBA_1 : wB.frozen? ⟨wA.heap.size, 1, none⟩ = false := (hbB.frozen (p := ⟨wA.heap.size, 1, none⟩) (by first | (simp; done) | (simp; omega) | omega)).trans (by first | exact ngAA_1 | exact ngBA_1 | (simp [go_sem]; done)))); (try (have nbBA_2 : wB.cell? ⟨wA.heap.size, 2, none⟩ = some (.bool false) := (hbB.cell (p := ⟨wA.heap.size, 2, none⟩) (by first | (simp; done) | (simp; omega) | omega)).trans (by first | exact nbAA_2 | exact nbBA_2 | (simp [go_sem]; done)))); (try (have ngBA_2 : wB.frozen? ⟨wA.heap.size, 2, none⟩ = false := (hbB.frozen (p := ⟨wA.heap.size, 2, none⟩) (by first | (simp; done) | (simp; omega) | omega)).trans (by first | exact ngAA_2 | exact ngBA_2 | (simp [go_sem]; done)))); (try (have nbBA_3 : wB.cell? ⟨wA.heap.size, 3, none⟩ = some (.slice none 0 0) := (hbB.cell (p := ⟨wA.heap.size, 3, none⟩) (by first | (simp; done) | (simp; omega) | omega)).trans (by first | exact nbAA_3 | exact nbBA_3 | (simp [go_sem]; done)))); (try (have ngBA_3 : wB.frozen? ⟨wA.heap.size, 3, none⟩ = false := (hbB.frozen (p := ⟨wA.heap.size, 3, none⟩) (by first | (simp; done) | (simp; omega) | omega)).trans (by first | exact ngAA_3 | exact ngBA_3 | (simp [go_sem]; done)))); clear hbB) | (go_at_call 6; refine (HS.out _ _ _ (RdS.below (⟨_, SA_list⟩ : RdS wA _ _) blw2) (RdS.below (⟨_, SB_o⟩ : RdS wB _ _) blw2)).mono ?_; rintro e wC ⟨vC_0_list, fC_0_list, rfl, SC_0_list, FRC, hbC⟩; obtain ⟨aC_0_list, cC_0_list, rfl⟩ := RdS.isSlice ⟨_, SC_0_list⟩; have szC := hbC.size; (try simp at szC); have BBC : Below w2.heap.size w2 wC := (show Below w2.heap.size w2 _ from blw2).trans (hbC.mono om); have swC := BBC.size; (try (have BAC : Below wA.heap.size wA wC := (show Below wA.heap.size wA _ from blw2).trans (hbC.mono om))); have neC0 : ¬ (w.heap.size = wC.heap.size) := (by omega); have nfC0 : ¬ (w.heap.size = w2.heap.size) := (by omega); have neC1 : ¬ (w.heap.size + 1 = wC.heap.size) := (by omega); have nfC1 : ¬ (w.heap.size + 1 = w2.heap.size) := (by omega); have yC0 : wC.cell? ⟨w.heap.size, 0, none⟩ = some (.int .i64 x.cap) := (hbC.cell (p := ⟨w.heap.size, 0, none⟩) (by first | (simp; omega) | omega)).trans (by first | exact yB0 | (simp [go_sem, *]; done)); have yC1 : wC.cell? ⟨w.heap.size, 1, none⟩ = some (.int .i64 x.next) := (hbC.cell (p := ⟨w.heap.size, 1, none⟩) (by first | (simp; omega) | omega)).trans (by first | exact yB1 | (simp [go_sem, *]; done)); have yC2 : wC.cell? ⟨w.heap.size, 2, none⟩ = some (.bool x.out) := (hbC.cell (p := ⟨w.heap.size, 2, none⟩) (by first | (simp; omega) | omega)).trans (by first | exact yB2 | (simp [go_sem, *]; done)); have yC3 : wC.cell? ⟨w.heap.size, 3, none⟩ = some (v_x_list) := (hbC.cell (p := ⟨w.heap.size, 3, none⟩) (by first | (simp; omega) | omega)).trans (by first | exact yB3 | (simp [go_sem, *]; done)); have yC4 : wC.cell? ⟨w.heap.size + 1, 0, none⟩ = some (.int .i64 q.client) := (hbC.cell (p := ⟨w.heap.size + 1, 0, none⟩) (by first | (simp; omega) | omega)).trans (by first | exact yB4 | (simp [go_sem, *]; done)); have yC5 : wC.cell? ⟨w.heap.size + 1, 1, none⟩ = some (.int .i64 q.seq) := (hbC.cell (p := ⟨w.heap.size + 1, 1, none⟩) (by first | (simp; omega) | omega)).trans (by first | exact yB5 | (simp [go_sem, *]; done)); have yC6 : wC.cell? ⟨w.heap.size + 1, 2, none⟩ = some (v_q_o) := (hbC.cell (p := ⟨w.heap.size + 1, 2, none⟩) (by first | (simp; omega) | omega)).trans (by first | exact yB6 | (simp [go_sem, *]; done)); (try (have nbCc_0 : wC.cell? ⟨w2.heap.size, 0, none⟩ = some (.int .i64 0) := (hbC.cell (p := ⟨w2.heap.size, 0, none⟩) (by first | (simp; done) | (simp; omega) | omega)).trans (by first | exact nbAc_0 | exact nbBc_0 | (simp [go_sem]; done)))); (try (have ngCc_0 : wC.frozen? ⟨w2.heap.size, 0, none⟩ = false := (hbC.frozen (p := ⟨w2.heap.size, 0, none⟩) (by first | (simp; done) | (simp; omega) | omega)).trans (by first | exact ngAc_0 | exact ngBc_0 | (simp [go_sem]; done)))); (try (have nbCc_1 : wC.cell? ⟨w2.heap.size, 1, none⟩ = some (.int .i64 0) := (hbC.cell (p := ⟨w2.heap.size, 1, none⟩) (by first | (simp; done) | (simp; omega) | omega)).trans (by first | exact nbAc_1 | exact nbBc_1 | (simp [go_sem]; done)))); (try (have ngCc_1 : wC.frozen? ⟨w2.heap.size, 1, none⟩ = false := (hbC.frozen (p := ⟨w2.heap.size, 1, none⟩) (by first | (simp; done) | (simp; omega) | omega)).trans (by first | exact ngAc_1 | exact ngBc_1 | (simp [go_sem]; done)))); (try (have nbCc_2 : wC.cell? ⟨w2.heap.size, 2, none⟩ = some (.bool false) := (hbC.cell (p := ⟨w2.heap.size, 2, none⟩) (by first | (simp; done) | (simp; omega) | omega)).trans (by first | exact nbAc_2 | exact nbBc_2 | (simp [go_sem]; done)))); (try (have ngCc_2 : wC.frozen? ⟨w2.heap.size, 2, none⟩ = false := (hbC.frozen (p := ⟨w2.heap.size, 2, none⟩) (by first | (simp; done) | (simp; omega) | omega)).trans (by first | exact ngAc_2 | exact ngBc_2 | (simp [go_sem]; done)))); (try (have nbCc_3 : wC.cell? ⟨w2.heap.size, 3, none⟩ = some (.slice none 0 0) := (hbC.cell (p := ⟨w2.heap.size, 3, none⟩) (by first | (simp; done) | (simp; omega) | omega)).trans (by first | exact nbAc_3 | exact nbBc_3 | (simp [go_sem]; done)))); (try (have ngCc_3 : wC.frozen? ⟨w2.heap.size, 3, none⟩ = false := (hbC.frozen (p := ⟨w2.heap.size, 3, none⟩) (by first | (simp; done) | (simp; omega) | omega)).trans (by first | exact ngAc_3 | exact ngBc_3 | (simp [go_sem]; done)))); (try (have nbCA_0 : wC.cell? ⟨wA.heap.size, 0, none⟩ = some (.int .i64 0) := (hbC.cell (p := ⟨wA.heap.size, 0, none⟩) (by first | (simp; done) | (simp; omega) | omega)).trans (by first | exact nbAA_0 | exact nbBA_0 | (simp [go_sem]; done)))); (try (have ngCA_0 : wC.frozen? ⟨wA.heap.size, 0, none⟩ = false := (hbC.frozen (p := ⟨wA.heap.size, 0, none⟩) (by first | (simp; done) | (simp; omega) | omega)).trans (by first | exact ngAA_0 | exact ngBA_0 | (simp [go_sem]; done)))); (try (have nbCA_1 : wC.cell? ⟨wA.heap.size, 1, none⟩ = some (.int .i64 0) := (hbC.cell (p := ⟨wA.heap.size, 1, none⟩) (by first | (simp; done) | (simp; omega) | omega)).trans (by first | exact nbAA_1 | exact nbBA_1 | (simp [go_sem]; done)))); (try (have ngCA_1 : wC.frozen? ⟨wA.heap.size, 1, none⟩ = false := (hbC.frozen (p := ⟨wA.heap.size, 1, none⟩) (by first | (simp; done) | (simp; omega) | omega)).trans (by first | exact ngAA_1 | exact ngBA_1 | (simp [go_sem]; done)))); (try (have nbCA_2 : wC.cell? ⟨wA.heap.size, 2, none⟩ = some (.bool false) := (hbC.cell (p := ⟨wA.heap.size, 2, none⟩) (by first | (simp; done) | (simp; omega) | omega)).trans (by first | exact nbAA_2 | exact nbBA_2 | (simp [go_sem]; done)))); (try (have ngCA_2 : wC.frozen? ⟨wA.heap.size, 2, none⟩ = false := (hbC.frozen (p := ⟨wA.heap.size, 2, none⟩) (by first | (simp; done) | (simp; omega) | omega)).trans (by first | exact ngAA_2 | exact ngBA_2 | (simp [go_sem]; done)))); (try (have nbCA_3 : wC.cell? ⟨wA.heap.size, 3, none⟩ = some (.slice none 0 0) := (hbC.cell (p := ⟨wA.heap.size, 3, none⟩) (by first | (simp; done) | (simp; omega) | omega)).trans (by first | exact nbAA_3 | exact nbBA_3 | (simp [go_sem]; done)))); (try (have ngCA_3 : wC.frozen? ⟨wA.heap.size, 3, none⟩ = false := (hbC.frozen (p := ⟨wA.heap.size, 3, none⟩) (by first | (simp; done) | (simp; omega) | omega)).trans (by first | exact ngAA_3 | exact ngBA_3 | (simp [go_sem]; done)))); (try (have nbCB_0 : wC.cell? ⟨wB.heap.size, 0, none⟩ = some (.int .i64 0) := (hbC.cell (p := ⟨wB.heap.size, 0, none⟩) (by first | (simp; done) | (simp; omega) | omega)).trans (by first | exact nbAB_0 | exact nbBB_0 | (simp [go_sem]; done)))); (try (have ngCB_0 : wC.frozen? ⟨wB.heap.size, 0, none⟩ = false := (hbC.frozen (p := ⟨wB.heap.size, 0, none⟩) (by first | (simp; done) | (simp; omega) | omega)).trans (by first | exact ngAB_0 | exact ngBB_0 | (simp [go_sem]; done)))); (try (have nbCB_1 : wC.cell? ⟨wB.heap.size, 1, none⟩ = some (.int .i64 0) := (hbC.cell (p := ⟨wB.heap.size, 1, none⟩) (by first | (simp; done) | (simp; omega) | omega)).trans (by first | exact nbAB_1 | exact nbBB_1 | (simp [go_sem]; done)))); (try (have ngCB_1 : wC.frozen? ⟨wB.heap.size, 1, none⟩ = false := (hbC.frozen (p := ⟨wB.heap.size, 1, none⟩) (by first | (simp; done) | (simp; omega) | omega)).trans (by first | exact ngAB_1 | exact ngBB_1 | (simp [go_sem]; done)))); (try (have nbCB_2 : wC.cell? ⟨wB.heap.size, 2, none⟩ = some (.bool false) := (hbC.cell (p := ⟨wB.heap.size, 2, none⟩) (by first | (simp; done) | (simp; omega) | omega)).trans (by first | exact nbAB_2 | exact nbBB_2 | (simp [go_sem]; done)))); (try (have ngCB_2 : wC.frozen? ⟨wB.heap.size, 2, none⟩ = false := (hbC.frozen (p := ⟨wB.heap.size, 2, none⟩) (by first | (simp; done) | (simp; omega) | omega)).trans (by first | exact ngAB_2 | exact ngBB_2 | (simp [go_sem]; done)))); (try (have nbCB_3 : wC.cell? ⟨wB.heap.size, 3, none⟩ = some (.slice none 0 0) := (hbC.cell (p := ⟨wB.heap.size, 3, none⟩) (by first | (simp; done) | (simp; omega) | omega)).trans (by first | exact nbAB_3 | exact nbBB_3 | (simp [go_sem]; done)))); (try (have ngCB_3 : wC.frozen? ⟨wB.heap.size, 3, none⟩ = false := (hbC.frozen (p := ⟨wB.heap.size, 3, none⟩) (by first | (simp; done) | (simp; omega) | omega)).trans (by first | exact ngAB_3 | exact ngBB_3 | (simp [go_sem]; done)))); have HBC := Lib.hid hbC; have HFRC := Lib.hid FRC; clear hbC FRC))
    all_goals
      go_wp2_with fail
      go_meet
      refine ⟨_, aC_0_list, cC_0_list, fC_0_list, rfl, ?_, ?_, ?_, ?_, ?_, ?_, ?_⟩
      · first | omega | (simp; done) | (simp; omega)
      · simp [go_sem, cell_setCell, *]
      · simp [go_sem, cell_setCell, *]
      · simp [go_sem, cell_setCell, *]
      · simp [go_sem, cell_setCell, *]
      · exact (by repeat' (first | (with_reducible exact SC_0_list) | (with_reducible refine Sl.drewS ?_) | (with_reducible refine Sl.allocS ?_ _) | (with_reducible refine Sl.putS ?_ ?_ _) | exact fun hm => by have q1 := HFRC.out.ge _ (by first | exact hm | (simp only [List.mem_append]; simp [hm])); (try simp at q1); omega))
      · exact blw2
  case rest =>
  obtain ⟨w3, rfl⟩ : ∃ wq : World, wq = wc := ⟨_, rfl⟩
  obtain ⟨b3_0, a3_0_list, c3_0_list, f3_0_list, rfl, zb3_0, cW0_0, cW0_1, cW0_2, cW0_3, S3_0_list, hb3⟩ := hcut
  have UB3 : ∀ p ∈ f3_0_list, p.1 < w3.heap.size := Live.lt (S3_0_list.live)
  have K3 : Kept f3_0_list w3 w3 := Kept.refl _ _
  have B3 : Below w2.heap.size w2 w3 := blw2
  have s3 : w2.heap.size ≤ w3.heap.size := (by have := hb3.size; (try simp at this); omega)
  have hh := mc7 B3 cp0_0 cp0_1 cp0_2 cp0_3 cp1_0 cp1_1 cp1_2
  clear cp0_0 cp0_1 cp0_2 cp0_3 cp1_0 cp1_1 cp1_2
  obtain ⟨cp0_0, cp0_1, cp0_2, cp0_3, cp1_0, cp1_1, cp1_2⟩ := hh
  have z3_p0 : w.heap.size < w3.heap.size := (by omega)
  have z3_p1 : w.heap.size + 1 < w3.heap.size := (by omega)
  clear hb3
  have z3_W0 : b3_0 < w3.heap.size := zb3_0
  go_wp2_with fail
  refine (toRing_c x _ _  (hr_x_list.below blw2)).mono ?_
  rintro e w4 ⟨_, rfl, ⟨f4_list, ho4, FR4⟩, hb4⟩
  obtain ⟨v4_list, f4_list', rfl, S4_list, rfl⟩ := ho4
  obtain ⟨a4_list, c4_list, rfl⟩ := RdS.isSlice ⟨_, S4_list⟩
  have UB4 : ∀ p ∈ f4_list, p.1 < w4.heap.size := Live.lt (S4_list.live)
  replace FR4 : Fresh (w3.heap.size) w4 f4_list := FR4.mono (by first | exact Nat.le_refl _ | (simp; done) | (simp; omega))
  have K4 : Kept f4_list w4 w4 := Kept.refl _ _
  have B4 : Below w3.heap.size w3 w4 := blw2
  have s4 : w3.heap.size ≤ w4.heap.size := (by have := hb4.size; (try simp at this); omega)
  have hh := mc8 B4 cp0_0 cp0_1 cp0_2 cp0_3 cp1_0 cp1_1 cp1_2 cW0_0
  clear cp0_0 cp0_1 cp0_2 cp0_3 cp1_0 cp1_1 cp1_2 cW0_0
  obtain ⟨cp0_0, cp0_1, cp0_2, cp0_3, cp1_0, cp1_1, cp1_2, cW0_0⟩ := hh
  have hh := mc3 B4 cW0_1 cW0_2 cW0_3
  clear cW0_1 cW0_2 cW0_3
  obtain ⟨cW0_1, cW0_2, cW0_3⟩ := hh
  replace K3 : Kept f3_0_list w3 w4 := K3.below B4 (fun p hp => Nat.lt_of_lt_of_le (UB3 p hp) (by omega))
  have z4_p0 : w.heap.size < w4.heap.size := (by omega)
  have z4_p1 : w.heap.size + 1 < w4.heap.size := (by omega)
  have z4_W0 : b3_0 < w4.heap.size := (by omega)
  clear hb4
  go_wp2_with fail
  refine (toEntry_c q _ _  (hr_q_o.below blw2)).mono ?_
  rintro e w5 ⟨_, rfl, ⟨f5_o, ho5, FR5⟩, hb5⟩
  obtain ⟨v5_o, f5_o', rfl, S5_o, rfl⟩ := ho5
  obtain ⟨a5_o, c5_o, rfl⟩ := RdS.isSlice ⟨_, S5_o⟩
  have UB5 : ∀ p ∈ f5_o, p.1 < w5.heap.size := Live.lt (S5_o.live)
  replace FR5 : Fresh (w4.heap.size + 1) w5 f5_o := FR5.mono (by first | exact Nat.le_refl _ | (simp; done) | (simp; omega))
  have K5 : Kept f5_o w5 w5 := Kept.refl _ _
  have hN : Below (w4.heap.size + 1) (w4.alloc (.cells #[.int .i64 x.cap, .int .i64 x.next, .bool x.out, .slice a4_list x.list.length c4_list] 32)) w5 := blw2
  have B5 : Below w4.heap.size w4 w5 := blw2
  have s5 : w4.heap.size + 1 ≤ w5.heap.size := (by have := hb5.size; (try simp at this); omega)
  have hh := mc8 B5 cp0_0 cp0_1 cp0_2 cp0_3 cp1_0 cp1_1 cp1_2 cW0_0
  clear cp0_0 cp0_1 cp0_2 cp0_3 cp1_0 cp1_1 cp1_2 cW0_0
  obtain ⟨cp0_0, cp0_1, cp0_2, cp0_3, cp1_0, cp1_1, cp1_2, cW0_0⟩ := hh
  have hh := mc3 B5 cW0_1 cW0_2 cW0_3
  clear cW0_1 cW0_2 cW0_3
  obtain ⟨cW0_1, cW0_2, cW0_3⟩ := hh
  have cxx_0 : w5.cell? ⟨w4.heap.size, 0, none⟩ = some (.int .i64 x.cap) := by rw [hN.cell (by simp; try omega)]; simp
  have cxx_1 : w5.cell? ⟨w4.heap.size, 1, none⟩ = some (.int .i64 x.next) := by rw [hN.cell (by simp; try omega)]; simp
  have cxx_2 : w5.cell? ⟨w4.heap.size, 2, none⟩ = some (.bool x.out) := by rw [hN.cell (by simp; try omega)]; simp
  have cxx_3 : w5.cell? ⟨w4.heap.size, 3, none⟩ = some (.slice a4_list x.list.length c4_list) := by rw [hN.cell (by simp; try omega)]; simp
  clear hN
  replace K3 : Kept f3_0_list w3 w5 := K3.below B5 (fun p hp => Nat.lt_of_lt_of_le (UB3 p hp) (by omega))
  replace K4 : Kept f4_list w4 w5 := K4.below B5 (fun p hp => Nat.lt_of_lt_of_le (UB4 p hp) (by omega))
  have z5_p0 : w.heap.size < w5.heap.size := (by omega)
  have z5_p1 : w.heap.size + 1 < w5.heap.size := (by omega)
  have z5_W0 : b3_0 < w5.heap.size := (by omega)
  have z5_xx : w4.heap.size < w5.heap.size := (by omega)
  clear hb5
  go_wp2_with fail
  refine (HI.out _ _ _ ((⟨_, S4_list.kept (K4.below (show Below w5.heap.size w5 _ from blw2) (fun p hp => Nat.lt_of_lt_of_le (UB4 p hp) (by omega))) (fun _ h => h)⟩ : RdS _ _ _)) ((⟨_, S5_o.kept (K5.below (show Below w5.heap.size w5 _ from blw2) (fun p hp => Nat.lt_of_lt_of_le (UB5 p hp) (by omega))) (fun _ h => h)⟩ : RdS _ _ _))).mono ?_
  rintro e w6 ⟨v6_0_list, f6_0_list, rfl, S6_0_list, FR6, hb6⟩
  obtain ⟨a6_0_list, c6_0_list, rfl⟩ := RdS.isSlice ⟨_, S6_0_list⟩
  have UB6 : ∀ p ∈ f6_0_list, p.1 < w6.heap.size := Live.lt (S6_0_list.live)
  replace FR6 : Fresh (w5.heap.size + 1) w6 f6_0_list := FR6.mono (by first | exact Nat.le_refl _ | (simp; done) | (simp; omega))
  have K6 : Kept f6_0_list w6 w6 := Kept.refl _ _
  have hN : Below (w5.heap.size + 1) (w5.alloc (.cells #[.int .i64 q.client, .int .i64 q.seq, .slice a5_o q.o.length c5_o] 37)) w6 := blw2
  have B6 : Below w5.heap.size w5 w6 := blw2
  have s6 : w5.heap.size + 1 ≤ w6.heap.size := (by have := hb6.size; (try simp at this); omega)
  have hh := mc8 B6 cp0_0 cp0_1 cp0_2 cp0_3 cp1_0 cp1_1 cp1_2 cW0_0
  clear cp0_0 cp0_1 cp0_2 cp0_3 cp1_0 cp1_1 cp1_2 cW0_0
  obtain ⟨cp0_0, cp0_1, cp0_2, cp0_3, cp1_0, cp1_1, cp1_2, cW0_0⟩ := hh
  have hh := mc7 B6 cW0_1 cW0_2 cW0_3 cxx_0 cxx_1 cxx_2 cxx_3
  clear cW0_1 cW0_2 cW0_3 cxx_0 cxx_1 cxx_2 cxx_3
  obtain ⟨cW0_1, cW0_2, cW0_3, cxx_0, cxx_1, cxx_2, cxx_3⟩ := hh
  have cxq_0 : w6.cell? ⟨w5.heap.size, 0, none⟩ = some (.int .i64 q.client) := by rw [hN.cell (by simp; try omega)]; simp
  have cxq_1 : w6.cell? ⟨w5.heap.size, 1, none⟩ = some (.int .i64 q.seq) := by rw [hN.cell (by simp; try omega)]; simp
  have cxq_2 : w6.cell? ⟨w5.heap.size, 2, none⟩ = some (.slice a5_o q.o.length c5_o) := by rw [hN.cell (by simp; try omega)]; simp
  clear hN
  replace K3 : Kept f3_0_list w3 w6 := K3.below B6 (fun p hp => Nat.lt_of_lt_of_le (UB3 p hp) (by omega))
  replace K4 : Kept f4_list w4 w6 := K4.below B6 (fun p hp => Nat.lt_of_lt_of_le (UB4 p hp) (by omega))
  replace K5 : Kept f5_o w5 w6 := K5.below B6 (fun p hp => Nat.lt_of_lt_of_le (UB5 p hp) (by omega))
  have z6_p0 : w.heap.size < w6.heap.size := (by omega)
  have z6_p1 : w.heap.size + 1 < w6.heap.size := (by omega)
  have z6_W0 : b3_0 < w6.heap.size := (by omega)
  have z6_xx : w4.heap.size < w6.heap.size := (by omega)
  have z6_xq : w5.heap.size < w6.heap.size := (by omega)
  clear hb6
  go_wp2_with fail
  refine (eqRing_c y0 _ _ _ ((⟨_, S6_0_list.kept (K6.below (show Below w6.heap.size w6 _ from blw2) (fun p hp => Nat.lt_of_lt_of_le (UB6 p hp) (by omega))) (fun _ h => h)⟩ : RdS _ _ _)) ((⟨_, S3_0_list.kept (K3.below (show Below w6.heap.size w6 _ from blw2) (fun p hp => Nat.lt_of_lt_of_le (UB3 p hp) (by omega))) (fun _ h => h)⟩ : RdS _ _ _))).mono ?_
  rintro e w7 ⟨rfl, hb7⟩
  have hN : Below (w6.heap.size + 1) (w6.alloc (.cells #[.int .i64 y0.cap, .int .i64 y0.next, .bool y0.out, .slice a6_0_list y0.list.length c6_0_list] 32)) w7 := blw2
  have B7 : Below w6.heap.size w6 w7 := blw2
  have s7 : w6.heap.size + 1 ≤ w7.heap.size := (by have := hb7.size; (try simp at this); omega)
  have hh := mc8 B7 cp0_0 cp0_1 cp0_2 cp0_3 cp1_0 cp1_1 cp1_2 cW0_0
  clear cp0_0 cp0_1 cp0_2 cp0_3 cp1_0 cp1_1 cp1_2 cW0_0
  obtain ⟨cp0_0, cp0_1, cp0_2, cp0_3, cp1_0, cp1_1, cp1_2, cW0_0⟩ := hh
  have hh := mc8 B7 cW0_1 cW0_2 cW0_3 cxx_0 cxx_1 cxx_2 cxx_3 cxq_0
  clear cW0_1 cW0_2 cW0_3 cxx_0 cxx_1 cxx_2 cxx_3 cxq_0
  obtain ⟨cW0_1, cW0_2, cW0_3, cxx_0, cxx_1, cxx_2, cxx_3, cxq_0⟩ := hh
  have hh := mc2 B7 cxq_1 cxq_2
  clear cxq_1 cxq_2
  obtain ⟨cxq_1, cxq_2⟩ := hh
  have cG0_0 : w7.cell? ⟨w6.heap.size, 0, none⟩ = some (.int .i64 y0.cap) := by rw [hN.cell (by simp; try omega)]; simp
  have cG0_1 : w7.cell? ⟨w6.heap.size, 1, none⟩ = some (.int .i64 y0.next) := by rw [hN.cell (by simp; try omega)]; simp
  have cG0_2 : w7.cell? ⟨w6.heap.size, 2, none⟩ = some (.bool y0.out) := by rw [hN.cell (by simp; try omega)]; simp
  have cG0_3 : w7.cell? ⟨w6.heap.size, 3, none⟩ = some (.slice a6_0_list y0.list.length c6_0_list) := by rw [hN.cell (by simp; try omega)]; simp
  clear hN
  replace K3 : Kept f3_0_list w3 w7 := K3.below B7 (fun p hp => Nat.lt_of_lt_of_le (UB3 p hp) (by omega))
  replace K4 : Kept f4_list w4 w7 := K4.below B7 (fun p hp => Nat.lt_of_lt_of_le (UB4 p hp) (by omega))
  replace K5 : Kept f5_o w5 w7 := K5.below B7 (fun p hp => Nat.lt_of_lt_of_le (UB5 p hp) (by omega))
  replace K6 : Kept f6_0_list w6 w7 := K6.below B7 (fun p hp => Nat.lt_of_lt_of_le (UB6 p hp) (by omega))
  have z7_p0 : w.heap.size < w7.heap.size := (by omega)
  have z7_p1 : w.heap.size + 1 < w7.heap.size := (by omega)
  have z7_W0 : b3_0 < w7.heap.size := (by omega)
  have z7_xx : w4.heap.size < w7.heap.size := (by omega)
  have z7_xq : w5.heap.size < w7.heap.size := (by omega)
  have z7_G0 : w6.heap.size < w7.heap.size := (by omega)
  clear hb7
  go_wp2_with fail
  go_region_held3 (fun w' => w'.cell? ⟨w.heap.size, 0, none⟩ = some (.int .i64 x.cap) ∧ w'.cell? ⟨w.heap.size, 1, none⟩ = some (.int .i64 x.next) ∧ w'.cell? ⟨w.heap.size, 2, none⟩ = some (.bool x.out) ∧ w'.cell? ⟨w.heap.size, 3, none⟩ = some (v_x_list) ∧ w'.cell? ⟨w4.heap.size, 0, none⟩ = some (.int .i64 x.cap) ∧ w'.cell? ⟨w4.heap.size, 1, none⟩ = some (.int .i64 x.next) ∧ w'.cell? ⟨w4.heap.size, 2, none⟩ = some (.bool x.out) ∧ w'.cell? ⟨w4.heap.size, 3, none⟩ = some (.slice a4_list x.list.length c4_list)) (go_keep)
    (first | (go_at_call 7; refine (toRing_c x _ _  (hr_x_list.below blw2)).mono ?_; rintro e w8 ⟨_, rfl, ⟨f8_list, ho8, FR8⟩, hb8⟩; obtain ⟨v8_list, f8_list', rfl, S8_list, rfl⟩ := ho8; obtain ⟨a8_list, c8_list, rfl⟩ := RdS.isSlice ⟨_, S8_list⟩; have UB8 : ∀ p ∈ f8_list, p.1 < w8.heap.size := Live.lt (S8_list.live); replace FR8 : Fresh (w7.heap.size) w8 f8_list := FR8.mono (by first | exact Nat.le_refl _ | (simp; done) | (simp; omega)); have K8 : Kept f8_list w8 w8 := Kept.refl _ _; have B8 : Below w7.heap.size w7 w8 := blw2; have s8 : w7.heap.size ≤ w8.heap.size := (by have := hb8.size; (try simp at this); omega); replace cp0_0 : w8.cell? ⟨w.heap.size, 0, none⟩ = some (.int .i64 x.cap) := cellb B8 cp0_0; replace cp0_1 : w8.cell? ⟨w.heap.size, 1, none⟩ = some (.int .i64 x.next) := cellb B8 cp0_1; replace cp0_2 : w8.cell? ⟨w.heap.size, 2, none⟩ = some (.bool x.out) := cellb B8 cp0_2; replace cp0_3 : w8.cell? ⟨w.heap.size, 3, none⟩ = some (v_x_list) := cellb B8 cp0_3; replace cp1_0 : w8.cell? ⟨w.heap.size + 1, 0, none⟩ = some (.int .i64 q.client) := cellb B8 cp1_0; replace cp1_1 : w8.cell? ⟨w.heap.size + 1, 1, none⟩ = some (.int .i64 q.seq) := cellb B8 cp1_1; replace cp1_2 : w8.cell? ⟨w.heap.size + 1, 2, none⟩ = some (v_q_o) := cellb B8 cp1_2; replace cW0_0 : w8.cell? ⟨b3_0, 0, none⟩ = some (.int .i64 y0.cap) := cellb B8 cW0_0; replace cW0_1 : w8.cell? ⟨b3_0, 1, none⟩ = some (.int .i64 y0.next) := cellb B8 cW0_1; replace cW0_2 : w8.cell? ⟨b3_0, 2, none⟩ = some (.bool y0.out) := cellb B8 cW0_2; replace cW0_3 : w8.cell? ⟨b3_0, 3, none⟩ = some (.slice a3_0_list y0.list.length c3_0_list) := cellb B8 cW0_3; replace cxx_0 : w8.cell? ⟨w4.heap.size, 0, none⟩ = some (.int .i64 x.cap) := cellb B8 cxx_0; replace cxx_1 : w8.cell? ⟨w4.heap.size, 1, none⟩ = some (.int .i64 x.next) := cellb B8 cxx_1; replace cxx_2 : w8.cell? ⟨w4.heap.size, 2, none⟩ = some (.bool x.out) := cellb B8 cxx_2; replace cxx_3 : w8.cell? ⟨w4.heap.size, 3, none⟩ = some (.slice a4_list x.list.length c4_list) := cellb B8 cxx_3; replace cxq_0 : w8.cell? ⟨w5.heap.size, 0, none⟩ = some (.int .i64 q.client) := cellb B8 cxq_0; replace cxq_1 : w8.cell? ⟨w5.heap.size, 1, none⟩ = some (.int .i64 q.seq) := cellb B8 cxq_1; replace cxq_2 : w8.cell? ⟨w5.heap.size, 2, none⟩ = some (.slice a5_o q.o.length c5_o) := cellb B8 cxq_2; replace cG0_0 : w8.cell? ⟨w6.heap.size, 0, none⟩ = some (.int .i64 y0.cap) := cellb B8 cG0_0; replace cG0_1 : w8.cell? ⟨w6.heap.size, 1, none⟩ = some (.int .i64 y0.next) := cellb B8 cG0_1; replace cG0_2 : w8.cell? ⟨w6.heap.size, 2, none⟩ = some (.bool y0.out) := cellb B8 cG0_2; replace cG0_3 : w8.cell? ⟨w6.heap.size, 3, none⟩ = some (.slice a6_0_list y0.list.length c6_0_list) := cellb B8 cG0_3; replace K3 : Kept f3_0_list w3 w8 := K3.below B8 (fun p hp => Nat.lt_of_lt_of_le (UB3 p hp) (by omega)); replace K4 : Kept f4_list w4 w8 := K4.below B8 (fun p hp => Nat.lt_of_lt_of_le (UB4 p hp) (by omega)); replace K5 : Kept f5_o w5 w8 := K5.below B8 (fun p hp => Nat.lt_of_lt_of_le (UB5 p hp) (by omega)); replace K6 : Kept f6_0_list w6 w8 := K6.below B8 (fun p hp => Nat.lt_of_lt_of_le (UB6 p hp) (by omega)); have z8_p0 : w.heap.size < w8.heap.size := (by omega); have z8_p1 : w.heap.size + 1 < w8.heap.size := (by omega); have z8_W0 : b3_0 < w8.heap.size := (by omega); have z8_xx : w4.heap.size < w8.heap.size := (by omega); have z8_xq : w5.heap.size < w8.heap.size := (by omega); have z8_G0 : w6.heap.size < w8.heap.size := (by omega); clear hb8) | (go_at_call 10; refine (eqRing_c x _ _ _ ((⟨_, S4_list.kept (K4.below (show Below w8.heap.size w8 _ from blw2) (fun p hp => Nat.lt_of_lt_of_le (UB4 p hp) (by omega))) (fun _ h => h)⟩ : RdS _ _ _)) ((⟨_, S8_list.kept (K8.below (show Below w8.heap.size w8 _ from blw2) (fun p hp => Nat.lt_of_lt_of_le (UB8 p hp) (by omega))) (fun _ h => h)⟩ : RdS _ _ _))).mono ?_; rintro e w9 ⟨rfl, hb9⟩; have B9 : Below w8.heap.size w8 w9 := blw2; have s9 : w8.heap.size ≤ w9.heap.size := (by have := hb9.size; (try simp at this); omega); replace cp0_0 : w9.cell? ⟨w.heap.size, 0, none⟩ = some (.int .i64 x.cap) := cellb B9 cp0_0; replace cp0_1 : w9.cell? ⟨w.heap.size, 1, none⟩ = some (.int .i64 x.next) := cellb B9 cp0_1; replace cp0_2 : w9.cell? ⟨w.heap.size, 2, none⟩ = some (.bool x.out) := cellb B9 cp0_2; replace cp0_3 : w9.cell? ⟨w.heap.size, 3, none⟩ = some (v_x_list) := cellb B9 cp0_3; replace cp1_0 : w9.cell? ⟨w.heap.size + 1, 0, none⟩ = some (.int .i64 q.client) := cellb B9 cp1_0; replace cp1_1 : w9.cell? ⟨w.heap.size + 1, 1, none⟩ = some (.int .i64 q.seq) := cellb B9 cp1_1; replace cp1_2 : w9.cell? ⟨w.heap.size + 1, 2, none⟩ = some (v_q_o) := cellb B9 cp1_2; replace cW0_0 : w9.cell? ⟨b3_0, 0, none⟩ = some (.int .i64 y0.cap) := cellb B9 cW0_0; replace cW0_1 : w9.cell? ⟨b3_0, 1, none⟩ = some (.int .i64 y0.next) := cellb B9 cW0_1; replace cW0_2 : w9.cell? ⟨b3_0, 2, none⟩ = some (.bool y0.out) := cellb B9 cW0_2; replace cW0_3 : w9.cell? ⟨b3_0, 3, none⟩ = some (.slice a3_0_list y0.list.length c3_0_list) := cellb B9 cW0_3; replace cxx_0 : w9.cell? ⟨w4.heap.size, 0, none⟩ = some (.int .i64 x.cap) := cellb B9 cxx_0; replace cxx_1 : w9.cell? ⟨w4.heap.size, 1, none⟩ = some (.int .i64 x.next) := cellb B9 cxx_1; replace cxx_2 : w9.cell? ⟨w4.heap.size, 2, none⟩ = some (.bool x.out) := cellb B9 cxx_2; replace cxx_3 : w9.cell? ⟨w4.heap.size, 3, none⟩ = some (.slice a4_list x.list.length c4_list) := cellb B9 cxx_3; replace cxq_0 : w9.cell? ⟨w5.heap.size, 0, none⟩ = some (.int .i64 q.client) := cellb B9 cxq_0; replace cxq_1 : w9.cell? ⟨w5.heap.size, 1, none⟩ = some (.int .i64 q.seq) := cellb B9 cxq_1; replace cxq_2 : w9.cell? ⟨w5.heap.size, 2, none⟩ = some (.slice a5_o q.o.length c5_o) := cellb B9 cxq_2; replace cG0_0 : w9.cell? ⟨w6.heap.size, 0, none⟩ = some (.int .i64 y0.cap) := cellb B9 cG0_0; replace cG0_1 : w9.cell? ⟨w6.heap.size, 1, none⟩ = some (.int .i64 y0.next) := cellb B9 cG0_1; replace cG0_2 : w9.cell? ⟨w6.heap.size, 2, none⟩ = some (.bool y0.out) := cellb B9 cG0_2; replace cG0_3 : w9.cell? ⟨w6.heap.size, 3, none⟩ = some (.slice a6_0_list y0.list.length c6_0_list) := cellb B9 cG0_3; replace K3 : Kept f3_0_list w3 w9 := K3.below B9 (fun p hp => Nat.lt_of_lt_of_le (UB3 p hp) (by omega)); replace K4 : Kept f4_list w4 w9 := K4.below B9 (fun p hp => Nat.lt_of_lt_of_le (UB4 p hp) (by omega)); replace K5 : Kept f5_o w5 w9 := K5.below B9 (fun p hp => Nat.lt_of_lt_of_le (UB5 p hp) (by omega)); replace K6 : Kept f6_0_list w6 w9 := K6.below B9 (fun p hp => Nat.lt_of_lt_of_le (UB6 p hp) (by omega)); replace K8 : Kept f8_list w8 w9 := K8.below B9 (fun p hp => Nat.lt_of_lt_of_le (UB8 p hp) (by omega)); have z9_p0 : w.heap.size < w9.heap.size := (by omega); have z9_p1 : w.heap.size + 1 < w9.heap.size := (by omega); have z9_W0 : b3_0 < w9.heap.size := (by omega); have z9_xx : w4.heap.size < w9.heap.size := (by omega); have z9_xq : w5.heap.size < w9.heap.size := (by omega); have z9_G0 : w6.heap.size < w9.heap.size := (by omega); clear hb9))
  go_wp2_with fail
  go_region_held3 (fun w' => w'.cell? ⟨w.heap.size + 1, 0, none⟩ = some (.int .i64 q.client) ∧ w'.cell? ⟨w.heap.size + 1, 1, none⟩ = some (.int .i64 q.seq) ∧ w'.cell? ⟨w.heap.size + 1, 2, none⟩ = some (v_q_o) ∧ w'.cell? ⟨w5.heap.size, 0, none⟩ = some (.int .i64 q.client) ∧ w'.cell? ⟨w5.heap.size, 1, none⟩ = some (.int .i64 q.seq) ∧ w'.cell? ⟨w5.heap.size, 2, none⟩ = some (.slice a5_o q.o.length c5_o)) (go_keep)
    (first | (go_at_call 8; refine (toEntry_c q _ _  (hr_q_o.below blw2)).mono ?_; rintro e w10 ⟨_, rfl, ⟨f10_o, ho10, FR10⟩, hb10⟩; obtain ⟨v10_o, f10_o', rfl, S10_o, rfl⟩ := ho10; obtain ⟨a10_o, c10_o, rfl⟩ := RdS.isSlice ⟨_, S10_o⟩; have UB10 : ∀ p ∈ f10_o, p.1 < w10.heap.size := Live.lt (S10_o.live); replace FR10 : Fresh (w9.heap.size) w10 f10_o := FR10.mono (by first | exact Nat.le_refl _ | (simp; done) | (simp; omega)); have K10 : Kept f10_o w10 w10 := Kept.refl _ _; have B10 : Below w9.heap.size w9 w10 := blw2; have s10 : w9.heap.size ≤ w10.heap.size := (by have := hb10.size; (try simp at this); omega); replace cp0_0 : w10.cell? ⟨w.heap.size, 0, none⟩ = some (.int .i64 x.cap) := cellb B10 cp0_0; replace cp0_1 : w10.cell? ⟨w.heap.size, 1, none⟩ = some (.int .i64 x.next) := cellb B10 cp0_1; replace cp0_2 : w10.cell? ⟨w.heap.size, 2, none⟩ = some (.bool x.out) := cellb B10 cp0_2; replace cp0_3 : w10.cell? ⟨w.heap.size, 3, none⟩ = some (v_x_list) := cellb B10 cp0_3; replace cp1_0 : w10.cell? ⟨w.heap.size + 1, 0, none⟩ = some (.int .i64 q.client) := cellb B10 cp1_0; replace cp1_1 : w10.cell? ⟨w.heap.size + 1, 1, none⟩ = some (.int .i64 q.seq) := cellb B10 cp1_1; replace cp1_2 : w10.cell? ⟨w.heap.size + 1, 2, none⟩ = some (v_q_o) := cellb B10 cp1_2; replace cW0_0 : w10.cell? ⟨b3_0, 0, none⟩ = some (.int .i64 y0.cap) := cellb B10 cW0_0; replace cW0_1 : w10.cell? ⟨b3_0, 1, none⟩ = some (.int .i64 y0.next) := cellb B10 cW0_1; replace cW0_2 : w10.cell? ⟨b3_0, 2, none⟩ = some (.bool y0.out) := cellb B10 cW0_2; replace cW0_3 : w10.cell? ⟨b3_0, 3, none⟩ = some (.slice a3_0_list y0.list.length c3_0_list) := cellb B10 cW0_3; replace cxx_0 : w10.cell? ⟨w4.heap.size, 0, none⟩ = some (.int .i64 x.cap) := cellb B10 cxx_0; replace cxx_1 : w10.cell? ⟨w4.heap.size, 1, none⟩ = some (.int .i64 x.next) := cellb B10 cxx_1; replace cxx_2 : w10.cell? ⟨w4.heap.size, 2, none⟩ = some (.bool x.out) := cellb B10 cxx_2; replace cxx_3 : w10.cell? ⟨w4.heap.size, 3, none⟩ = some (.slice a4_list x.list.length c4_list) := cellb B10 cxx_3; replace cxq_0 : w10.cell? ⟨w5.heap.size, 0, none⟩ = some (.int .i64 q.client) := cellb B10 cxq_0; replace cxq_1 : w10.cell? ⟨w5.heap.size, 1, none⟩ = some (.int .i64 q.seq) := cellb B10 cxq_1; replace cxq_2 : w10.cell? ⟨w5.heap.size, 2, none⟩ = some (.slice a5_o q.o.length c5_o) := cellb B10 cxq_2; replace cG0_0 : w10.cell? ⟨w6.heap.size, 0, none⟩ = some (.int .i64 y0.cap) := cellb B10 cG0_0; replace cG0_1 : w10.cell? ⟨w6.heap.size, 1, none⟩ = some (.int .i64 y0.next) := cellb B10 cG0_1; replace cG0_2 : w10.cell? ⟨w6.heap.size, 2, none⟩ = some (.bool y0.out) := cellb B10 cG0_2; replace cG0_3 : w10.cell? ⟨w6.heap.size, 3, none⟩ = some (.slice a6_0_list y0.list.length c6_0_list) := cellb B10 cG0_3; replace K3 : Kept f3_0_list w3 w10 := K3.below B10 (fun p hp => Nat.lt_of_lt_of_le (UB3 p hp) (by omega)); replace K4 : Kept f4_list w4 w10 := K4.below B10 (fun p hp => Nat.lt_of_lt_of_le (UB4 p hp) (by omega)); replace K5 : Kept f5_o w5 w10 := K5.below B10 (fun p hp => Nat.lt_of_lt_of_le (UB5 p hp) (by omega)); replace K6 : Kept f6_0_list w6 w10 := K6.below B10 (fun p hp => Nat.lt_of_lt_of_le (UB6 p hp) (by omega)); have z10_p0 : w.heap.size < w10.heap.size := (by omega); have z10_p1 : w.heap.size + 1 < w10.heap.size := (by omega); have z10_W0 : b3_0 < w10.heap.size := (by omega); have z10_xx : w4.heap.size < w10.heap.size := (by omega); have z10_xq : w5.heap.size < w10.heap.size := (by omega); have z10_G0 : w6.heap.size < w10.heap.size := (by omega); clear hb10) | (go_at_call 11; refine (eqEntry_c q _ _ _ ((⟨_, S5_o.kept (K5.below (show Below w10.heap.size w10 _ from blw2) (fun p hp => Nat.lt_of_lt_of_le (UB5 p hp) (by omega))) (fun _ h => h)⟩ : RdS _ _ _)) ((⟨_, S10_o.kept (K10.below (show Below w10.heap.size w10 _ from blw2) (fun p hp => Nat.lt_of_lt_of_le (UB10 p hp) (by omega))) (fun _ h => h)⟩ : RdS _ _ _))).mono ?_; rintro e w11 ⟨rfl, hb11⟩; have B11 : Below w10.heap.size w10 w11 := blw2; have s11 : w10.heap.size ≤ w11.heap.size := (by have := hb11.size; (try simp at this); omega); replace cp0_0 : w11.cell? ⟨w.heap.size, 0, none⟩ = some (.int .i64 x.cap) := cellb B11 cp0_0; replace cp0_1 : w11.cell? ⟨w.heap.size, 1, none⟩ = some (.int .i64 x.next) := cellb B11 cp0_1; replace cp0_2 : w11.cell? ⟨w.heap.size, 2, none⟩ = some (.bool x.out) := cellb B11 cp0_2; replace cp0_3 : w11.cell? ⟨w.heap.size, 3, none⟩ = some (v_x_list) := cellb B11 cp0_3; replace cp1_0 : w11.cell? ⟨w.heap.size + 1, 0, none⟩ = some (.int .i64 q.client) := cellb B11 cp1_0; replace cp1_1 : w11.cell? ⟨w.heap.size + 1, 1, none⟩ = some (.int .i64 q.seq) := cellb B11 cp1_1; replace cp1_2 : w11.cell? ⟨w.heap.size + 1, 2, none⟩ = some (v_q_o) := cellb B11 cp1_2; replace cW0_0 : w11.cell? ⟨b3_0, 0, none⟩ = some (.int .i64 y0.cap) := cellb B11 cW0_0; replace cW0_1 : w11.cell? ⟨b3_0, 1, none⟩ = some (.int .i64 y0.next) := cellb B11 cW0_1; replace cW0_2 : w11.cell? ⟨b3_0, 2, none⟩ = some (.bool y0.out) := cellb B11 cW0_2; replace cW0_3 : w11.cell? ⟨b3_0, 3, none⟩ = some (.slice a3_0_list y0.list.length c3_0_list) := cellb B11 cW0_3; replace cxx_0 : w11.cell? ⟨w4.heap.size, 0, none⟩ = some (.int .i64 x.cap) := cellb B11 cxx_0; replace cxx_1 : w11.cell? ⟨w4.heap.size, 1, none⟩ = some (.int .i64 x.next) := cellb B11 cxx_1; replace cxx_2 : w11.cell? ⟨w4.heap.size, 2, none⟩ = some (.bool x.out) := cellb B11 cxx_2; replace cxx_3 : w11.cell? ⟨w4.heap.size, 3, none⟩ = some (.slice a4_list x.list.length c4_list) := cellb B11 cxx_3; replace cxq_0 : w11.cell? ⟨w5.heap.size, 0, none⟩ = some (.int .i64 q.client) := cellb B11 cxq_0; replace cxq_1 : w11.cell? ⟨w5.heap.size, 1, none⟩ = some (.int .i64 q.seq) := cellb B11 cxq_1; replace cxq_2 : w11.cell? ⟨w5.heap.size, 2, none⟩ = some (.slice a5_o q.o.length c5_o) := cellb B11 cxq_2; replace cG0_0 : w11.cell? ⟨w6.heap.size, 0, none⟩ = some (.int .i64 y0.cap) := cellb B11 cG0_0; replace cG0_1 : w11.cell? ⟨w6.heap.size, 1, none⟩ = some (.int .i64 y0.next) := cellb B11 cG0_1; replace cG0_2 : w11.cell? ⟨w6.heap.size, 2, none⟩ = some (.bool y0.out) := cellb B11 cG0_2; replace cG0_3 : w11.cell? ⟨w6.heap.size, 3, none⟩ = some (.slice a6_0_list y0.list.length c6_0_list) := cellb B11 cG0_3; replace K3 : Kept f3_0_list w3 w11 := K3.below B11 (fun p hp => Nat.lt_of_lt_of_le (UB3 p hp) (by omega)); replace K4 : Kept f4_list w4 w11 := K4.below B11 (fun p hp => Nat.lt_of_lt_of_le (UB4 p hp) (by omega)); replace K5 : Kept f5_o w5 w11 := K5.below B11 (fun p hp => Nat.lt_of_lt_of_le (UB5 p hp) (by omega)); replace K6 : Kept f6_0_list w6 w11 := K6.below B11 (fun p hp => Nat.lt_of_lt_of_le (UB6 p hp) (by omega)); replace K10 : Kept f10_o w10 w11 := K10.below B11 (fun p hp => Nat.lt_of_lt_of_le (UB10 p hp) (by omega)); have z11_p0 : w.heap.size < w11.heap.size := (by omega); have z11_p1 : w.heap.size + 1 < w11.heap.size := (by omega); have z11_W0 : b3_0 < w11.heap.size := (by omega); have z11_xx : w4.heap.size < w11.heap.size := (by omega); have z11_xq : w5.heap.size < w11.heap.size := (by omega); have z11_G0 : w6.heap.size < w11.heap.size := (by omega); clear hb11))
  replace S4_list := S4_list.kept K4 (fun _ h => h)
  replace FR4 := FR4.kept K4 (fun _ h => h)
  clear K4
  go_wp2_with fail
  refine (markRing_c (w3.heap.size) x.cap x.next x.out _ _ f4_list _ 1 (by omega) (by omega) (S4_list.belowW blw2) (FR4.belowL blw2 (fun p hp => Nat.lt_of_lt_of_le (UB4 p hp) (by omega)))).mono ?_
  rintro e w12 ⟨he, T12_list, hw12⟩
  have s12 : w11.heap.size ≤ w12.heap.size := wrs hw12 blw2
  replace cp0_0 : w12.cell? ⟨w.heap.size, 0, none⟩ = some (.int .i64 x.cap) := cellw blw2 hw12 cp0_0 (fun hp => by have q1 := FR4.ge _ hp; have q2 := UB4 _ hp; simp only at q1 q2; omega)
  replace cp0_1 : w12.cell? ⟨w.heap.size, 1, none⟩ = some (.int .i64 x.next) := cellw blw2 hw12 cp0_1 (fun hp => by have q1 := FR4.ge _ hp; have q2 := UB4 _ hp; simp only at q1 q2; omega)
  replace cp0_2 : w12.cell? ⟨w.heap.size, 2, none⟩ = some (.bool x.out) := cellw blw2 hw12 cp0_2 (fun hp => by have q1 := FR4.ge _ hp; have q2 := UB4 _ hp; simp only at q1 q2; omega)
  replace cp0_3 : w12.cell? ⟨w.heap.size, 3, none⟩ = some (v_x_list) := cellw blw2 hw12 cp0_3 (fun hp => by have q1 := FR4.ge _ hp; have q2 := UB4 _ hp; simp only at q1 q2; omega)
  replace cp1_0 : w12.cell? ⟨w.heap.size + 1, 0, none⟩ = some (.int .i64 q.client) := cellw blw2 hw12 cp1_0 (fun hp => by have q1 := FR4.ge _ hp; have q2 := UB4 _ hp; simp only at q1 q2; omega)
  replace cp1_1 : w12.cell? ⟨w.heap.size + 1, 1, none⟩ = some (.int .i64 q.seq) := cellw blw2 hw12 cp1_1 (fun hp => by have q1 := FR4.ge _ hp; have q2 := UB4 _ hp; simp only at q1 q2; omega)
  replace cp1_2 : w12.cell? ⟨w.heap.size + 1, 2, none⟩ = some (v_q_o) := cellw blw2 hw12 cp1_2 (fun hp => by have q1 := FR4.ge _ hp; have q2 := UB4 _ hp; simp only at q1 q2; omega)
  replace cW0_0 : w12.cell? ⟨b3_0, 0, none⟩ = some (.int .i64 y0.cap) := cellw blw2 hw12 cW0_0 (fun hp => by have q1 := FR4.ge _ hp; have q2 := UB4 _ hp; simp only at q1 q2; omega)
  replace cW0_1 : w12.cell? ⟨b3_0, 1, none⟩ = some (.int .i64 y0.next) := cellw blw2 hw12 cW0_1 (fun hp => by have q1 := FR4.ge _ hp; have q2 := UB4 _ hp; simp only at q1 q2; omega)
  replace cW0_2 : w12.cell? ⟨b3_0, 2, none⟩ = some (.bool y0.out) := cellw blw2 hw12 cW0_2 (fun hp => by have q1 := FR4.ge _ hp; have q2 := UB4 _ hp; simp only at q1 q2; omega)
  replace cW0_3 : w12.cell? ⟨b3_0, 3, none⟩ = some (.slice a3_0_list y0.list.length c3_0_list) := cellw blw2 hw12 cW0_3 (fun hp => by have q1 := FR4.ge _ hp; have q2 := UB4 _ hp; simp only at q1 q2; omega)
  replace cxx_0 : w12.cell? ⟨w4.heap.size, 0, none⟩ = some (.int .i64 x.cap) := cellw blw2 hw12 cxx_0 (fun hp => by have q1 := FR4.ge _ hp; have q2 := UB4 _ hp; simp only at q1 q2; omega)
  replace cxx_1 : w12.cell? ⟨w4.heap.size, 1, none⟩ = some (.int .i64 x.next) := cellw blw2 hw12 cxx_1 (fun hp => by have q1 := FR4.ge _ hp; have q2 := UB4 _ hp; simp only at q1 q2; omega)
  replace cxx_2 : w12.cell? ⟨w4.heap.size, 2, none⟩ = some (.bool x.out) := cellw blw2 hw12 cxx_2 (fun hp => by have q1 := FR4.ge _ hp; have q2 := UB4 _ hp; simp only at q1 q2; omega)
  replace cxx_3 : w12.cell? ⟨w4.heap.size, 3, none⟩ = some (.slice a4_list x.list.length c4_list) := cellw blw2 hw12 cxx_3 (fun hp => by have q1 := FR4.ge _ hp; have q2 := UB4 _ hp; simp only at q1 q2; omega)
  replace cxq_0 : w12.cell? ⟨w5.heap.size, 0, none⟩ = some (.int .i64 q.client) := cellw blw2 hw12 cxq_0 (fun hp => by have q1 := FR4.ge _ hp; have q2 := UB4 _ hp; simp only at q1 q2; omega)
  replace cxq_1 : w12.cell? ⟨w5.heap.size, 1, none⟩ = some (.int .i64 q.seq) := cellw blw2 hw12 cxq_1 (fun hp => by have q1 := FR4.ge _ hp; have q2 := UB4 _ hp; simp only at q1 q2; omega)
  replace cxq_2 : w12.cell? ⟨w5.heap.size, 2, none⟩ = some (.slice a5_o q.o.length c5_o) := cellw blw2 hw12 cxq_2 (fun hp => by have q1 := FR4.ge _ hp; have q2 := UB4 _ hp; simp only at q1 q2; omega)
  replace cG0_0 : w12.cell? ⟨w6.heap.size, 0, none⟩ = some (.int .i64 y0.cap) := cellw blw2 hw12 cG0_0 (fun hp => by have q1 := FR4.ge _ hp; have q2 := UB4 _ hp; simp only at q1 q2; omega)
  replace cG0_1 : w12.cell? ⟨w6.heap.size, 1, none⟩ = some (.int .i64 y0.next) := cellw blw2 hw12 cG0_1 (fun hp => by have q1 := FR4.ge _ hp; have q2 := UB4 _ hp; simp only at q1 q2; omega)
  replace cG0_2 : w12.cell? ⟨w6.heap.size, 2, none⟩ = some (.bool y0.out) := cellw blw2 hw12 cG0_2 (fun hp => by have q1 := FR4.ge _ hp; have q2 := UB4 _ hp; simp only at q1 q2; omega)
  replace cG0_3 : w12.cell? ⟨w6.heap.size, 3, none⟩ = some (.slice a6_0_list y0.list.length c6_0_list) := cellw blw2 hw12 cG0_3 (fun hp => by have q1 := FR4.ge _ hp; have q2 := UB4 _ hp; simp only at q1 q2; omega)
  replace K3 : Kept f3_0_list w3 w12 := K3.wr2 blw2 hw12 (fun p hp => Nat.lt_of_lt_of_le (UB3 p hp) (by omega)) (fun q hq hp => by have q1 := FR4.ge q hp; have q2 := UB4 q hp; first | (have q3 := UB3 q hq; omega) | (have q3 := FR3.ge q hq; omega))
  replace K5 : Kept f5_o w5 w12 := K5.wr2 blw2 hw12 (fun p hp => Nat.lt_of_lt_of_le (UB5 p hp) (by omega)) (fun q hq hp => by have q1 := FR4.ge q hp; have q2 := UB4 q hp; first | (have q3 := UB5 q hq; omega) | (have q3 := FR5.ge q hq; omega))
  replace K6 : Kept f6_0_list w6 w12 := K6.wr2 blw2 hw12 (fun p hp => Nat.lt_of_lt_of_le (UB6 p hp) (by omega)) (fun q hq hp => by have q1 := FR4.ge q hp; have q2 := UB4 q hp; first | (have q3 := UB6 q hq; omega) | (have q3 := FR6.ge q hq; omega))
  have B12 : Below (w3.heap.size) w11 w12 := wrb hw12 blw2 (by omega) (fun p hp => FR4.ge p hp)
  replace FR4 : Fresh (w3.heap.size) w12 f4_list := FR4.wr2 blw2 hw12 (fun p hp => Nat.lt_of_lt_of_le (UB4 p hp) (by omega))
  replace S4_list := T12_list
  have K4 : Kept f4_list w12 w12 := Kept.refl _ _
  have z12_p0 : w.heap.size < w12.heap.size := (by omega)
  have z12_p1 : w.heap.size + 1 < w12.heap.size := (by omega)
  have z12_W0 : b3_0 < w12.heap.size := (by omega)
  have z12_xx : w4.heap.size < w12.heap.size := (by omega)
  have z12_xq : w5.heap.size < w12.heap.size := (by omega)
  have z12_G0 : w6.heap.size < w12.heap.size := (by omega)
  obtain ⟨k1, hk1, hp1⟩ : ∃ k : Int, k = 1 + ((cntL x.list : Nat) : Int) ∧ 1 ≤ k := ⟨_, rfl, by omega⟩
  obtain rfl : e = .returned (.int .i64 k1) := he.trans (by rw [hk1])
  have hq1 : k1 ≤ 1 + 5242880 := by omega
  clear he hk1
  replace S5_o := S5_o.kept K5 (fun _ h => h)
  replace FR5 := FR5.kept K5 (fun _ h => h)
  clear K5
  go_wp2_with fail
  refine (markEntry_c (w4.heap.size + 1) q.client q.seq _ _ f5_o _ k1 (by omega) (by omega) (S5_o.belowW blw2) (FR5.belowL blw2 (fun p hp => Nat.lt_of_lt_of_le (UB5 p hp) (by omega)))).mono ?_
  rintro e w13 ⟨he, T13_o, hw13⟩
  have s13 : w12.heap.size ≤ w13.heap.size := wrs hw13 blw2
  replace cp0_0 : w13.cell? ⟨w.heap.size, 0, none⟩ = some (.int .i64 x.cap) := cellw blw2 hw13 cp0_0 (fun hp => by have q1 := FR5.ge _ hp; have q2 := UB5 _ hp; simp only at q1 q2; omega)
  replace cp0_1 : w13.cell? ⟨w.heap.size, 1, none⟩ = some (.int .i64 x.next) := cellw blw2 hw13 cp0_1 (fun hp => by have q1 := FR5.ge _ hp; have q2 := UB5 _ hp; simp only at q1 q2; omega)
  replace cp0_2 : w13.cell? ⟨w.heap.size, 2, none⟩ = some (.bool x.out) := cellw blw2 hw13 cp0_2 (fun hp => by have q1 := FR5.ge _ hp; have q2 := UB5 _ hp; simp only at q1 q2; omega)
  replace cp0_3 : w13.cell? ⟨w.heap.size, 3, none⟩ = some (v_x_list) := cellw blw2 hw13 cp0_3 (fun hp => by have q1 := FR5.ge _ hp; have q2 := UB5 _ hp; simp only at q1 q2; omega)
  replace cp1_0 : w13.cell? ⟨w.heap.size + 1, 0, none⟩ = some (.int .i64 q.client) := cellw blw2 hw13 cp1_0 (fun hp => by have q1 := FR5.ge _ hp; have q2 := UB5 _ hp; simp only at q1 q2; omega)
  replace cp1_1 : w13.cell? ⟨w.heap.size + 1, 1, none⟩ = some (.int .i64 q.seq) := cellw blw2 hw13 cp1_1 (fun hp => by have q1 := FR5.ge _ hp; have q2 := UB5 _ hp; simp only at q1 q2; omega)
  replace cp1_2 : w13.cell? ⟨w.heap.size + 1, 2, none⟩ = some (v_q_o) := cellw blw2 hw13 cp1_2 (fun hp => by have q1 := FR5.ge _ hp; have q2 := UB5 _ hp; simp only at q1 q2; omega)
  replace cW0_0 : w13.cell? ⟨b3_0, 0, none⟩ = some (.int .i64 y0.cap) := cellw blw2 hw13 cW0_0 (fun hp => by have q1 := FR5.ge _ hp; have q2 := UB5 _ hp; simp only at q1 q2; omega)
  replace cW0_1 : w13.cell? ⟨b3_0, 1, none⟩ = some (.int .i64 y0.next) := cellw blw2 hw13 cW0_1 (fun hp => by have q1 := FR5.ge _ hp; have q2 := UB5 _ hp; simp only at q1 q2; omega)
  replace cW0_2 : w13.cell? ⟨b3_0, 2, none⟩ = some (.bool y0.out) := cellw blw2 hw13 cW0_2 (fun hp => by have q1 := FR5.ge _ hp; have q2 := UB5 _ hp; simp only at q1 q2; omega)
  replace cW0_3 : w13.cell? ⟨b3_0, 3, none⟩ = some (.slice a3_0_list y0.list.length c3_0_list) := cellw blw2 hw13 cW0_3 (fun hp => by have q1 := FR5.ge _ hp; have q2 := UB5 _ hp; simp only at q1 q2; omega)
  replace cxx_0 : w13.cell? ⟨w4.heap.size, 0, none⟩ = some (.int .i64 x.cap) := cellw blw2 hw13 cxx_0 (fun hp => by have q1 := FR5.ge _ hp; have q2 := UB5 _ hp; simp only at q1 q2; omega)
  replace cxx_1 : w13.cell? ⟨w4.heap.size, 1, none⟩ = some (.int .i64 x.next) := cellw blw2 hw13 cxx_1 (fun hp => by have q1 := FR5.ge _ hp; have q2 := UB5 _ hp; simp only at q1 q2; omega)
  replace cxx_2 : w13.cell? ⟨w4.heap.size, 2, none⟩ = some (.bool x.out) := cellw blw2 hw13 cxx_2 (fun hp => by have q1 := FR5.ge _ hp; have q2 := UB5 _ hp; simp only at q1 q2; omega)
  replace cxx_3 : w13.cell? ⟨w4.heap.size, 3, none⟩ = some (.slice a4_list x.list.length c4_list) := cellw blw2 hw13 cxx_3 (fun hp => by have q1 := FR5.ge _ hp; have q2 := UB5 _ hp; simp only at q1 q2; omega)
  replace cxq_0 : w13.cell? ⟨w5.heap.size, 0, none⟩ = some (.int .i64 q.client) := cellw blw2 hw13 cxq_0 (fun hp => by have q1 := FR5.ge _ hp; have q2 := UB5 _ hp; simp only at q1 q2; omega)
  replace cxq_1 : w13.cell? ⟨w5.heap.size, 1, none⟩ = some (.int .i64 q.seq) := cellw blw2 hw13 cxq_1 (fun hp => by have q1 := FR5.ge _ hp; have q2 := UB5 _ hp; simp only at q1 q2; omega)
  replace cxq_2 : w13.cell? ⟨w5.heap.size, 2, none⟩ = some (.slice a5_o q.o.length c5_o) := cellw blw2 hw13 cxq_2 (fun hp => by have q1 := FR5.ge _ hp; have q2 := UB5 _ hp; simp only at q1 q2; omega)
  replace cG0_0 : w13.cell? ⟨w6.heap.size, 0, none⟩ = some (.int .i64 y0.cap) := cellw blw2 hw13 cG0_0 (fun hp => by have q1 := FR5.ge _ hp; have q2 := UB5 _ hp; simp only at q1 q2; omega)
  replace cG0_1 : w13.cell? ⟨w6.heap.size, 1, none⟩ = some (.int .i64 y0.next) := cellw blw2 hw13 cG0_1 (fun hp => by have q1 := FR5.ge _ hp; have q2 := UB5 _ hp; simp only at q1 q2; omega)
  replace cG0_2 : w13.cell? ⟨w6.heap.size, 2, none⟩ = some (.bool y0.out) := cellw blw2 hw13 cG0_2 (fun hp => by have q1 := FR5.ge _ hp; have q2 := UB5 _ hp; simp only at q1 q2; omega)
  replace cG0_3 : w13.cell? ⟨w6.heap.size, 3, none⟩ = some (.slice a6_0_list y0.list.length c6_0_list) := cellw blw2 hw13 cG0_3 (fun hp => by have q1 := FR5.ge _ hp; have q2 := UB5 _ hp; simp only at q1 q2; omega)
  replace K3 : Kept f3_0_list w3 w13 := K3.wr2 blw2 hw13 (fun p hp => Nat.lt_of_lt_of_le (UB3 p hp) (by omega)) (fun q hq hp => by have q1 := FR5.ge q hp; have q2 := UB5 q hp; first | (have q3 := UB3 q hq; omega) | (have q3 := FR3.ge q hq; omega))
  replace K4 : Kept f4_list w12 w13 := K4.wr2 blw2 hw13 (fun p hp => Nat.lt_of_lt_of_le (UB4 p hp) (by omega)) (fun q hq hp => by have q1 := FR5.ge q hp; have q2 := UB5 q hp; first | (have q3 := UB4 q hq; omega) | (have q3 := FR4.ge q hq; omega))
  replace K6 : Kept f6_0_list w6 w13 := K6.wr2 blw2 hw13 (fun p hp => Nat.lt_of_lt_of_le (UB6 p hp) (by omega)) (fun q hq hp => by have q1 := FR5.ge q hp; have q2 := UB5 q hp; first | (have q3 := UB6 q hq; omega) | (have q3 := FR6.ge q hq; omega))
  have B13 : Below (w4.heap.size + 1) w12 w13 := wrb hw13 blw2 (by omega) (fun p hp => FR5.ge p hp)
  replace FR5 : Fresh (w4.heap.size + 1) w13 f5_o := FR5.wr2 blw2 hw13 (fun p hp => Nat.lt_of_lt_of_le (UB5 p hp) (by omega))
  replace S5_o := T13_o
  have K5 : Kept f5_o w13 w13 := Kept.refl _ _
  have z13_p0 : w.heap.size < w13.heap.size := (by omega)
  have z13_p1 : w.heap.size + 1 < w13.heap.size := (by omega)
  have z13_W0 : b3_0 < w13.heap.size := (by omega)
  have z13_xx : w4.heap.size < w13.heap.size := (by omega)
  have z13_xq : w5.heap.size < w13.heap.size := (by omega)
  have z13_G0 : w6.heap.size < w13.heap.size := (by omega)
  obtain ⟨k2, hk2, hp2⟩ : ∃ k : Int, k = k1 + ((cntL q.o : Nat) : Int) ∧ k1 ≤ k := ⟨_, rfl, by omega⟩
  obtain rfl : e = .returned (.int .i64 k2) := he.trans (by rw [hk2])
  have hq2 : k2 ≤ k1 + 5242880 := by omega
  clear he hk2
  have hkn : decide (k2 < 0) = false := by simp; omega
  have hkm : ¬ k2 < 0 := by omega
  go_wp2_with fail
  refine (eqRing_c y0 _ _ _ ((⟨_, S6_0_list.kept (K6.below (show Below w13.heap.size w13 _ from blw2) (fun p hp => Nat.lt_of_lt_of_le (UB6 p hp) (by omega))) (fun _ h => h)⟩ : RdS _ _ _)) ((⟨_, S3_0_list.kept (K3.below (show Below w13.heap.size w13 _ from blw2) (fun p hp => Nat.lt_of_lt_of_le (UB3 p hp) (by omega))) (fun _ h => h)⟩ : RdS _ _ _))).mono ?_
  rintro e w14 ⟨rfl, hb14⟩
  have B14 : Below w13.heap.size w13 w14 := blw2
  have s14 : w13.heap.size ≤ w14.heap.size := (by have := hb14.size; (try simp at this); omega)
  have hh := mc8 B14 cp0_0 cp0_1 cp0_2 cp0_3 cp1_0 cp1_1 cp1_2 cW0_0
  clear cp0_0 cp0_1 cp0_2 cp0_3 cp1_0 cp1_1 cp1_2 cW0_0
  obtain ⟨cp0_0, cp0_1, cp0_2, cp0_3, cp1_0, cp1_1, cp1_2, cW0_0⟩ := hh
  have hh := mc8 B14 cW0_1 cW0_2 cW0_3 cxx_0 cxx_1 cxx_2 cxx_3 cxq_0
  clear cW0_1 cW0_2 cW0_3 cxx_0 cxx_1 cxx_2 cxx_3 cxq_0
  obtain ⟨cW0_1, cW0_2, cW0_3, cxx_0, cxx_1, cxx_2, cxx_3, cxq_0⟩ := hh
  have hh := mc6 B14 cxq_1 cxq_2 cG0_0 cG0_1 cG0_2 cG0_3
  clear cxq_1 cxq_2 cG0_0 cG0_1 cG0_2 cG0_3
  obtain ⟨cxq_1, cxq_2, cG0_0, cG0_1, cG0_2, cG0_3⟩ := hh
  replace K3 : Kept f3_0_list w3 w14 := K3.below B14 (fun p hp => Nat.lt_of_lt_of_le (UB3 p hp) (by omega))
  replace K6 : Kept f6_0_list w6 w14 := K6.below B14 (fun p hp => Nat.lt_of_lt_of_le (UB6 p hp) (by omega))
  have z14_p0 : w.heap.size < w14.heap.size := (by omega)
  have z14_p1 : w.heap.size + 1 < w14.heap.size := (by omega)
  have z14_W0 : b3_0 < w14.heap.size := (by omega)
  have z14_xx : w4.heap.size < w14.heap.size := (by omega)
  have z14_xq : w5.heap.size < w14.heap.size := (by omega)
  have z14_G0 : w6.heap.size < w14.heap.size := (by omega)
  clear hb14
  replace S6_0_list := S6_0_list.kept K6 (fun _ h => h)
  replace FR6 := FR6.kept K6 (fun _ h => h)
  clear K6
  go_wp2_with fail
  refine (markRing_c (w5.heap.size + 1) y0.cap y0.next y0.out _ _ f6_0_list _ 1 (by omega) (by omega) (S6_0_list.belowW blw2) (FR6.belowL blw2 (fun p hp => Nat.lt_of_lt_of_le (UB6 p hp) (by omega)))).mono ?_
  rintro e w15 ⟨he, T15_0_list, hw15⟩
  have s15 : w14.heap.size ≤ w15.heap.size := wrs hw15 blw2
  replace cp0_0 : w15.cell? ⟨w.heap.size, 0, none⟩ = some (.int .i64 x.cap) := cellw blw2 hw15 cp0_0 (fun hp => by have q1 := FR6.ge _ hp; have q2 := UB6 _ hp; simp only at q1 q2; omega)
  replace cp0_1 : w15.cell? ⟨w.heap.size, 1, none⟩ = some (.int .i64 x.next) := cellw blw2 hw15 cp0_1 (fun hp => by have q1 := FR6.ge _ hp; have q2 := UB6 _ hp; simp only at q1 q2; omega)
  replace cp0_2 : w15.cell? ⟨w.heap.size, 2, none⟩ = some (.bool x.out) := cellw blw2 hw15 cp0_2 (fun hp => by have q1 := FR6.ge _ hp; have q2 := UB6 _ hp; simp only at q1 q2; omega)
  replace cp0_3 : w15.cell? ⟨w.heap.size, 3, none⟩ = some (v_x_list) := cellw blw2 hw15 cp0_3 (fun hp => by have q1 := FR6.ge _ hp; have q2 := UB6 _ hp; simp only at q1 q2; omega)
  replace cp1_0 : w15.cell? ⟨w.heap.size + 1, 0, none⟩ = some (.int .i64 q.client) := cellw blw2 hw15 cp1_0 (fun hp => by have q1 := FR6.ge _ hp; have q2 := UB6 _ hp; simp only at q1 q2; omega)
  replace cp1_1 : w15.cell? ⟨w.heap.size + 1, 1, none⟩ = some (.int .i64 q.seq) := cellw blw2 hw15 cp1_1 (fun hp => by have q1 := FR6.ge _ hp; have q2 := UB6 _ hp; simp only at q1 q2; omega)
  replace cp1_2 : w15.cell? ⟨w.heap.size + 1, 2, none⟩ = some (v_q_o) := cellw blw2 hw15 cp1_2 (fun hp => by have q1 := FR6.ge _ hp; have q2 := UB6 _ hp; simp only at q1 q2; omega)
  replace cW0_0 : w15.cell? ⟨b3_0, 0, none⟩ = some (.int .i64 y0.cap) := cellw blw2 hw15 cW0_0 (fun hp => by have q1 := FR6.ge _ hp; have q2 := UB6 _ hp; simp only at q1 q2; omega)
  replace cW0_1 : w15.cell? ⟨b3_0, 1, none⟩ = some (.int .i64 y0.next) := cellw blw2 hw15 cW0_1 (fun hp => by have q1 := FR6.ge _ hp; have q2 := UB6 _ hp; simp only at q1 q2; omega)
  replace cW0_2 : w15.cell? ⟨b3_0, 2, none⟩ = some (.bool y0.out) := cellw blw2 hw15 cW0_2 (fun hp => by have q1 := FR6.ge _ hp; have q2 := UB6 _ hp; simp only at q1 q2; omega)
  replace cW0_3 : w15.cell? ⟨b3_0, 3, none⟩ = some (.slice a3_0_list y0.list.length c3_0_list) := cellw blw2 hw15 cW0_3 (fun hp => by have q1 := FR6.ge _ hp; have q2 := UB6 _ hp; simp only at q1 q2; omega)
  replace cxx_0 : w15.cell? ⟨w4.heap.size, 0, none⟩ = some (.int .i64 x.cap) := cellw blw2 hw15 cxx_0 (fun hp => by have q1 := FR6.ge _ hp; have q2 := UB6 _ hp; simp only at q1 q2; omega)
  replace cxx_1 : w15.cell? ⟨w4.heap.size, 1, none⟩ = some (.int .i64 x.next) := cellw blw2 hw15 cxx_1 (fun hp => by have q1 := FR6.ge _ hp; have q2 := UB6 _ hp; simp only at q1 q2; omega)
  replace cxx_2 : w15.cell? ⟨w4.heap.size, 2, none⟩ = some (.bool x.out) := cellw blw2 hw15 cxx_2 (fun hp => by have q1 := FR6.ge _ hp; have q2 := UB6 _ hp; simp only at q1 q2; omega)
  replace cxx_3 : w15.cell? ⟨w4.heap.size, 3, none⟩ = some (.slice a4_list x.list.length c4_list) := cellw blw2 hw15 cxx_3 (fun hp => by have q1 := FR6.ge _ hp; have q2 := UB6 _ hp; simp only at q1 q2; omega)
  replace cxq_0 : w15.cell? ⟨w5.heap.size, 0, none⟩ = some (.int .i64 q.client) := cellw blw2 hw15 cxq_0 (fun hp => by have q1 := FR6.ge _ hp; have q2 := UB6 _ hp; simp only at q1 q2; omega)
  replace cxq_1 : w15.cell? ⟨w5.heap.size, 1, none⟩ = some (.int .i64 q.seq) := cellw blw2 hw15 cxq_1 (fun hp => by have q1 := FR6.ge _ hp; have q2 := UB6 _ hp; simp only at q1 q2; omega)
  replace cxq_2 : w15.cell? ⟨w5.heap.size, 2, none⟩ = some (.slice a5_o q.o.length c5_o) := cellw blw2 hw15 cxq_2 (fun hp => by have q1 := FR6.ge _ hp; have q2 := UB6 _ hp; simp only at q1 q2; omega)
  replace cG0_0 : w15.cell? ⟨w6.heap.size, 0, none⟩ = some (.int .i64 y0.cap) := cellw blw2 hw15 cG0_0 (fun hp => by have q1 := FR6.ge _ hp; have q2 := UB6 _ hp; simp only at q1 q2; omega)
  replace cG0_1 : w15.cell? ⟨w6.heap.size, 1, none⟩ = some (.int .i64 y0.next) := cellw blw2 hw15 cG0_1 (fun hp => by have q1 := FR6.ge _ hp; have q2 := UB6 _ hp; simp only at q1 q2; omega)
  replace cG0_2 : w15.cell? ⟨w6.heap.size, 2, none⟩ = some (.bool y0.out) := cellw blw2 hw15 cG0_2 (fun hp => by have q1 := FR6.ge _ hp; have q2 := UB6 _ hp; simp only at q1 q2; omega)
  replace cG0_3 : w15.cell? ⟨w6.heap.size, 3, none⟩ = some (.slice a6_0_list y0.list.length c6_0_list) := cellw blw2 hw15 cG0_3 (fun hp => by have q1 := FR6.ge _ hp; have q2 := UB6 _ hp; simp only at q1 q2; omega)
  replace K3 : Kept f3_0_list w3 w15 := K3.wr2 blw2 hw15 (fun p hp => Nat.lt_of_lt_of_le (UB3 p hp) (by omega)) (fun q hq hp => by have q1 := FR6.ge q hp; have q2 := UB6 q hp; first | (have q3 := UB3 q hq; omega) | (have q3 := FR3.ge q hq; omega))
  have B15 : Below (w5.heap.size + 1) w14 w15 := wrb hw15 blw2 (by omega) (fun p hp => FR6.ge p hp)
  replace FR6 : Fresh (w5.heap.size + 1) w15 f6_0_list := FR6.wr2 blw2 hw15 (fun p hp => Nat.lt_of_lt_of_le (UB6 p hp) (by omega))
  replace S6_0_list := T15_0_list
  have K6 : Kept f6_0_list w15 w15 := Kept.refl _ _
  have z15_p0 : w.heap.size < w15.heap.size := (by omega)
  have z15_p1 : w.heap.size + 1 < w15.heap.size := (by omega)
  have z15_W0 : b3_0 < w15.heap.size := (by omega)
  have z15_xx : w4.heap.size < w15.heap.size := (by omega)
  have z15_xq : w5.heap.size < w15.heap.size := (by omega)
  have z15_G0 : w6.heap.size < w15.heap.size := (by omega)
  obtain ⟨m1, hm1, hn1⟩ : ∃ m : Int, m = 1 + ((cntL y0.list : Nat) : Int) ∧ 1 ≤ m := ⟨_, rfl, by omega⟩
  obtain rfl : e = .returned (.int .i64 m1) := he.trans (by rw [hm1])
  have ho1 : m1 ≤ 1 + 1099511627776 := by omega
  have HM1 : Hid (m1 = 1 + ((cntL y0.list : Nat) : Int)) := Lib.hid hm1
  clear he hm1
  have hx1 : decide (m1 < 0) = false := by simp; omega
  have hy1 : ¬ m1 < 0 := by omega
  have hz : (m1 != m1) = false := by simp
  go_wp2_with fail
  refine (heldRing_c y0.cap y0.next y0.out _ _ _ 1 (by omega) (by (try simp only [cntL_mkL]); omega) ((⟨_, S6_0_list.kept (K6.below (show Below w15.heap.size w15 _ from blw2) (fun p hp => Nat.lt_of_lt_of_le (UB6 p hp) (by omega))) (fun _ h => h)⟩ : RdS _ _ _)) (by (try simp only [cntL_mkL]); exact mkL_mkL _ _)).mono ?_
  rintro e w16 ⟨he, hb16⟩
  obtain rfl : e = .returned (.int .i64 m1) := he.trans (by (try simp only [cntL_mkL]); rw [HM1.out])
  clear he
  have B16 : Below w15.heap.size w15 w16 := blw2
  have s16 : w15.heap.size ≤ w16.heap.size := (by have := hb16.size; (try simp at this); omega)
  have hh := mc8 B16 cp0_0 cp0_1 cp0_2 cp0_3 cp1_0 cp1_1 cp1_2 cW0_0
  clear cp0_0 cp0_1 cp0_2 cp0_3 cp1_0 cp1_1 cp1_2 cW0_0
  obtain ⟨cp0_0, cp0_1, cp0_2, cp0_3, cp1_0, cp1_1, cp1_2, cW0_0⟩ := hh
  have hh := mc8 B16 cW0_1 cW0_2 cW0_3 cxx_0 cxx_1 cxx_2 cxx_3 cxq_0
  clear cW0_1 cW0_2 cW0_3 cxx_0 cxx_1 cxx_2 cxx_3 cxq_0
  obtain ⟨cW0_1, cW0_2, cW0_3, cxx_0, cxx_1, cxx_2, cxx_3, cxq_0⟩ := hh
  have hh := mc6 B16 cxq_1 cxq_2 cG0_0 cG0_1 cG0_2 cG0_3
  clear cxq_1 cxq_2 cG0_0 cG0_1 cG0_2 cG0_3
  obtain ⟨cxq_1, cxq_2, cG0_0, cG0_1, cG0_2, cG0_3⟩ := hh
  replace K3 : Kept f3_0_list w3 w16 := K3.below B16 (fun p hp => Nat.lt_of_lt_of_le (UB3 p hp) (by omega))
  replace K6 : Kept f6_0_list w15 w16 := K6.below B16 (fun p hp => Nat.lt_of_lt_of_le (UB6 p hp) (by omega))
  have z16_p0 : w.heap.size < w16.heap.size := (by omega)
  have z16_p1 : w.heap.size + 1 < w16.heap.size := (by omega)
  have z16_W0 : b3_0 < w16.heap.size := (by omega)
  have z16_xx : w4.heap.size < w16.heap.size := (by omega)
  have z16_xq : w5.heap.size < w16.heap.size := (by omega)
  have z16_G0 : w6.heap.size < w16.heap.size := (by omega)
  clear hb16
  go_wp2_with fail
  go_cut [13] from 75 to 79 (fun z0 wx => ∃ (b_0 : Nat) (a_0_list : Option Addr) (c_0_list : Nat) (f_0_list : List Pos), z0 = .pointer (some ⟨b_0, 0, none⟩) ∧ b_0 < wx.heap.size ∧ wx.cell? ⟨b_0, 0, none⟩ = some (.int .i64 y0.cap) ∧ wx.cell? ⟨b_0, 1, none⟩ = some (.int .i64 y0.next) ∧ wx.cell? ⟨b_0, 2, none⟩ = some (.bool y0.out) ∧ wx.cell? ⟨b_0, 3, none⟩ = some (.slice a_0_list y0.list.length c_0_list) ∧ Sl BIG wx (.slice a_0_list y0.list.length c_0_list) y0.list f_0_list ∧ Below w16.heap.size w16 wx)
  case first =>
    go_region_held3 (fun w' => w'.cell? ⟨w.heap.size, 0, none⟩ = some (.int .i64 x.cap) ∧ w'.cell? ⟨w.heap.size, 1, none⟩ = some (.int .i64 x.next) ∧ w'.cell? ⟨w.heap.size, 2, none⟩ = some (.bool x.out) ∧ w'.cell? ⟨w.heap.size, 3, none⟩ = some (v_x_list) ∧ w'.cell? ⟨w.heap.size + 1, 0, none⟩ = some (.int .i64 q.client) ∧ w'.cell? ⟨w.heap.size + 1, 1, none⟩ = some (.int .i64 q.seq) ∧ w'.cell? ⟨w.heap.size + 1, 2, none⟩ = some (v_q_o)) (first | go_keep | (simp [go_sem, cell_setCell, *]; done))
      (first | (go_at_call 7; refine (toRing_c x _ _  (hr_x_list.below blw2)).mono ?_; rintro e wA ⟨_, rfl, ⟨fA_list, hoA, FRA⟩, hbA⟩; obtain ⟨vA_list, fA_list', rfl, SA_list, rfl⟩ := hoA; obtain ⟨aA_list, cA_list, rfl⟩ := RdS.isSlice ⟨_, SA_list⟩; have szA := hbA.size; (try simp at szA); have BBA : Below w16.heap.size w16 wA := (show Below w16.heap.size w16 _ from blw2).trans (hbA.mono om); have swA := BBA.size; (try (have BBA : Below wB.heap.size wB wA := (show Below wB.heap.size wB _ from blw2).trans (hbA.mono om))); (try (have sBA := BBA.size)); have neA0 : ¬ (w.heap.size = wA.heap.size) := (by omega); have nfA0 : ¬ (w.heap.size = w16.heap.size) := (by omega); have neA1 : ¬ (w.heap.size + 1 = wA.heap.size) := (by omega); have nfA1 : ¬ (w.heap.size + 1 = w16.heap.size) := (by omega); have yA0 : wA.cell? ⟨w.heap.size, 0, none⟩ = some (.int .i64 x.cap) := (hbA.cell (p := ⟨w.heap.size, 0, none⟩) (by first | (simp; omega) | omega)).trans (by first | exact cp0_0 | (simp [go_sem, *]; done)); have yA1 : wA.cell? ⟨w.heap.size, 1, none⟩ = some (.int .i64 x.next) := (hbA.cell (p := ⟨w.heap.size, 1, none⟩) (by first | (simp; omega) | omega)).trans (by first | exact cp0_1 | (simp [go_sem, *]; done)); have yA2 : wA.cell? ⟨w.heap.size, 2, none⟩ = some (.bool x.out) := (hbA.cell (p := ⟨w.heap.size, 2, none⟩) (by first | (simp; omega) | omega)).trans (by first | exact cp0_2 | (simp [go_sem, *]; done)); have yA3 : wA.cell? ⟨w.heap.size, 3, none⟩ = some (v_x_list) := (hbA.cell (p := ⟨w.heap.size, 3, none⟩) (by first | (simp; omega) | omega)).trans (by first | exact cp0_3 | (simp [go_sem, *]; done)); have yA4 : wA.cell? ⟨w.heap.size + 1, 0, none⟩ = some (.int .i64 q.client) := (hbA.cell (p := ⟨w.heap.size + 1, 0, none⟩) (by first | (simp; omega) | omega)).trans (by first | exact cp1_0 | (simp [go_sem, *]; done)); have yA5 : wA.cell? ⟨w.heap.size + 1, 1, none⟩ = some (.int .i64 q.seq) := (hbA.cell (p := ⟨w.heap.size + 1, 1, none⟩) (by first | (simp; omega) | omega)).trans (by first | exact cp1_1 | (simp [go_sem, *]; done)); have yA6 : wA.cell? ⟨w.heap.size + 1, 2, none⟩ = some (v_q_o) := (hbA.cell (p := ⟨w.heap.size + 1, 2, none⟩) (by first | (simp; omega) | omega)).trans (by first | exact cp1_2 | (simp [go_sem, *]; done)); (try (have nbAc_0 : wA.cell? ⟨w16.heap.size, 0, none⟩ = some (.int .i64 0) := (hbA.cell (p := ⟨w16.heap.size, 0, none⟩) (by first | (simp; done) | (simp; omega) | omega)).trans (by first | exact nbAc_0 | exact nbBc_0 | (simp [go_sem]; done)))); (try (have ngAc_0 : wA.frozen? ⟨w16.heap.size, 0, none⟩ = false := (hbA.frozen (p := ⟨w16.heap.size, 0, none⟩) (by first | (simp; done) | (simp; omega) | omega)).trans (by first | exact ngAc_0 | exact ngBc_0 | (simp [go_sem]; done)))); (try (have nbAc_1 : wA.cell? ⟨w16.heap.size, 1, none⟩ = some (.int .i64 0) := (hbA.cell (p := ⟨w16.heap.size, 1, none⟩) (by first | (simp; done) | (simp; omega) | omega)).trans (by first | exact nbAc_1 | exact nbBc_1 | (simp [go_sem]; done)))); (try (have ngAc_1 : wA.frozen? ⟨w16.heap.size, 1, none⟩ = false := (hbA.frozen (p := ⟨w16.heap.size, 1, none⟩) (by first | (simp; done) | (simp; omega) | omega)).trans (by first | exact ngAc_1 | exact ngBc_1 | (simp [go_sem]; done)))); (try (have nbAc_2 : wA.cell? ⟨w16.heap.size, 2, none⟩ = some (.bool false) := (hbA.cell (p := ⟨w16.heap.size, 2, none⟩) (by first | (simp; done) | (simp; omega) | omega)).trans (by first | exact nbAc_2 | exact nbBc_2 | (simp [go_sem]; done)))); (try (have ngAc_2 : wA.frozen? ⟨w16.heap.size, 2, none⟩ = false := (hbA.frozen (p := ⟨w16.heap.size, 2, none⟩) (by first | (simp; done) | (simp; omega) | omega)).trans (by first | exact ngAc_2 | exact ngBc_2 | (simp [go_sem]; done)))); (try (have nbAc_3 : wA.cell? ⟨w16.heap.size, 3, none⟩ = some (.slice none 0 0) := (hbA.cell (p := ⟨w16.heap.size, 3, none⟩) (by first | (simp; done) | (simp; omega) | omega)).trans (by first | exact nbAc_3 | exact nbBc_3 | (simp [go_sem]; done)))); (try (have ngAc_3 : wA.frozen? ⟨w16.heap.size, 3, none⟩ = false := (hbA.frozen (p := ⟨w16.heap.size, 3, none⟩) (by first | (simp; done) | (simp; omega) | omega)).trans (by first | exact ngAc_3 | exact ngBc_3 | (simp [go_sem]; done)))); clear hbA) | (go_at_call 8; refine (toEntry_c q _ _  (hr_q_o.below blw2)).mono ?_; rintro e wB ⟨_, rfl, ⟨fB_o, hoB, FRB⟩, hbB⟩; obtain ⟨vB_o, fB_o', rfl, SB_o, rfl⟩ := hoB; obtain ⟨aB_o, cB_o, rfl⟩ := RdS.isSlice ⟨_, SB_o⟩; have szB := hbB.size; (try simp at szB); have BBB : Below w16.heap.size w16 wB := (show Below w16.heap.size w16 _ from blw2).trans (hbB.mono om); have swB := BBB.size; (try (have BAB : Below wA.heap.size wA wB := (show Below wA.heap.size wA _ from blw2).trans (hbB.mono om))); (try (have sAB := BAB.size)); have neB0 : ¬ (w.heap.size = wB.heap.size) := (by omega); have nfB0 : ¬ (w.heap.size = w16.heap.size) := (by omega); have neB1 : ¬ (w.heap.size + 1 = wB.heap.size) := (by omega); have nfB1 : ¬ (w.heap.size + 1 = w16.heap.size) := (by omega); have yB0 : wB.cell? ⟨w.heap.size, 0, none⟩ = some (.int .i64 x.cap) := (hbB.cell (p := ⟨w.heap.size, 0, none⟩) (by first | (simp; omega) | omega)).trans (by first | exact yA0 | (simp [go_sem, *]; done)); have yB1 : wB.cell? ⟨w.heap.size, 1, none⟩ = some (.int .i64 x.next) := (hbB.cell (p := ⟨w.heap.size, 1, none⟩) (by first | (simp; omega) | omega)).trans (by first | exact yA1 | (simp [go_sem, *]; done)); have yB2 : wB.cell? ⟨w.heap.size, 2, none⟩ = some (.bool x.out) := (hbB.cell (p := ⟨w.heap.size, 2, none⟩) (by first | (simp; omega) | omega)).trans (by first | exact yA2 | (simp [go_sem, *]; done)); have yB3 : wB.cell? ⟨w.heap.size, 3, none⟩ = some (v_x_list) := (hbB.cell (p := ⟨w.heap.size, 3, none⟩) (by first | (simp; omega) | omega)).trans (by first | exact yA3 | (simp [go_sem, *]; done)); have yB4 : wB.cell? ⟨w.heap.size + 1, 0, none⟩ = some (.int .i64 q.client) := (hbB.cell (p := ⟨w.heap.size + 1, 0, none⟩) (by first | (simp; omega) | omega)).trans (by first | exact yA4 | (simp [go_sem, *]; done)); have yB5 : wB.cell? ⟨w.heap.size + 1, 1, none⟩ = some (.int .i64 q.seq) := (hbB.cell (p := ⟨w.heap.size + 1, 1, none⟩) (by first | (simp; omega) | omega)).trans (by first | exact yA5 | (simp [go_sem, *]; done)); have yB6 : wB.cell? ⟨w.heap.size + 1, 2, none⟩ = some (v_q_o) := (hbB.cell (p := ⟨w.heap.size + 1, 2, none⟩) (by first | (simp; omega) | omega)).trans (by first | exact yA6 | (simp [go_sem, *]; done)); (try (have nbBc_0 : wB.cell? ⟨w16.heap.size, 0, none⟩ = some (.int .i64 0) := (hbB.cell (p := ⟨w16.heap.size, 0, none⟩) (by first | (simp; done) | (simp; omega) | omega)).trans (by first | exact nbAc_0 | exact nbBc_0 | (simp [go_sem]; done)))); (try (have ngBc_0 : wB.frozen? ⟨w16.heap.size, 0, none⟩ = false := (hbB.frozen (p := ⟨w16.heap.size, 0, none⟩) (by first | (simp; done) | (simp; omega) | omega)).trans (by first | exact ngAc_0 | exact ngBc_0 | (simp [go_sem]; done)))); (try (have nbBc_1 : wB.cell? ⟨w16.heap.size, 1, none⟩ = some (.int .i64 0) := (hbB.cell (p := ⟨w16.heap.size, 1, none⟩) (by first | (simp; done) | (simp; omega) | omega)).trans (by first | exact nbAc_1 | exact nbBc_1 | (simp [go_sem]; done)))); (try (have ngBc_1 : wB.frozen? ⟨w16.heap.size, 1, none⟩ = false := (hbB.frozen (p := ⟨w16.heap.size, 1, none⟩) (by first | (simp; done) | (simp; omega) | omega)).trans (by first | exact ngAc_1 | exact ngBc_1 | (simp [go_sem]; done)))); (try (have nbBc_2 : wB.cell? ⟨w16.heap.size, 2, none⟩ = some (.bool false) := (hbB.cell (p := ⟨w16.heap.size, 2, none⟩) (by first | (simp; done) | (simp; omega) | omega)).trans (by first | exact nbAc_2 | exact nbBc_2 | (simp [go_sem]; done)))); (try (have ngBc_2 : wB.frozen? ⟨w16.heap.size, 2, none⟩ = false := (hbB.frozen (p := ⟨w16.heap.size, 2, none⟩) (by first | (simp; done) | (simp; omega) | omega)).trans (by first | exact ngAc_2 | exact ngBc_2 | (simp [go_sem]; done)))); (try (have nbBc_3 : wB.cell? ⟨w16.heap.size, 3, none⟩ = some (.slice none 0 0) := (hbB.cell (p := ⟨w16.heap.size, 3, none⟩) (by first | (simp; done) | (simp; omega) | omega)).trans (by first | exact nbAc_3 | exact nbBc_3 | (simp [go_sem]; done)))); (try (have ngBc_3 : wB.frozen? ⟨w16.heap.size, 3, none⟩ = false := (hbB.frozen (p := ⟨w16.heap.size, 3, none⟩) (by first | (simp; done) | (simp; omega) | omega)).trans (by first | exact ngAc_3 | exact ngBc_3 | (simp [go_sem]; done)))); (try (have nbBA_0 : wB.cell? ⟨wA.heap.size, 0, none⟩ = some (.int .i64 0) := (hbB.cell (p := ⟨wA.heap.size, 0, none⟩) (by first | (simp; done) | (simp; omega) | omega)).trans (by first | exact nbAA_0 | exact nbBA_0 | (simp [go_sem]; done)))); (try (have ngBA_0 : wB.frozen? ⟨wA.heap.size, 0, none⟩ = false := (hbB.frozen (p := ⟨wA.heap.size, 0, none⟩) (by first | (simp; done) | (simp; omega) | omega)).trans (by first | exact ngAA_0 | exact ngBA_0 | (simp [go_sem]; done)))); (try (have nbBA_1 : wB.cell? ⟨wA.heap.size, 1, none⟩ = some (.int .i64 0) := (hbB.cell (p := ⟨wA.heap.size, 1, none⟩) (by first | (simp; done) | (simp; omega) | omega)).trans (by first | exact nbAA_1 | exact nbBA_1 | (simp [go_sem]; done)))); (try (have ngBA_1 : wB.frozen? ⟨wA.heap.size, 1, none⟩ = false := (hbB.frozen (p := ⟨wA.heap.size, 1, none⟩) (by first | (simp; done) | (simp; omega) | omega)).trans (by first | exact ngAA_1 | exact ngBA_1 | (simp [go_sem]; done)))); (try (have nbBA_2 : wB.cell? ⟨wA.heap.size, 2, none⟩ = some (.bool false) := (hbB.cell (p := ⟨wA.heap.size, 2, none⟩) (by first | (simp; done) | (simp; omega) | omega)).trans (by first | exact nbAA_2 | exact nbBA_2 | (simp [go_sem]; done)))); (try (have ngBA_2 : wB.frozen? ⟨wA.heap.size, 2, none⟩ = false := (hbB.frozen (p := ⟨wA.heap.size, 2, none⟩) (by first | (simp; done) | (simp; omega) | omega)).trans (by first | exact ngAA_2 | exact ngBA_2 | (simp [go_sem]; done)))); (try (have nbBA_3 : wB.cell? ⟨wA.heap.size, 3, none⟩ = some (.slice none 0 0) := (hbB.cell (p := ⟨wA.heap.size, 3, none⟩) (by first | (simp; done) | (simp; omega) | omega)).trans (by first | exact nbAA_3 | exact nbBA_3 | (simp [go_sem]; done)))); (try (have ngBA_3 : wB.frozen? ⟨wA.heap.size, 3, none⟩ = false := (hbB.frozen (p := ⟨wA.heap.size, 3, none⟩) (by first | (simp; done) | (simp; omega) | omega)).trans (by first | exact ngAA_3 | exact ngBA_3 | (simp [go_sem]; done)))); clear hbB) | (go_at_call 9; refine (HI.out _ _ _ (RdS.below (⟨_, SA_list⟩ : RdS wA _ _) blw2) (RdS.below (⟨_, SB_o⟩ : RdS wB _ _) blw2)).mono ?_; rintro e wC ⟨vC_0_list, fC_0_list, rfl, SC_0_list, FRC, hbC⟩; obtain ⟨aC_0_list, cC_0_list, rfl⟩ := RdS.isSlice ⟨_, SC_0_list⟩; have szC := hbC.size; (try simp at szC); have BBC : Below w16.heap.size w16 wC := (show Below w16.heap.size w16 _ from blw2).trans (hbC.mono om); have swC := BBC.size; (try (have BAC : Below wA.heap.size wA wC := (show Below wA.heap.size wA _ from blw2).trans (hbC.mono om))); have neC0 : ¬ (w.heap.size = wC.heap.size) := (by omega); have nfC0 : ¬ (w.heap.size = w16.heap.size) := (by omega); have neC1 : ¬ (w.heap.size + 1 = wC.heap.size) := (by omega); have nfC1 : ¬ (w.heap.size + 1 = w16.heap.size) := (by omega); have yC0 : wC.cell? ⟨w.heap.size, 0, none⟩ = some (.int .i64 x.cap) := (hbC.cell (p := ⟨w.heap.size, 0, none⟩) (by first | (simp; omega) | omega)).trans (by first | exact yB0 | (simp [go_sem, *]; done)); have yC1 : wC.cell? ⟨w.heap.size, 1, none⟩ = some (.int .i64 x.next) := (hbC.cell (p := ⟨w.heap.size, 1, none⟩) (by first | (simp; omega) | omega)).trans (by first | exact yB1 | (simp [go_sem, *]; done)); have yC2 : wC.cell? ⟨w.heap.size, 2, none⟩ = some (.bool x.out) := (hbC.cell (p := ⟨w.heap.size, 2, none⟩) (by first | (simp; omega) | omega)).trans (by first | exact yB2 | (simp [go_sem, *]; done)); have yC3 : wC.cell? ⟨w.heap.size, 3, none⟩ = some (v_x_list) := (hbC.cell (p := ⟨w.heap.size, 3, none⟩) (by first | (simp; omega) | omega)).trans (by first | exact yB3 | (simp [go_sem, *]; done)); have yC4 : wC.cell? ⟨w.heap.size + 1, 0, none⟩ = some (.int .i64 q.client) := (hbC.cell (p := ⟨w.heap.size + 1, 0, none⟩) (by first | (simp; omega) | omega)).trans (by first | exact yB4 | (simp [go_sem, *]; done)); have yC5 : wC.cell? ⟨w.heap.size + 1, 1, none⟩ = some (.int .i64 q.seq) := (hbC.cell (p := ⟨w.heap.size + 1, 1, none⟩) (by first | (simp; omega) | omega)).trans (by first | exact yB5 | (simp [go_sem, *]; done)); have yC6 : wC.cell? ⟨w.heap.size + 1, 2, none⟩ = some (v_q_o) := (hbC.cell (p := ⟨w.heap.size + 1, 2, none⟩) (by first | (simp; omega) | omega)).trans (by first | exact yB6 | (simp [go_sem, *]; done)); (try (have nbCc_0 : wC.cell? ⟨w16.heap.size, 0, none⟩ = some (.int .i64 0) := (hbC.cell (p := ⟨w16.heap.size, 0, none⟩) (by first | (simp; done) | (simp; omega) | omega)).trans (by first | exact nbAc_0 | exact nbBc_0 | (simp [go_sem]; done)))); (try (have ngCc_0 : wC.frozen? ⟨w16.heap.size, 0, none⟩ = false := (hbC.frozen (p := ⟨w16.heap.size, 0, none⟩) (by first | (simp; done) | (simp; omega) | omega)).trans (by first | exact ngAc_0 | exact ngBc_0 | (simp [go_sem]; done)))); (try (have nbCc_1 : wC.cell? ⟨w16.heap.size, 1, none⟩ = some (.int .i64 0) := (hbC.cell (p := ⟨w16.heap.size, 1, none⟩) (by first | (simp; done) | (simp; omega) | omega)).trans (by first | exact nbAc_1 | exact nbBc_1 | (simp [go_sem]; done)))); (try (have ngCc_1 : wC.frozen? ⟨w16.heap.size, 1, none⟩ = false := (hbC.frozen (p := ⟨w16.heap.size, 1, none⟩) (by first | (simp; done) | (simp; omega) | omega)).trans (by first | exact ngAc_1 | exact ngBc_1 | (simp [go_sem]; done)))); (try (have nbCc_2 : wC.cell? ⟨w16.heap.size, 2, none⟩ = some (.bool false) := (hbC.cell (p := ⟨w16.heap.size, 2, none⟩) (by first | (simp; done) | (simp; omega) | omega)).trans (by first | exact nbAc_2 | exact nbBc_2 | (simp [go_sem]; done)))); (try (have ngCc_2 : wC.frozen? ⟨w16.heap.size, 2, none⟩ = false := (hbC.frozen (p := ⟨w16.heap.size, 2, none⟩) (by first | (simp; done) | (simp; omega) | omega)).trans (by first | exact ngAc_2 | exact ngBc_2 | (simp [go_sem]; done)))); (try (have nbCc_3 : wC.cell? ⟨w16.heap.size, 3, none⟩ = some (.slice none 0 0) := (hbC.cell (p := ⟨w16.heap.size, 3, none⟩) (by first | (simp; done) | (simp; omega) | omega)).trans (by first | exact nbAc_3 | exact nbBc_3 | (simp [go_sem]; done)))); (try (have ngCc_3 : wC.frozen? ⟨w16.heap.size, 3, none⟩ = false := (hbC.frozen (p := ⟨w16.heap.size, 3, none⟩) (by first | (simp; done) | (simp; omega) | omega)).trans (by first | exact ngAc_3 | exact ngBc_3 | (simp [go_sem]; done)))); (try (have nbCA_0 : wC.cell? ⟨wA.heap.size, 0, none⟩ = some (.int .i64 0) := (hbC.cell (p := ⟨wA.heap.size, 0, none⟩) (by first | (simp; done) | (simp; omega) | omega)).trans (by first | exact nbAA_0 | exact nbBA_0 | (simp [go_sem]; done)))); (try (have ngCA_0 : wC.frozen? ⟨wA.heap.size, 0, none⟩ = false := (hbC.frozen (p := ⟨wA.heap.size, 0, none⟩) (by first | (simp; done) | (simp; omega) | omega)).trans (by first | exact ngAA_0 | exact ngBA_0 | (simp [go_sem]; done)))); (try (have nbCA_1 : wC.cell? ⟨wA.heap.size, 1, none⟩ = some (.int .i64 0) := (hbC.cell (p := ⟨wA.heap.size, 1, none⟩) (by first | (simp; done) | (simp; omega) | omega)).trans (by first | exact nbAA_1 | exact nbBA_1 | (simp [go_sem]; done)))); (try (have ngCA_1 : wC.frozen? ⟨wA.heap.size, 1, none⟩ = false := (hbC.frozen (p := ⟨wA.heap.size, 1, none⟩) (by first | (simp; done) | (simp; omega) | omega)).trans (by first | exact ngAA_1 | exact ngBA_1 | (simp [go_sem]; done)))); (try (have nbCA_2 : wC.cell? ⟨wA.heap.size, 2, none⟩ = some (.bool false) := (hbC.cell (p := ⟨wA.heap.size, 2, none⟩) (by first | (simp; done) | (simp; omega) | omega)).trans (by first | exact nbAA_2 | exact nbBA_2 | (simp [go_sem]; done)))); (try (have ngCA_2 : wC.frozen? ⟨wA.heap.size, 2, none⟩ = false := (hbC.frozen (p := ⟨wA.heap.size, 2, none⟩) (by first | (simp; done) | (simp; omega) | omega)).trans (by first | exact ngAA_2 | exact ngBA_2 | (simp [go_sem]; done)))); (try (have nbCA_3 : wC.cell? ⟨wA.heap.size, 3, none⟩ = some (.slice none 0 0) := (hbC.cell (p := ⟨wA.heap.size, 3, none⟩) (by first | (simp; done) | (simp; omega) | omega)).trans (by first | exact nbAA_3 | exact nbBA_3 | (simp [go_sem]; done)))); (try (have ngCA_3 : wC.frozen? ⟨wA.heap.size, 3, none⟩ = false := (hbC.frozen (p := ⟨wA.heap.size, 3, none⟩) (by first | (simp; done) | (simp; omega) | omega)).trans (by first | exact ngAA_3 | exact ngBA_3 | (simp [go_sem]; done)))); (try (have nbCB_0 : wC.cell? ⟨wB.heap.size, 0, none⟩ = some (.int .i64 0) := (hbC.cell (p := ⟨wB.heap.size, 0, none⟩) (by first | (simp; done) | (simp; omega) | omega)).trans (by first | exact nbAB_0 | exact nbBB_0 | (simp [go_sem]; done)))); (try (have ngCB_0 : wC.frozen? ⟨wB.heap.size, 0, none⟩ = false := (hbC.frozen (p := ⟨wB.heap.size, 0, none⟩) (by first | (simp; done) | (simp; omega) | omega)).trans (by first | exact ngAB_0 | exact ngBB_0 | (simp [go_sem]; done)))); (try (have nbCB_1 : wC.cell? ⟨wB.heap.size, 1, none⟩ = some (.int .i64 0) := (hbC.cell (p := ⟨wB.heap.size, 1, none⟩) (by first | (simp; done) | (simp; omega) | omega)).trans (by first | exact nbAB_1 | exact nbBB_1 | (simp [go_sem]; done)))); (try (have ngCB_1 : wC.frozen? ⟨wB.heap.size, 1, none⟩ = false := (hbC.frozen (p := ⟨wB.heap.size, 1, none⟩) (by first | (simp; done) | (simp; omega) | omega)).trans (by first | exact ngAB_1 | exact ngBB_1 | (simp [go_sem]; done)))); (try (have nbCB_2 : wC.cell? ⟨wB.heap.size, 2, none⟩ = some (.bool false) := (hbC.cell (p := ⟨wB.heap.size, 2, none⟩) (by first | (simp; done) | (simp; omega) | omega)).trans (by first | exact nbAB_2 | exact nbBB_2 | (simp [go_sem]; done)))); (try (have ngCB_2 : wC.frozen? ⟨wB.heap.size, 2, none⟩ = false := (hbC.frozen (p := ⟨wB.heap.size, 2, none⟩) (by first | (simp; done) | (simp; omega) | omega)).trans (by first | exact ngAB_2 | exact ngBB_2 | (simp [go_sem]; done)))); (try (have nbCB_3 : wC.cell? ⟨wB.heap.size, 3, none⟩ = some (.slice none 0 0) := (hbC.cell (p := ⟨wB.heap.size, 3, none⟩) (by first | (simp; done) | (simp; omega) | omega)).trans (by first | exact nbAB_3 | exact nbBB_3 | (simp [go_sem]; done)))); (try (have ngCB_3 : wC.frozen? ⟨wB.heap.size, 3, none⟩ = false := (hbC.frozen (p := ⟨wB.heap.size, 3, none⟩) (by first | (simp; done) | (simp; omega) | omega)).trans (by first | exact ngAB_3 | exact ngBB_3 | (simp [go_sem]; done)))); have HBC := Lib.hid hbC; have HFRC := Lib.hid FRC; clear hbC FRC))
    all_goals
      go_wp2_with fail
      go_meet
      refine ⟨_, aC_0_list, cC_0_list, fC_0_list, rfl, ?_, ?_, ?_, ?_, ?_, ?_, ?_⟩
      · first | omega | (simp; done) | (simp; omega)
      · simp [go_sem, cell_setCell, *]
      · simp [go_sem, cell_setCell, *]
      · simp [go_sem, cell_setCell, *]
      · simp [go_sem, cell_setCell, *]
      · exact (by repeat' (first | (with_reducible exact SC_0_list) | (with_reducible refine Sl.drewS ?_) | (with_reducible refine Sl.allocS ?_ _) | (with_reducible refine Sl.putS ?_ ?_ _) | exact fun hm => by have q1 := HFRC.out.ge _ (by first | exact hm | (simp only [List.mem_append]; simp [hm])); (try simp at q1); omega))
      · exact blw2
  case rest =>
  obtain ⟨w17, rfl⟩ : ∃ wq : World, wq = wc := ⟨_, rfl⟩
  obtain ⟨b17_0, a17_0_list, c17_0_list, f17_0_list, rfl, zb17_0, cH0_0, cH0_1, cH0_2, cH0_3, S17_0_list, hb17⟩ := hcut
  have UB17 : ∀ p ∈ f17_0_list, p.1 < w17.heap.size := Live.lt (S17_0_list.live)
  have K17 : Kept f17_0_list w17 w17 := Kept.refl _ _
  have B17 : Below w16.heap.size w16 w17 := blw2
  have s17 : w16.heap.size ≤ w17.heap.size := (by have := hb17.size; (try simp at this); omega)
  have hh := mc8 B17 cp0_0 cp0_1 cp0_2 cp0_3 cp1_0 cp1_1 cp1_2 cW0_0
  clear cp0_0 cp0_1 cp0_2 cp0_3 cp1_0 cp1_1 cp1_2 cW0_0
  obtain ⟨cp0_0, cp0_1, cp0_2, cp0_3, cp1_0, cp1_1, cp1_2, cW0_0⟩ := hh
  have hh := mc8 B17 cW0_1 cW0_2 cW0_3 cxx_0 cxx_1 cxx_2 cxx_3 cxq_0
  clear cW0_1 cW0_2 cW0_3 cxx_0 cxx_1 cxx_2 cxx_3 cxq_0
  obtain ⟨cW0_1, cW0_2, cW0_3, cxx_0, cxx_1, cxx_2, cxx_3, cxq_0⟩ := hh
  have hh := mc6 B17 cxq_1 cxq_2 cG0_0 cG0_1 cG0_2 cG0_3
  clear cxq_1 cxq_2 cG0_0 cG0_1 cG0_2 cG0_3
  obtain ⟨cxq_1, cxq_2, cG0_0, cG0_1, cG0_2, cG0_3⟩ := hh
  replace K3 : Kept f3_0_list w3 w17 := K3.below B17 (fun p hp => Nat.lt_of_lt_of_le (UB3 p hp) (by omega))
  replace K6 : Kept f6_0_list w15 w17 := K6.below B17 (fun p hp => Nat.lt_of_lt_of_le (UB6 p hp) (by omega))
  have z17_p0 : w.heap.size < w17.heap.size := (by omega)
  have z17_p1 : w.heap.size + 1 < w17.heap.size := (by omega)
  have z17_W0 : b3_0 < w17.heap.size := (by omega)
  have z17_xx : w4.heap.size < w17.heap.size := (by omega)
  have z17_xq : w5.heap.size < w17.heap.size := (by omega)
  have z17_G0 : w6.heap.size < w17.heap.size := (by omega)
  clear hb17
  have z17_H0 : b17_0 < w17.heap.size := zb17_0
  go_wp2_with fail
  refine (eqRing_c y0 _ _ _ ((⟨_, S17_0_list.kept (K17.below (show Below w17.heap.size w17 _ from blw2) (fun p hp => Nat.lt_of_lt_of_le (UB17 p hp) (by omega))) (fun _ h => h)⟩ : RdS _ _ _)) ((⟨_, S3_0_list.kept (K3.below (show Below w17.heap.size w17 _ from blw2) (fun p hp => Nat.lt_of_lt_of_le (UB3 p hp) (by omega))) (fun _ h => h)⟩ : RdS _ _ _))).mono ?_
  rintro e w18 ⟨rfl, hb18⟩
  have B18 : Below w17.heap.size w17 w18 := blw2
  have s18 : w17.heap.size ≤ w18.heap.size := (by have := hb18.size; (try simp at this); omega)
  have hh := mc8 B18 cp0_0 cp0_1 cp0_2 cp0_3 cp1_0 cp1_1 cp1_2 cW0_0
  clear cp0_0 cp0_1 cp0_2 cp0_3 cp1_0 cp1_1 cp1_2 cW0_0
  obtain ⟨cp0_0, cp0_1, cp0_2, cp0_3, cp1_0, cp1_1, cp1_2, cW0_0⟩ := hh
  have hh := mc8 B18 cW0_1 cW0_2 cW0_3 cxx_0 cxx_1 cxx_2 cxx_3 cxq_0
  clear cW0_1 cW0_2 cW0_3 cxx_0 cxx_1 cxx_2 cxx_3 cxq_0
  obtain ⟨cW0_1, cW0_2, cW0_3, cxx_0, cxx_1, cxx_2, cxx_3, cxq_0⟩ := hh
  have hh := mc8 B18 cxq_1 cxq_2 cG0_0 cG0_1 cG0_2 cG0_3 cH0_0 cH0_1
  clear cxq_1 cxq_2 cG0_0 cG0_1 cG0_2 cG0_3 cH0_0 cH0_1
  obtain ⟨cxq_1, cxq_2, cG0_0, cG0_1, cG0_2, cG0_3, cH0_0, cH0_1⟩ := hh
  have hh := mc2 B18 cH0_2 cH0_3
  clear cH0_2 cH0_3
  obtain ⟨cH0_2, cH0_3⟩ := hh
  replace K3 : Kept f3_0_list w3 w18 := K3.below B18 (fun p hp => Nat.lt_of_lt_of_le (UB3 p hp) (by omega))
  replace K6 : Kept f6_0_list w15 w18 := K6.below B18 (fun p hp => Nat.lt_of_lt_of_le (UB6 p hp) (by omega))
  replace K17 : Kept f17_0_list w17 w18 := K17.below B18 (fun p hp => Nat.lt_of_lt_of_le (UB17 p hp) (by omega))
  have z18_p0 : w.heap.size < w18.heap.size := (by omega)
  have z18_p1 : w.heap.size + 1 < w18.heap.size := (by omega)
  have z18_W0 : b3_0 < w18.heap.size := (by omega)
  have z18_xx : w4.heap.size < w18.heap.size := (by omega)
  have z18_xq : w5.heap.size < w18.heap.size := (by omega)
  have z18_G0 : w6.heap.size < w18.heap.size := (by omega)
  have z18_H0 : b17_0 < w18.heap.size := (by omega)
  clear hb18
  go_wp2_with fail
  refine (heldRing_c y0.cap y0.next y0.out _ _ _ 1 (by omega) (by (try simp only [cntL_mkL]); omega) ((⟨_, S6_0_list.kept (K6.below (show Below w18.heap.size w18 _ from blw2) (fun p hp => Nat.lt_of_lt_of_le (UB6 p hp) (by omega))) (fun _ h => h)⟩ : RdS _ _ _)) (by (try simp only [cntL_mkL]); exact mkL_mkL _ _)).mono ?_
  rintro e w19 ⟨he, hb19⟩
  obtain rfl : e = .returned (.int .i64 m1) := he.trans (by (try simp only [cntL_mkL]); rw [HM1.out])
  clear he
  have B19 : Below w18.heap.size w18 w19 := blw2
  have s19 : w18.heap.size ≤ w19.heap.size := (by have := hb19.size; (try simp at this); omega)
  have hh := mc8 B19 cp0_0 cp0_1 cp0_2 cp0_3 cp1_0 cp1_1 cp1_2 cW0_0
  clear cp0_0 cp0_1 cp0_2 cp0_3 cp1_0 cp1_1 cp1_2 cW0_0
  obtain ⟨cp0_0, cp0_1, cp0_2, cp0_3, cp1_0, cp1_1, cp1_2, cW0_0⟩ := hh
  have hh := mc8 B19 cW0_1 cW0_2 cW0_3 cxx_0 cxx_1 cxx_2 cxx_3 cxq_0
  clear cW0_1 cW0_2 cW0_3 cxx_0 cxx_1 cxx_2 cxx_3 cxq_0
  obtain ⟨cW0_1, cW0_2, cW0_3, cxx_0, cxx_1, cxx_2, cxx_3, cxq_0⟩ := hh
  have hh := mc8 B19 cxq_1 cxq_2 cG0_0 cG0_1 cG0_2 cG0_3 cH0_0 cH0_1
  clear cxq_1 cxq_2 cG0_0 cG0_1 cG0_2 cG0_3 cH0_0 cH0_1
  obtain ⟨cxq_1, cxq_2, cG0_0, cG0_1, cG0_2, cG0_3, cH0_0, cH0_1⟩ := hh
  have hh := mc2 B19 cH0_2 cH0_3
  clear cH0_2 cH0_3
  obtain ⟨cH0_2, cH0_3⟩ := hh
  replace K3 : Kept f3_0_list w3 w19 := K3.below B19 (fun p hp => Nat.lt_of_lt_of_le (UB3 p hp) (by omega))
  replace K6 : Kept f6_0_list w15 w19 := K6.below B19 (fun p hp => Nat.lt_of_lt_of_le (UB6 p hp) (by omega))
  have z19_p0 : w.heap.size < w19.heap.size := (by omega)
  have z19_p1 : w.heap.size + 1 < w19.heap.size := (by omega)
  have z19_W0 : b3_0 < w19.heap.size := (by omega)
  have z19_xx : w4.heap.size < w19.heap.size := (by omega)
  have z19_xq : w5.heap.size < w19.heap.size := (by omega)
  have z19_G0 : w6.heap.size < w19.heap.size := (by omega)
  have z19_H0 : b17_0 < w19.heap.size := (by omega)
  clear hb19
  go_wp2
  go_ret
  exact ⟨rfl, blw2⟩
theorem walkc_FnExactRingPush (x : DRing) (v_x_list : Value) (q : DEntry) (v_q_o : Value) (w : World) (h_x_list : RdSM maxLen w v_x_list x.list) (h_q_o : RdSM maxLen w v_q_o q.o) :
    Calls Try.prog 3 #[.agg #[.int .i64 x.cap, .int .i64 x.next, .bool x.out, v_x_list], .agg #[.int .i64 q.client, .int .i64 q.seq, v_q_o]] w (Tells w (.bool true)) :=
  walk_FnExactRingPush x v_x_list q v_q_o w h_x_list h_q_o ((ringPush x q)) (fun hz kz _ _ W h k => spec_RingPush_c x q _ _ W h k (by have : GoS.sz x = szL x.list := rfl; omega) (by have : GoS.sz q = szL q.o := rfl; omega)) (fun hz kz _ _ W h k => impl_RingPush_c x q _ _ W h k (by have : GoS.sz x = szL x.list := rfl; omega) (by have : GoS.sz q = szL q.o := rfl; omega)) (fun hz kz => by have := ringPush_cnt x q; have : GoS.sz x = szL x.list := rfl; have : GoS.sz q = szL q.o := rfl; omega)
namespace fnExactRingPush
theorem own : ownKnob Try.prog.godebug = none := by kernel_rfl
theorem laidOut : laidOutB Try.prog = true := by kernel_rfl
set_option maxRecDepth 100000 in
theorem lifted (os : Os) (started : os.Started) (H : Type) (enc : TypeId × Value → H) :
    ReturnsInHanded {} Try.checked os 3 .any (Rows.fnExactRingPushSpec.pre6 enc Try.prog Try.f3 Rows.fnExactRingPushRow.domain false) (Rows.fnExactRingPushSpec.post enc Try.prog Try.f3 false true false false) := by
  refine returnsInHanded_of_change (C := Try.checked) own started (by kernel_rfl) Try.func3
    (ChangeSpec.witness6 (enc := enc) (C := Try.checked) false ⟨#[], #[.agg #[.int .i64 0, .int .i64 0, .bool false, .slice none 0 0], .agg #[.int .i64 0, .int .i64 0, .slice none 0 0]], []⟩ 8 (by kernel_rfl) (by kernel_rfl) (by kernel_rfl) (by kernel_rfl)) ?_
  intro W base args ds gs before hval0 hW hcnd _
  have hval : ∀ (j : Nat) t v, Try.f3.params[j]? = some t → args[j]? = some v → Value.okWide Try.prog W .any base t v := hval0
  have hW' := hW
  obtain ⟨p, q, hA0, hV, rfl, hfz, hnd⟩ := hW
  have hA : DataW.TrodAll enc Try.prog W 0 (fun _ => true) true Try.f3.params.toList args.toList ds p := hA0
  rw [Try.params3] at hA hval
  obtain ⟨v0, vs0, d0, ds0, p0, q0, hargs, rfl, rfl, h0, r0⟩ := trodAll_cons hA
  obtain ⟨v1, vs1, d1, ds1, p1, q1, rfl, rfl, rfl, h1, r1⟩ := trodAll_cons r0
  obtain ⟨rfl, rfl, rfl⟩ := trodAll_nil r1
  obtain rfl : args = #[v0, v1] := by cases args; simp_all
  obtain ⟨rfl, rfl⟩ := trodVars_none hV
  obtain ⟨cs0, rfl, _⟩ := okWide_struct Try.underlying24 (hval 0 24 v0 rfl rfl)
  have k0 := h0
  have lt0 : ∀ x ∈ p0, x.block < W.heap.size := by obtain ⟨m, hm⟩ := k0; exact DataW.trod_lt m _ _ _ hm
  obtain ⟨x0, m0⟩ : ∃ x : DRing, RdM maxLen W cs0.toList x := by
    obtain ⟨fuel, hf⟩ := h0
    exact opens_DRing _ _ _ _ _ _ _ _ hf
  obtain ⟨v_list0, hc0, m_list0⟩ := invM_DRing m0
  obtain ⟨cs0⟩ := cs0
  simp only at hc0
  subst hc0
  obtain ⟨cs1, rfl, _⟩ := okWide_struct Try.underlying27 (hval 1 27 v1 rfl rfl)
  have k1 := h1
  have lt1 : ∀ x ∈ p1, x.block < W.heap.size := by obtain ⟨m, hm⟩ := k1; exact DataW.trod_lt m _ _ _ hm
  obtain ⟨x1, m1⟩ : ∃ x : DEntry, RdM maxLen W cs1.toList x := by
    obtain ⟨fuel, hf⟩ := h1
    exact opens_DEntry _ _ _ _ _ _ _ _ hf
  obtain ⟨v_o1, hc1, m_o1⟩ := invM_DEntry m1
  obtain ⟨cs1⟩ := cs1
  simp only at hc1
  subst hc1
  clear hA0 hval0
  refine (walkc_FnExactRingPush x0 _ x1 _ W m_list0 m_o1).mono fun e W' ⟨he, bel⟩ => ?_
  subst he
  exact ⟨_, rfl, _, _, _, [], _, [], hW', trodAll_mk1 (shut_bool Try.underlying4 _), (trodAll_cons_mk (Below.trod laidOut (by kernel_rfl) (of_decide_eq_true (by kernel_rfl)) k0 bel lt0) (trodAll_cons_mk (Below.trod laidOut (by kernel_rfl) (of_decide_eq_true (by kernel_rfl)) k1 bel lt1) trodAll_mk0)), rfl, bel.frame _, fun h => by cases h⟩
theorem over : Rows.fnExactRingPushRow.holds Try.pinned (OpenSpec.ofChange Rows.fnExactRingPushSpec) :=
  OpenClaim.holds_of_wide 3 Try.f3 rfl rfl rfl rfl rfl rfl rfl ⟨rfl, rfl, rfl, rfl, rfl⟩ rfl rfl rfl rfl rfl (by kernel_rfl) Try.func3 (by kernel_rfl)
    (of_decide_eq_true (by kernel_rfl)) (by unfold Func.isWrapper; first | (rw [if_pos (by decide +kernel)]; kernel_rfl) | (rw [if_neg (by decide +kernel)]; exact ⟨rfl, rfl⟩))
    (fun os started H enc _ => lifted os started H enc)
theorem proved : Rows.FnExactRingPushSaid := over
end fnExactRingPush
#print axioms fnExactRingPush.proved
end Go.Proofs.Ytdjfmbdcdmmdfaa
