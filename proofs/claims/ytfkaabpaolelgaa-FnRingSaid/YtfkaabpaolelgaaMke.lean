/- MakeEntries. -/
import Derived.Test.YtfkaabpaolelgaaDre
import Derived.Test.YtfkaabpaolelgaaDrn
namespace Go.Proofs.Ytfkaabpaolelgaa
open Go.RowKit
set_option maxHeartbeats 4000000 in
set_option maxRecDepth 100000 in
theorem spec_MakeEntries_c (vb : Value) (bs : List DByte) (w : World) (hb : RdS w vb bs) :
    Calls Try.prog 4 #[vb] w (fun e w' => ∃ (v : Value) (l : List DEntry), e = .returned v ∧ OwnS w.heap.size w' v l ∧ l.length ≤ 11 ∧ (∀ x ∈ l, DrE x) ∧ Below w.heap.size w w') := by
  obtain ⟨i0, hi, hz0, hz1, hz2⟩ := info_parts info_DEntry
  go_enter Try.func4, Try.ntmps4
  go_wp2_with fail
  refine (spec_l01New_c vb bs w hb).mono ?_
  rintro e' w1 ⟨bc, rfl, hc, hb1⟩
  have hbl := hc.lt
  have hws : w.heap.size ≤ w1.heap.size := hb1.size
  have HC := Lib.hid hc
  clear hc hb1 hb
  go_wp2_with fail
  refine (spec_l01Below_c w bc vb bs 12 _ (HC.out.below ((Below.refl _ _).alloc (Nat.le_refl _) _))).mono ?_
  rintro e' w2 ⟨x, rfl, hx, hc1⟩
  obtain ⟨hx0, hx1⟩ := hx.1 (by omega)
  obtain ⟨k0, rfl⟩ : ∃ k : Nat, x = k := ⟨x.toNat, by omega⟩
  have hk0 : k0 ≤ 11 := by omega
  have HC1 : Hid (CuOut w bc vb bs w1 w2) := Lib.hid ⟨hc1.1, (Wr.of_below ((Below.refl _ _).alloc (Nat.le_refl _) _)).trans hc1.2⟩
  clear hc1 hx
  go_wp2_with fail
  go_loopw [4, 5] (fun u i wr => ∃ (u' : Value) (l : List DEntry) (k : Nat), u' = u ∧ i = .int .i64 k ∧ l.length + k ≤ 11 ∧ (∀ x ∈ l, DrE x) ∧ OwnS w1.heap.size wr u' l ∧ CuOut w bc vb bs w1 wr) (fun _ i _ => (intOf i).toNat)
  case atStart => exact ⟨_, [], k0, rfl, rfl, by simpa using hk0, (fun _ h => by cases h), OwnS.empty _ _ _, HC1.out⟩
  case round =>
    obtain ⟨u, l, k, rfl, rfl, hlk, hle, hu, hcw⟩ := hrel
    have HU := Lib.hid hu
    have HCW := Lib.hid hcw
    have HLE := Lib.hid hle
    clear hu hcw hle HC1
    by_cases hk : 0 < k
    · have hk2 : (0 : Int) < (k : Int) := by omega
      have hszr : w1.heap.size ≤ wr.heap.size := HCW.out.2.size
      go_wp2_with fail
      refine (spec_l10Entry_c w bc vb bs _ HCW.out.1).mono ?_
      rintro e' w3 ⟨v3, y, rfl, hy, hdy, hc3⟩
      have HUB := Lib.hid (HU.out.bd.cu hc3.2 hbl)
      have HC3 := Lib.hid (HCW.out.trans hc3)
      obtain ⟨fg, hsg, hfg⟩ := hy
      obtain ⟨as_, cs_, rfl⟩ := hsg.isS
      have HSG := Lib.hid hsg
      have HFG := Lib.hid hfg
      have HDY := Lib.hid hdy
      clear hsg hfg hc3 hdy
      obtain ⟨fs4, hrow4, hff4, hlt4⟩ := HUB.out.row2
      have HROW4 := Lib.hid hrow4
      have HFF4 := Lib.hid hff4
      have HLT4 := Lib.hid hlt4
      have hsr4 := src_built (w := w3) (c := [.int .i64 y.client, .int .i64 y.seq, .slice as_ y.o.length cs_]) (x := y) (f := fg) 32 ⟨_, fg, rfl, HSG.out, rfl⟩
      have HSR4 := Lib.hid hsr4
      have HLV4 : Hid (∀ p ∈ fs4, p.1 < w3.heap.size) := Lib.hid (Live.lt (Live.append.1 hrow4.1.live).2)
      have hsz4 : w1.heap.size ≤ w3.heap.size := HC3.out.2.size
      clear hrow4 hff4 hlt4 hsr4
      go_wp2_with (at_builtin; go_must (refine wpList_append_row rfl _ _ 23 rfl Try.underlying23 hi hz0 hz1 hz2 rfl rfl rfl (HROW4.out.below ((Below.refl _ _).alloc (Nat.le_refl _) _)) HSR4.out (fun q hq hm => by have e1 := HFG.out.ge q hq; have e2 := HLT4.out q (List.mem_append_left _ hm); omega) ?c1 ?c2 ?c3 ?_))
      case c1 => exact le_BIG (by simp; omega)
      case c2 => simp; omega
      case c3 => simp; omega
      intro v4 w4 hr4 hw4 hn4
      have HC4 : Hid (CuOut w bc vb bs w1 w4) := Lib.hid ⟨(HC3.out.1.below ((Below.refl _ _).alloc (Nat.le_refl _) _)).wr hw4 (fun p hp => by have := HROW4.out.2.1.ge p hp; have := HC3.out.1.o; omega), wr_cu (HC3.out.2.trans (Wr.of_below ((Below.refl _ _).alloc (Nat.le_refl _) _))) hw4 (fun p hp => HROW4.out.2.1.ge p hp)⟩
      have HFA4 : Hid (Fresh w1.heap.size w4 fs4) := Lib.hid (hw4.fresh (Live.keep (Live.append.1 HROW4.out.1.live).2 (Live.same_below ((Below.refl _ _).alloc (Nat.le_refl _) _) HLV4.out)) (HFF4.out.belowL ((Below.refl _ _).alloc (Nat.le_refl _) _) HLV4.out))
      have HO4 : Hid (OwnS w1.heap.size w4 v4 (l ++ [y])) := Lib.hid (Row.owns hr4 (HFA4.out.join ((hw4.fresh (Live.keep HSG.out.live (Live.same_below ((Below.refl _ _).alloc (Nat.le_refl _) _) (Live.lt HSG.out.live))) (HFG.out.belowL ((Below.refl _ _).alloc (Nat.le_refl _) _) (Live.lt HSG.out.live))).mono hszr) (fun p hp q hq e => by have e1 := HFG.out.ge q hq; have e2 := HLT4.out p (List.mem_append_right _ hp); rw [e] at e2; omega)))
      clear hr4 hw4 hn4 HROW4 HFF4 HLT4 HSR4 HLV4 HFA4 HC3 HUB HSG HFG
      go_wp2
      go_roundw
      case rel => exact ⟨_, l ++ [y], k - 1, rfl, by first | go_num | (congr 1; omega), by simp; omega, fun x hx => (List.mem_append.1 hx).elim (HLE.out x) (fun h => (List.mem_singleton.1 h) ▸ HDY.out), HO4.out, HC4.out⟩
      case measure => simp [intOf]; omega
    · have hk0 : k = 0 := by omega
      subst hk0
      go_wp2
      go_ret
      exact ⟨u, l, rfl, HU.out.mono hws, by omega, HLE.out, HCW.out.1.bel⟩
end Go.Proofs.Ytfkaabpaolelgaa
