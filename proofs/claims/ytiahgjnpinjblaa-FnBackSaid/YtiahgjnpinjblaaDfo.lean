/- Documents: their operations since a revision, new ones, what is forgotten, who wrote. -/
import Derived.Test.YtiahgjnpinjblaaDfn
import Derived.Test.YtiahgjnpinjblaaWri
namespace Go.Proofs.Ytiahgjnpinjblaa
open Go.RowKit
attribute [local go_sem ↓] Go.wp_at_zero Go.wp_at_succ
theorem opsL_cnt : ∀ l : List DEntry, cntL (opsL l) ≤ 5 * szL l
  | [] => by simp [opsL, cntL]
  | e :: l => by
    have ih := opsL_cnt l
    have e1 : szL (e :: l) = 1 + szL e.o + szL l := by simp only [szL, szs, List.length_cons]; have : GoS.sz e = szL e.o := rfl; unfold szL at this; omega
    have e2 : cntL (opsL (e :: l)) = cntL e.o + cntL (opsL l) := rfl
    have e3 := cntL_le e.o
    omega
theorem opsSince_cnt (d : DDoc) (rev : Int) : cntL (opsSince d rev).1 ≤ 5 * szL d.list := by
  unfold opsSince
  split
  · have := opsL_cnt (d.list.drop (revK d rev)); have := (szL_sub d.list (revK d rev)).2; simp only; omega
  · simp [cntL]
theorem docNew_cnt (n : ByteArray) (t : List Int) : cntL (docNew n t).1.text + (cntL (docNew n t).1.list + cntL (docNew n t).1.seen) ≤ 5 * szL t := by
  have h1 := cntL_le t
  unfold docNew
  split
  · simp only [cntL]; omega
  · simp [doc0, cntL]
theorem made_zeros (n : Nat) : (madeCells #[Value.int .i64 0] n).toList = List.replicate n (Value.int .i64 0) := by
  rw [List.eq_replicate_iff]
  refine ⟨by simp [madeCells], fun b hb => ?_⟩
  simp only [madeCells, Array.toList_map, List.mem_map] at hb
  obtain ⟨x, _, rfl⟩ := hb
  simp [Nat.mod_one]
theorem owns_zeros {w : World} {B : Nat} {E : TypeId} {v : Value} {n : Nat} (h : w.ownsRow B E 1 v n (List.replicate n (Value.int .i64 0))) (hn : n ≤ BIG) : OwnS (α := Int) B w v (List.replicate n 0) := by
  have hels : ∀ m : Nat, Els (α := Int) BIG w (List.replicate m (Value.int .i64 0)) (List.replicate m 0) [] := by
    intro m
    induction m with
    | zero => exact Els.nil
    | succ m ih => exact ⟨[Value.int .i64 0], List.replicate m (Value.int .i64 0), [], [], rfl, ⟨rfl, rfl⟩, ih, rfl⟩
  obtain ⟨_, ⟨rfl, rfl⟩ | ⟨g, cap, cur, rfl, hb, hg, h1, h2, h3, h4⟩⟩ := h
  · exact OwnS.nil
  · have hw : cur = (List.replicate n (Value.int .i64 0) ++ cur.toList.drop n).toArray := by
      apply Array.toList_inj.1
      rw [← h4]; simp
    have hlen : (List.replicate n (0 : Int)).length = n := by simp
    have hat : At w g 0 (List.replicate n (Value.int .i64 0)) := by
      have := row_at (w := w) (g := g) (c1 := []) (c2 := List.replicate n (Value.int .i64 0)) (c3 := cur.toList.drop n) (E := E) (fr := (0, 0)) (by rw [List.nil_append, ← hw]; exact hg)
      simpa using this
    refine ⟨own g 0 (cap * 1) ++ [], .inr ⟨g, 0, cap, List.replicate n (Value.int .i64 0), [], by rw [hlen], by rw [hlen]; exact h1, h2, by rw [hlen]; exact hn, hat, hels n, ?_, rfl⟩, ?_⟩
    · intro p hp
      obtain ⟨e1, e2, e3⟩ := mem_own.1 hp
      have : w.cell? ⟨p.1, p.2, none⟩ = cur[p.2]? := by rw [e1]; simp [World.cell?, hg]
      have e3' : p.2 < cap * 1 := by have := e3; simp only [GoT.n] at this; omega
      rw [this, Array.getElem?_eq_getElem (by omega)]; rfl
    · rw [List.append_nil]
      exact ⟨own_nodup _ _ _, fun p hp => by rw [(mem_own.1 hp).1]; exact hb, fun p hp => by rw [(mem_own.1 hp).1]; exact row_frozen hg⟩
/-- who wrote, entry by entry -/
def wrStep (x : List Int) (e : DEntry) : List Int := (writers e.o x e.client).1
def docWriters (d : DDoc) : List Int := if docOk d = true then d.list.foldl wrStep (List.replicate d.text.length 0) else []
theorem wr_snoc {l : List DEntry} {k : Nat} {e : DEntry} (x : List Int) (h : l[k]? = some e) : (l.take (k + 1)).foldl wrStep x = wrStep ((l.take k).foldl wrStep x) e := by rw [take_snoc h, List.foldl_append]; rfl
theorem wr_len (x : List Int) (hx : x.length ≤ 200) : ∀ (l : List DEntry), (l.foldl wrStep x).length ≤ 200
  | [] => hx
  | e :: l => wr_len _ (writers_len e.o x e.client) l
theorem docWriters_len (d : DDoc) : (docWriters d).length ≤ 200 := by
  unfold docWriters
  split
  · rename_i h
    exact wr_len _ (by have := (docOk_iff.1 h).tlen; simpa using this) _
  · simp

set_option maxHeartbeats 16000000 in
set_option maxRecDepth 100000 in
theorem spec_OpsSince_c (d : DDoc) (v_text v_list v_seen : Value) (rev : Int) (w : World) (n_name : d.name.size ≤ BIG) (h_text : RdS w v_text d.text) (h_list : RdS w v_list d.list) (h_seen : RdS w v_seen d.seen) : Calls Try.prog 73 #[.agg #[.string d.name, .int .i64 d.from_, v_text, v_list, v_seen], .int .i64 rev] w (Out_PartSS_b w (opsSince d rev).1 (opsSince d rev).2) := by
  obtain ⟨W, hW⟩ : ∃ W : World, W = w.alloc (.cells #[.string d.name, .int .i64 d.from_, v_text, v_list, v_seen] 27) := ⟨_, rfl⟩
  have hWB : Below w.heap.size w W := by rw [hW]; exact blw
  have sW := hWB.size
  have zd : w.heap.size < W.heap.size := by rw [hW]; first | (simp; done) | (simp; omega)
  have kd0 : W.cell? ⟨w.heap.size, 0, none⟩ = some (.string d.name) := by rw [hW]; simp [go_sem]
  have kd1 : W.cell? ⟨w.heap.size, 1, none⟩ = some (.int .i64 d.from_) := by rw [hW]; simp [go_sem]
  have kd2 : W.cell? ⟨w.heap.size, 2, none⟩ = some (v_text) := by rw [hW]; simp [go_sem]
  have kd3 : W.cell? ⟨w.heap.size, 3, none⟩ = some (v_list) := by rw [hW]; simp [go_sem]
  have kd4 : W.cell? ⟨w.heap.size, 4, none⟩ = some (v_seen) := by rw [hW]; simp [go_sem]
  have HXT := Lib.hid (h_text.below hWB)
  have HXL := Lib.hid (h_list.below hWB)
  have HXS := Lib.hid (h_seen.below hWB)
  have hll := fun w1 ty => h_list.len Try.underlying24 w1 ty
  clear h_text h_list h_seen
  by_cases hd : docOk d = true
  rotate_left
  · have hd : docOk d = false := by simpa using hd
    have HV := Lib.hid (opsSince_no (rev := rev) (d := d) (fun h => by have h1 := h.1; rw [hd] at h1; cases h1))
    go_enter Try.func73, Try.ntmps73
    go_wp2
    rw [← hW]
    clear hW
    obtain ⟨X, hX, F, hF, hFs⟩ := fam_of W
    obtain ⟨cd0, cd1, cd2, cd3, cd4⟩ := mx5 hF zd kd0 kd1 kd2 kd3 kd4
    have HF := Lib.hid hF
    have HFs := Lib.hid hFs
    clear hF hFs
    have HD := Lib.hid (fun (W' : World) (hb : Below W.heap.size W W') => (by have := spec_DocOk_c d _ _ _ W' n_name (HXT.out.below hb) (HXL.out.below hb) (HXS.out.below hb); rw [hd] at this; exact this : Calls Try.prog 48 #[.agg #[.string d.name, .int .i64 d.from_, v_text, v_list, v_seen]] W' (Tells W' (.bool false))))
    refine wp_region_fam (F := F) (by kernel_rfl) (by kernel_rfl) (HFs.out _ blw) ?_
    repeat (go_big_quiet_step ((go_at_call 48; (with_reducible exact Calls.fam_tells HF.out HFs.out (HD.out _ (HF.out _))))))
    refine wpQuiet_nil ?_
    intro x
    obtain ⟨w1, hwx⟩ : ∃ wx : World, F x = wx := ⟨_, rfl⟩
    have B1 : Below W.heap.size W w1 := by rw [← hwx]; exact HF.out x
    rw [hwx]
    clear hwx cd0 cd1 cd2 cd3 cd4 HF HFs HD
    have s1 := B1.size
    have z1d : w.heap.size < w1.heap.size := Nat.lt_of_lt_of_le zd s1
    obtain ⟨y1d0, y1d1, y1d2, y1d3, y1d4⟩ := mv5 B1 zd kd0 kd1 kd2 kd3 kd4
    go_wp2
    go_ret2
    rw [HV.out]
    exact ⟨_, _, rfl, Sl.nil, Fresh.nil _ _, blw⟩
  have hbd := headRev_bd hd
  by_cases hr : atRev d rev
  rotate_left
  ·
    have HV := Lib.hid (opsSince_no hr)
    have hw0 : within rev d.from_ (headRev d) = false := by rw [within_rev hd]; simpa using hr
    go_enter Try.func73, Try.ntmps73
    go_wp2
    rw [← hW]
    clear hW
    obtain ⟨X, hX, F, hF, hFs⟩ := fam_of W
    obtain ⟨cd0, cd1, cd2, cd3, cd4⟩ := mx5 hF zd kd0 kd1 kd2 kd3 kd4
    have HF := Lib.hid hF
    have HFs := Lib.hid hFs
    clear hF hFs
    have HD := Lib.hid (fun (W' : World) (hb : Below W.heap.size W W') => (by have := spec_DocOk_c d _ _ _ W' n_name (HXT.out.below hb) (HXL.out.below hb) (HXS.out.below hb); rw [hd] at this; exact this : Calls Try.prog 48 #[.agg #[.string d.name, .int .i64 d.from_, v_text, v_list, v_seen]] W' (Tells W' (.bool true))))
    have HH := Lib.hid (fun (W' : World) (hb : Below W.heap.size W W') => (by have := spec_HeadRev_c d v_text _ v_seen W' (HXL.out.below hb) (by omega) (by omega); exact this : Calls Try.prog 31 #[.agg #[.string d.name, .int .i64 d.from_, v_text, v_list, v_seen]] W' (Tells W' (.int .i64 (headRev d)))))
    have HI := Lib.hid (fun (W' : World) (hb : Below W.heap.size W W') => (by have := spec_within_c rev d.from_ (headRev d) W'; rw [hw0] at this; exact this : Calls Try.prog 50 #[.int .i64 rev, .int .i64 d.from_, .int .i64 (headRev d)] W' (Tells W' (.bool false))))
    refine wp_region_fam (F := F) (by kernel_rfl) (by kernel_rfl) (HFs.out _ blw) ?_
    repeat (go_big_quiet_step ((first | (go_at_call 48; (with_reducible exact Calls.fam_tells HF.out HFs.out (HD.out _ (HF.out _)))) | (go_at_call 31; (with_reducible exact Calls.fam_tells HF.out HFs.out (HH.out _ (HF.out _)))) | (go_at_call 50; (with_reducible exact Calls.fam_tells HF.out HFs.out (HI.out _ (HF.out _)))))))
    refine wpQuiet_nil ?_
    intro x
    obtain ⟨w1, hwx⟩ : ∃ wx : World, F x = wx := ⟨_, rfl⟩
    have B1 : Below W.heap.size W w1 := by rw [← hwx]; exact HF.out x
    rw [hwx]
    clear hwx cd0 cd1 cd2 cd3 cd4 HF HFs HD HH HI
    have s1 := B1.size
    have z1d : w.heap.size < w1.heap.size := Nat.lt_of_lt_of_le zd s1
    obtain ⟨y1d0, y1d1, y1d2, y1d3, y1d4⟩ := mv5 B1 zd kd0 kd1 kd2 kd3 kd4
    go_wp2
    go_ret2
    rw [HV.out]
    exact ⟨_, _, rfl, Sl.nil, Fresh.nil _ _, blw⟩
  have hw0 : within rev d.from_ (headRev d) = true := by rw [within_rev hd]; simpa using hr
  have hp := docOk_iff.1 hd
  have hl8 := hp.len
  have ht2 := hp.tlen
  have hsz := hp.sz
  have HP := Lib.hid hp
  clear hp
  obtain ⟨K, hK, hrev, hkk⟩ := atRev_split hr
  have hval := opsSince_yes hr
  rw [hkk] at hval
  have HV := Lib.hid hval
  obtain ⟨vc, hcut, hcr⟩ := HXL.out.cutl Try.underlying24 szi_DEntry hK
  have HCR := Lib.hid hcr
  have hlc := fun w1 ty => hcr.len Try.underlying24 w1 ty
  have hszc : szL (d.list.drop K) ≤ 4000000 := Nat.le_trans (szL_drop _ _) (by omega)
  clear hkk hcr hval
  subst hrev
  obtain ⟨i0, hi, hz0, hz1, hz2⟩ := info_parts info_ops
  have hlen8 : (d.list.drop K).length ≤ 8 := by simp; omega
  generalize d.list.drop K = L at *
  go_enter Try.func73, Try.ntmps73
  go_wp2
  rw [← hW]
  clear hW
  obtain ⟨X, hX, F, hF, hFs⟩ := fam_of W
  obtain ⟨cd0, cd1, cd2, cd3, cd4⟩ := mx5 hF zd kd0 kd1 kd2 kd3 kd4
  have HF := Lib.hid hF
  have HFs := Lib.hid hFs
  clear hF hFs
  have HD := Lib.hid (fun (W' : World) (hb : Below W.heap.size W W') => (by have := spec_DocOk_c d _ _ _ W' n_name (HXT.out.below hb) (HXL.out.below hb) (HXS.out.below hb); rw [hd] at this; exact this : Calls Try.prog 48 #[.agg #[.string d.name, .int .i64 d.from_, v_text, v_list, v_seen]] W' (Tells W' (.bool true))))
  have HH := Lib.hid (fun (W' : World) (hb : Below W.heap.size W W') => (by have := spec_HeadRev_c d v_text _ v_seen W' (HXL.out.below hb) (by omega) (by omega); exact this : Calls Try.prog 31 #[.agg #[.string d.name, .int .i64 d.from_, v_text, v_list, v_seen]] W' (Tells W' (.int .i64 (headRev d)))))
  have HI := Lib.hid (fun (W' : World) (hb : Below W.heap.size W W') => (by have := spec_within_c (d.from_ + (K : Int)) d.from_ (headRev d) W'; rw [hw0] at this; exact this : Calls Try.prog 50 #[.int .i64 (d.from_ + (K : Int)), .int .i64 d.from_, .int .i64 (headRev d)] W' (Tells W' (.bool true))))
  refine wp_region_fam (F := F) (by kernel_rfl) (by kernel_rfl) (HFs.out _ blw) ?_
  repeat (go_big_quiet_step ((first | (go_at_call 48; (with_reducible exact Calls.fam_tells HF.out HFs.out (HD.out _ (HF.out _)))) | (go_at_call 31; (with_reducible exact Calls.fam_tells HF.out HFs.out (HH.out _ (HF.out _)))) | (go_at_call 50; (with_reducible exact Calls.fam_tells HF.out HFs.out (HI.out _ (HF.out _)))))))
  refine wpQuiet_nil ?_
  intro x
  obtain ⟨w1, hwx⟩ : ∃ wx : World, F x = wx := ⟨_, rfl⟩
  have B1 : Below W.heap.size W w1 := by rw [← hwx]; exact HF.out x
  rw [hwx]
  clear hwx cd0 cd1 cd2 cd3 cd4 HF HFs HD HH HI
  have s1 := B1.size
  have z1d : w.heap.size < w1.heap.size := Nat.lt_of_lt_of_le zd s1
  obtain ⟨y1d0, y1d1, y1d2, y1d3, y1d4⟩ := mv5 B1 zd kd0 kd1 kd2 kd3 kd4
  have hs0 : d.from_ + (K : Int) - d.from_ = (K : Int) := by omega
  have hs1 : IntKind.i64.wrap (d.from_ + (K : Int) - d.from_) = (K : Int) := by rw [hs0]; exact IntWalk.i64_in _ (by omega)
  have hs2 : IntKind.i64.wrap (K : Int) = (K : Int) := IntWalk.i64_in _ (by omega)
  go_wp2
  clear hs0 hs1 hs2
  have H2 : Hid (∀ e ∈ L, szL e.o ≤ 4000000) := Lib.hid fun e he => by have := szL_mem he; simp only [GoS.sz] at this; omega
  go_loopw [6, 30] (fun z i wr => ∃ (k : Nat) (u : Value), u = z ∧ k ≤ L.length ∧ i = .int .i64 k ∧ OwnS W.heap.size wr u ((opsL L).take k) ∧ Below W.heap.size W wr) (fun _ i _ => L.length - (intOf i).toNat)
  case atStart => exact ⟨0, _, rfl, Nat.zero_le _, rfl, OwnS.empty _ _ _, blw⟩
  case round =>
    obtain ⟨k, u, rfl, hk, rfl, hu, hbr⟩ := hrel
    have hsr := hbr.size
    by_cases hlt : k < L.length
    · obtain ⟨x1, hx⟩ := get_some hlt
      obtain ⟨b1, o1, cs, g1, g2, g3⟩ := (HCR.out.below hbr).idx Try.underlying24 szi_DEntry k hx
      obtain ⟨v_o, rfl, r_o⟩ := inv_DEntry g3
      have q0 := g2.zero
      have q1 := g2 1 _ rfl
      have q2 := g2 2 _ rfl
      obtain ⟨aa, ca, rfl⟩ := r_o.isSlice
      have HT : Hid ((opsL L).take (k + 1) = (opsL L).take k ++ [x1.o]) := Lib.hid (take_snoc (opsL_get hx))
      have hps := H2.out x1 (List.mem_of_getElem? hx)
      have hkl : ((opsL L).take k).length ≤ 8 := by simp [opsL]; omega
      have HRO := Lib.hid r_o
      clear hx g2 g3 r_o
      obtain ⟨fs, hrow, hfs⟩ := hu.row
      have HROW := Lib.hid hrow
      have HFS := Lib.hid hfs
      clear hrow hfs hu
      go_wp2_with fail
      refine (spec_l02Copy_c _ x1.o _ (HRO.out.below blw) hps).mono ?_
      rintro e w4 ⟨v4, rfl, ho, hb4⟩
      obtain ⟨f, hrd, hfr⟩ := ho
      obtain ⟨a4, c4, rfl⟩ := RdS.isSlice ⟨_, hrd⟩
      have hb4' : Below wr.heap.size wr w4 := (show Below wr.heap.size wr _ from blw).trans (hb4.mono om)
      have HB4 := Lib.hid hb4'
      have s4 := hb4'.size
      have HFR := Lib.hid (hfr.mono (B' := wr.heap.size) (by simp))
      have HSV := Lib.hid hrd
      clear hb4 hfr hrd
      go_wp2_with (at_builtin; refine wpList_append_row rfl _ _ 50 rfl Try.underlying50 hi hz0 hz1 hz2 rfl rfl rfl ((HROW.out.below HB4.out).below ((Below.refl _ _).alloc (Nat.le_refl _) _)) (src_built (x := x1.o) 32 ⟨_, rfl, HSV.out⟩) (fun q hq hm => by have e1 := HFR.out.ge q hq; have e2 := Live.lt (Live.append.1 HROW.out.1.live).1 q hm; omega) ?c1 ?c2 ?c3 ?_)
      case c1 => simp at hkl ⊢; exact le_BIG (by omega)
      case c2 => simp at hkl ⊢; omega
      case c3 => simp; omega
      intro v' w5 hr5 hw5 _
      have HO : Hid (OwnS W.heap.size w5 v' ((opsL L).take (k + 1))) := Lib.hid (by
        rw [HT.out]
        exact Row.grown HROW.out HFS.out (HB4.out.alloc (by omega) _) (HFR.out.belowL ((Below.refl _ _).alloc (Nat.le_refl _) _) (Live.lt HSV.out.live)) (HSV.out.belowW ((Below.refl _ _).alloc (Nat.le_refl _) _)).live hsr hr5 hw5)
      have HBX : Hid (Below W.heap.size W w5) := Lib.hid (hbr.trans (wrb (C := W.heap.size) hw5 (HB4.out.alloc (by omega) _) hsr (fun q hq => HROW.out.2.1.ge q hq)))
      clear hr5 hw5
      go_wp2
      go_roundw
      case rel => exact ⟨k + 1, _, rfl, by omega, by go_num, HO.out, HBX.out⟩
      case measure => simp [intOf]; omega
    · obtain rfl : k = L.length := by omega
      rw [List.take_of_length_le (by simp [opsL])] at hu
      obtain ⟨f, hs, hf⟩ := hu
      go_wp2
      go_ret2
      rw [HV.out]
      exact ⟨_, _, rfl, hs, hf.mono (by omega), blw⟩
set_option maxHeartbeats 16000000 in
set_option maxRecDepth 100000 in
theorem impl_OpsSince_c (d : DDoc) (v_text v_list v_seen : Value) (rev : Int) (w : World) (n_name : d.name.size ≤ BIG) (h_text : RdS w v_text d.text) (h_list : RdS w v_list d.list) (h_seen : RdS w v_seen d.seen) : Calls Try.prog 21 #[.agg #[.string d.name, .int .i64 d.from_, v_text, v_list, v_seen], .int .i64 rev] w (Out_PartSS_b w (opsSince d rev).1 (opsSince d rev).2) := by
  obtain ⟨W, hW⟩ : ∃ W : World, W = w.alloc (.cells #[.string d.name, .int .i64 d.from_, v_text, v_list, v_seen] 27) := ⟨_, rfl⟩
  have hWB : Below w.heap.size w W := by rw [hW]; exact blw
  have sW := hWB.size
  have zd : w.heap.size < W.heap.size := by rw [hW]; first | (simp; done) | (simp; omega)
  have kd0 : W.cell? ⟨w.heap.size, 0, none⟩ = some (.string d.name) := by rw [hW]; simp [go_sem]
  have kd1 : W.cell? ⟨w.heap.size, 1, none⟩ = some (.int .i64 d.from_) := by rw [hW]; simp [go_sem]
  have kd2 : W.cell? ⟨w.heap.size, 2, none⟩ = some (v_text) := by rw [hW]; simp [go_sem]
  have kd3 : W.cell? ⟨w.heap.size, 3, none⟩ = some (v_list) := by rw [hW]; simp [go_sem]
  have kd4 : W.cell? ⟨w.heap.size, 4, none⟩ = some (v_seen) := by rw [hW]; simp [go_sem]
  have HXT := Lib.hid (h_text.below hWB)
  have HXL := Lib.hid (h_list.below hWB)
  have HXS := Lib.hid (h_seen.below hWB)
  have hll := fun w1 ty => h_list.len Try.underlying24 w1 ty
  clear h_text h_list h_seen
  by_cases hd : docOk d = true
  rotate_left
  · have hd : docOk d = false := by simpa using hd
    have HV := Lib.hid (opsSince_no (rev := rev) (d := d) (fun h => by have h1 := h.1; rw [hd] at h1; cases h1))
    go_enter Try.func21, Try.ntmps21
    go_wp2
    rw [← hW]
    clear hW
    obtain ⟨X, hX, F, hF, hFs⟩ := fam_of W
    obtain ⟨cd0, cd1, cd2, cd3, cd4⟩ := mx5 hF zd kd0 kd1 kd2 kd3 kd4
    have HF := Lib.hid hF
    have HFs := Lib.hid hFs
    clear hF hFs
    have HD := Lib.hid (fun (W' : World) (hb : Below W.heap.size W W') => (by have := impl_DocOk_c d _ _ _ W' n_name (HXT.out.below hb) (HXL.out.below hb) (HXS.out.below hb); rw [hd] at this; exact this : Calls Try.prog 16 #[.agg #[.string d.name, .int .i64 d.from_, v_text, v_list, v_seen]] W' (Tells W' (.bool false))))
    refine wp_region_fam (F := F) (by kernel_rfl) (by kernel_rfl) (HFs.out _ blw) ?_
    repeat (go_big_quiet_step ((go_at_call 16; (with_reducible exact Calls.fam_tells HF.out HFs.out (HD.out _ (HF.out _))))))
    refine wpQuiet_nil ?_
    intro x
    obtain ⟨w1, hwx⟩ : ∃ wx : World, F x = wx := ⟨_, rfl⟩
    have B1 : Below W.heap.size W w1 := by rw [← hwx]; exact HF.out x
    rw [hwx]
    clear hwx cd0 cd1 cd2 cd3 cd4 HF HFs HD
    have s1 := B1.size
    have z1d : w.heap.size < w1.heap.size := Nat.lt_of_lt_of_le zd s1
    obtain ⟨y1d0, y1d1, y1d2, y1d3, y1d4⟩ := mv5 B1 zd kd0 kd1 kd2 kd3 kd4
    go_wp2
    go_ret2
    rw [HV.out]
    exact ⟨_, _, rfl, Sl.nil, Fresh.nil _ _, blw⟩
  have hbd := headRev_bd hd
  by_cases hr : atRev d rev
  rotate_left
  ·
    have HV := Lib.hid (opsSince_no hr)
    have hw0 : within rev d.from_ (headRev d) = false := by rw [within_rev hd]; simpa using hr
    go_enter Try.func21, Try.ntmps21
    go_wp2
    rw [← hW]
    clear hW
    obtain ⟨X, hX, F, hF, hFs⟩ := fam_of W
    obtain ⟨cd0, cd1, cd2, cd3, cd4⟩ := mx5 hF zd kd0 kd1 kd2 kd3 kd4
    have HF := Lib.hid hF
    have HFs := Lib.hid hFs
    clear hF hFs
    have HD := Lib.hid (fun (W' : World) (hb : Below W.heap.size W W') => (by have := impl_DocOk_c d _ _ _ W' n_name (HXT.out.below hb) (HXL.out.below hb) (HXS.out.below hb); rw [hd] at this; exact this : Calls Try.prog 16 #[.agg #[.string d.name, .int .i64 d.from_, v_text, v_list, v_seen]] W' (Tells W' (.bool true))))
    have HH := Lib.hid (fun (W' : World) (hb : Below W.heap.size W W') => (by have := impl_HeadRev_c d v_text _ v_seen W' (HXL.out.below hb) (by omega) (by omega); exact this : Calls Try.prog 18 #[.agg #[.string d.name, .int .i64 d.from_, v_text, v_list, v_seen]] W' (Tells W' (.int .i64 (headRev d)))))
    have HI := Lib.hid (fun (W' : World) (hb : Below W.heap.size W W') => (by have := impl_within_c rev d.from_ (headRev d) W'; rw [hw0] at this; exact this : Calls Try.prog 17 #[.int .i64 rev, .int .i64 d.from_, .int .i64 (headRev d)] W' (Tells W' (.bool false))))
    refine wp_region_fam (F := F) (by kernel_rfl) (by kernel_rfl) (HFs.out _ blw) ?_
    repeat (go_big_quiet_step ((first | (go_at_call 16; (with_reducible exact Calls.fam_tells HF.out HFs.out (HD.out _ (HF.out _)))) | (go_at_call 18; (with_reducible exact Calls.fam_tells HF.out HFs.out (HH.out _ (HF.out _)))) | (go_at_call 17; (with_reducible exact Calls.fam_tells HF.out HFs.out (HI.out _ (HF.out _)))))))
    refine wpQuiet_nil ?_
    intro x
    obtain ⟨w1, hwx⟩ : ∃ wx : World, F x = wx := ⟨_, rfl⟩
    have B1 : Below W.heap.size W w1 := by rw [← hwx]; exact HF.out x
    rw [hwx]
    clear hwx cd0 cd1 cd2 cd3 cd4 HF HFs HD HH HI
    have s1 := B1.size
    have z1d : w.heap.size < w1.heap.size := Nat.lt_of_lt_of_le zd s1
    obtain ⟨y1d0, y1d1, y1d2, y1d3, y1d4⟩ := mv5 B1 zd kd0 kd1 kd2 kd3 kd4
    go_wp2
    go_ret2
    rw [HV.out]
    exact ⟨_, _, rfl, Sl.nil, Fresh.nil _ _, blw⟩
  have hw0 : within rev d.from_ (headRev d) = true := by rw [within_rev hd]; simpa using hr
  have hp := docOk_iff.1 hd
  have hl8 := hp.len
  have ht2 := hp.tlen
  have hsz := hp.sz
  have HP := Lib.hid hp
  clear hp
  obtain ⟨K, hK, hrev, hkk⟩ := atRev_split hr
  have hval := opsSince_yes hr
  rw [hkk] at hval
  have HV := Lib.hid hval
  obtain ⟨vc, hcut, hcr⟩ := HXL.out.cutl Try.underlying24 szi_DEntry hK
  have HCR := Lib.hid hcr
  have hlc := fun w1 ty => hcr.len Try.underlying24 w1 ty
  have hszc : szL (d.list.drop K) ≤ 4000000 := Nat.le_trans (szL_drop _ _) (by omega)
  clear hkk hcr hval
  subst hrev
  go_enter Try.func21, Try.ntmps21
  go_wp2
  rw [← hW]
  clear hW
  obtain ⟨X, hX, F, hF, hFs⟩ := fam_of W
  obtain ⟨cd0, cd1, cd2, cd3, cd4⟩ := mx5 hF zd kd0 kd1 kd2 kd3 kd4
  have HF := Lib.hid hF
  have HFs := Lib.hid hFs
  clear hF hFs
  have HD := Lib.hid (fun (W' : World) (hb : Below W.heap.size W W') => (by have := impl_DocOk_c d _ _ _ W' n_name (HXT.out.below hb) (HXL.out.below hb) (HXS.out.below hb); rw [hd] at this; exact this : Calls Try.prog 16 #[.agg #[.string d.name, .int .i64 d.from_, v_text, v_list, v_seen]] W' (Tells W' (.bool true))))
  have HH := Lib.hid (fun (W' : World) (hb : Below W.heap.size W W') => (by have := impl_HeadRev_c d v_text _ v_seen W' (HXL.out.below hb) (by omega) (by omega); exact this : Calls Try.prog 18 #[.agg #[.string d.name, .int .i64 d.from_, v_text, v_list, v_seen]] W' (Tells W' (.int .i64 (headRev d)))))
  have HI := Lib.hid (fun (W' : World) (hb : Below W.heap.size W W') => (by have := impl_within_c (d.from_ + (K : Int)) d.from_ (headRev d) W'; rw [hw0] at this; exact this : Calls Try.prog 17 #[.int .i64 (d.from_ + (K : Int)), .int .i64 d.from_, .int .i64 (headRev d)] W' (Tells W' (.bool true))))
  refine wp_region_fam (F := F) (by kernel_rfl) (by kernel_rfl) (HFs.out _ blw) ?_
  repeat (go_big_quiet_step ((first | (go_at_call 16; (with_reducible exact Calls.fam_tells HF.out HFs.out (HD.out _ (HF.out _)))) | (go_at_call 18; (with_reducible exact Calls.fam_tells HF.out HFs.out (HH.out _ (HF.out _)))) | (go_at_call 17; (with_reducible exact Calls.fam_tells HF.out HFs.out (HI.out _ (HF.out _)))))))
  refine wpQuiet_nil ?_
  intro x
  obtain ⟨w1, hwx⟩ : ∃ wx : World, F x = wx := ⟨_, rfl⟩
  have B1 : Below W.heap.size W w1 := by rw [← hwx]; exact HF.out x
  rw [hwx]
  clear hwx cd0 cd1 cd2 cd3 cd4 HF HFs HD HH HI
  have s1 := B1.size
  have z1d : w.heap.size < w1.heap.size := Nat.lt_of_lt_of_le zd s1
  obtain ⟨y1d0, y1d1, y1d2, y1d3, y1d4⟩ := mv5 B1 zd kd0 kd1 kd2 kd3 kd4
  have hs0 : d.from_ + (K : Int) - d.from_ = (K : Int) := by omega
  have hs1 : IntKind.i64.wrap (d.from_ + (K : Int) - d.from_) = (K : Int) := by rw [hs0]; exact IntWalk.i64_in _ (by omega)
  have hs2 : IntKind.i64.wrap (K : Int) = (K : Int) := IntWalk.i64_in _ (by omega)
  go_wp2_with fail
  refine (impl_opsOf_c _ (d.list.drop K) _ (HCR.out.below blw) hszc).mono ?_
  rintro e' w3 ⟨v3, rfl, ⟨f3, S3, F3⟩, hb3⟩
  have HS3 := Lib.hid S3
  have HF3 : Hid (Fresh w.heap.size w3 f3) := Lib.hid (F3.mono (by first | omega | (simp; omega)))
  have B3 : Below W.heap.size W w3 := (show Below W.heap.size W _ from blw).trans (hb3.mono om)
  have s3 := B3.size
  have z3d : w.heap.size < w3.heap.size := Nat.lt_of_lt_of_le zd s3
  obtain ⟨y3d0, y3d1, y3d2, y3d3, y3d4⟩ := mv5 B3 zd kd0 kd1 kd2 kd3 kd4
  clear hb3 S3 F3
  go_wp2
  go_ret2
  rw [HV.out]
  exact ⟨_, _, rfl, HS3.out, HF3.out, blw⟩
set_option maxHeartbeats 8000000 in
set_option maxRecDepth 100000 in
theorem spec_DocNew_c (name : ByteArray) (t : List Int) (v_t : Value) (w : World) (n_name : name.size ≤ BIG) (h_t : RdS w v_t t) (b_t : t.length ≤ 4000000) : Calls Try.prog 28 #[.string name, v_t] w (Out_Doc_b w (docNew name t).1 (docNew name t).2) := by
  obtain ⟨i0, hi, hz0, hz1, hz2⟩ := info_parts info_int1
  have HSRC := Lib.hid (Src.ints2 h_t)
  by_cases hd : docOk (⟨name, 0, t, [], []⟩ : DDoc) = true
  · have HV : Hid (docNew name t = ((⟨name, 0, t, [], []⟩ : DDoc), true)) := Lib.hid (if_pos hd)
    go_enter Try.func28, Try.ntmps28
    go_wp2_with (at_builtin; refine wpList_append_row rfl _ _ 23 rfl Try.underlying23 hi hz0 hz1 hz2 rfl rfl rfl (Row.empty (w.heap.size + 1) _ _) (Src.ints2 (h_t.below blw)) (fun _ h => by cases h) ?c1 ?c2 ?c3 ?_)
    case c1 => simp; exact le_BIG (by omega)
    case c2 => simp; omega
    case c3 => simp
    intro v1 w1 hr1 hw1 hn1
    have hb1 : Below (w.heap.size + 1) (w.alloc (.cells #[.string ⟨#[]⟩, .int .i64 0, .slice none 0 0, .slice none 0 0, .slice none 0 0] 27)) w1 := (show Below (w.heap.size + 1) (w.alloc (.cells #[.string ⟨#[]⟩, .int .i64 0, .slice none 0 0, .slice none 0 0, .slice none 0 0] 27)) _ from blw).trans (hw1.nilBelow.mono om)
    replace hr1 : Row (w.heap.size + 1) w1 v1 t [] := hr1
    obtain ⟨a1, c1, rfl⟩ := hr1.rd.isSlice
    have ho1 : OwnS (w.heap.size + 1) w1 (.slice a1 t.length c1) t := hr1.owns (Fresh.nil _ _)
    clear hr1 hw1 hn1
    have s1 : w.heap.size + 1 ≤ w1.heap.size := by have := hb1.size; simpa using this
    have hbw : Below w.heap.size w w1 := ((Below.refl w.heap.size w).alloc (Nat.le_refl _) _).trans (hb1.mono (by omega))
    have HO1 := Lib.hid ho1
    clear ho1
    have r0 : w1.cell? ⟨w.heap.size, 0, none⟩ = some (.string ⟨#[]⟩) := by rw [hb1.cell (p := ⟨w.heap.size, 0, none⟩) (Nat.lt_succ_self _)]; simp [go_sem]
    have f0 : w1.frozen? ⟨w.heap.size, 0, none⟩ = false := by rw [hb1.frozen (p := ⟨w.heap.size, 0, none⟩) (Nat.lt_succ_self _)]; simp [go_sem]
    have r1 : w1.cell? ⟨w.heap.size, 1, none⟩ = some (.int .i64 0) := by rw [hb1.cell (p := ⟨w.heap.size, 1, none⟩) (Nat.lt_succ_self _)]; simp [go_sem]
    have f1 : w1.frozen? ⟨w.heap.size, 1, none⟩ = false := by rw [hb1.frozen (p := ⟨w.heap.size, 1, none⟩) (Nat.lt_succ_self _)]; simp [go_sem]
    have r2 : w1.cell? ⟨w.heap.size, 2, none⟩ = some (.slice none 0 0) := by rw [hb1.cell (p := ⟨w.heap.size, 2, none⟩) (Nat.lt_succ_self _)]; simp [go_sem]
    have f2 : w1.frozen? ⟨w.heap.size, 2, none⟩ = false := by rw [hb1.frozen (p := ⟨w.heap.size, 2, none⟩) (Nat.lt_succ_self _)]; simp [go_sem]
    have r3 : w1.cell? ⟨w.heap.size, 3, none⟩ = some (.slice none 0 0) := by rw [hb1.cell (p := ⟨w.heap.size, 3, none⟩) (Nat.lt_succ_self _)]; simp [go_sem]
    have f3 : w1.frozen? ⟨w.heap.size, 3, none⟩ = false := by rw [hb1.frozen (p := ⟨w.heap.size, 3, none⟩) (Nat.lt_succ_self _)]; simp [go_sem]
    have r4 : w1.cell? ⟨w.heap.size, 4, none⟩ = some (.slice none 0 0) := by rw [hb1.cell (p := ⟨w.heap.size, 4, none⟩) (Nat.lt_succ_self _)]; simp [go_sem]
    have f4 : w1.frozen? ⟨w.heap.size, 4, none⟩ = false := by rw [hb1.frozen (p := ⟨w.heap.size, 4, none⟩) (Nat.lt_succ_self _)]; simp [go_sem]
    clear hb1
    go_wp2_with fail
    obtain ⟨V, hV⟩ : ∃ V : World, V = w1.alloc (.cells #[.string name, .int .i64 0, .slice a1 t.length c1, .slice none 0 0, .slice none 0 0] 27) := ⟨_, rfl⟩
    have hVB : Below w1.heap.size w1 V := by rw [hV]; exact (Below.refl _ _).alloc (Nat.le_refl _) _
    have sV : w1.heap.size + 1 ≤ V.heap.size := by rw [hV]; simp
    have zr1 : w.heap.size < w1.heap.size := by omega
    have zrV : w.heap.size < V.heap.size := by omega
    have zkV : w1.heap.size < V.heap.size := by omega
    obtain ⟨R0, R1, R2, R3, R4⟩ := mv5 hVB zr1 r0 r1 r2 r3 r4
    obtain ⟨G0, G1, G2, G3, G4⟩ := mf5 hVB zr1 f0 f1 f2 f3 f4
    have k0 : V.cell? ⟨w1.heap.size, 0, none⟩ = some (.string name) := by rw [hV]; simp [go_sem]
    have k1 : V.cell? ⟨w1.heap.size, 1, none⟩ = some (.int .i64 0) := by rw [hV]; simp [go_sem]
    have k2 : V.cell? ⟨w1.heap.size, 2, none⟩ = some (.slice a1 t.length c1) := by rw [hV]; simp [go_sem]
    have k3 : V.cell? ⟨w1.heap.size, 3, none⟩ = some (.slice none 0 0) := by rw [hV]; simp [go_sem]
    have k4 : V.cell? ⟨w1.heap.size, 4, none⟩ = some (.slice none 0 0) := by rw [hV]; simp [go_sem]
    rw [← hV]
    clear hV r0 r1 r2 r3 r4 f0 f1 f2 f3 f4
    have HOV := Lib.hid (HO1.out.below hVB)
    refine (spec_DocOk_c (⟨name, 0, t, [], []⟩ : DDoc) _ _ _ _ n_name HOV.out.rd RdS.nil RdS.nil).mono ?_
    rintro e' w2 ⟨rfl, hb2⟩
    rw [hd]
    have s2 := hb2.size
    obtain ⟨x0, x1, x2, x3, x4⟩ := mv5 hb2 zrV R0 R1 R2 R3 R4
    obtain ⟨t0, t1, t2, t3, t4⟩ := mf5 hb2 zrV G0 G1 G2 G3 G4
    obtain ⟨y0, y1, y2, y3, y4⟩ := mv5 hb2 zkV k0 k1 k2 k3 k4
    have hB2 : Below w.heap.size w w2 := (hbw.trans (hVB.mono (by omega))).trans (hb2.mono (by omega))
    have HB2 := Lib.hid hB2
    have HO2 := Lib.hid (HOV.out.below hb2)
    clear hb2 R0 R1 R2 R3 R4 G0 G1 G2 G3 G4 k0 k1 k2 k3 k4
    go_wp2
    have HB : Hid (Below w.heap.size w (((((w2.setCell ⟨w.heap.size, 0, none⟩ (.string name)).setCell ⟨w.heap.size, 1, none⟩ (.int .i64 0)).setCell ⟨w.heap.size, 2, none⟩ (.slice a1 t.length c1)).setCell ⟨w.heap.size, 3, none⟩ (.slice none 0 0)).setCell ⟨w.heap.size, 4, none⟩ (.slice none 0 0))) := Lib.hid (((((HB2.out.setCell (by simp) _).setCell (by simp) _).setCell (by simp) _).setCell (by simp) _).setCell (by simp) _)
    obtain ⟨f, sf, ff⟩ := (((((HO2.out.poke (b := w.heap.size) (o := 0) (by omega) (.string name)).poke (b := w.heap.size) (o := 1) (by omega) (.int .i64 0)).poke (b := w.heap.size) (o := 2) (by omega) (.slice a1 t.length c1)).poke (b := w.heap.size) (o := 3) (by omega) (.slice none 0 0)).poke (b := w.heap.size) (o := 4) (by omega) (.slice none 0 0))
    rw [HV.out]
    exact bodyPost_ret (v := .tuple #[.agg #[.string name, .int .i64 0, .slice a1 t.length c1, .slice none 0 0, .slice none 0 0], .bool true]) (by simp [results, Try.results28, go_sem, cell_setCell, *]) rfl ⟨_, _, _, f, [], [], rfl, sf, Sl.nil, Sl.nil, n_name, by simpa using ff.mono (by omega), HB.out⟩
  · have HV : Hid (docNew name t = (doc0, false)) := Lib.hid (if_neg hd)
    have hd : docOk (⟨name, 0, t, [], []⟩ : DDoc) = false := by simpa using hd
    go_enter Try.func28, Try.ntmps28
    go_wp2_with (at_builtin; refine wpList_append_row rfl _ _ 23 rfl Try.underlying23 hi hz0 hz1 hz2 rfl rfl rfl (Row.empty (w.heap.size + 1) _ _) (Src.ints2 (h_t.below blw)) (fun _ h => by cases h) ?c1 ?c2 ?c3 ?_)
    case c1 => simp; exact le_BIG (by omega)
    case c2 => simp; omega
    case c3 => simp
    intro v1 w1 hr1 hw1 hn1
    have hb1 : Below (w.heap.size + 1) (w.alloc (.cells #[.string ⟨#[]⟩, .int .i64 0, .slice none 0 0, .slice none 0 0, .slice none 0 0] 27)) w1 := (show Below (w.heap.size + 1) (w.alloc (.cells #[.string ⟨#[]⟩, .int .i64 0, .slice none 0 0, .slice none 0 0, .slice none 0 0] 27)) _ from blw).trans (hw1.nilBelow.mono om)
    replace hr1 : Row (w.heap.size + 1) w1 v1 t [] := hr1
    obtain ⟨a1, c1, rfl⟩ := hr1.rd.isSlice
    have ho1 : OwnS (w.heap.size + 1) w1 (.slice a1 t.length c1) t := hr1.owns (Fresh.nil _ _)
    clear hr1 hw1 hn1
    have s1 : w.heap.size + 1 ≤ w1.heap.size := by have := hb1.size; simpa using this
    have hbw : Below w.heap.size w w1 := ((Below.refl w.heap.size w).alloc (Nat.le_refl _) _).trans (hb1.mono (by omega))
    have HO1 := Lib.hid ho1
    clear ho1
    have r0 : w1.cell? ⟨w.heap.size, 0, none⟩ = some (.string ⟨#[]⟩) := by rw [hb1.cell (p := ⟨w.heap.size, 0, none⟩) (Nat.lt_succ_self _)]; simp [go_sem]
    have f0 : w1.frozen? ⟨w.heap.size, 0, none⟩ = false := by rw [hb1.frozen (p := ⟨w.heap.size, 0, none⟩) (Nat.lt_succ_self _)]; simp [go_sem]
    have r1 : w1.cell? ⟨w.heap.size, 1, none⟩ = some (.int .i64 0) := by rw [hb1.cell (p := ⟨w.heap.size, 1, none⟩) (Nat.lt_succ_self _)]; simp [go_sem]
    have f1 : w1.frozen? ⟨w.heap.size, 1, none⟩ = false := by rw [hb1.frozen (p := ⟨w.heap.size, 1, none⟩) (Nat.lt_succ_self _)]; simp [go_sem]
    have r2 : w1.cell? ⟨w.heap.size, 2, none⟩ = some (.slice none 0 0) := by rw [hb1.cell (p := ⟨w.heap.size, 2, none⟩) (Nat.lt_succ_self _)]; simp [go_sem]
    have f2 : w1.frozen? ⟨w.heap.size, 2, none⟩ = false := by rw [hb1.frozen (p := ⟨w.heap.size, 2, none⟩) (Nat.lt_succ_self _)]; simp [go_sem]
    have r3 : w1.cell? ⟨w.heap.size, 3, none⟩ = some (.slice none 0 0) := by rw [hb1.cell (p := ⟨w.heap.size, 3, none⟩) (Nat.lt_succ_self _)]; simp [go_sem]
    have f3 : w1.frozen? ⟨w.heap.size, 3, none⟩ = false := by rw [hb1.frozen (p := ⟨w.heap.size, 3, none⟩) (Nat.lt_succ_self _)]; simp [go_sem]
    have r4 : w1.cell? ⟨w.heap.size, 4, none⟩ = some (.slice none 0 0) := by rw [hb1.cell (p := ⟨w.heap.size, 4, none⟩) (Nat.lt_succ_self _)]; simp [go_sem]
    have f4 : w1.frozen? ⟨w.heap.size, 4, none⟩ = false := by rw [hb1.frozen (p := ⟨w.heap.size, 4, none⟩) (Nat.lt_succ_self _)]; simp [go_sem]
    clear hb1
    go_wp2_with fail
    obtain ⟨V, hV⟩ : ∃ V : World, V = w1.alloc (.cells #[.string name, .int .i64 0, .slice a1 t.length c1, .slice none 0 0, .slice none 0 0] 27) := ⟨_, rfl⟩
    have hVB : Below w1.heap.size w1 V := by rw [hV]; exact (Below.refl _ _).alloc (Nat.le_refl _) _
    have sV : w1.heap.size + 1 ≤ V.heap.size := by rw [hV]; simp
    have zr1 : w.heap.size < w1.heap.size := by omega
    have zrV : w.heap.size < V.heap.size := by omega
    have zkV : w1.heap.size < V.heap.size := by omega
    obtain ⟨R0, R1, R2, R3, R4⟩ := mv5 hVB zr1 r0 r1 r2 r3 r4
    obtain ⟨G0, G1, G2, G3, G4⟩ := mf5 hVB zr1 f0 f1 f2 f3 f4
    have k0 : V.cell? ⟨w1.heap.size, 0, none⟩ = some (.string name) := by rw [hV]; simp [go_sem]
    have k1 : V.cell? ⟨w1.heap.size, 1, none⟩ = some (.int .i64 0) := by rw [hV]; simp [go_sem]
    have k2 : V.cell? ⟨w1.heap.size, 2, none⟩ = some (.slice a1 t.length c1) := by rw [hV]; simp [go_sem]
    have k3 : V.cell? ⟨w1.heap.size, 3, none⟩ = some (.slice none 0 0) := by rw [hV]; simp [go_sem]
    have k4 : V.cell? ⟨w1.heap.size, 4, none⟩ = some (.slice none 0 0) := by rw [hV]; simp [go_sem]
    rw [← hV]
    clear hV r0 r1 r2 r3 r4 f0 f1 f2 f3 f4
    have HOV := Lib.hid (HO1.out.below hVB)
    refine (spec_DocOk_c (⟨name, 0, t, [], []⟩ : DDoc) _ _ _ _ n_name HOV.out.rd RdS.nil RdS.nil).mono ?_
    rintro e' w2 ⟨rfl, hb2⟩
    rw [hd]
    have s2 := hb2.size
    obtain ⟨x0, x1, x2, x3, x4⟩ := mv5 hb2 zrV R0 R1 R2 R3 R4
    obtain ⟨t0, t1, t2, t3, t4⟩ := mf5 hb2 zrV G0 G1 G2 G3 G4
    obtain ⟨y0, y1, y2, y3, y4⟩ := mv5 hb2 zkV k0 k1 k2 k3 k4
    have hB2 : Below w.heap.size w w2 := (hbw.trans (hVB.mono (by omega))).trans (hb2.mono (by omega))
    have HB2 := Lib.hid hB2
    have HO2 := Lib.hid (HOV.out.below hb2)
    clear hb2 R0 R1 R2 R3 R4 G0 G1 G2 G3 G4 k0 k1 k2 k3 k4
    go_wp2
    have HB : Hid (Below w.heap.size w (((((w2.setCell ⟨w.heap.size, 0, none⟩ (.string ⟨#[]⟩)).setCell ⟨w.heap.size, 1, none⟩ (.int .i64 0)).setCell ⟨w.heap.size, 2, none⟩ (.slice none 0 0)).setCell ⟨w.heap.size, 3, none⟩ (.slice none 0 0)).setCell ⟨w.heap.size, 4, none⟩ (.slice none 0 0))) := Lib.hid (((((HB2.out.setCell (by simp) _).setCell (by simp) _).setCell (by simp) _).setCell (by simp) _).setCell (by simp) _)
    rw [HV.out]
    exact bodyPost_ret (v := .tuple #[.agg #[.string ⟨#[]⟩, .int .i64 0, .slice none 0 0, .slice none 0 0, .slice none 0 0], .bool false]) (by simp [results, Try.results28, go_sem, cell_setCell, *]) rfl ⟨_, _, _, [], [], [], rfl, Sl.nil, Sl.nil, Sl.nil, le_BIG (Nat.zero_le _), by simpa using Fresh.nil _ _, HB.out⟩
end Go.Proofs.Ytiahgjnpinjblaa
