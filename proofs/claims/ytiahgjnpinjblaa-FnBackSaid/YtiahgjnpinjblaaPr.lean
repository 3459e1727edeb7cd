/- Predicates on signs, parts, operations. -/
import Derived.Test.YtiahgjnpinjblaaBa
import Derived.Test.YtiahgjnpinjblaaCm
namespace Go.Proofs.Ytiahgjnpinjblaa
open Go.RowKit

def within (n lo hi : Int) : Bool := decide (lo ≤ n) && decide (n ≤ hi)
theorem within_iff {n lo hi : Int} : within n lo hi = true ↔ lo ≤ n ∧ n ≤ hi := by simp [within]
def signOk (n : Int) : Bool := within n 0 1114111 && !within n 55296 57343
def signsOk (l : List Int) : Bool := l.all signOk
def partOk (p : DPart) : Bool :=
  if p.kind = 1 then within p.n 0 200 && decide (p.signs.length = 0)
  else if p.kind = 3 then within p.n 0 200 && decide (p.signs.length = 0)
  else if p.kind = 2 then decide (p.n = 0) && decide (p.signs.length ≤ 200) && signsOk p.signs
  else false
def partsOk (o : List DPart) : Bool := o.all partOk && decide (o.length ≤ 600)
def psize (p : DPart) : Int := p.n + p.signs.length
def sumBut (but : Int) : List DPart → Int
  | [] => 0
  | p :: o => (if p.kind = but then 0 else psize p) + sumBut but o
def sumOf (kind : Int) : List DPart → Int
  | [] => 0
  | p :: o => (if p.kind = kind then psize p else 0) + sumOf kind o
def sizeBut (but : Int) (o : List DPart) : Int := if partsOk o = true then sumBut but o else 0
def sum1 (kind : Int) (o : List DPart) : Int := if partsOk o = true then sumOf kind o else 0
def opFrom (o : List DPart) : Int := sizeBut 2 o
def opTo (o : List DPart) : Int := sizeBut 3 o
def opOk (o : List DPart) : Bool := partsOk o && decide (opFrom o ≤ 200) && decide (opTo o ≤ 200)
def textOk (t : List Int) : Bool := decide (t.length ≤ 200) && signsOk t

/-- a loop that asks each element -/
theorem all_no {α : Type} {p : α → Bool} {l : List α} {k : Nat} {x : α} (hx : l[k]? = some x) (hp : p x = false) : l.all p = false := by
  rw [List.all_eq_false]
  exact ⟨x, List.mem_of_getElem? hx, by simp [hp]⟩
theorem all_yes {α : Type} {p : α → Bool} {l : List α} (hj : ∀ j < l.length, ∀ y, l[j]? = some y → p y = true) : l.all p = true := by
  rw [List.all_eq_true]
  intro x hx
  obtain ⟨j, hjl, e⟩ := List.mem_iff_getElem.1 hx
  exact hj j hjl x (by rw [List.getElem?_eq_getElem hjl, e])
theorem yes_step {α : Type} {p : α → Bool} {l : List α} {k : Nat} {x : α} (hx : l[k]? = some x) (hp : p x = true) (hj : ∀ j < k, ∀ y, l[j]? = some y → p y = true) : ∀ j < k + 1, ∀ y, l[j]? = some y → p y = true := by
  intro j hlt y hy
  by_cases e : j = k
  · subst e; rw [hx] at hy; cases hy; exact hp
  · exact hj j (by omega) y hy
theorem all_at {α : Type} {p : α → Bool} {l : List α} (h : l.all p = true) {k : Nat} {x : α} (hx : l[k]? = some x) : p x = true := List.all_eq_true.1 h x (List.mem_of_getElem? hx)

theorem partOk_cases {p : DPart} (h : partOk p = true) : (p.kind = 1 ∧ 0 ≤ p.n ∧ p.n ≤ 200 ∧ p.signs = []) ∨ (p.kind = 2 ∧ p.n = 0 ∧ p.signs.length ≤ 200 ∧ signsOk p.signs = true) ∨ (p.kind = 3 ∧ 0 ≤ p.n ∧ p.n ≤ 200 ∧ p.signs = []) := by
  unfold partOk at h
  split at h
  · simp [within_iff] at h; exact .inl ⟨‹_›, h.1.1, h.1.2, h.2⟩
  · split at h
    · simp [within_iff] at h; exact .inr (.inr ⟨‹_›, h.1.1, h.1.2, h.2⟩)
    · split at h
      · simp at h; exact .inr (.inl ⟨‹_›, h.1.1, h.1.2, h.2⟩)
      · cases h
theorem psize_bd {p : DPart} (h : partOk p = true) : 0 ≤ psize p ∧ psize p ≤ 200 := by
  unfold psize
  rcases partOk_cases h with ⟨_, h1, h2, h3⟩ | ⟨_, h1, h2, _⟩ | ⟨_, h1, h2, h3⟩
  · rw [h3]; simp; omega
  · omega
  · rw [h3]; simp; omega
theorem sumBut_append (b : Int) : ∀ (x y : List DPart), sumBut b (x ++ y) = sumBut b x + sumBut b y
  | [], y => by simp [sumBut]
  | p :: x, y => by simp only [List.cons_append, sumBut, sumBut_append b x y]; omega
theorem sumOf_append (b : Int) : ∀ (x y : List DPart), sumOf b (x ++ y) = sumOf b x + sumOf b y
  | [], y => by simp [sumOf]
  | p :: x, y => by simp only [List.cons_append, sumOf, sumOf_append b x y]; omega
theorem sumBut_bd (b : Int) : ∀ (x : List DPart), x.all partOk = true → 0 ≤ sumBut b x ∧ sumBut b x ≤ 200 * x.length
  | [], _ => by simp [sumBut]
  | p :: x, h => by
    simp only [List.all_cons, Bool.and_eq_true] at h
    have h1 := psize_bd h.1
    have h2 := sumBut_bd b x h.2
    simp only [sumBut, List.length_cons]
    split <;> omega
theorem sumOf_bd (b : Int) : ∀ (x : List DPart), x.all partOk = true → 0 ≤ sumOf b x ∧ sumOf b x ≤ 200 * x.length
  | [], _ => by simp [sumOf]
  | p :: x, h => by
    simp only [List.all_cons, Bool.and_eq_true] at h
    have h1 := psize_bd h.1
    have h2 := sumOf_bd b x h.2
    simp only [sumOf, List.length_cons]
    split <;> omega
theorem all_take {α : Type} {p : α → Bool} {l : List α} (h : l.all p = true) (k : Nat) : (l.take k).all p = true := by
  rw [List.all_eq_true] at *
  exact fun x hx => h x (List.mem_of_mem_take hx)
theorem all_drop {α : Type} {p : α → Bool} {l : List α} (h : l.all p = true) (k : Nat) : (l.drop k).all p = true := by
  rw [List.all_eq_true] at *
  exact fun x hx => h x (List.mem_of_mem_drop hx)
theorem sumBut_snoc {o : List DPart} {k : Nat} {p : DPart} (b : Int) (h : o[k]? = some p) : sumBut b (o.take (k + 1)) = sumBut b (o.take k) + (if p.kind = b then 0 else psize p) := by
  rw [take_snoc h, sumBut_append]; simp [sumBut]
theorem sumOf_snoc {o : List DPart} {k : Nat} {p : DPart} (b : Int) (h : o[k]? = some p) : sumOf b (o.take (k + 1)) = sumOf b (o.take k) + (if p.kind = b then psize p else 0) := by
  rw [take_snoc h, sumOf_append]; simp [sumOf]
theorem partsOk_iff {o : List DPart} : partsOk o = true ↔ o.all partOk = true ∧ o.length ≤ 600 := by simp [partsOk]
theorem sumBut_of : ∀ (o : List DPart), o.all partOk = true → sumBut 2 o = sumOf 1 o + sumOf 3 o ∧ sumBut 3 o = sumOf 1 o + sumOf 2 o
  | [], _ => by simp [sumBut, sumOf]
  | p :: o, h => by
    simp only [List.all_cons, Bool.and_eq_true] at h
    have ih := sumBut_of o h.2
    simp only [sumBut, sumOf]
    rcases partOk_cases h.1 with ⟨k, _⟩ | ⟨k, _⟩ | ⟨k, _⟩ <;> rw [k] <;> simp <;> omega
end Go.Proofs.Ytiahgjnpinjblaa

namespace Go.Proofs.Ytiahgjnpinjblaa
open Go.RowKit
theorem spec_within_c (n lo hi : Int) (w : World) : Calls Try.prog 50 #[.int .i64 n, .int .i64 lo, .int .i64 hi] w (Tells w (.bool (within n lo hi))) := by
  by_cases h1 : lo ≤ n
  · by_cases h2 : n ≤ hi
    · have hv : Hid (within n lo hi = true) := Lib.hid (by simp [within, h1, h2])
      go_enter Try.func50, Try.ntmps50
      go_wp2
      go_ret
      exact ⟨ret_bool (by rw [hv.out]; first | done | (simp; done) | (simp; omega)), blw⟩
    · have hv : Hid (within n lo hi = false) := Lib.hid (by simp [within, h2])
      go_enter Try.func50, Try.ntmps50
      go_wp2
      go_ret
      exact ⟨ret_bool (by rw [hv.out]; first | done | (simp; done) | (simp; omega)), blw⟩
  · have hv : Hid (within n lo hi = false) := Lib.hid (by simp [within, h1])
    go_enter Try.func50, Try.ntmps50
    go_wp2
    go_ret
    exact ⟨ret_bool (by rw [hv.out]; first | done | (simp; done) | (simp; omega)), blw⟩
theorem spec_SignOk_c (n : Int) (w : World) : Calls Try.prog 87 #[.int .i64 n] w (Tells w (.bool (signOk n))) := by
  by_cases h1 : within n 0 1114111 = true
  · by_cases h2 : within n 55296 57343 = true
    · have hv : Hid (signOk n = false) := Lib.hid (by simp [signOk, h2])
      go_enter Try.func87, Try.ntmps87
      go_wp2_with fail
      refine (spec_within_c _ _ _ _).mono ?_
      rintro e w1 ⟨rfl, hb1⟩
      have s1 := hb1.size
      (try simp at s1)
      obtain ⟨hc1, hf1⟩ := bcell hb1
      go_wp2_with fail
      refine (spec_within_c _ _ _ _).mono ?_
      rintro e w2 ⟨rfl, hb2⟩
      have s2 := hb2.size
      (try simp at s2)
      obtain ⟨hc2, hf2⟩ := bcell hb2
      go_wp2
      go_ret
      exact ⟨ret_bool (by rw [hv.out]; first | done | (simp; done) | (simp; omega)), blw⟩
    · have h2 : within n 55296 57343 = false := by simpa using h2
      have hv : Hid (signOk n = true) := Lib.hid (by simp [signOk, h1, h2])
      go_enter Try.func87, Try.ntmps87
      go_wp2_with fail
      refine (spec_within_c _ _ _ _).mono ?_
      rintro e w1 ⟨rfl, hb1⟩
      have s1 := hb1.size
      (try simp at s1)
      obtain ⟨hc1, hf1⟩ := bcell hb1
      go_wp2_with fail
      refine (spec_within_c _ _ _ _).mono ?_
      rintro e w2 ⟨rfl, hb2⟩
      have s2 := hb2.size
      (try simp at s2)
      obtain ⟨hc2, hf2⟩ := bcell hb2
      go_wp2
      go_ret
      exact ⟨ret_bool (by rw [hv.out]; first | done | (simp; done) | (simp; omega)), blw⟩
  · have h1 : within n 0 1114111 = false := by simpa using h1
    have hv : Hid (signOk n = false) := Lib.hid (by simp [signOk, h1])
    go_enter Try.func87, Try.ntmps87
    go_wp2_with fail
    refine (spec_within_c _ _ _ _).mono ?_
    rintro e w1 ⟨rfl, hb1⟩
    have s1 := hb1.size
    (try simp at s1)
    obtain ⟨hc1, hf1⟩ := bcell hb1
    go_wp2
    go_ret
    exact ⟨ret_bool (by rw [hv.out]; first | done | (simp; done) | (simp; omega)), blw⟩
set_option maxHeartbeats 400000 in
theorem spec_SignsOk_c (v : Value) (l : List Int) (w : World) (h : RdS w v l) : Calls Try.prog 78 #[v] w (Tells w (.bool (signsOk l))) := by
  have hl := fun w1 ty => h.len Try.underlying23 w1 ty
  have ba := h.le
  go_enter Try.func78, Try.ntmps78
  go_wp2
  go_loopw [7] (fun i wr => ∃ k : Nat, k ≤ l.length ∧ i = .int .i64 k ∧ (∀ j < k, ∀ y, l[j]? = some y → signOk y = true) ∧ Below w.heap.size w wr) (fun i _ => l.length - (intOf i).toNat)
  case atStart => exact ⟨0, Nat.zero_le _, rfl, fun _ h => absurd h (Nat.not_lt_zero _), Below.refl _ _⟩
  case round =>
    obtain ⟨k, hk, rfl, hj, hbw⟩ := hrel
    have hsz := hbw.size
    have HJ := Lib.hid hj; clear hj
    by_cases hlt : k < l.length
    · obtain ⟨x, hx⟩ := get_some hlt
      obtain ⟨b1, o1, _, h1, h2, _, rfl, rfl⟩ := (h.below hbw).idx Try.underlying23 sz_int k hx
      have q0 := h2.one
      have HX := Lib.hid hx; clear hx
      by_cases e : signOk x = true
      · have HE := Lib.hid e
        go_wp2_with fail
        refine (spec_SignOk_c _ _).mono ?_
        rintro e w1 ⟨rfl, hb1⟩
        have s1 := hb1.size
        (try simp at s1)
        obtain ⟨hc1, hf1⟩ := bcell hb1
        go_wp2
        go_roundw
        case rel => exact ⟨k + 1, by omega, by go_num, yes_step HX.out HE.out HJ.out, blw⟩
        case measure => simp [intOf]; omega
      · have e : signOk x = false := by simpa using e
        have HN : Hid (signsOk l = false) := Lib.hid (all_no HX.out e)
        go_wp2_with fail
        refine (spec_SignOk_c _ _).mono ?_
        rintro e w1 ⟨rfl, hb1⟩
        have s1 := hb1.size
        (try simp at s1)
        obtain ⟨hc1, hf1⟩ := bcell hb1
        go_wp2
        go_ret
        exact ⟨ret_bool HN.out.symm, blw⟩
    · have HN : Hid (signsOk l = true) := Lib.hid (all_yes fun j hj => HJ.out j (by omega))
      go_wp2
      go_ret
      exact ⟨ret_bool HN.out.symm, hbw⟩
set_option maxHeartbeats 1000000 in
theorem spec_PartOk_c (p : DPart) (v_signs : Value) (w : World) (h_signs : RdS w v_signs p.signs) : Calls Try.prog 80 #[.agg #[.int .i64 p.kind, .int .i64 p.n, v_signs]] w (Tells w (.bool (partOk p))) := by
  have hl := fun w1 ty => h_signs.len Try.underlying23 w1 ty
  have ba := h_signs.le
  obtain ⟨kind, n, signs⟩ := p
  simp only at h_signs hl ba
  show Calls _ _ #[.agg #[.int .i64 kind, .int .i64 n, v_signs]] w _
  by_cases k2 : kind = 2
  · subst k2
    by_cases h1 : n = 0
    · subst h1
      by_cases h2 : signs.length ≤ 200
      · by_cases h3 : signsOk signs = true
        · have hv : Hid (partOk ⟨2, 0, signs⟩ = true) := Lib.hid (by simp [partOk, h2, h3])
          go_enter Try.func80, Try.ntmps80
          go_wp2_with fail
          refine (spec_SignsOk_c _ signs _ (h_signs.below blw)).mono ?_
          rintro e w1 ⟨rfl, hb1⟩
          have s1 := hb1.size
          (try simp at s1)
          obtain ⟨hc1, hf1⟩ := bcell hb1
          go_wp2
          go_ret
          exact ⟨ret_bool (by rw [hv.out]; first | done | (simp; done) | (simp; omega)), blw⟩
        · have h3 : signsOk signs = false := by simpa using h3
          have hv : Hid (partOk ⟨2, 0, signs⟩ = false) := Lib.hid (by simp [partOk, h3])
          go_enter Try.func80, Try.ntmps80
          go_wp2_with fail
          refine (spec_SignsOk_c _ signs _ (h_signs.below blw)).mono ?_
          rintro e w1 ⟨rfl, hb1⟩
          have s1 := hb1.size
          (try simp at s1)
          obtain ⟨hc1, hf1⟩ := bcell hb1
          go_wp2
          go_ret
          exact ⟨ret_bool (by rw [hv.out]; first | done | (simp; done) | (simp; omega)), blw⟩
      · have hv : Hid (partOk ⟨2, 0, signs⟩ = false) := Lib.hid (by simp [partOk]; omega)
        by_cases h3 : signsOk signs = true
        · go_enter Try.func80, Try.ntmps80
          go_wp2_with (refine (spec_SignsOk_c _ signs _ (h_signs.below blw)).mono ?_; rintro e w1 ⟨rfl, hb1⟩; have s1 := hb1.size; (try simp at s1); obtain ⟨hc1, hf1⟩ := bcell hb1)
          go_ret
          exact ⟨ret_bool (by rw [hv.out]; first | done | (simp; done) | (simp; omega)), blw⟩
        · have h3 : signsOk signs = false := by simpa using h3
          go_enter Try.func80, Try.ntmps80
          go_wp2_with (refine (spec_SignsOk_c _ signs _ (h_signs.below blw)).mono ?_; rintro e w1 ⟨rfl, hb1⟩; have s1 := hb1.size; (try simp at s1); obtain ⟨hc1, hf1⟩ := bcell hb1)
          go_ret
          exact ⟨ret_bool (by rw [hv.out]; first | done | (simp; done) | (simp; omega)), blw⟩
    · have hv : Hid (partOk ⟨2, n, signs⟩ = false) := Lib.hid (by simp [partOk, h1])
      have h1b : (n == 0) = false := by simpa using h1
      clear h1
      go_enter Try.func80, Try.ntmps80
      go_wp2
      go_ret
      exact ⟨ret_bool (by rw [hv.out]; first | done | (simp; done) | (simp; omega)), blw⟩
  · by_cases k13 : kind = 1 ∨ kind = 3
    · have hp : Hid (∀ b, (within n 0 200 && decide (signs.length = 0)) = b → partOk ⟨kind, n, signs⟩ = b) := Lib.hid (by rintro b rfl; rcases k13 with rfl | rfl <;> simp [partOk])
      by_cases h1 : within n 0 200 = true
      · by_cases h2 : signs.length = 0
        · have hv := Lib.hid (hp.out true (by simp [h1, h2]))
          rw [h2] at hl
          rcases k13 with rfl | rfl <;> clear h2 hp
          all_goals
            go_enter Try.func80, Try.ntmps80
            go_wp2_with fail
            refine (spec_within_c _ _ _ _).mono ?_
            rintro e w1 ⟨rfl, hb1⟩
            have s1 := hb1.size
            (try simp at s1)
            obtain ⟨hc1, hf1⟩ := bcell hb1
            go_wp2
            go_ret
            exact ⟨ret_bool (by rw [hv.out]; first | done | (simp; done) | (simp; omega)), blw⟩
        · have hv := Lib.hid (hp.out false (by simp [h1, h2]))
          have h2b : ((signs.length : Int) == 0) = false := by rw [beq_eq_false_iff_ne]; omega
          rcases k13 with rfl | rfl <;> clear h2 hp
          all_goals
            go_enter Try.func80, Try.ntmps80
            go_wp2_with fail
            refine (spec_within_c _ _ _ _).mono ?_
            rintro e w1 ⟨rfl, hb1⟩
            have s1 := hb1.size
            (try simp at s1)
            obtain ⟨hc1, hf1⟩ := bcell hb1
            go_wp2
            go_ret
            exact ⟨ret_bool (by rw [hv.out]; first | done | (simp; done) | (simp; omega)), blw⟩
      · have h1 : within n 0 200 = false := by simpa using h1
        have hv := Lib.hid (hp.out false (by simp [h1]))
        rcases k13 with rfl | rfl <;> clear hp
        all_goals
          go_enter Try.func80, Try.ntmps80
          go_wp2_with fail
          refine (spec_within_c _ _ _ _).mono ?_
          rintro e w1 ⟨rfl, hb1⟩
          have s1 := hb1.size
          (try simp at s1)
          obtain ⟨hc1, hf1⟩ := bcell hb1
          go_wp2
          go_ret
          exact ⟨ret_bool (by rw [hv.out]; first | done | (simp; done) | (simp; omega)), blw⟩
    · have hv : Hid (partOk ⟨kind, n, signs⟩ = false) := Lib.hid (by simp only [not_or] at k13; simp [partOk, k13.1, k13.2, k2])
      have g1 : (kind == 1) = false := by simp only [not_or] at k13; simpa using k13.1
      have g2 : (kind == 2) = false := by simpa using k2
      have g3 : (kind == 3) = false := by simp only [not_or] at k13; simpa using k13.2
      clear k13 k2
      go_enter Try.func80, Try.ntmps80
      go_wp2
      go_ret
      exact ⟨ret_bool (by rw [hv.out]; first | done | (simp; done) | (simp; omega)), blw⟩
set_option maxHeartbeats 1000000 in
theorem spec_partsOk_c (v : Value) (o : List DPart) (w : World) (h : RdS w v o) : Calls Try.prog 69 #[v] w (Tells w (.bool (partsOk o))) := by
  have hl := fun w1 ty => h.len Try.underlying32 w1 ty
  have ba := h.le
  go_enter Try.func69, Try.ntmps69
  go_wp2
  go_loopw [7] (fun i wr => ∃ k : Nat, k ≤ o.length ∧ i = .int .i64 k ∧ (∀ j < k, ∀ y, o[j]? = some y → partOk y = true) ∧ Below w.heap.size w wr) (fun i _ => o.length - (intOf i).toNat)
  case atStart => exact ⟨0, Nat.zero_le _, rfl, fun _ h => absurd h (Nat.not_lt_zero _), Below.refl _ _⟩
  case round =>
    obtain ⟨k, hk, rfl, hj, hbw⟩ := hrel
    have hsz := hbw.size
    have HJ := Lib.hid hj; clear hj
    by_cases hlt : k < o.length
    · obtain ⟨x, hx⟩ := get_some hlt
      obtain ⟨b1, o1, cs, h1, h2, h3⟩ := (h.below hbw).idx Try.underlying32 szi_DPart k hx
      obtain ⟨v_signs, rfl, r_signs⟩ := inv_DPart h3
      have q0 := h2.zero
      have q1 := h2 1 _ rfl
      have q2 := h2 2 _ rfl
      obtain ⟨aa, ca, rfl⟩ := r_signs.isSlice
      have HX := Lib.hid hx; clear hx
      by_cases e : partOk x = true
      · have HE := Lib.hid e
        go_wp2_with fail
        refine (spec_PartOk_c x _ _ (r_signs.below blw)).mono ?_
        rintro e w1 ⟨rfl, hb1⟩
        have s1 := hb1.size
        (try simp at s1)
        obtain ⟨hc1, hf1⟩ := bcell hb1
        go_wp2
        go_roundw
        case rel => exact ⟨k + 1, by omega, by go_num, yes_step HX.out HE.out HJ.out, blw⟩
        case measure => simp [intOf]; omega
      · have e : partOk x = false := by simpa using e
        have HN : Hid (partsOk o = false) := Lib.hid (by unfold partsOk; rw [all_no HX.out e]; rfl)
        go_wp2_with fail
        refine (spec_PartOk_c x _ _ (r_signs.below blw)).mono ?_
        rintro e w1 ⟨rfl, hb1⟩
        have s1 := hb1.size
        (try simp at s1)
        obtain ⟨hc1, hf1⟩ := bcell hb1
        go_wp2
        go_ret
        exact ⟨ret_bool HN.out.symm, blw⟩
    · have HN : Hid (partsOk o = decide (o.length ≤ 600)) := Lib.hid (by unfold partsOk; rw [all_yes fun j hj => HJ.out j (by omega)]; rfl)
      by_cases hle : o.length ≤ 600
      · go_wp2
        go_ret
        exact ⟨ret_bool (by rw [HN.out]; simp; omega), hbw⟩
      · go_wp2
        go_ret
        exact ⟨ret_bool (by rw [HN.out]; simp; omega), hbw⟩
theorem spec_TextOk_c (v : Value) (t : List Int) (w : World) (h : RdS w v t) : Calls Try.prog 65 #[v] w (Tells w (.bool (textOk t))) := by
  have hl := fun w1 ty => h.len Try.underlying23 w1 ty
  have ba := h.le
  by_cases h2 : t.length ≤ 200
  · by_cases h3 : signsOk t = true
    · have hv : Hid (textOk t = true) := Lib.hid (by simp [textOk, h2, h3])
      go_enter Try.func65, Try.ntmps65
      go_wp2_with fail
      refine (spec_SignsOk_c _ t _ (h.below blw)).mono ?_
      rintro e w1 ⟨rfl, hb1⟩
      have s1 := hb1.size
      (try simp at s1)
      obtain ⟨hc1, hf1⟩ := bcell hb1
      go_wp2
      go_ret
      exact ⟨ret_bool (by rw [hv.out]; first | done | (simp; done) | (simp; omega)), blw⟩
    · have h3 : signsOk t = false := by simpa using h3
      have hv : Hid (textOk t = false) := Lib.hid (by simp [textOk, h3])
      go_enter Try.func65, Try.ntmps65
      go_wp2_with fail
      refine (spec_SignsOk_c _ t _ (h.below blw)).mono ?_
      rintro e w1 ⟨rfl, hb1⟩
      have s1 := hb1.size
      (try simp at s1)
      obtain ⟨hc1, hf1⟩ := bcell hb1
      go_wp2
      go_ret
      exact ⟨ret_bool (by rw [hv.out]; first | done | (simp; done) | (simp; omega)), blw⟩
  · have hv : Hid (textOk t = false) := Lib.hid (by simp [textOk, h2])
    by_cases h3 : signsOk t = true
    · go_enter Try.func65, Try.ntmps65
      go_wp2_with (refine (spec_SignsOk_c _ t _ (h.below blw)).mono ?_; rintro e w1 ⟨rfl, hb1⟩; have s1 := hb1.size; (try simp at s1); obtain ⟨hc1, hf1⟩ := bcell hb1)
      go_ret
      exact ⟨ret_bool (by rw [hv.out]; first | done | (simp; done) | (simp; omega)), blw⟩
    · have h3 : signsOk t = false := by simpa using h3
      go_enter Try.func65, Try.ntmps65
      go_wp2_with (refine (spec_SignsOk_c _ t _ (h.below blw)).mono ?_; rintro e w1 ⟨rfl, hb1⟩; have s1 := hb1.size; (try simp at s1); obtain ⟨hc1, hf1⟩ := bcell hb1)
      go_ret
      exact ⟨ret_bool (by rw [hv.out]; first | done | (simp; done) | (simp; omega)), blw⟩
theorem impl_within_c (n lo hi : Int) (w : World) : Calls Try.prog 17 #[.int .i64 n, .int .i64 lo, .int .i64 hi] w (Tells w (.bool (within n lo hi))) := by
  by_cases h1 : lo ≤ n
  · by_cases h2 : n ≤ hi
    · have hv : Hid (within n lo hi = true) := Lib.hid (by simp [within, h1, h2])
      go_enter Try.func17, Try.ntmps17
      go_wp2
      go_ret
      exact ⟨ret_bool (by rw [hv.out]; first | done | (simp; done) | (simp; omega)), blw⟩
    · have hv : Hid (within n lo hi = false) := Lib.hid (by simp [within, h2])
      go_enter Try.func17, Try.ntmps17
      go_wp2
      go_ret
      exact ⟨ret_bool (by rw [hv.out]; first | done | (simp; done) | (simp; omega)), blw⟩
  · have hv : Hid (within n lo hi = false) := Lib.hid (by simp [within, h1])
    go_enter Try.func17, Try.ntmps17
    go_wp2
    go_ret
    exact ⟨ret_bool (by rw [hv.out]; first | done | (simp; done) | (simp; omega)), blw⟩
theorem impl_SignOk_c (n : Int) (w : World) : Calls Try.prog 63 #[.int .i64 n] w (Tells w (.bool (signOk n))) := by
  by_cases h1 : within n 0 1114111 = true
  · by_cases h2 : within n 55296 57343 = true
    · have hv : Hid (signOk n = false) := Lib.hid (by simp [signOk, h2])
      go_enter Try.func63, Try.ntmps63
      go_wp2_with fail
      refine (impl_within_c _ _ _ _).mono ?_
      rintro e w1 ⟨rfl, hb1⟩
      have s1 := hb1.size
      (try simp at s1)
      obtain ⟨hc1, hf1⟩ := bcell hb1
      go_wp2_with fail
      refine (impl_within_c _ _ _ _).mono ?_
      rintro e w2 ⟨rfl, hb2⟩
      have s2 := hb2.size
      (try simp at s2)
      obtain ⟨hc2, hf2⟩ := bcell hb2
      go_wp2
      go_ret
      exact ⟨ret_bool (by rw [hv.out]; first | done | (simp; done) | (simp; omega)), blw⟩
    · have h2 : within n 55296 57343 = false := by simpa using h2
      have hv : Hid (signOk n = true) := Lib.hid (by simp [signOk, h1, h2])
      go_enter Try.func63, Try.ntmps63
      go_wp2_with fail
      refine (impl_within_c _ _ _ _).mono ?_
      rintro e w1 ⟨rfl, hb1⟩
      have s1 := hb1.size
      (try simp at s1)
      obtain ⟨hc1, hf1⟩ := bcell hb1
      go_wp2_with fail
      refine (impl_within_c _ _ _ _).mono ?_
      rintro e w2 ⟨rfl, hb2⟩
      have s2 := hb2.size
      (try simp at s2)
      obtain ⟨hc2, hf2⟩ := bcell hb2
      go_wp2
      go_ret
      exact ⟨ret_bool (by rw [hv.out]; first | done | (simp; done) | (simp; omega)), blw⟩
  · have h1 : within n 0 1114111 = false := by simpa using h1
    have hv : Hid (signOk n = false) := Lib.hid (by simp [signOk, h1])
    go_enter Try.func63, Try.ntmps63
    go_wp2_with fail
    refine (impl_within_c _ _ _ _).mono ?_
    rintro e w1 ⟨rfl, hb1⟩
    have s1 := hb1.size
    (try simp at s1)
    obtain ⟨hc1, hf1⟩ := bcell hb1
    go_wp2
    go_ret
    exact ⟨ret_bool (by rw [hv.out]; first | done | (simp; done) | (simp; omega)), blw⟩
set_option maxHeartbeats 400000 in
theorem impl_SignsOk_c (v : Value) (l : List Int) (w : World) (h : RdS w v l) : Calls Try.prog 46 #[v] w (Tells w (.bool (signsOk l))) := by
  have hl := fun w1 ty => h.len Try.underlying23 w1 ty
  have ba := h.le
  go_enter Try.func46, Try.ntmps46
  go_wp2
  go_loopw [7] (fun i wr => ∃ k : Nat, k ≤ l.length ∧ i = .int .i64 k ∧ (∀ j < k, ∀ y, l[j]? = some y → signOk y = true) ∧ Below w.heap.size w wr) (fun i _ => l.length - (intOf i).toNat)
  case atStart => exact ⟨0, Nat.zero_le _, rfl, fun _ h => absurd h (Nat.not_lt_zero _), Below.refl _ _⟩
  case round =>
    obtain ⟨k, hk, rfl, hj, hbw⟩ := hrel
    have hsz := hbw.size
    have HJ := Lib.hid hj; clear hj
    by_cases hlt : k < l.length
    · obtain ⟨x, hx⟩ := get_some hlt
      obtain ⟨b1, o1, _, h1, h2, _, rfl, rfl⟩ := (h.below hbw).idx Try.underlying23 sz_int k hx
      have q0 := h2.one
      have HX := Lib.hid hx; clear hx
      by_cases e : signOk x = true
      · have HE := Lib.hid e
        go_wp2_with fail
        refine (impl_SignOk_c _ _).mono ?_
        rintro e w1 ⟨rfl, hb1⟩
        have s1 := hb1.size
        (try simp at s1)
        obtain ⟨hc1, hf1⟩ := bcell hb1
        go_wp2
        go_roundw
        case rel => exact ⟨k + 1, by omega, by go_num, yes_step HX.out HE.out HJ.out, blw⟩
        case measure => simp [intOf]; omega
      · have e : signOk x = false := by simpa using e
        have HN : Hid (signsOk l = false) := Lib.hid (all_no HX.out e)
        go_wp2_with fail
        refine (impl_SignOk_c _ _).mono ?_
        rintro e w1 ⟨rfl, hb1⟩
        have s1 := hb1.size
        (try simp at s1)
        obtain ⟨hc1, hf1⟩ := bcell hb1
        go_wp2
        go_ret
        exact ⟨ret_bool HN.out.symm, blw⟩
    · have HN : Hid (signsOk l = true) := Lib.hid (all_yes fun j hj => HJ.out j (by omega))
      go_wp2
      go_ret
      exact ⟨ret_bool HN.out.symm, hbw⟩
set_option maxHeartbeats 1000000 in
theorem impl_PartOk_c (p : DPart) (v_signs : Value) (w : World) (h_signs : RdS w v_signs p.signs) : Calls Try.prog 62 #[.agg #[.int .i64 p.kind, .int .i64 p.n, v_signs]] w (Tells w (.bool (partOk p))) := by
  have hl := fun w1 ty => h_signs.len Try.underlying23 w1 ty
  have ba := h_signs.le
  obtain ⟨kind, n, signs⟩ := p
  simp only at h_signs hl ba
  show Calls _ _ #[.agg #[.int .i64 kind, .int .i64 n, v_signs]] w _
  by_cases k2 : kind = 2
  · subst k2
    by_cases h1 : n = 0
    · subst h1
      by_cases h2 : signs.length ≤ 200
      · by_cases h3 : signsOk signs = true
        · have hv : Hid (partOk ⟨2, 0, signs⟩ = true) := Lib.hid (by simp [partOk, h2, h3])
          go_enter Try.func62, Try.ntmps62
          go_wp2_with fail
          refine (impl_SignsOk_c _ signs _ (h_signs.below blw)).mono ?_
          rintro e w1 ⟨rfl, hb1⟩
          have s1 := hb1.size
          (try simp at s1)
          obtain ⟨hc1, hf1⟩ := bcell hb1
          go_wp2
          go_ret
          exact ⟨ret_bool (by rw [hv.out]; first | done | (simp; done) | (simp; omega)), blw⟩
        · have h3 : signsOk signs = false := by simpa using h3
          have hv : Hid (partOk ⟨2, 0, signs⟩ = false) := Lib.hid (by simp [partOk, h3])
          go_enter Try.func62, Try.ntmps62
          go_wp2_with fail
          refine (impl_SignsOk_c _ signs _ (h_signs.below blw)).mono ?_
          rintro e w1 ⟨rfl, hb1⟩
          have s1 := hb1.size
          (try simp at s1)
          obtain ⟨hc1, hf1⟩ := bcell hb1
          go_wp2
          go_ret
          exact ⟨ret_bool (by rw [hv.out]; first | done | (simp; done) | (simp; omega)), blw⟩
      · have hv : Hid (partOk ⟨2, 0, signs⟩ = false) := Lib.hid (by simp [partOk]; omega)
        by_cases h3 : signsOk signs = true
        · go_enter Try.func62, Try.ntmps62
          go_wp2_with (refine (impl_SignsOk_c _ signs _ (h_signs.below blw)).mono ?_; rintro e w1 ⟨rfl, hb1⟩; have s1 := hb1.size; (try simp at s1); obtain ⟨hc1, hf1⟩ := bcell hb1)
          go_ret
          exact ⟨ret_bool (by rw [hv.out]; first | done | (simp; done) | (simp; omega)), blw⟩
        · have h3 : signsOk signs = false := by simpa using h3
          go_enter Try.func62, Try.ntmps62
          go_wp2_with (refine (impl_SignsOk_c _ signs _ (h_signs.below blw)).mono ?_; rintro e w1 ⟨rfl, hb1⟩; have s1 := hb1.size; (try simp at s1); obtain ⟨hc1, hf1⟩ := bcell hb1)
          go_ret
          exact ⟨ret_bool (by rw [hv.out]; first | done | (simp; done) | (simp; omega)), blw⟩
    · have hv : Hid (partOk ⟨2, n, signs⟩ = false) := Lib.hid (by simp [partOk, h1])
      have h1b : (n == 0) = false := by simpa using h1
      clear h1
      go_enter Try.func62, Try.ntmps62
      go_wp2
      go_ret
      exact ⟨ret_bool (by rw [hv.out]; first | done | (simp; done) | (simp; omega)), blw⟩
  · by_cases k13 : kind = 1 ∨ kind = 3
    · have hp : Hid (∀ b, (within n 0 200 && decide (signs.length = 0)) = b → partOk ⟨kind, n, signs⟩ = b) := Lib.hid (by rintro b rfl; rcases k13 with rfl | rfl <;> simp [partOk])
      by_cases h1 : within n 0 200 = true
      · by_cases h2 : signs.length = 0
        · have hv := Lib.hid (hp.out true (by simp [h1, h2]))
          rw [h2] at hl
          rcases k13 with rfl | rfl <;> clear h2 hp
          all_goals
            go_enter Try.func62, Try.ntmps62
            go_wp2_with fail
            refine (impl_within_c _ _ _ _).mono ?_
            rintro e w1 ⟨rfl, hb1⟩
            have s1 := hb1.size
            (try simp at s1)
            obtain ⟨hc1, hf1⟩ := bcell hb1
            go_wp2
            go_ret
            exact ⟨ret_bool (by rw [hv.out]; first | done | (simp; done) | (simp; omega)), blw⟩
        · have hv := Lib.hid (hp.out false (by simp [h1, h2]))
          have h2b : ((signs.length : Int) == 0) = false := by rw [beq_eq_false_iff_ne]; omega
          rcases k13 with rfl | rfl <;> clear h2 hp
          all_goals
            go_enter Try.func62, Try.ntmps62
            go_wp2_with fail
            refine (impl_within_c _ _ _ _).mono ?_
            rintro e w1 ⟨rfl, hb1⟩
            have s1 := hb1.size
            (try simp at s1)
            obtain ⟨hc1, hf1⟩ := bcell hb1
            go_wp2
            go_ret
            exact ⟨ret_bool (by rw [hv.out]; first | done | (simp; done) | (simp; omega)), blw⟩
      · have h1 : within n 0 200 = false := by simpa using h1
        have hv := Lib.hid (hp.out false (by simp [h1]))
        rcases k13 with rfl | rfl <;> clear hp
        all_goals
          go_enter Try.func62, Try.ntmps62
          go_wp2_with fail
          refine (impl_within_c _ _ _ _).mono ?_
          rintro e w1 ⟨rfl, hb1⟩
          have s1 := hb1.size
          (try simp at s1)
          obtain ⟨hc1, hf1⟩ := bcell hb1
          go_wp2
          go_ret
          exact ⟨ret_bool (by rw [hv.out]; first | done | (simp; done) | (simp; omega)), blw⟩
    · have hv : Hid (partOk ⟨kind, n, signs⟩ = false) := Lib.hid (by simp only [not_or] at k13; simp [partOk, k13.1, k13.2, k2])
      have g1 : (kind == 1) = false := by simp only [not_or] at k13; simpa using k13.1
      have g2 : (kind == 2) = false := by simpa using k2
      have g3 : (kind == 3) = false := by simp only [not_or] at k13; simpa using k13.2
      clear k13 k2
      go_enter Try.func62, Try.ntmps62
      go_wp2
      go_ret
      exact ⟨ret_bool (by rw [hv.out]; first | done | (simp; done) | (simp; omega)), blw⟩
set_option maxHeartbeats 1000000 in
theorem impl_partsOk_c (v : Value) (o : List DPart) (w : World) (h : RdS w v o) : Calls Try.prog 44 #[v] w (Tells w (.bool (partsOk o))) := by
  have hl := fun w1 ty => h.len Try.underlying32 w1 ty
  have ba := h.le
  go_enter Try.func44, Try.ntmps44
  go_wp2
  go_loopw [7] (fun i wr => ∃ k : Nat, k ≤ o.length ∧ i = .int .i64 k ∧ (∀ j < k, ∀ y, o[j]? = some y → partOk y = true) ∧ Below w.heap.size w wr) (fun i _ => o.length - (intOf i).toNat)
  case atStart => exact ⟨0, Nat.zero_le _, rfl, fun _ h => absurd h (Nat.not_lt_zero _), Below.refl _ _⟩
  case round =>
    obtain ⟨k, hk, rfl, hj, hbw⟩ := hrel
    have hsz := hbw.size
    have HJ := Lib.hid hj; clear hj
    by_cases hlt : k < o.length
    · obtain ⟨x, hx⟩ := get_some hlt
      obtain ⟨b1, o1, cs, h1, h2, h3⟩ := (h.below hbw).idx Try.underlying32 szi_DPart k hx
      obtain ⟨v_signs, rfl, r_signs⟩ := inv_DPart h3
      have q0 := h2.zero
      have q1 := h2 1 _ rfl
      have q2 := h2 2 _ rfl
      obtain ⟨aa, ca, rfl⟩ := r_signs.isSlice
      have HX := Lib.hid hx; clear hx
      by_cases e : partOk x = true
      · have HE := Lib.hid e
        go_wp2_with fail
        refine (impl_PartOk_c x _ _ (r_signs.below blw)).mono ?_
        rintro e w1 ⟨rfl, hb1⟩
        have s1 := hb1.size
        (try simp at s1)
        obtain ⟨hc1, hf1⟩ := bcell hb1
        go_wp2
        go_roundw
        case rel => exact ⟨k + 1, by omega, by go_num, yes_step HX.out HE.out HJ.out, blw⟩
        case measure => simp [intOf]; omega
      · have e : partOk x = false := by simpa using e
        have HN : Hid (partsOk o = false) := Lib.hid (by unfold partsOk; rw [all_no HX.out e]; rfl)
        go_wp2_with fail
        refine (impl_PartOk_c x _ _ (r_signs.below blw)).mono ?_
        rintro e w1 ⟨rfl, hb1⟩
        have s1 := hb1.size
        (try simp at s1)
        obtain ⟨hc1, hf1⟩ := bcell hb1
        go_wp2
        go_ret
        exact ⟨ret_bool HN.out.symm, blw⟩
    · have HN : Hid (partsOk o = decide (o.length ≤ 600)) := Lib.hid (by unfold partsOk; rw [all_yes fun j hj => HJ.out j (by omega)]; rfl)
      by_cases hle : o.length ≤ 600
      · go_wp2
        go_ret
        exact ⟨ret_bool (by rw [HN.out]; simp; omega), hbw⟩
      · go_wp2
        go_ret
        exact ⟨ret_bool (by rw [HN.out]; simp; omega), hbw⟩
theorem impl_TextOk_c (v : Value) (t : List Int) (w : World) (h : RdS w v t) : Calls Try.prog 25 #[v] w (Tells w (.bool (textOk t))) := by
  have hl := fun w1 ty => h.len Try.underlying23 w1 ty
  have ba := h.le
  by_cases h2 : t.length ≤ 200
  · by_cases h3 : signsOk t = true
    · have hv : Hid (textOk t = true) := Lib.hid (by simp [textOk, h2, h3])
      go_enter Try.func25, Try.ntmps25
      go_wp2_with fail
      refine (impl_SignsOk_c _ t _ (h.below blw)).mono ?_
      rintro e w1 ⟨rfl, hb1⟩
      have s1 := hb1.size
      (try simp at s1)
      obtain ⟨hc1, hf1⟩ := bcell hb1
      go_wp2
      go_ret
      exact ⟨ret_bool (by rw [hv.out]; first | done | (simp; done) | (simp; omega)), blw⟩
    · have h3 : signsOk t = false := by simpa using h3
      have hv : Hid (textOk t = false) := Lib.hid (by simp [textOk, h3])
      go_enter Try.func25, Try.ntmps25
      go_wp2_with fail
      refine (impl_SignsOk_c _ t _ (h.below blw)).mono ?_
      rintro e w1 ⟨rfl, hb1⟩
      have s1 := hb1.size
      (try simp at s1)
      obtain ⟨hc1, hf1⟩ := bcell hb1
      go_wp2
      go_ret
      exact ⟨ret_bool (by rw [hv.out]; first | done | (simp; done) | (simp; omega)), blw⟩
  · have hv : Hid (textOk t = false) := Lib.hid (by simp [textOk, h2])
    by_cases h3 : signsOk t = true
    · go_enter Try.func25, Try.ntmps25
      go_wp2_with (refine (impl_SignsOk_c _ t _ (h.below blw)).mono ?_; rintro e w1 ⟨rfl, hb1⟩; have s1 := hb1.size; (try simp at s1); obtain ⟨hc1, hf1⟩ := bcell hb1)
      go_ret
      exact ⟨ret_bool (by rw [hv.out]; first | done | (simp; done) | (simp; omega)), blw⟩
    · have h3 : signsOk t = false := by simpa using h3
      go_enter Try.func25, Try.ntmps25
      go_wp2_with (refine (impl_SignsOk_c _ t _ (h.below blw)).mono ?_; rintro e w1 ⟨rfl, hb1⟩; have s1 := hb1.size; (try simp at s1); obtain ⟨hc1, hf1⟩ := bcell hb1)
      go_ret
      exact ⟨ret_bool (by rw [hv.out]; first | done | (simp; done) | (simp; omega)), blw⟩
end Go.Proofs.Ytiahgjnpinjblaa

namespace Go.Proofs.Ytiahgjnpinjblaa
open Go.RowKit
theorem impl_size_c (p : DPart) (v_signs : Value) (w : World) (h0 : 0 ≤ p.n) (h1 : p.n ≤ 1000000) (h2 : p.signs.length ≤ 1000000) (h_signs : RdS w v_signs p.signs) :
    Calls Try.prog 59 #[.agg #[.int .i64 p.kind, .int .i64 p.n, v_signs]] w (Tells w (.int .i64 (psize p))) := by
  have hl := fun w1 ty => h_signs.len Try.underlying23 w1 ty
  go_enter Try.func59, Try.ntmps59
  go_wp2
  go_ret
  exact ⟨ret_int (by unfold psize; rfl), blw⟩
set_option maxHeartbeats 1000000 in
theorem impl_sizeOf_c (v : Value) (o : List DPart) (but : Int) (w : World) (h : RdS w v o) :
    Calls Try.prog 47 #[v, .int .i64 but] w (Tells w (.int .i64 (sizeBut but o))) := by
  have hl := fun w1 ty => h.len Try.underlying32 w1 ty
  have ba := h.le
  by_cases hp : partsOk o = true
  · have hv : Hid (sizeBut but o = sumBut but o) := Lib.hid (if_pos hp)
    obtain ⟨hall, h600⟩ := partsOk_iff.1 hp
    have HALL := Lib.hid hall; clear hall
    go_enter Try.func47, Try.ntmps47
    go_wp2_with fail
    refine (impl_partsOk_c _ o _ (h.below blw)).mono ?_
    rintro e w1 ⟨rfl, hb1⟩
    have s1 := hb1.size
    (try simp at s1)
    obtain ⟨hc1, hf1⟩ := bcell hb1
    go_wp2
    go_loopw [5, 13] (fun n i wr => ∃ k : Nat, k ≤ o.length ∧ i = .int .i64 k ∧ n = .int .i64 (sumBut but (o.take k)) ∧ Below w.heap.size w wr) (fun _ i _ => o.length - (intOf i).toNat)
    case atStart => exact ⟨0, Nat.zero_le _, rfl, rfl, blw⟩
    case round =>
      obtain ⟨k, hk, rfl, rfl, hbw⟩ := hrel
      have hsz := hbw.size
      have sb := sumBut_bd but (o.take k) (all_take HALL.out k)
      have tl : (o.take k).length ≤ k := List.length_take_le _ _
      by_cases hlt : k < o.length
      · obtain ⟨x, hx⟩ := get_some hlt
        obtain ⟨b1, o1, cs, h1, h2, h3⟩ := (h.below hbw).idx Try.underlying32 szi_DPart k hx
        obtain ⟨v_signs, rfl, r_signs⟩ := inv_DPart h3
        have q0 := h2.zero
        have q1 := h2 1 _ rfl
        have q2 := h2 2 _ rfl
        obtain ⟨aa, ca, rfl⟩ := r_signs.isSlice
        have hpx := all_at HALL.out hx
        have pb := psize_bd hpx
        have hsn := sumBut_snoc but hx
        have hcx : 0 ≤ x.n ∧ x.n ≤ 200 ∧ x.signs.length ≤ 200 := by
          rcases partOk_cases hpx with ⟨_, g1, g2, g3⟩ | ⟨_, g1, g2, _⟩ | ⟨_, g1, g2, g3⟩
          · rw [g3]; simp; omega
          · omega
          · rw [g3]; simp; omega
        obtain ⟨g1, g2, g3⟩ := hcx
        clear hpx hx
        obtain ⟨S, hS⟩ : ∃ S, sumBut but (o.take k) = S := ⟨_, rfl⟩
        rw [hS] at sb hsn
        rw [hS]
        clear hS
        by_cases e : x.kind = but
        · rw [if_pos e] at hsn
          have HS := Lib.hid hsn
          have e1 : (x.kind != but) = false := by rw [e]; simp
          clear e hsn
          go_wp2
          go_roundw
          case rel => exact ⟨k + 1, by omega, by go_num, by rw [HS.out]; go_num, blw⟩
          case measure => simp [intOf]; omega
        · rw [if_neg e] at hsn
          have HS := Lib.hid hsn
          have e1 : (x.kind != but) = true := by simpa using e
          clear e hsn
          go_wp2_with fail
          refine (impl_size_c x _ _ (by omega) (by omega) (by omega) (r_signs.below blw)).mono ?_
          rintro e w2 ⟨rfl, hb2⟩
          have s2 := hb2.size
          (try simp at s2)
          obtain ⟨hc2, hf2⟩ := bcell hb2
          go_wp2
          go_roundw
          case rel => exact ⟨k + 1, by omega, by go_num, by rw [HS.out], blw⟩
          case measure => simp [intOf]; omega
      · obtain rfl : k = o.length := by omega
        rw [List.take_length]
        go_wp2
        go_ret
        exact ⟨ret_int hv.out.symm, hbw⟩
  · have hv : Hid (sizeBut but o = 0) := Lib.hid (if_neg hp)
    have hp : partsOk o = false := by simpa using hp
    go_enter Try.func47, Try.ntmps47
    go_wp2_with fail
    refine (impl_partsOk_c _ o _ (h.below blw)).mono ?_
    rintro e w1 ⟨rfl, hb1⟩
    have s1 := hb1.size
    (try simp at s1)
    obtain ⟨hc1, hf1⟩ := bcell hb1
    go_wp2
    go_ret
    exact ⟨ret_int hv.out.symm, blw⟩
set_option maxHeartbeats 2000000 in
theorem spec_l02Sum_c (v : Value) (o : List DPart) (w : World) (h : RdS w v o) :
    Calls Try.prog 81 #[v] w (Tells w (.tuple #[.int .i64 (sum1 1 o), .int .i64 (sum1 2 o), .int .i64 (sum1 3 o)])) := by
  have hl := fun w1 ty => h.len Try.underlying32 w1 ty
  have ba := h.le
  by_cases hp : partsOk o = true
  · have v1 : sum1 1 o = sumOf 1 o := if_pos hp
    have v2 : sum1 2 o = sumOf 2 o := if_pos hp
    have v3 : sum1 3 o = sumOf 3 o := if_pos hp
    rw [v1, v2, v3]
    clear v1 v2 v3
    obtain ⟨hall, h600⟩ := partsOk_iff.1 hp
    have HALL := Lib.hid hall; clear hall
    go_enter Try.func81, Try.ntmps81
    go_wp2_with fail
    refine (spec_partsOk_c _ o _ (h.below blw)).mono ?_
    rintro e w1 ⟨rfl, hb1⟩
    have s1 := hb1.size
    (try simp at s1)
    obtain ⟨hc1, hf1⟩ := bcell hb1
    go_wp2
    go_loopw [5, 6, 7, 15] (fun n1 n2 n3 i wr => ∃ k : Nat, k ≤ o.length ∧ i = .int .i64 k ∧ n1 = .int .i64 (sumOf 1 (o.take k)) ∧ n2 = .int .i64 (sumOf 2 (o.take k)) ∧ n3 = .int .i64 (sumOf 3 (o.take k)) ∧ Below w.heap.size w wr) (fun _ _ _ i _ => o.length - (intOf i).toNat)
    case atStart => exact ⟨0, Nat.zero_le _, rfl, rfl, rfl, rfl, blw⟩
    case round =>
      obtain ⟨k, hk, rfl, rfl, rfl, rfl, hbw⟩ := hrel
      have hsz := hbw.size
      have sb1 := sumOf_bd 1 (o.take k) (all_take HALL.out k)
      have sb2 := sumOf_bd 2 (o.take k) (all_take HALL.out k)
      have sb3 := sumOf_bd 3 (o.take k) (all_take HALL.out k)
      have tl : (o.take k).length ≤ k := List.length_take_le _ _
      by_cases hlt : k < o.length
      · obtain ⟨x, hx⟩ := get_some hlt
        obtain ⟨b1, o1, cs, h1, h2, h3⟩ := (h.below hbw).idx Try.underlying32 szi_DPart k hx
        obtain ⟨v_signs, rfl, r_signs⟩ := inv_DPart h3
        have q0 := h2.zero
        have q1 := h2 1 _ rfl
        have q2 := h2 2 _ rfl
        obtain ⟨aa, ca, rfl⟩ := r_signs.isSlice
        have hpx := all_at HALL.out hx
        have hs1 := sumOf_snoc 1 hx
        have hs2 := sumOf_snoc 2 hx
        have hs3 := sumOf_snoc 3 hx
        clear hx
        obtain ⟨S1, hS1⟩ : ∃ S, sumOf 1 (o.take k) = S := ⟨_, rfl⟩
        obtain ⟨S2, hS2⟩ : ∃ S, sumOf 2 (o.take k) = S := ⟨_, rfl⟩
        obtain ⟨S3, hS3⟩ : ∃ S, sumOf 3 (o.take k) = S := ⟨_, rfl⟩
        rw [hS1] at sb1 hs1 ⊢
        rw [hS2] at sb2 hs2 ⊢
        rw [hS3] at sb3 hs3 ⊢
        clear hS1 hS2 hS3
        have hlen := fun w1 ty => r_signs.len Try.underlying23 w1 ty
        rcases partOk_cases hpx with ⟨kx, g1, g2, g3⟩ | ⟨kx, g1, g2, _⟩ | ⟨kx, g1, g2, g3⟩
        · rw [kx] at hs1 hs2 hs3
          simp only [psize, g3] at hs1 hs2 hs3
          have H1 := Lib.hid hs1; have H2 := Lib.hid hs2; have H3 := Lib.hid hs3
          rw [kx] at q0
          clear hpx kx g3 hs1 hs2 hs3 hlen
          go_wp2
          go_roundw
          case rel => exact ⟨k + 1, by omega, by go_num, by rw [H1.out]; simp, by rw [H2.out]; simp, by rw [H3.out]; simp, blw⟩
          case measure => simp [intOf]; omega
        · rw [kx] at hs1 hs2 hs3
          simp only [psize, g1] at hs1 hs2 hs3
          have H1 := Lib.hid hs1; have H2 := Lib.hid hs2; have H3 := Lib.hid hs3
          rw [kx] at q0
          clear hpx kx g1 hs1 hs2 hs3
          go_wp2
          go_roundw
          case rel => exact ⟨k + 1, by omega, by go_num, by rw [H1.out]; simp, by rw [H2.out]; simp, by rw [H3.out]; simp, blw⟩
          case measure => simp [intOf]; omega
        · rw [kx] at hs1 hs2 hs3
          simp only [psize, g3] at hs1 hs2 hs3
          have H1 := Lib.hid hs1; have H2 := Lib.hid hs2; have H3 := Lib.hid hs3
          rw [kx] at q0
          clear hpx kx g3 hs1 hs2 hs3 hlen
          go_wp2
          go_roundw
          case rel => exact ⟨k + 1, by omega, by go_num, by rw [H1.out]; simp, by rw [H2.out]; simp, by rw [H3.out]; simp, blw⟩
          case measure => simp [intOf]; omega
      · obtain rfl : k = o.length := by omega
        simp only [List.take_length]
        go_wp2
        go_ret3
        exact ⟨rfl, hbw⟩
  · have v1 : sum1 1 o = 0 := if_neg hp
    have v2 : sum1 2 o = 0 := if_neg hp
    have v3 : sum1 3 o = 0 := if_neg hp
    rw [v1, v2, v3]
    clear v1 v2 v3
    have hp : partsOk o = false := by simpa using hp
    go_enter Try.func81, Try.ntmps81
    go_wp2_with fail
    refine (spec_partsOk_c _ o _ (h.below blw)).mono ?_
    rintro e w1 ⟨rfl, hb1⟩
    have s1 := hb1.size
    (try simp at s1)
    obtain ⟨hc1, hf1⟩ := bcell hb1
    go_wp2
    go_ret3
    exact ⟨rfl, blw⟩
theorem impl_OpFrom_c (v : Value) (o : List DPart) (w : World) (h : RdS w v o) : Calls Try.prog 26 #[v] w (Tells w (.int .i64 (opFrom o))) := by
  go_enter Try.func26, Try.ntmps26
  go_wp2_with fail
  refine (impl_sizeOf_c _ o 2 _ (h.below blw)).mono ?_
  rintro e w1 ⟨rfl, hb1⟩
  have s1 := hb1.size
  (try simp at s1)
  obtain ⟨hc1, hf1⟩ := bcell hb1
  go_wp2
  go_ret
  exact ⟨rfl, blw⟩
theorem impl_OpTo_c (v : Value) (o : List DPart) (w : World) (h : RdS w v o) : Calls Try.prog 45 #[v] w (Tells w (.int .i64 (opTo o))) := by
  go_enter Try.func45, Try.ntmps45
  go_wp2_with fail
  refine (impl_sizeOf_c _ o 3 _ (h.below blw)).mono ?_
  rintro e w1 ⟨rfl, hb1⟩
  have s1 := hb1.size
  (try simp at s1)
  obtain ⟨hc1, hf1⟩ := bcell hb1
  go_wp2
  go_ret
  exact ⟨rfl, blw⟩
theorem sums_bd (o : List DPart) (b : Int) : 0 ≤ sum1 b o ∧ sum1 b o ≤ 120000 := by
  unfold sum1
  by_cases hp : partsOk o = true
  · obtain ⟨hall, h600⟩ := partsOk_iff.1 hp
    have := sumOf_bd b o hall
    rw [if_pos hp]
    omega
  · rw [if_neg hp]; omega
theorem opFrom_sum (o : List DPart) : opFrom o = (sum1 1 o) + (sum1 3 o) := by
  unfold opFrom sizeBut sum1
  by_cases hp : partsOk o = true
  · simp only [if_pos hp]; exact (sumBut_of o (partsOk_iff.1 hp).1).1
  · simp only [if_neg hp]; rfl
theorem opTo_sum (o : List DPart) : opTo o = (sum1 1 o) + (sum1 2 o) := by
  unfold opTo sizeBut sum1
  by_cases hp : partsOk o = true
  · simp only [if_pos hp]; exact (sumBut_of o (partsOk_iff.1 hp).1).2
  · simp only [if_neg hp]; rfl
theorem spec_OpFrom_c (v : Value) (o : List DPart) (w : World) (h : RdS w v o) : Calls Try.prog 70 #[v] w (Tells w (.int .i64 (opFrom o))) := by
  have b1 := sums_bd o 1
  have b3 := sums_bd o 3
  go_enter Try.func70, Try.ntmps70
  go_wp2_with fail
  refine (spec_l02Sum_c _ o _ (h.below blw)).mono ?_
  rintro e w1 ⟨rfl, hb1⟩
  have s1 := hb1.size
  (try simp at s1)
  obtain ⟨hc1, hf1⟩ := bcell hb1
  have HE := Lib.hid (opFrom_sum o)
  obtain ⟨S1, hS1⟩ : ∃ S, sum1 1 o = S := ⟨_, rfl⟩
  obtain ⟨S3, hS3⟩ : ∃ S, sum1 3 o = S := ⟨_, rfl⟩
  rw [hS1] at b1 HE ⊢
  rw [hS3] at b3 HE ⊢
  clear hS1 hS3
  go_wp2
  go_ret
  exact ⟨ret_int HE.out.symm, blw⟩
theorem spec_OpTo_c (v : Value) (o : List DPart) (w : World) (h : RdS w v o) : Calls Try.prog 71 #[v] w (Tells w (.int .i64 (opTo o))) := by
  have b1 := sums_bd o 1
  have b3 := sums_bd o 2
  go_enter Try.func71, Try.ntmps71
  go_wp2_with fail
  refine (spec_l02Sum_c _ o _ (h.below blw)).mono ?_
  rintro e w1 ⟨rfl, hb1⟩
  have s1 := hb1.size
  (try simp at s1)
  obtain ⟨hc1, hf1⟩ := bcell hb1
  have HE := Lib.hid (opTo_sum o)
  obtain ⟨S1, hS1⟩ : ∃ S, sum1 1 o = S := ⟨_, rfl⟩
  obtain ⟨S3, hS3⟩ : ∃ S, sum1 2 o = S := ⟨_, rfl⟩
  rw [hS1] at b1 HE ⊢
  rw [hS3] at b3 HE ⊢
  clear hS1 hS3
  go_wp2
  go_ret
  exact ⟨ret_int HE.out.symm, blw⟩
theorem spec_OpOk_c (v : Value) (o : List DPart) (w : World) (h : RdS w v o) : Calls Try.prog 52 #[v] w (Tells w (.bool (opOk o))) := by
  by_cases h1 : partsOk o = true
  · by_cases h2 : opFrom o ≤ 200
    · by_cases h3 : opTo o ≤ 200
      · have hv : Hid (opOk o = true) := Lib.hid (by simp [opOk, h1, h2, h3])
        go_enter Try.func52, Try.ntmps52
        go_wp2_with fail
        refine (spec_partsOk_c _ o _ (h.below blw)).mono ?_
        rintro e w1 ⟨rfl, hb1⟩
        have s1 := hb1.size
        (try simp at s1)
        obtain ⟨hc1, hf1⟩ := bcell hb1
        go_wp2_with fail
        refine (spec_OpFrom_c _ o _ (h.below blw)).mono ?_
        rintro e w2 ⟨rfl, hb2⟩
        have s2 := hb2.size
        (try simp at s2)
        obtain ⟨hc2, hf2⟩ := bcell hb2
        go_wp2_with fail
        refine (spec_OpTo_c _ o _ (h.below blw)).mono ?_
        rintro e w3 ⟨rfl, hb3⟩
        have s3 := hb3.size
        (try simp at s3)
        obtain ⟨hc3, hf3⟩ := bcell hb3
        go_wp2
        go_ret
        exact ⟨ret_bool (by rw [hv.out]; first | done | (simp; done) | (simp; omega)), blw⟩
      · have hv : Hid (opOk o = false) := Lib.hid (by simp [opOk, h3])
        go_enter Try.func52, Try.ntmps52
        go_wp2_with fail
        refine (spec_partsOk_c _ o _ (h.below blw)).mono ?_
        rintro e w1 ⟨rfl, hb1⟩
        have s1 := hb1.size
        (try simp at s1)
        obtain ⟨hc1, hf1⟩ := bcell hb1
        go_wp2_with fail
        refine (spec_OpFrom_c _ o _ (h.below blw)).mono ?_
        rintro e w2 ⟨rfl, hb2⟩
        have s2 := hb2.size
        (try simp at s2)
        obtain ⟨hc2, hf2⟩ := bcell hb2
        go_wp2_with fail
        refine (spec_OpTo_c _ o _ (h.below blw)).mono ?_
        rintro e w3 ⟨rfl, hb3⟩
        have s3 := hb3.size
        (try simp at s3)
        obtain ⟨hc3, hf3⟩ := bcell hb3
        go_wp2
        go_ret
        exact ⟨ret_bool (by rw [hv.out]; first | done | (simp; done) | (simp; omega)), blw⟩
    · have hv : Hid (opOk o = false) := Lib.hid (by simp [opOk, h2])
      go_enter Try.func52, Try.ntmps52
      go_wp2_with fail
      refine (spec_partsOk_c _ o _ (h.below blw)).mono ?_
      rintro e w1 ⟨rfl, hb1⟩
      have s1 := hb1.size
      (try simp at s1)
      obtain ⟨hc1, hf1⟩ := bcell hb1
      go_wp2_with fail
      refine (spec_OpFrom_c _ o _ (h.below blw)).mono ?_
      rintro e w2 ⟨rfl, hb2⟩
      have s2 := hb2.size
      (try simp at s2)
      obtain ⟨hc2, hf2⟩ := bcell hb2
      go_wp2
      go_ret
      exact ⟨ret_bool (by rw [hv.out]; first | done | (simp; done) | (simp; omega)), blw⟩
  · have h1 : partsOk o = false := by simpa using h1
    have hv : Hid (opOk o = false) := Lib.hid (by simp [opOk, h1])
    go_enter Try.func52, Try.ntmps52
    go_wp2_with fail
    refine (spec_partsOk_c _ o _ (h.below blw)).mono ?_
    rintro e w1 ⟨rfl, hb1⟩
    have s1 := hb1.size
    (try simp at s1)
    obtain ⟨hc1, hf1⟩ := bcell hb1
    go_wp2
    go_ret
    exact ⟨ret_bool (by rw [hv.out]; first | done | (simp; done) | (simp; omega)), blw⟩
theorem impl_OpOk_c (v : Value) (o : List DPart) (w : World) (h : RdS w v o) : Calls Try.prog 24 #[v] w (Tells w (.bool (opOk o))) := by
  by_cases h1 : partsOk o = true
  · by_cases h2 : opFrom o ≤ 200
    · by_cases h3 : opTo o ≤ 200
      · have hv : Hid (opOk o = true) := Lib.hid (by simp [opOk, h1, h2, h3])
        go_enter Try.func24, Try.ntmps24
        go_wp2_with fail
        refine (impl_partsOk_c _ o _ (h.below blw)).mono ?_
        rintro e w1 ⟨rfl, hb1⟩
        have s1 := hb1.size
        (try simp at s1)
        obtain ⟨hc1, hf1⟩ := bcell hb1
        go_wp2_with fail
        refine (impl_OpFrom_c _ o _ (h.below blw)).mono ?_
        rintro e w2 ⟨rfl, hb2⟩
        have s2 := hb2.size
        (try simp at s2)
        obtain ⟨hc2, hf2⟩ := bcell hb2
        go_wp2_with fail
        refine (impl_OpTo_c _ o _ (h.below blw)).mono ?_
        rintro e w3 ⟨rfl, hb3⟩
        have s3 := hb3.size
        (try simp at s3)
        obtain ⟨hc3, hf3⟩ := bcell hb3
        go_wp2
        go_ret
        exact ⟨ret_bool (by rw [hv.out]; first | done | (simp; done) | (simp; omega)), blw⟩
      · have hv : Hid (opOk o = false) := Lib.hid (by simp [opOk, h3])
        go_enter Try.func24, Try.ntmps24
        go_wp2_with fail
        refine (impl_partsOk_c _ o _ (h.below blw)).mono ?_
        rintro e w1 ⟨rfl, hb1⟩
        have s1 := hb1.size
        (try simp at s1)
        obtain ⟨hc1, hf1⟩ := bcell hb1
        go_wp2_with fail
        refine (impl_OpFrom_c _ o _ (h.below blw)).mono ?_
        rintro e w2 ⟨rfl, hb2⟩
        have s2 := hb2.size
        (try simp at s2)
        obtain ⟨hc2, hf2⟩ := bcell hb2
        go_wp2_with fail
        refine (impl_OpTo_c _ o _ (h.below blw)).mono ?_
        rintro e w3 ⟨rfl, hb3⟩
        have s3 := hb3.size
        (try simp at s3)
        obtain ⟨hc3, hf3⟩ := bcell hb3
        go_wp2
        go_ret
        exact ⟨ret_bool (by rw [hv.out]; first | done | (simp; done) | (simp; omega)), blw⟩
    · have hv : Hid (opOk o = false) := Lib.hid (by simp [opOk, h2])
      go_enter Try.func24, Try.ntmps24
      go_wp2_with fail
      refine (impl_partsOk_c _ o _ (h.below blw)).mono ?_
      rintro e w1 ⟨rfl, hb1⟩
      have s1 := hb1.size
      (try simp at s1)
      obtain ⟨hc1, hf1⟩ := bcell hb1
      go_wp2_with fail
      refine (impl_OpFrom_c _ o _ (h.below blw)).mono ?_
      rintro e w2 ⟨rfl, hb2⟩
      have s2 := hb2.size
      (try simp at s2)
      obtain ⟨hc2, hf2⟩ := bcell hb2
      go_wp2
      go_ret
      exact ⟨ret_bool (by rw [hv.out]; first | done | (simp; done) | (simp; omega)), blw⟩
  · have h1 : partsOk o = false := by simpa using h1
    have hv : Hid (opOk o = false) := Lib.hid (by simp [opOk, h1])
    go_enter Try.func24, Try.ntmps24
    go_wp2_with fail
    refine (impl_partsOk_c _ o _ (h.below blw)).mono ?_
    rintro e w1 ⟨rfl, hb1⟩
    have s1 := hb1.size
    (try simp at s1)
    obtain ⟨hc1, hf1⟩ := bcell hb1
    go_wp2
    go_ret
    exact ⟨ret_bool (by rw [hv.out]; first | done | (simp; done) | (simp; omega)), blw⟩
end Go.Proofs.Ytiahgjnpinjblaa

