/- What the program's functions on hubs compute, in plain Lean. -/
import Derived.Test.YtdjfmbdcdmmdfaaGreatDpl
import Derived.Test.YtdjfmbdcdmmdfaaGreatRnw
import Derived.Test.YtdjfmbdcdmmdfaaGreatHub1
namespace Go.Proofs.YtdjfmbdcdmmdfaaGreat
open Go.RowKit
def allI {α : Type} (p : Nat → α → Bool) (l : List α) : Bool := (List.range l.length).all fun i => match l[i]? with
  | some s => p i s
  | none => true
def slt (a b : ByteArray) : Bool := Op.bytesLess a.toList b.toList
/-- what is asked of a hub's i-th document -/
def hdI (l : List DDoc) (i : Nat) (d : DDoc) : Bool := docOk d && (match i with
  | 0 => true
  | j + 1 => (match l[j]? with
    | some p => slt p.name d.name
    | none => true))
def hdOk (l : List DDoc) : Bool := allI (hdI l) l
/-- whether a ring lies right behind its document's head -/
def atHead (r : DRing) (d : Option DDoc) : Bool := r.out || (match d with
  | some d => decide (r.next + r.list.length = headRev d + 1)
  | none => false)
/-- what is asked of a hub's i-th subscriber -/
def hsI (h : DHub) (i : Nat) (s : DSub) : Bool := within s.id 1 h.last && ringOk s.r && decide (0 ≤ hubDoc h s.doc) && (match i with
  | 0 => true
  | j + 1 => (match h.subs[j]? with
    | some p => decide (p.id < s.id)
    | none => true)) && atHead s.r h.docs[(hubDoc h s.doc).toNat]?
def hsOk (h : DHub) : Bool := allI (hsI h) h.subs
def hubOk (h : DHub) : Bool := decide (h.docs.length ≤ 5) && decide (h.subs.length ≤ 6) && within h.last 0 1000000000 && hdOk h.docs && hsOk h
theorem allI_iff {α : Type} {p : Nat → α → Bool} {l : List α} : allI p l = true ↔ ∀ j y, l[j]? = some y → p j y = true := by
  unfold allI
  rw [List.all_eq_true]
  constructor
  · intro h j y hy
    have := h j (List.mem_range.2 (List.getElem?_eq_some_iff.1 hy).1)
    rw [hy] at this
    exact this
  · intro h i hi
    obtain ⟨x, hx⟩ := get_some (List.mem_range.1 hi)
    rw [hx]
    exact h i x hx
theorem hdOk_iff {l : List DDoc} : hdOk l = true ↔ ∀ j y, l[j]? = some y → hdI l j y = true := allI_iff
theorem hsOk_iff {h : DHub} : hsOk h = true ↔ ∀ j y, h.subs[j]? = some y → hsI h j y = true := allI_iff
theorem hubOk_docs {h : DHub} (e : ¬ h.docs.length ≤ 5) : hubOk h = false := by simp [hubOk, e]
theorem hubOk_subs {h : DHub} (e : ¬ h.subs.length ≤ 6) : hubOk h = false := by simp [hubOk, e]
theorem hubOk_last {h : DHub} (e : within h.last 0 1000000000 = false) : hubOk h = false := by simp [hubOk, e]
theorem hubOk_hd {h : DHub} {k : Nat} {d : DDoc} (hx : h.docs[k]? = some d) (e : hdI h.docs k d = false) : hubOk h = false := by
  have : hdOk h.docs = false := by
    rw [Bool.eq_false_iff]; intro hk
    rw [hdOk_iff.1 hk k d hx] at e; cases e
  simp [hubOk, this]
theorem hubOk_hs {h : DHub} {k : Nat} {s : DSub} (hx : h.subs[k]? = some s) (e : hsI h k s = false) : hubOk h = false := by
  have : hsOk h = false := by
    rw [Bool.eq_false_iff]; intro hk
    rw [hsOk_iff.1 hk k s hx] at e; cases e
  simp [hubOk, this]
theorem hubOk_yes {h : DHub} (h1 : h.docs.length ≤ 5) (h2 : h.subs.length ≤ 6) (h3 : within h.last 0 1000000000 = true) (h4 : ∀ j < h.docs.length, ∀ y, h.docs[j]? = some y → hdI h.docs j y = true) (h5 : ∀ j < h.subs.length, ∀ y, h.subs[j]? = some y → hsI h j y = true) : hubOk h = true := by
  have a : hdOk h.docs = true := hdOk_iff.2 fun j y hy => h4 j (List.getElem?_eq_some_iff.1 hy).1 y hy
  have b : hsOk h = true := hsOk_iff.2 fun j y hy => h5 j (List.getElem?_eq_some_iff.1 hy).1 y hy
  simp [hubOk, h1, h2, h3, a, b]
theorem hdI_no1 {l : List DDoc} {i : Nat} {d : DDoc} (h : docOk d = false) : hdI l i d = false := by simp [hdI, h]
theorem hdI_no2 {l : List DDoc} {j : Nat} {d p : DDoc} (hp : l[j]? = some p) (h : slt p.name d.name = false) : hdI l (j + 1) d = false := by simp [hdI, hp, h]
theorem hdI_zero {l : List DDoc} {d : DDoc} (h : docOk d = true) : hdI l 0 d = true := by simp [hdI, h]
theorem hdI_succ {l : List DDoc} {j : Nat} {d p : DDoc} (hp : l[j]? = some p) (h : docOk d = true) (h2 : slt p.name d.name = true) : hdI l (j + 1) d = true := by simp [hdI, hp, h, h2]
theorem hsI_no1 {h : DHub} {i : Nat} {s : DSub} (e : within s.id 1 h.last = false) : hsI h i s = false := by simp [hsI, e]
theorem hsI_no2 {h : DHub} {i : Nat} {s : DSub} (e : ringOk s.r = false) : hsI h i s = false := by simp [hsI, e]
theorem hsI_no3 {h : DHub} {i : Nat} {s : DSub} (e : hubDoc h s.doc < 0) : hsI h i s = false := by simp [hsI]; omega
theorem hsI_no4 {h : DHub} {j : Nat} {s p : DSub} (hp : h.subs[j]? = some p) (e : ¬ p.id < s.id) : hsI h (j + 1) s = false := by
  have : decide (p.id < s.id) = false := by simpa using e
  simp only [hsI, hp, this]; simp
theorem hsI_no5 {h : DHub} {i : Nat} {s : DSub} {d : DDoc} {k : Nat} (hk : hubDoc h s.doc = k) (hd : h.docs[k]? = some d) (ho : s.r.out = false) (e : ¬ s.r.next + s.r.list.length = headRev d + 1) : hsI h i s = false := by
  have : atHead s.r h.docs[(hubDoc h s.doc).toNat]? = false := by rw [hk, Int.toNat_natCast, hd]; simp [atHead, ho, e]
  simp [hsI, this]
theorem hsI_yes {h : DHub} {i : Nat} {s : DSub} {d : DDoc} {k : Nat} (h1 : within s.id 1 h.last = true) (h2 : ringOk s.r = true) (hk : hubDoc h s.doc = k) (hd : h.docs[k]? = some d) (h4 : ∀ j p, i = j + 1 → h.subs[j]? = some p → p.id < s.id) (h5 : s.r.out = true ∨ s.r.next + s.r.list.length = headRev d + 1) : hsI h i s = true := by
  have a : atHead s.r h.docs[(hubDoc h s.doc).toNat]? = true := by
    rw [hk, Int.toNat_natCast, hd]
    rcases h5 with h | h
    · simp [atHead, h]
    · simp [atHead, h]
  have b : (0 : Int) ≤ hubDoc h s.doc := by omega
  cases i with
  | zero => simp [hsI, h1, h2, a, b]
  | succ j =>
    cases hj : h.subs[j]? with
    | none => simp [hsI, h1, h2, a, b, hj]
    | some p => simp [hsI, h1, h2, a, b, hj, h4 j p rfl hj]
structure HubP (h : DHub) : Prop where
  nd : h.docs.length ≤ 5
  ns : h.subs.length ≤ 6
  l0 : 0 ≤ h.last
  l1 : h.last ≤ 1000000000
  docs : ∀ j y, h.docs[j]? = some y → hdI h.docs j y = true
  subs : ∀ j y, h.subs[j]? = some y → hsI h j y = true
theorem hubOk_iff {h : DHub} : hubOk h = true ↔ HubP h := by
  constructor
  · intro e
    simp only [hubOk, Bool.and_eq_true, decide_eq_true_eq] at e
    obtain ⟨⟨⟨⟨h1, h2⟩, h3⟩, h4⟩, h5⟩ := e
    have := within_iff.1 h3
    exact ⟨h1, h2, this.1, this.2, hdOk_iff.1 h4, hsOk_iff.1 h5⟩
  · intro e
    exact hubOk_yes e.nd e.ns (within_iff.2 ⟨e.l0, e.l1⟩) (fun j _ y => e.docs j y) (fun j _ y => e.subs j y)
theorem HubP.doc {h : DHub} (e : HubP h) {d : DDoc} (hm : d ∈ h.docs) : docOk d = true := by
  obtain ⟨j, hj⟩ := List.getElem?_of_mem hm
  have := e.docs j d hj
  simp only [hdI, Bool.and_eq_true] at this
  exact this.1
theorem HubP.ring {h : DHub} (e : HubP h) {s : DSub} (hm : s ∈ h.subs) : ringOk s.r = true := by
  obtain ⟨j, hj⟩ := List.getElem?_of_mem hm
  have := e.subs j s hj
  simp only [hsI, Bool.and_eq_true] at this
  exact this.1.1.1.2
theorem HubP.at {h : DHub} (e : HubP h) {s : DSub} (hm : s ∈ h.subs) : ∃ (k : Nat) (d : DDoc), hubDoc h s.doc = k ∧ h.docs[k]? = some d := by
  obtain ⟨j, hj⟩ := List.getElem?_of_mem hm
  have := e.subs j s hj
  simp only [hsI, Bool.and_eq_true, decide_eq_true_eq] at this
  have h1 := this.1.1.2
  have h2 := (firstIdx_lt (fun d : DDoc => decide (d.name = s.doc)) h.docs).2
  have h3 : (hubDoc h s.doc).toNat < h.docs.length := by unfold hubDoc at *; omega
  obtain ⟨d, hd⟩ := get_some h3
  exact ⟨_, d, by omega, hd⟩
theorem hubDoc_get {h : DHub} {s : ByteArray} (h1 : ¬ hubDoc h s < 0) : ∃ (k : Nat) (d : DDoc), hubDoc h s = k ∧ h.docs[k]? = some d := by
  have h2 := (firstIdx_lt (fun d : DDoc => decide (d.name = s)) h.docs).2
  have h3 : (hubDoc h s).toNat < h.docs.length := by unfold hubDoc at *; omega
  obtain ⟨d, hd⟩ := get_some h3
  exact ⟨_, d, by omega, hd⟩
theorem hubSub_get {h : DHub} {i : Int} (h1 : ¬ hubSub h i < 0) : ∃ (k : Nat) (s : DSub), hubSub h i = k ∧ h.subs[k]? = some s := by
  have h2 := (firstIdx_lt (fun d : DSub => decide (d.id = i)) h.subs).2
  have h3 : (hubSub h i).toNat < h.subs.length := by unfold hubSub at *; omega
  obtain ⟨d, hd⟩ := get_some h3
  exact ⟨_, d, by omega, hd⟩
theorem doc_sizes {d : DDoc} (h : docOk d = true) : d.text.length ≤ 4000000 ∧ szL d.list ≤ 4000000 ∧ d.seen.length ≤ 4000000 := by
  have hp := docOk_iff.1 h
  have := hp.tlen; have := hp.sz; have := hp.slen
  omega
theorem ringOk_sz {r : DRing} (h : ringOk r = true) : szL r.list ≤ 4000000 ∧ r.list.length ≤ 6 := by
  simp only [ringOk, ringHead, Bool.and_eq_true, decide_eq_true_eq] at h
  obtain ⟨⟨⟨⟨h1, _⟩, h3⟩, _⟩, h5⟩ := h
  have := ents_sz h5
  have := within_iff.1 h1
  omega
def hub0 : DHub := ⟨false, [], [], 0⟩
def hubShut (h : DHub) : DHub × Int := if hubOk h = true then (if h.shut = true then (hub0, 12) else (⟨true, h.docs, h.subs, h.last⟩, 0)) else (hub0, 1)
/-- where a name belongs -/
def hubAt (l : List DDoc) (name : ByteArray) : Nat := (l.takeWhile fun d => slt d.name name).length
def hubOpen (h : DHub) (name : ByteArray) (t : List Int) : DHub × Int :=
  if hubOk h = true ∧ (docNew name t).2 = true then
    (if h.shut = true then (hub0, 12) else if 0 ≤ hubDoc h name then (hub0, 7) else if h.docs.length = 5 then (hub0, 10)
     else (⟨h.shut, h.docs.take (hubAt h.docs name) ++ (docNew name t).1 :: h.docs.drop (hubAt h.docs name), h.subs, h.last⟩, 0))
  else (hub0, 1)
def headOf (h : DHub) (name : ByteArray) : Int := match h.docs[(hubDoc h name).toNat]? with
  | some d => headRev d
  | none => 0
def hubSubscribe (h : DHub) (name : ByteArray) (room : Int) : DHub × Int × Int :=
  if hubOk h = true ∧ within room 1 6 = true then
    (if h.shut = true then (hub0, 0, 12) else if hubDoc h name < 0 then (hub0, 0, 6) else if h.subs.length = 6 ∨ h.last = 1000000000 then (hub0, 0, 10)
     else (⟨h.shut, h.docs, h.subs ++ [⟨h.last + 1, name, (ringNew room (headOf h name)).1⟩], h.last + 1⟩, h.last + 1, 0))
  else (hub0, 0, 1)
def hubResync (h : DHub) (id : Int) : DHub × List Int × Int × Int :=
  if hubOk h = true then (match h.subs[(hubSub h id).toNat]? with
    | some s => if hubSub h id < 0 then (hub0, [], 0, 8) else
      (⟨h.shut, h.docs, h.subs.set (hubSub h id).toNat ⟨s.id, s.doc, (ringResync s.r (headOf h s.doc)).1⟩, h.last⟩,
       (match h.docs[(hubDoc h s.doc).toNat]? with | some d => headText d | none => []), headOf h s.doc, 0)
    | none => (hub0, [], 0, 8))
  else (hub0, [], 0, 1)
end Go.Proofs.YtdjfmbdcdmmdfaaGreat
