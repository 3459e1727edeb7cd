/- FnRing: what a ring does with what is pushed, in plain Lean. -/
import Derived.Test.YtfkaabpaolelgaaMke
import Derived.Test.YtfkaabpaolelgaaRpl
import Derived.Test.YtfkaabpaolelgaaNfs
import Derived.Test.YtfkaabpaolelgaaDpl
namespace Go.Proofs.Ytfkaabpaolelgaa
open Go.RowKit
theorem dre_ok {x : DEntry} (h : DrE x) : entryOk x = true := by
  obtain ⟨⟨a, b⟩, ⟨c, d⟩, o, ho⟩ := h
  have hn : isNorm x.o = true := by
    rw [ho, isNorm_iff]
    by_cases h1 : opOk o = true
    · obtain ⟨k1, _, _, k2⟩ := opNorm_ok h1; exact ⟨k1, k2⟩
    · have e : opNorm o = [] := by unfold opNorm; rw [if_neg h1]
      rw [e]; exact ⟨by decide, by decide⟩
  simp only [entryOk, Bool.and_eq_true, within_iff]
  exact ⟨⟨⟨a, by omega⟩, c, by omega⟩, hn⟩
structure RI (l : List DEntry) (room : Int) (k : Nat) (r : DRing) (got : List DEntry) : Prop where
  ok : ringOk r = true
  cap : r.cap = room
  yet : r.out = false → r.next = 11 + got.length ∧ got ++ r.list = l.take k
  pre : ∃ t, got ++ t = l
theorem ringOk_ok {r : DRing} : ringOk r = true ↔ (1 ≤ r.cap ∧ r.cap ≤ 6) ∧ (1 ≤ r.next ∧ r.next ≤ 1000000000) ∧ (r.list.length : Int) ≤ r.cap ∧ (r.out = true → r.list.length = 0) ∧ r.list.all entryOk = true := by
  simp only [ringOk, ringHead, Bool.and_eq_true, within_iff, decide_eq_true_eq, Bool.or_eq_true, Bool.not_eq_true']
  constructor
  · rintro ⟨⟨⟨⟨a, b⟩, c⟩, d⟩, e⟩
    exact ⟨a, b, c, fun h => d.resolve_left (by rw [h]; decide), e⟩
  · rintro ⟨a, b, c, d, e⟩
    refine ⟨⟨⟨⟨a, b⟩, c⟩, ?_⟩, e⟩
    cases h : r.out
    · exact .inl rfl
    · exact .inr (d h)
theorem RI.start {l : List DEntry} {room : Int} (h1 : 1 ≤ room) (h2 : room ≤ 6) : ringNew room 10 = (⟨room, 11, false, []⟩, true) ∧ RI l room 0 ⟨room, 11, false, []⟩ [] := by
  have hk : ringOk ⟨room, 11, false, []⟩ = true := ringOk_ok.2 ⟨⟨h1, h2⟩, ⟨by show (1 : Int) ≤ 11; decide, by show (11 : Int) ≤ 1000000000; decide⟩, by show ((0 : Nat) : Int) ≤ room; omega, fun _ => rfl, rfl⟩
  exact ⟨ringNew_yes (by decide) hk, hk, rfl, fun _ => ⟨rfl, by simp⟩, l, rfl⟩
section
variable {l : List DEntry} {room : Int} {k : Nat} {r : DRing} {got : List DEntry}
theorem RI.sz (h : RI l room k r got) : szL r.list ≤ 4000000 := by
  obtain ⟨a, _, c, _, e⟩ := ringOk_ok.1 h.ok
  have := ents_sz e
  omega
theorem RI.fits (h : RI l room k r got) : got.length ≤ l.length := by
  obtain ⟨t, e⟩ := h.pre
  rw [← e]; simp
theorem RI.at (h : RI l room k r got) {i : Nat} {e : DEntry} (hi : got[i]? = some e) : l[i]? = some e := by
  obtain ⟨t, rfl⟩ := h.pre
  rw [List.getElem?_append_left (List.getElem?_eq_some_iff.1 hi).1]; exact hi
theorem RI.push (h : RI l room k r got) {e : DEntry} (he : l[k]? = some e) (hk : entryOk e = true) :
    (ringPush r e).out = (r.out || decide (ringLag r = room)) ∧ RI l room (k + 1) (ringPush r e) got := by
  obtain ⟨a, b, c, d, f⟩ := ringOk_ok.1 h.ok
  have hcap := h.cap
  cases ho : r.out
  · obtain ⟨y1, y2⟩ := h.yet ho
    have hlag : ringLag r = r.list.length := ringLag_f ho
    by_cases h2 : (r.list.length : Int) = r.cap
    · rw [ringPush_full ⟨h.ok, hk, ho⟩ h2]
      refine ⟨by simp only [Bool.false_or]; rw [hlag, h2, hcap]; simp, ?_, hcap, fun q => (by cases q), h.pre⟩
      exact ringOk_ok.2 ⟨a, b, by show ((0 : Nat) : Int) ≤ r.cap; omega, fun _ => rfl, rfl⟩
    · rw [ringPush_app ⟨h.ok, hk, ho⟩ h2]
      refine ⟨?_, ?_, hcap, fun _ => ⟨y1, ?_⟩, h.pre⟩
      · show r.out = _
        rw [ho, hlag]
        simp only [Bool.false_or]
        exact (decide_eq_false (by omega)).symm
      · refine ringOk_ok.2 ⟨a, b, ?_, fun q => absurd (show r.out = true from q) (by rw [ho]; decide), ?_⟩
        · show (((r.list ++ [e]).length : Nat) : Int) ≤ r.cap
          simp only [List.length_append, List.length_singleton]
          omega
        · show (r.list ++ [e]).all entryOk = true
          simp [List.all_append, f, hk]
      · show got ++ (r.list ++ [e]) = _
        rw [← List.append_assoc, y2, ← take_snoc he]
  · rw [ringPush_no (fun q => by rw [ho] at q; exact absurd q.2.2 (by decide))]
    exact ⟨by simp [ho], h.ok, hcap, fun q => absurd q (by rw [ho]; decide), h.pre⟩
theorem RI.poll (h : RI l room k r got) {n : Int} (hn : 1 ≤ n) (hl : l.length ≤ 11) :
    (ringPoll r n).2.2 = (if r.out = true then 9 else 0) ∧ (ringPoll r n).1.out = r.out ∧ RI l room k (ringPoll r n).1 (got ++ (ringPoll r n).2.1) := by
  obtain ⟨a, b, c, d, f⟩ := ringOk_ok.1 h.ok
  cases ho : r.out
  · obtain ⟨y1, y2⟩ := h.yet ho
    obtain ⟨m, hm⟩ : ∃ m, pollK r n = m := ⟨_, rfl⟩
    have hml : m ≤ r.list.length := by rw [← hm]; unfold pollK; omega
    have hgl : got.length + r.list.length ≤ 11 := by
      have e := congrArg List.length y2
      simp only [List.length_append, List.length_take] at e
      omega
    rw [ringPoll_in ⟨h.ok, hn⟩ ho hm]
    refine ⟨rfl, ho, ?_, h.cap, fun _ => ⟨?_, ?_⟩, ?_⟩
    · refine ringOk_ok.2 ⟨a, ⟨by show 1 ≤ r.next + (m : Int); omega, by show r.next + (m : Int) ≤ 1000000000; omega⟩, ?_, fun q => absurd (show r.out = true from q) (by rw [ho]; decide), ?_⟩
      · show (((r.list.drop m).length : Nat) : Int) ≤ r.cap
        simp only [List.length_drop]; omega
      · show (r.list.drop m).all entryOk = true
        rw [List.all_eq_true] at f ⊢
        exact fun x hx => f x (List.mem_of_mem_drop hx)
    · show r.next + (m : Int) = 11 + (((got ++ r.list.take m).length : Nat) : Int)
      simp only [List.length_append, List.length_take]
      omega
    · show got ++ r.list.take m ++ r.list.drop m = l.take k
      rw [List.append_assoc, List.take_append_drop, y2]
    · refine ⟨r.list.drop m ++ l.drop k, ?_⟩
      show got ++ r.list.take m ++ (r.list.drop m ++ l.drop k) = l
      rw [List.append_assoc, ← List.append_assoc (r.list.take m), List.take_append_drop, ← List.append_assoc, y2, List.take_append_drop]
  · rw [ringPoll_out ⟨h.ok, hn⟩ ho]
    exact ⟨rfl, ho, by simpa using h⟩
theorem RI.seen (h : RI l room k r got) (hk : k ≤ l.length) (ho : r.out = false) : r.next = 11 + got.length ∧ ringLag r + got.length = k := by
  obtain ⟨y1, y2⟩ := h.yet ho
  have e := congrArg List.length y2
  simp only [List.length_append, List.length_take] at e
  rw [ringLag_f ho]
  exact ⟨y1, by omega⟩
theorem RI.anew (h : RI l room k r got) : ringResync r 33 = (⟨room, 34, false, []⟩, true) ∧ ringPoll ⟨room, 34, false, []⟩ 5 = (⟨room, 34, false, []⟩, [], 0) := by
  obtain ⟨a, _⟩ := ringOk_ok.1 h.ok
  have hcap := h.cap
  have hk : ringOk ⟨room, 34, false, []⟩ = true := ringOk_ok.2 ⟨by show 1 ≤ room ∧ room ≤ 6; omega, ⟨by show (1 : Int) ≤ 34; decide, by show (34 : Int) ≤ 1000000000; decide⟩, by show ((0 : Nat) : Int) ≤ room; omega, fun _ => rfl, rfl⟩
  refine ⟨?_, ?_⟩
  · rw [ringResync_yes _ h.ok, hcap]; exact ringNew_yes (by decide) hk
  · rw [ringPoll_in ⟨hk, by decide⟩ rfl (k := 0) (by rfl)]; rfl
end
end Go.Proofs.Ytfkaabpaolelgaa
