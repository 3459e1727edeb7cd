/- FnSubmit: what is answered (plain). -/
import Derived.Test.YtfkaabpaolelgaaGreatFap
namespace Go.Proofs.YtfkaabpaolelgaaGreat
open Go.RowKit
theorem drop_last {α : Type} {l : List α} {e : α} (h : l.getLast? = some e) : l.drop (l.length - 1) = [e] := by
  obtain ⟨m, rfl⟩ := List.getLast?_eq_some_iff.1 h
  simp
section
variable {d : DDoc} {client seq base : Int} {o : List DPart}
/-- a submission that is new -/
theorem submit_new (h : (submit d client seq base o).2.2 = 0) (hn : ¬ (seenOf d client).1.seq = seq) : ∃ (x : DDoc) (y : List DPart), submit d client seq base o = (x, headRev d + 1, 0) ∧ rebase d base o = (y, 0) ∧
    applyP y (headText d) = (headText x, true) ∧ fetch x (headRev d) = ([entry1 client seq y], 0) ∧ seenOf x client = (⟨client, seq, headRev d + 1⟩, true) ∧ headRev x = headRev d + 1 ∧ docOk x = true := by
  obtain ⟨g, h1 | ⟨h1, h2, h3, h4⟩⟩ := submit_good h
  · exact absurd h1.1 hn
  · obtain ⟨r1, r2, r3⟩ := rebase_ok h2
    obtain ⟨c1, c2, c3, c4, c5, c6⟩ := commit_ok (client := client) (seq := seq) g.1 g.2.1 g.2.2.1 r2 r3 h3
    refine ⟨_, (rebase d base o).1, h4, ?_, ?_, ?_, seenOf_commit g.1 c4, c2, c1⟩
    · rw [← h2]
    · rw [c3, ← r3]
    · unfold fetch
      have hk : revK (commit d client seq (rebase d base o).1) (headRev d) = (commit d client seq (rebase d base o).1).list.length - 1 := by
        unfold revK
        unfold headRev at c2 ⊢
        omega
      have hf : ¬ headRev d < (commit d client seq (rebase d base o).1).from_ := by
        unfold headRev at c2 ⊢
        omega
      rw [if_pos c1, if_neg (by omega), if_neg hf, hk, drop_last c6]
/-- a submission that is known -/
theorem submit_known (h : (submit d client seq base o).2.2 = 0) (hs : (seenOf d client).1.seq = seq) : submit d client seq base o = (d, (seenOf d client).1.rev, 0) ∧ (seenOf d client).2 = true := by
  obtain ⟨g, h1 | ⟨h1, _⟩⟩ := submit_good h
  · refine ⟨h1.2, ?_⟩
    have h3 := (seenOf_bd g.1 client).2.2
    cases h4 : (seenOf d client).2
    · have := h3 h4
      have h5 := within_iff.1 g.2.2.1
      omega
    · rfl
  · exact absurd hs h1
end
end Go.Proofs.YtfkaabpaolelgaaGreat
