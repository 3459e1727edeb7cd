/- What Submit answers, and answers again (plain). -/
import Derived.Test.YtfkaabpaolelgaaGreatMdp
namespace Go.Proofs.YtfkaabpaolelgaaGreat
open Go.RowKit
theorem rebase_codes (d : DDoc) (base : Int) (o : List DPart) : 0 ≤ (rebase d base o).2 ∧ (rebase d base o).2 ≤ 5 := by
  unfold rebase
  split
  · split
    · exact ⟨by simp, by simp⟩
    · split
      · exact ⟨by simp, by simp⟩
      · split
        · split
          · exact ⟨by simp, by simp⟩
          · exact ⟨by simp, by simp⟩
        · exact ⟨by simp, by simp⟩
  · exact ⟨by simp, by simp⟩
section
variable {d : DDoc} {client seq base : Int} {o : List DPart}
theorem submit_bad (h : ¬ (submit d client seq base o).2.2 = 0) : (submit d client seq base o).1 = doc0 ∧ (submit d client seq base o).2.1 = 0 ∧ 1 ≤ (submit d client seq base o).2.2 ∧ (submit d client seq base o).2.2 ≤ 5 := by
  by_cases g : docOk d = true ∧ within client 1 8 = true ∧ within seq 1 1000000000 = true ∧ opOk o = true
  · by_cases g1 : (seenOf d client).1.seq = seq
    · rw [submit_same g g1] at h
      exact absurd rfl h
    · by_cases g2 : (seenOf d client).1.seq + 1 = seq
      · by_cases g3 : (rebase d base o).2 = 0
        · by_cases g4 : headRev d < 999999000
          · rw [submit_yes g g1 g2 g3 g4] at h
            exact absurd rfl h
          · rw [submit_large g g1 g2 g3 g4]
            exact ⟨rfl, rfl, by simp, by simp⟩
        · rw [submit_code g g1 g2 g3]
          have := rebase_codes d base o
          exact ⟨rfl, rfl, by simp only; omega, this.2⟩
      · rw [submit_seq g g1 g2]
        exact ⟨rfl, rfl, by simp, by simp⟩
  · rw [submit_no g]
    exact ⟨rfl, rfl, by simp, by simp⟩
theorem submit_good (h : (submit d client seq base o).2.2 = 0) : (docOk d = true ∧ within client 1 8 = true ∧ within seq 1 1000000000 = true ∧ opOk o = true) ∧
    (((seenOf d client).1.seq = seq ∧ submit d client seq base o = (d, (seenOf d client).1.rev, 0)) ∨ (¬ (seenOf d client).1.seq = seq ∧ (rebase d base o).2 = 0 ∧ headRev d < 999999000 ∧ submit d client seq base o = (commit d client seq (rebase d base o).1, headRev d + 1, 0))) := by
  by_cases g : docOk d = true ∧ within client 1 8 = true ∧ within seq 1 1000000000 = true ∧ opOk o = true
  · refine ⟨g, ?_⟩
    by_cases g1 : (seenOf d client).1.seq = seq
    · exact .inl ⟨g1, submit_same g g1⟩
    · by_cases g2 : (seenOf d client).1.seq + 1 = seq
      · by_cases g3 : (rebase d base o).2 = 0
        · by_cases g4 : headRev d < 999999000
          · exact .inr ⟨g1, g3, g4, submit_yes g g1 g2 g3 g4⟩
          · rw [submit_large g g1 g2 g3 g4] at h
            exact absurd h (by decide)
        · rw [submit_code g g1 g2 g3] at h
          exact absurd h g3
      · rw [submit_seq g g1 g2] at h
        exact absurd h (by decide)
  · rw [submit_no g] at h
    exact absurd h (by decide)
theorem seenOf_commit (h : docOk d = true) {x : DDoc} (hx : x.seen = seenSet d.seen ⟨client, seq, headRev d + 1⟩) : seenOf x client = (⟨client, seq, headRev d + 1⟩, true) := by
  have := seenSet_has (s := ⟨client, seq, headRev d + 1⟩) (seenOk_pw.1 (docOk_iff.1 h).seen).2
  unfold seenOf
  rw [hx]
  simp only at this
  rw [this]
theorem submit_again (h : (submit d client seq base o).2.2 = 0) (b : Int) : submit (submit d client seq base o).1 client seq b [] = ((submit d client seq base o).1, (submit d client seq base o).2.1, 0) := by
  obtain ⟨g, h1 | ⟨h1, h2, h3, h4⟩⟩ := submit_good h
  · rw [h1.2]
    exact submit_same ⟨g.1, g.2.1, g.2.2.1, rfl⟩ h1.1
  · obtain ⟨r1, r2, r3⟩ := rebase_ok h2
    obtain ⟨c1, _, _, c4, _⟩ := commit_ok (client := client) (seq := seq) g.1 g.2.1 g.2.2.1 r2 r3 h3
    have hs := seenOf_commit g.1 c4
    rw [h4]
    have := submit_same (base := b) (o := []) ⟨c1, g.2.1, g.2.2.1, rfl⟩ (show (seenOf (commit d client seq (rebase d base o).1) client).1.seq = seq by rw [hs])
    rw [this, hs]
end
end Go.Proofs.YtfkaabpaolelgaaGreat
