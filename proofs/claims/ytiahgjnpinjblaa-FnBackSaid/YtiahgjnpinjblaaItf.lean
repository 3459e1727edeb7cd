/- Transform, the program's walk. -/
import Derived.Test.YtiahgjnpinjblaaTxs
import Derived.Test.YtiahgjnpinjblaaStf
import Derived.Test.YtiahgjnpinjblaaCp
import Derived.Deep.CutRange
import Derived.Deep.LoopGhost
namespace Go.Proofs.Ytiahgjnpinjblaa
open Go.RowKit
theorem mu_len : ∀ l : List DPart, l.length ≤ mu l
  | [] => Nat.le_refl _
  | p :: l => by have := mu_len l; simp only [mu, List.length_cons]; omega
theorem TR.rlen {a b r s X Y : List DPart} (h : TR a b r s X Y) (ha : opOk a = true) (hb : opOk b = true) : r.length ≤ 2001 ∧ s.length ≤ 2001 := by
  obtain ⟨m, h1, h2, h3, h4, h5⟩ := h.m
  have := mu_le ha
  have := mu_le hb
  have := mu_len r
  have := mu_len s
  omega
theorem cutL_nk {p : DPart} (n : Nat) (k : p.kind ≠ 2) : cutL p n = ⟨p.kind, n, p.signs⟩ := by unfold cutL; rw [if_neg k]
theorem zp_keepX {br bs : Nat} {vx vx' vy : Value} {S : Nat} {q : Pos} (hn : ∀ p ∈ rowP (GoT.n DPart) vx', p ∈ rowP (GoT.n DPart) vx ∨ S ≤ p.1) (hq : ¬ ZP br bs vx vy q) (hl : q.1 < S) : ¬ ZP br bs vx' vy q := by
  rintro (h | h)
  · rcases hn q h with h | h
    · exact hq (.inl h)
    · omega
  · exact hq (.inr h)
theorem run_field0 (x y : Int) (a : Option Addr) (n c : Nat) (w : World) : (Instr.field 60 (.agg #[.int .i64 x, .int .i64 y, .slice a n c]) 0).run Try.prog w = .ok (.int .i64 x) w := by
  simp [Instr.field, run_underlying Try.underlying60, asAgg, part, go_sem]
attribute [local go_sem] run_field0
      
      
      
      
      
      
      
          
          
          
          
end Go.Proofs.Ytiahgjnpinjblaa
