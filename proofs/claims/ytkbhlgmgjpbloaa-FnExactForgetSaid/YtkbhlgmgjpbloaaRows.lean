/-
  No cell of these rows narrows 'for every input' (looked for: loops, veiled, ifaces, maps, wideKeys, modest, calm, conditions, laid).
  DERIVED. THE GIVEN ROWS OF THIS SEAT. 9 by the template 'for every input the law returns true; each argument reads behind the call as it read before'; 0 by the template 'total and deterministic' (their statements: YtkbhlgmgjpbloaaTotals.lean).
  GIVEN WITH THE SEED: the statements are not yours to turn. If you find one false, say at which input.
  Laid BY PROGRAM, IN A SANDBOX (cutbox-rows.mjs): the forced cells as the released guide's own fill.sh prints them over the translation 04d00461238c2e41… (all of the seat's roots in one cut). By AI agents, Wed Nov 11 2026. No macro, syntax, notation, axiom, sorry.
-/
import Derived.Test.YtkbhlgmgjpbloaaChecked
import GoSem.Claim
import GoSem.ClaimJoined
import GoSem.ClaimMapViews
import Derived.JoinedTies
import Derived.KernelRfl
namespace Go.Proofs.Ytkbhlgmgjpbloaa
/- THE CELL 'sum', in the pinned program and in every row, IS THE sha256 OF THE DUMP (.gsa) THAT YtkbhlgmgjpbloaaProg.lean LOADS. Nothing in Lean hashes anything: it is a label: what it is worth is what the hold of that sum in a sandbox is worth. -/
noncomputable def Try.pinned : Pinned := { name := "ytkbhlgmgjpbloaa", sum := "04d00461238c2e415500d2dd33b651b1937a088e2b8074e39bd9db9fa1251061", checked := Try.checked }
namespace Rows
def none {H : Type} : Left H := { results := [], args := [] }

/-- 'laws.FnExactDocOk': WHATEVER THE INPUT: true; the input reads as it did. -/
def fnExactDocOkSpec : ChangeSpec := { name := "fnExactDocOk", fn := fun _ => fun
  | [d] => { results := [.lit (.bool true)], args := [d] }
  | _ => none }
def fnExactDocOkRow : OpenClaim := { program := "ytkbhlgmgjpbloaa", sum := "04d00461238c2e415500d2dd33b651b1937a088e2b8074e39bd9db9fa1251061", func := "loop.example/g00797/laws.FnExactDocOk", spec := "fnExactDocOk", unfollowed := true, recurses := true, apart := false }
def FnExactDocOkSaid : Prop := fnExactDocOkRow.holds Try.pinned (OpenSpec.ofChange fnExactDocOkSpec)

/-- ITS FALSE NEIGHBOUR: 'it returns false'. Refute it at one input. -/
def fnExactDocOkWrong : ChangeSpec := { name := "fnExactDocOk", fn := fun _ => fun
  | [d] => { results := [.lit (.bool false)], args := [d] }
  | _ => none }
def FnExactDocOkWrongFalsely : Prop := fnExactDocOkRow.holds Try.pinned (OpenSpec.ofChange fnExactDocOkWrong)

/-- 'laws.FnExactDocNew': WHATEVER THE INPUT: true; the input reads as it did. -/
def fnExactDocNewSpec : ChangeSpec := { name := "fnExactDocNew", fn := fun _ => fun
  | [d1, d2] => { results := [.lit (.bool true)], args := [d1, d2] }
  | _ => none }
def fnExactDocNewRow : OpenClaim := { program := "ytkbhlgmgjpbloaa", sum := "04d00461238c2e415500d2dd33b651b1937a088e2b8074e39bd9db9fa1251061", func := "loop.example/g00797/laws.FnExactDocNew", spec := "fnExactDocNew", unfollowed := true, recurses := true, apart := false }
def FnExactDocNewSaid : Prop := fnExactDocNewRow.holds Try.pinned (OpenSpec.ofChange fnExactDocNewSpec)

/-- ITS FALSE NEIGHBOUR: 'it returns false'. Refute it at one input. -/
def fnExactDocNewWrong : ChangeSpec := { name := "fnExactDocNew", fn := fun _ => fun
  | [d1, d2] => { results := [.lit (.bool false)], args := [d1, d2] }
  | _ => none }
def FnExactDocNewWrongFalsely : Prop := fnExactDocNewRow.holds Try.pinned (OpenSpec.ofChange fnExactDocNewWrong)

/-- 'laws.FnExactTextAt': WHATEVER THE INPUT: true; the input reads as it did. -/
def fnExactTextAtSpec : ChangeSpec := { name := "fnExactTextAt", fn := fun _ => fun
  | [d1, d2] => { results := [.lit (.bool true)], args := [d1, d2] }
  | _ => none }
def fnExactTextAtRow : OpenClaim := { program := "ytkbhlgmgjpbloaa", sum := "04d00461238c2e415500d2dd33b651b1937a088e2b8074e39bd9db9fa1251061", func := "loop.example/g00797/laws.FnExactTextAt", spec := "fnExactTextAt", unfollowed := true, recurses := true, apart := false }
def FnExactTextAtSaid : Prop := fnExactTextAtRow.holds Try.pinned (OpenSpec.ofChange fnExactTextAtSpec)

/-- ITS FALSE NEIGHBOUR: 'it returns false'. Refute it at one input. -/
def fnExactTextAtWrong : ChangeSpec := { name := "fnExactTextAt", fn := fun _ => fun
  | [d1, d2] => { results := [.lit (.bool false)], args := [d1, d2] }
  | _ => none }
def FnExactTextAtWrongFalsely : Prop := fnExactTextAtRow.holds Try.pinned (OpenSpec.ofChange fnExactTextAtWrong)

/-- 'laws.FnExactMissed': WHATEVER THE INPUT: true; the input reads as it did. -/
def fnExactMissedSpec : ChangeSpec := { name := "fnExactMissed", fn := fun _ => fun
  | [d1, d2] => { results := [.lit (.bool true)], args := [d1, d2] }
  | _ => none }
def fnExactMissedRow : OpenClaim := { program := "ytkbhlgmgjpbloaa", sum := "04d00461238c2e415500d2dd33b651b1937a088e2b8074e39bd9db9fa1251061", func := "loop.example/g00797/laws.FnExactMissed", spec := "fnExactMissed", unfollowed := true, recurses := true, apart := false }
def FnExactMissedSaid : Prop := fnExactMissedRow.holds Try.pinned (OpenSpec.ofChange fnExactMissedSpec)

/-- ITS FALSE NEIGHBOUR: 'it returns false'. Refute it at one input. -/
def fnExactMissedWrong : ChangeSpec := { name := "fnExactMissed", fn := fun _ => fun
  | [d1, d2] => { results := [.lit (.bool false)], args := [d1, d2] }
  | _ => none }
def FnExactMissedWrongFalsely : Prop := fnExactMissedRow.holds Try.pinned (OpenSpec.ofChange fnExactMissedWrong)

/-- 'laws.FnExactHeadText': WHATEVER THE INPUT: true; the input reads as it did. -/
def fnExactHeadTextSpec : ChangeSpec := { name := "fnExactHeadText", fn := fun _ => fun
  | [d] => { results := [.lit (.bool true)], args := [d] }
  | _ => none }
def fnExactHeadTextRow : OpenClaim := { program := "ytkbhlgmgjpbloaa", sum := "04d00461238c2e415500d2dd33b651b1937a088e2b8074e39bd9db9fa1251061", func := "loop.example/g00797/laws.FnExactHeadText", spec := "fnExactHeadText", unfollowed := true, recurses := true, apart := false }
def FnExactHeadTextSaid : Prop := fnExactHeadTextRow.holds Try.pinned (OpenSpec.ofChange fnExactHeadTextSpec)

/-- ITS FALSE NEIGHBOUR: 'it returns false'. Refute it at one input. -/
def fnExactHeadTextWrong : ChangeSpec := { name := "fnExactHeadText", fn := fun _ => fun
  | [d] => { results := [.lit (.bool false)], args := [d] }
  | _ => none }
def FnExactHeadTextWrongFalsely : Prop := fnExactHeadTextRow.holds Try.pinned (OpenSpec.ofChange fnExactHeadTextWrong)

/-- 'laws.FnExactDocWriters': WHATEVER THE INPUT: true; the input reads as it did. -/
def fnExactDocWritersSpec : ChangeSpec := { name := "fnExactDocWriters", fn := fun _ => fun
  | [d] => { results := [.lit (.bool true)], args := [d] }
  | _ => none }
def fnExactDocWritersRow : OpenClaim := { program := "ytkbhlgmgjpbloaa", sum := "04d00461238c2e415500d2dd33b651b1937a088e2b8074e39bd9db9fa1251061", func := "loop.example/g00797/laws.FnExactDocWriters", spec := "fnExactDocWriters", unfollowed := true, recurses := true, apart := false }
def FnExactDocWritersSaid : Prop := fnExactDocWritersRow.holds Try.pinned (OpenSpec.ofChange fnExactDocWritersSpec)

/-- ITS FALSE NEIGHBOUR: 'it returns false'. Refute it at one input. -/
def fnExactDocWritersWrong : ChangeSpec := { name := "fnExactDocWriters", fn := fun _ => fun
  | [d] => { results := [.lit (.bool false)], args := [d] }
  | _ => none }
def FnExactDocWritersWrongFalsely : Prop := fnExactDocWritersRow.holds Try.pinned (OpenSpec.ofChange fnExactDocWritersWrong)

/-- 'laws.FnExactOpsSince': WHATEVER THE INPUT: true; the input reads as it did. -/
def fnExactOpsSinceSpec : ChangeSpec := { name := "fnExactOpsSince", fn := fun _ => fun
  | [d1, d2] => { results := [.lit (.bool true)], args := [d1, d2] }
  | _ => none }
def fnExactOpsSinceRow : OpenClaim := { program := "ytkbhlgmgjpbloaa", sum := "04d00461238c2e415500d2dd33b651b1937a088e2b8074e39bd9db9fa1251061", func := "loop.example/g00797/laws.FnExactOpsSince", spec := "fnExactOpsSince", unfollowed := true, recurses := true, apart := false }
def FnExactOpsSinceSaid : Prop := fnExactOpsSinceRow.holds Try.pinned (OpenSpec.ofChange fnExactOpsSinceSpec)

/-- ITS FALSE NEIGHBOUR: 'it returns false'. Refute it at one input. -/
def fnExactOpsSinceWrong : ChangeSpec := { name := "fnExactOpsSince", fn := fun _ => fun
  | [d1, d2] => { results := [.lit (.bool false)], args := [d1, d2] }
  | _ => none }
def FnExactOpsSinceWrongFalsely : Prop := fnExactOpsSinceRow.holds Try.pinned (OpenSpec.ofChange fnExactOpsSinceWrong)

/-- 'laws.FnExactFetch': WHATEVER THE INPUT: true; the input reads as it did. -/
def fnExactFetchSpec : ChangeSpec := { name := "fnExactFetch", fn := fun _ => fun
  | [d1, d2] => { results := [.lit (.bool true)], args := [d1, d2] }
  | _ => none }
def fnExactFetchRow : OpenClaim := { program := "ytkbhlgmgjpbloaa", sum := "04d00461238c2e415500d2dd33b651b1937a088e2b8074e39bd9db9fa1251061", func := "loop.example/g00797/laws.FnExactFetch", spec := "fnExactFetch", unfollowed := true, recurses := true, apart := false }
def FnExactFetchSaid : Prop := fnExactFetchRow.holds Try.pinned (OpenSpec.ofChange fnExactFetchSpec)

/-- ITS FALSE NEIGHBOUR: 'it returns false'. Refute it at one input. -/
def fnExactFetchWrong : ChangeSpec := { name := "fnExactFetch", fn := fun _ => fun
  | [d1, d2] => { results := [.lit (.bool false)], args := [d1, d2] }
  | _ => none }
def FnExactFetchWrongFalsely : Prop := fnExactFetchRow.holds Try.pinned (OpenSpec.ofChange fnExactFetchWrong)

/-- 'laws.FnExactForget': WHATEVER THE INPUT: true; the input reads as it did. -/
def fnExactForgetSpec : ChangeSpec := { name := "fnExactForget", fn := fun _ => fun
  | [d1, d2] => { results := [.lit (.bool true)], args := [d1, d2] }
  | _ => none }
def fnExactForgetRow : OpenClaim := { program := "ytkbhlgmgjpbloaa", sum := "04d00461238c2e415500d2dd33b651b1937a088e2b8074e39bd9db9fa1251061", func := "loop.example/g00797/laws.FnExactForget", spec := "fnExactForget", unfollowed := true, recurses := true, apart := false }
def FnExactForgetSaid : Prop := fnExactForgetRow.holds Try.pinned (OpenSpec.ofChange fnExactForgetSpec)

/-- ITS FALSE NEIGHBOUR: 'it returns false'. Refute it at one input. -/
def fnExactForgetWrong : ChangeSpec := { name := "fnExactForget", fn := fun _ => fun
  | [d1, d2] => { results := [.lit (.bool false)], args := [d1, d2] }
  | _ => none }
def FnExactForgetWrongFalsely : Prop := fnExactForgetRow.holds Try.pinned (OpenSpec.ofChange fnExactForgetWrong)

/- THE SECOND FORM. 'bulk': how many values and letters a reading holds, each counted each time it is reached (what is shared counts as often as it is met; a slice's spare places count too). A statement '..UptoSaid' is the law's where the arguments, and the package variables that the reading takes, are together of bulk at most 1048576: NARROWER than '..Said'. Prove '..Said' where nothing that the law and all that it calls make is longer than what came in: it says more and counts as full. Else prove '..UptoSaid'. A law counts once. -/
mutual
def uptoBulk {H : Type} : DataW H → Nat
  | .lit (.string bytes) => bytes.length + 1
  | .lit _ => 1
  | .nil => 1
  | .ptr d => uptoBulk d + 1
  | .slice elems spare => uptoBulkAll elems + uptoBulkAll spare + 1
  | .agg parts => uptoBulkAll parts + 1
  | .iface _ d => uptoBulk d + 1
  | .map entries => uptoBulkEntries entries + 1
  | .held _ => 1
def uptoBulkAll {H : Type} : List (DataW H) → Nat
  | [] => 0
  | d :: r => uptoBulk d + uptoBulkAll r
def uptoBulkEntries {H : Type} : List (Lit × DataW H) → Nat
  | [] => 0
  | x :: r => uptoBulkEntry x + uptoBulkEntries r
def uptoBulkEntry {H : Type} : Lit × DataW H → Nat
  | (.string bytes, d) => bytes.length + uptoBulk d + 1
  | (_, d) => uptoBulk d + 1
 end
def uptoSmall : (H : Type) → List (DataW H) → Bool := fun _ ds => decide (uptoBulkAll ds ≤ 1048576)
def OpenSpec.upto (s : _root_.Go.ChangeSpec) : _root_.Go.OpenSpec := { _root_.Go.OpenSpec.ofChange s with cond := some uptoSmall }

/-- 'laws.FnExactDocOk', WHERE WHAT IT READS IS OF BULK AT MOST 1048576: true; the input reads as it did. -/
def fnExactDocOkUptoRow : OpenClaim := { program := "ytkbhlgmgjpbloaa", sum := "04d00461238c2e415500d2dd33b651b1937a088e2b8074e39bd9db9fa1251061", func := "loop.example/g00797/laws.FnExactDocOk", spec := "fnExactDocOk", unfollowed := true, recurses := true, apart := false, narrowed := true }
def FnExactDocOkUptoSaid : Prop := fnExactDocOkUptoRow.holds Try.pinned (OpenSpec.upto fnExactDocOkSpec)

/-- 'laws.FnExactDocNew', WHERE WHAT IT READS IS OF BULK AT MOST 1048576: true; the input reads as it did. -/
def fnExactDocNewUptoRow : OpenClaim := { program := "ytkbhlgmgjpbloaa", sum := "04d00461238c2e415500d2dd33b651b1937a088e2b8074e39bd9db9fa1251061", func := "loop.example/g00797/laws.FnExactDocNew", spec := "fnExactDocNew", unfollowed := true, recurses := true, apart := false, narrowed := true }
def FnExactDocNewUptoSaid : Prop := fnExactDocNewUptoRow.holds Try.pinned (OpenSpec.upto fnExactDocNewSpec)

/-- 'laws.FnExactTextAt', WHERE WHAT IT READS IS OF BULK AT MOST 1048576: true; the input reads as it did. -/
def fnExactTextAtUptoRow : OpenClaim := { program := "ytkbhlgmgjpbloaa", sum := "04d00461238c2e415500d2dd33b651b1937a088e2b8074e39bd9db9fa1251061", func := "loop.example/g00797/laws.FnExactTextAt", spec := "fnExactTextAt", unfollowed := true, recurses := true, apart := false, narrowed := true }
def FnExactTextAtUptoSaid : Prop := fnExactTextAtUptoRow.holds Try.pinned (OpenSpec.upto fnExactTextAtSpec)

/-- 'laws.FnExactMissed', WHERE WHAT IT READS IS OF BULK AT MOST 1048576: true; the input reads as it did. -/
def fnExactMissedUptoRow : OpenClaim := { program := "ytkbhlgmgjpbloaa", sum := "04d00461238c2e415500d2dd33b651b1937a088e2b8074e39bd9db9fa1251061", func := "loop.example/g00797/laws.FnExactMissed", spec := "fnExactMissed", unfollowed := true, recurses := true, apart := false, narrowed := true }
def FnExactMissedUptoSaid : Prop := fnExactMissedUptoRow.holds Try.pinned (OpenSpec.upto fnExactMissedSpec)

/-- 'laws.FnExactHeadText', WHERE WHAT IT READS IS OF BULK AT MOST 1048576: true; the input reads as it did. -/
def fnExactHeadTextUptoRow : OpenClaim := { program := "ytkbhlgmgjpbloaa", sum := "04d00461238c2e415500d2dd33b651b1937a088e2b8074e39bd9db9fa1251061", func := "loop.example/g00797/laws.FnExactHeadText", spec := "fnExactHeadText", unfollowed := true, recurses := true, apart := false, narrowed := true }
def FnExactHeadTextUptoSaid : Prop := fnExactHeadTextUptoRow.holds Try.pinned (OpenSpec.upto fnExactHeadTextSpec)

/-- 'laws.FnExactDocWriters', WHERE WHAT IT READS IS OF BULK AT MOST 1048576: true; the input reads as it did. -/
def fnExactDocWritersUptoRow : OpenClaim := { program := "ytkbhlgmgjpbloaa", sum := "04d00461238c2e415500d2dd33b651b1937a088e2b8074e39bd9db9fa1251061", func := "loop.example/g00797/laws.FnExactDocWriters", spec := "fnExactDocWriters", unfollowed := true, recurses := true, apart := false, narrowed := true }
def FnExactDocWritersUptoSaid : Prop := fnExactDocWritersUptoRow.holds Try.pinned (OpenSpec.upto fnExactDocWritersSpec)

/-- 'laws.FnExactOpsSince', WHERE WHAT IT READS IS OF BULK AT MOST 1048576: true; the input reads as it did. -/
def fnExactOpsSinceUptoRow : OpenClaim := { program := "ytkbhlgmgjpbloaa", sum := "04d00461238c2e415500d2dd33b651b1937a088e2b8074e39bd9db9fa1251061", func := "loop.example/g00797/laws.FnExactOpsSince", spec := "fnExactOpsSince", unfollowed := true, recurses := true, apart := false, narrowed := true }
def FnExactOpsSinceUptoSaid : Prop := fnExactOpsSinceUptoRow.holds Try.pinned (OpenSpec.upto fnExactOpsSinceSpec)

/-- 'laws.FnExactFetch', WHERE WHAT IT READS IS OF BULK AT MOST 1048576: true; the input reads as it did. -/
def fnExactFetchUptoRow : OpenClaim := { program := "ytkbhlgmgjpbloaa", sum := "04d00461238c2e415500d2dd33b651b1937a088e2b8074e39bd9db9fa1251061", func := "loop.example/g00797/laws.FnExactFetch", spec := "fnExactFetch", unfollowed := true, recurses := true, apart := false, narrowed := true }
def FnExactFetchUptoSaid : Prop := fnExactFetchUptoRow.holds Try.pinned (OpenSpec.upto fnExactFetchSpec)

/-- 'laws.FnExactForget', WHERE WHAT IT READS IS OF BULK AT MOST 1048576: true; the input reads as it did. -/
def fnExactForgetUptoRow : OpenClaim := { program := "ytkbhlgmgjpbloaa", sum := "04d00461238c2e415500d2dd33b651b1937a088e2b8074e39bd9db9fa1251061", func := "loop.example/g00797/laws.FnExactForget", spec := "fnExactForget", unfollowed := true, recurses := true, apart := false, narrowed := true }
def FnExactForgetUptoSaid : Prop := fnExactForgetUptoRow.holds Try.pinned (OpenSpec.upto fnExactForgetSpec)

end Rows
end Go.Proofs.Ytkbhlgmgjpbloaa
