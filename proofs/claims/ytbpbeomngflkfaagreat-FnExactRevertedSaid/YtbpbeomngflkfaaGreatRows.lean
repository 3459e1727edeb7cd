/-
  No cell of these rows narrows 'for every input' (looked for: loops, veiled, ifaces, maps, wideKeys, modest, calm, conditions, laid).
  DERIVED. THE GIVEN ROWS OF THIS SEAT. 4 by the template 'for every input the law returns true; each argument reads behind the call as it read before'; 0 by the template 'total and deterministic' (their statements: YtbpbeomngflkfaaGreatTotals.lean).
  GIVEN WITH THE SEED: the statements are not yours to turn. If you find one false, say at which input.
  Laid BY PROGRAM, IN A SANDBOX (cutbox-rows.mjs): the forced cells as the released guide's own fill.sh prints them over the translation 12861cda093ef518… (all of the seat's roots in one cut). By AI agents, Wed Nov 11 2026. No macro, syntax, notation, axiom, sorry.
-/
import Derived.Test.YtbpbeomngflkfaaGreatChecked
import GoSem.Claim
import GoSem.ClaimJoined
import GoSem.ClaimMapViews
import Derived.JoinedTies
import Derived.KernelRfl
namespace Go.Proofs.YtbpbeomngflkfaaGreat
/- THE CELL 'sum', in the pinned program and in every row, IS THE sha256 OF THE DUMP (.gsa) THAT YtbpbeomngflkfaaGreatProg.lean LOADS. Nothing in Lean hashes anything: it is a label: what it is worth is what the hold of that sum in a sandbox is worth. -/
noncomputable def Tryz.pinned : Pinned := { name := "ytbpbeomngflkfaagreat", sum := "12861cda093ef518636d6b3c7b530c45777cb504ff1732e1fbcf58f6265f9ee1", checked := Tryz.checked }
namespace Rows
def none {H : Type} : Left H := { results := [], args := [] }

/-- 'laws.FnExactSubmit': WHATEVER THE INPUT: true; the input reads as it did. -/
def fnExactSubmitSpec : ChangeSpec := { name := "fnExactSubmit", fn := fun _ => fun
  | [d1, d2, d3, d4, d5] => { results := [.lit (.bool true)], args := [d1, d2, d3, d4, d5] }
  | _ => none }
def fnExactSubmitRow : OpenClaim := { program := "ytbpbeomngflkfaagreat", sum := "12861cda093ef518636d6b3c7b530c45777cb504ff1732e1fbcf58f6265f9ee1", func := "loop.example/g00797/laws.FnExactSubmit", spec := "fnExactSubmit", inPlace := ["slices.overlaps[loop.example/g00797/impl.Seen]"], unfollowed := true, recurses := true, apart := false }
def FnExactSubmitSaid : Prop := fnExactSubmitRow.holds Tryz.pinned (OpenSpec.ofChange fnExactSubmitSpec)

/-- ITS FALSE NEIGHBOUR: 'it returns false'. Refute it at one input. -/
def fnExactSubmitWrong : ChangeSpec := { name := "fnExactSubmit", fn := fun _ => fun
  | [d1, d2, d3, d4, d5] => { results := [.lit (.bool false)], args := [d1, d2, d3, d4, d5] }
  | _ => none }
def FnExactSubmitWrongFalsely : Prop := fnExactSubmitRow.holds Tryz.pinned (OpenSpec.ofChange fnExactSubmitWrong)

/-- 'laws.FnExactHubSubmit': WHATEVER THE INPUT: true; the input reads as it did. -/
def fnExactHubSubmitSpec : ChangeSpec := { name := "fnExactHubSubmit", fn := fun _ => fun
  | [d1, d2, d3, d4, d5, d6] => { results := [.lit (.bool true)], args := [d1, d2, d3, d4, d5, d6] }
  | _ => none }
def fnExactHubSubmitRow : OpenClaim := { program := "ytbpbeomngflkfaagreat", sum := "12861cda093ef518636d6b3c7b530c45777cb504ff1732e1fbcf58f6265f9ee1", func := "loop.example/g00797/laws.FnExactHubSubmit", spec := "fnExactHubSubmit", inPlace := ["slices.overlaps[loop.example/g00797/impl.Seen]"], unfollowed := true, recurses := true, apart := false }
def FnExactHubSubmitSaid : Prop := fnExactHubSubmitRow.holds Tryz.pinned (OpenSpec.ofChange fnExactHubSubmitSpec)

/-- ITS FALSE NEIGHBOUR: 'it returns false'. Refute it at one input. -/
def fnExactHubSubmitWrong : ChangeSpec := { name := "fnExactHubSubmit", fn := fun _ => fun
  | [d1, d2, d3, d4, d5, d6] => { results := [.lit (.bool false)], args := [d1, d2, d3, d4, d5, d6] }
  | _ => none }
def FnExactHubSubmitWrongFalsely : Prop := fnExactHubSubmitRow.holds Tryz.pinned (OpenSpec.ofChange fnExactHubSubmitWrong)

/-- 'laws.FnExactChanged': WHATEVER THE INPUT: true; the input reads as it did. -/
def fnExactChangedSpec : ChangeSpec := { name := "fnExactChanged", fn := fun _ => fun
  | [d1, d2] => { results := [.lit (.bool true)], args := [d1, d2] }
  | _ => none }
def fnExactChangedRow : OpenClaim := { program := "ytbpbeomngflkfaagreat", sum := "12861cda093ef518636d6b3c7b530c45777cb504ff1732e1fbcf58f6265f9ee1", func := "loop.example/g00797/laws.FnExactChanged", spec := "fnExactChanged", unfollowed := true, recurses := true, apart := false }
def FnExactChangedSaid : Prop := fnExactChangedRow.holds Tryz.pinned (OpenSpec.ofChange fnExactChangedSpec)

/-- ITS FALSE NEIGHBOUR: 'it returns false'. Refute it at one input. -/
def fnExactChangedWrong : ChangeSpec := { name := "fnExactChanged", fn := fun _ => fun
  | [d1, d2] => { results := [.lit (.bool false)], args := [d1, d2] }
  | _ => none }
def FnExactChangedWrongFalsely : Prop := fnExactChangedRow.holds Tryz.pinned (OpenSpec.ofChange fnExactChangedWrong)

/-- 'laws.FnExactReverted': WHATEVER THE INPUT: true; the input reads as it did. -/
def fnExactRevertedSpec : ChangeSpec := { name := "fnExactReverted", fn := fun _ => fun
  | [d1, d2] => { results := [.lit (.bool true)], args := [d1, d2] }
  | _ => none }
def fnExactRevertedRow : OpenClaim := { program := "ytbpbeomngflkfaagreat", sum := "12861cda093ef518636d6b3c7b530c45777cb504ff1732e1fbcf58f6265f9ee1", func := "loop.example/g00797/laws.FnExactReverted", spec := "fnExactReverted", unfollowed := true, recurses := true, apart := false }
def FnExactRevertedSaid : Prop := fnExactRevertedRow.holds Tryz.pinned (OpenSpec.ofChange fnExactRevertedSpec)

/-- ITS FALSE NEIGHBOUR: 'it returns false'. Refute it at one input. -/
def fnExactRevertedWrong : ChangeSpec := { name := "fnExactReverted", fn := fun _ => fun
  | [d1, d2] => { results := [.lit (.bool false)], args := [d1, d2] }
  | _ => none }
def FnExactRevertedWrongFalsely : Prop := fnExactRevertedRow.holds Tryz.pinned (OpenSpec.ofChange fnExactRevertedWrong)

/- THE SECOND FORM. 'bulk': how many values and letters a reading holds, each counted each time it is reached (what is shared counts as often as it is met; a slice's spare places count too). A statement '..UptoSaid' is the law's where the arguments, and the package variables that the reading takes, are together of bulk at most 1048576: NARROWER than '..Said'. Prove '..Said' where nothing that the law and all that it calls make is longer than what came in: it says more and counts as full. Else prove '..UptoSaid'. A law counts once. -/
mutual
def uptoBulk {H : Type} : DataW H → Nat
  | .lit (.string bytes) => bytes.length + 1
  | .lit _ => 1
  | .nil => 1
  | .ptr d => uptoBulk d + 1
  | .slice elems spare => uptoBulkAll elems + uptoBulkAll spare + 1
  | .agg parts => uptoBulkAll parts + 1
  | .iface _ d => uptoBulk d + 1
  | .map entries => uptoBulkEntries entries + 1
  | .held _ => 1
def uptoBulkAll {H : Type} : List (DataW H) → Nat
  | [] => 0
  | d :: r => uptoBulk d + uptoBulkAll r
def uptoBulkEntries {H : Type} : List (Lit × DataW H) → Nat
  | [] => 0
  | x :: r => uptoBulkEntry x + uptoBulkEntries r
def uptoBulkEntry {H : Type} : Lit × DataW H → Nat
  | (.string bytes, d) => bytes.length + uptoBulk d + 1
  | (_, d) => uptoBulk d + 1
 end
def uptoSmall : (H : Type) → List (DataW H) → Bool := fun _ ds => decide (uptoBulkAll ds ≤ 1048576)
def OpenSpec.upto (s : _root_.Go.ChangeSpec) : _root_.Go.OpenSpec := { _root_.Go.OpenSpec.ofChange s with cond := some uptoSmall }

/-- 'laws.FnExactSubmit', WHERE WHAT IT READS IS OF BULK AT MOST 1048576: true; the input reads as it did. -/
def fnExactSubmitUptoRow : OpenClaim := { program := "ytbpbeomngflkfaagreat", sum := "12861cda093ef518636d6b3c7b530c45777cb504ff1732e1fbcf58f6265f9ee1", func := "loop.example/g00797/laws.FnExactSubmit", spec := "fnExactSubmit", inPlace := ["slices.overlaps[loop.example/g00797/impl.Seen]"], unfollowed := true, recurses := true, apart := false, narrowed := true }
def FnExactSubmitUptoSaid : Prop := fnExactSubmitUptoRow.holds Tryz.pinned (OpenSpec.upto fnExactSubmitSpec)

/-- 'laws.FnExactHubSubmit', WHERE WHAT IT READS IS OF BULK AT MOST 1048576: true; the input reads as it did. -/
def fnExactHubSubmitUptoRow : OpenClaim := { program := "ytbpbeomngflkfaagreat", sum := "12861cda093ef518636d6b3c7b530c45777cb504ff1732e1fbcf58f6265f9ee1", func := "loop.example/g00797/laws.FnExactHubSubmit", spec := "fnExactHubSubmit", inPlace := ["slices.overlaps[loop.example/g00797/impl.Seen]"], unfollowed := true, recurses := true, apart := false, narrowed := true }
def FnExactHubSubmitUptoSaid : Prop := fnExactHubSubmitUptoRow.holds Tryz.pinned (OpenSpec.upto fnExactHubSubmitSpec)

/-- 'laws.FnExactChanged', WHERE WHAT IT READS IS OF BULK AT MOST 1048576: true; the input reads as it did. -/
def fnExactChangedUptoRow : OpenClaim := { program := "ytbpbeomngflkfaagreat", sum := "12861cda093ef518636d6b3c7b530c45777cb504ff1732e1fbcf58f6265f9ee1", func := "loop.example/g00797/laws.FnExactChanged", spec := "fnExactChanged", unfollowed := true, recurses := true, apart := false, narrowed := true }
def FnExactChangedUptoSaid : Prop := fnExactChangedUptoRow.holds Tryz.pinned (OpenSpec.upto fnExactChangedSpec)

/-- 'laws.FnExactReverted', WHERE WHAT IT READS IS OF BULK AT MOST 1048576: true; the input reads as it did. -/
def fnExactRevertedUptoRow : OpenClaim := { program := "ytbpbeomngflkfaagreat", sum := "12861cda093ef518636d6b3c7b530c45777cb504ff1732e1fbcf58f6265f9ee1", func := "loop.example/g00797/laws.FnExactReverted", spec := "fnExactReverted", unfollowed := true, recurses := true, apart := false, narrowed := true }
def FnExactRevertedUptoSaid : Prop := fnExactRevertedUptoRow.holds Tryz.pinned (OpenSpec.upto fnExactRevertedSpec)

end Rows
end Go.Proofs.YtbpbeomngflkfaaGreat
