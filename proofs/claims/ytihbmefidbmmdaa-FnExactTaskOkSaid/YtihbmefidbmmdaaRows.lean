/-
  No cell of these rows narrows 'for every input' (looked for: loops, veiled, ifaces, maps, wideKeys, modest, calm, conditions, laid).
  DERIVED. THE GIVEN ROWS OF THIS SEAT. 9 by the template 'for every input the law returns true; each argument reads behind the call as it read before'; 0 by the template 'total and deterministic' (their statements: YtihbmefidbmmdaaTotals.lean).
  GIVEN WITH THE SEED: the statements are not yours to turn. If you find one false, say at which input.
  Laid BY PROGRAM, IN A SANDBOX (cutbox-rows.mjs): the forced cells as the released guide's own fill.sh prints them over the translation 9737add8bc70ed74… (all of the seat's roots in one cut). By AI agents, Wed Nov 11 2026. No macro, syntax, notation, axiom, sorry.
-/
import Derived.Test.YtihbmefidbmmdaaChecked
import GoSem.Claim
import GoSem.ClaimJoined
import GoSem.ClaimMapViews
import Derived.JoinedTies
import Derived.KernelRfl
namespace Go.Proofs.Ytihbmefidbmmdaa
/- THE CELL 'sum', in the pinned program and in every row, IS THE sha256 OF THE DUMP (.gsa) THAT YtihbmefidbmmdaaProg.lean LOADS. Nothing in Lean hashes anything: it is a label: what it is worth is what the hold of that sum in a sandbox is worth. -/
noncomputable def Try.pinned : Pinned := { name := "ytihbmefidbmmdaa", sum := "9737add8bc70ed745794e81ab24701241208f4662166b1d9876c71b1f70d0cf0", checked := Try.checked }
namespace Rows
def none {H : Type} : Left H := { results := [], args := [] }

/-- 'laws.FnExactEntryOk': WHATEVER THE INPUT: true; the input reads as it did. -/
def fnExactEntryOkSpec : ChangeSpec := { name := "fnExactEntryOk", fn := fun _ => fun
  | [d] => { results := [.lit (.bool true)], args := [d] }
  | _ => none }
def fnExactEntryOkRow : OpenClaim := { program := "ytihbmefidbmmdaa", sum := "9737add8bc70ed745794e81ab24701241208f4662166b1d9876c71b1f70d0cf0", func := "loop.example/g00797/laws.FnExactEntryOk", spec := "fnExactEntryOk", unfollowed := true, recurses := true, apart := false }
def FnExactEntryOkSaid : Prop := fnExactEntryOkRow.holds Try.pinned (OpenSpec.ofChange fnExactEntryOkSpec)

/-- ITS FALSE NEIGHBOUR: 'it returns false'. Refute it at one input. -/
def fnExactEntryOkWrong : ChangeSpec := { name := "fnExactEntryOk", fn := fun _ => fun
  | [d] => { results := [.lit (.bool false)], args := [d] }
  | _ => none }
def FnExactEntryOkWrongFalsely : Prop := fnExactEntryOkRow.holds Try.pinned (OpenSpec.ofChange fnExactEntryOkWrong)

/-- 'laws.FnExactRingOk': WHATEVER THE INPUT: true; the input reads as it did. -/
def fnExactRingOkSpec : ChangeSpec := { name := "fnExactRingOk", fn := fun _ => fun
  | [d] => { results := [.lit (.bool true)], args := [d] }
  | _ => none }
def fnExactRingOkRow : OpenClaim := { program := "ytihbmefidbmmdaa", sum := "9737add8bc70ed745794e81ab24701241208f4662166b1d9876c71b1f70d0cf0", func := "loop.example/g00797/laws.FnExactRingOk", spec := "fnExactRingOk", unfollowed := true, recurses := true, apart := false }
def FnExactRingOkSaid : Prop := fnExactRingOkRow.holds Try.pinned (OpenSpec.ofChange fnExactRingOkSpec)

/-- ITS FALSE NEIGHBOUR: 'it returns false'. Refute it at one input. -/
def fnExactRingOkWrong : ChangeSpec := { name := "fnExactRingOk", fn := fun _ => fun
  | [d] => { results := [.lit (.bool false)], args := [d] }
  | _ => none }
def FnExactRingOkWrongFalsely : Prop := fnExactRingOkRow.holds Try.pinned (OpenSpec.ofChange fnExactRingOkWrong)

/-- 'laws.FnExactRingNew': WHATEVER THE INPUT: true; the input reads as it did. -/
def fnExactRingNewSpec : ChangeSpec := { name := "fnExactRingNew", fn := fun _ => fun
  | [d1, d2] => { results := [.lit (.bool true)], args := [d1, d2] }
  | _ => none }
def fnExactRingNewRow : OpenClaim := { program := "ytihbmefidbmmdaa", sum := "9737add8bc70ed745794e81ab24701241208f4662166b1d9876c71b1f70d0cf0", func := "loop.example/g00797/laws.FnExactRingNew", spec := "fnExactRingNew", unfollowed := true, recurses := true, apart := false }
def FnExactRingNewSaid : Prop := fnExactRingNewRow.holds Try.pinned (OpenSpec.ofChange fnExactRingNewSpec)

/-- ITS FALSE NEIGHBOUR: 'it returns false'. Refute it at one input. -/
def fnExactRingNewWrong : ChangeSpec := { name := "fnExactRingNew", fn := fun _ => fun
  | [d1, d2] => { results := [.lit (.bool false)], args := [d1, d2] }
  | _ => none }
def FnExactRingNewWrongFalsely : Prop := fnExactRingNewRow.holds Try.pinned (OpenSpec.ofChange fnExactRingNewWrong)

/-- 'laws.FnExactTaskOk': WHATEVER THE INPUT: true; the input reads as it did. -/
def fnExactTaskOkSpec : ChangeSpec := { name := "fnExactTaskOk", fn := fun _ => fun
  | [d] => { results := [.lit (.bool true)], args := [d] }
  | _ => none }
def fnExactTaskOkRow : OpenClaim := { program := "ytihbmefidbmmdaa", sum := "9737add8bc70ed745794e81ab24701241208f4662166b1d9876c71b1f70d0cf0", func := "loop.example/g00797/laws.FnExactTaskOk", spec := "fnExactTaskOk", unfollowed := true, recurses := true, apart := false }
def FnExactTaskOkSaid : Prop := fnExactTaskOkRow.holds Try.pinned (OpenSpec.ofChange fnExactTaskOkSpec)

/-- ITS FALSE NEIGHBOUR: 'it returns false'. Refute it at one input. -/
def fnExactTaskOkWrong : ChangeSpec := { name := "fnExactTaskOk", fn := fun _ => fun
  | [d] => { results := [.lit (.bool false)], args := [d] }
  | _ => none }
def FnExactTaskOkWrongFalsely : Prop := fnExactTaskOkRow.holds Try.pinned (OpenSpec.ofChange fnExactTaskOkWrong)

/-- 'laws.FnExactRingResync': WHATEVER THE INPUT: true; the input reads as it did. -/
def fnExactRingResyncSpec : ChangeSpec := { name := "fnExactRingResync", fn := fun _ => fun
  | [d1, d2] => { results := [.lit (.bool true)], args := [d1, d2] }
  | _ => none }
def fnExactRingResyncRow : OpenClaim := { program := "ytihbmefidbmmdaa", sum := "9737add8bc70ed745794e81ab24701241208f4662166b1d9876c71b1f70d0cf0", func := "loop.example/g00797/laws.FnExactRingResync", spec := "fnExactRingResync", unfollowed := true, recurses := true, apart := false }
def FnExactRingResyncSaid : Prop := fnExactRingResyncRow.holds Try.pinned (OpenSpec.ofChange fnExactRingResyncSpec)

/-- ITS FALSE NEIGHBOUR: 'it returns false'. Refute it at one input. -/
def fnExactRingResyncWrong : ChangeSpec := { name := "fnExactRingResync", fn := fun _ => fun
  | [d1, d2] => { results := [.lit (.bool false)], args := [d1, d2] }
  | _ => none }
def FnExactRingResyncWrongFalsely : Prop := fnExactRingResyncRow.holds Try.pinned (OpenSpec.ofChange fnExactRingResyncWrong)

/-- 'laws.FnExactRingPoll': WHATEVER THE INPUT: true; the input reads as it did. -/
def fnExactRingPollSpec : ChangeSpec := { name := "fnExactRingPoll", fn := fun _ => fun
  | [d1, d2] => { results := [.lit (.bool true)], args := [d1, d2] }
  | _ => none }
def fnExactRingPollRow : OpenClaim := { program := "ytihbmefidbmmdaa", sum := "9737add8bc70ed745794e81ab24701241208f4662166b1d9876c71b1f70d0cf0", func := "loop.example/g00797/laws.FnExactRingPoll", spec := "fnExactRingPoll", unfollowed := true, recurses := true, apart := false }
def FnExactRingPollSaid : Prop := fnExactRingPollRow.holds Try.pinned (OpenSpec.ofChange fnExactRingPollSpec)

/-- ITS FALSE NEIGHBOUR: 'it returns false'. Refute it at one input. -/
def fnExactRingPollWrong : ChangeSpec := { name := "fnExactRingPoll", fn := fun _ => fun
  | [d1, d2] => { results := [.lit (.bool false)], args := [d1, d2] }
  | _ => none }
def FnExactRingPollWrongFalsely : Prop := fnExactRingPollRow.holds Try.pinned (OpenSpec.ofChange fnExactRingPollWrong)

/-- 'laws.FnExactRingPush': WHATEVER THE INPUT: true; the input reads as it did. -/
def fnExactRingPushSpec : ChangeSpec := { name := "fnExactRingPush", fn := fun _ => fun
  | [d1, d2] => { results := [.lit (.bool true)], args := [d1, d2] }
  | _ => none }
def fnExactRingPushRow : OpenClaim := { program := "ytihbmefidbmmdaa", sum := "9737add8bc70ed745794e81ab24701241208f4662166b1d9876c71b1f70d0cf0", func := "loop.example/g00797/laws.FnExactRingPush", spec := "fnExactRingPush", unfollowed := true, recurses := true, apart := false }
def FnExactRingPushSaid : Prop := fnExactRingPushRow.holds Try.pinned (OpenSpec.ofChange fnExactRingPushSpec)

/-- ITS FALSE NEIGHBOUR: 'it returns false'. Refute it at one input. -/
def fnExactRingPushWrong : ChangeSpec := { name := "fnExactRingPush", fn := fun _ => fun
  | [d1, d2] => { results := [.lit (.bool false)], args := [d1, d2] }
  | _ => none }
def FnExactRingPushWrongFalsely : Prop := fnExactRingPushRow.holds Try.pinned (OpenSpec.ofChange fnExactRingPushWrong)

/-- 'laws.FnRing': WHATEVER THE INPUT: true; the input reads as it did. -/
def fnRingSpec : ChangeSpec := { name := "fnRing", fn := fun _ => fun
  | [d] => { results := [.lit (.bool true)], args := [d] }
  | _ => none }
def fnRingRow : OpenClaim := { program := "ytihbmefidbmmdaa", sum := "9737add8bc70ed745794e81ab24701241208f4662166b1d9876c71b1f70d0cf0", func := "loop.example/g00797/laws.FnRing", spec := "fnRing", unfollowed := true, recurses := true, apart := false }
def FnRingSaid : Prop := fnRingRow.holds Try.pinned (OpenSpec.ofChange fnRingSpec)

/-- ITS FALSE NEIGHBOUR: 'it returns false'. Refute it at one input. -/
def fnRingWrong : ChangeSpec := { name := "fnRing", fn := fun _ => fun
  | [d] => { results := [.lit (.bool false)], args := [d] }
  | _ => none }
def FnRingWrongFalsely : Prop := fnRingRow.holds Try.pinned (OpenSpec.ofChange fnRingWrong)

/-- 'laws.FnExactCallOk': WHATEVER THE INPUT: true; the input reads as it did. -/
def fnExactCallOkSpec : ChangeSpec := { name := "fnExactCallOk", fn := fun _ => fun
  | [d] => { results := [.lit (.bool true)], args := [d] }
  | _ => none }
def fnExactCallOkRow : OpenClaim := { program := "ytihbmefidbmmdaa", sum := "9737add8bc70ed745794e81ab24701241208f4662166b1d9876c71b1f70d0cf0", func := "loop.example/g00797/laws.FnExactCallOk", spec := "fnExactCallOk", unfollowed := true, recurses := true, apart := false }
def FnExactCallOkSaid : Prop := fnExactCallOkRow.holds Try.pinned (OpenSpec.ofChange fnExactCallOkSpec)

/-- ITS FALSE NEIGHBOUR: 'it returns false'. Refute it at one input. -/
def fnExactCallOkWrong : ChangeSpec := { name := "fnExactCallOk", fn := fun _ => fun
  | [d] => { results := [.lit (.bool false)], args := [d] }
  | _ => none }
def FnExactCallOkWrongFalsely : Prop := fnExactCallOkRow.holds Try.pinned (OpenSpec.ofChange fnExactCallOkWrong)

/- THE SECOND FORM. 'bulk': how many values and letters a reading holds, each counted each time it is reached (what is shared counts as often as it is met; a slice's spare places count too). A statement '..UptoSaid' is the law's where the arguments, and the package variables that the reading takes, are together of bulk at most 1048576: NARROWER than '..Said'. Prove '..Said' where nothing that the law and all that it calls make is longer than what came in: it says more and counts as full. Else prove '..UptoSaid'. A law counts once. -/
mutual
def uptoBulk {H : Type} : DataW H → Nat
  | .lit (.string bytes) => bytes.length + 1
  | .lit _ => 1
  | .nil => 1
  | .ptr d => uptoBulk d + 1
  | .slice elems spare => uptoBulkAll elems + uptoBulkAll spare + 1
  | .agg parts => uptoBulkAll parts + 1
  | .iface _ d => uptoBulk d + 1
  | .map entries => uptoBulkEntries entries + 1
  | .held _ => 1
def uptoBulkAll {H : Type} : List (DataW H) → Nat
  | [] => 0
  | d :: r => uptoBulk d + uptoBulkAll r
def uptoBulkEntries {H : Type} : List (Lit × DataW H) → Nat
  | [] => 0
  | x :: r => uptoBulkEntry x + uptoBulkEntries r
def uptoBulkEntry {H : Type} : Lit × DataW H → Nat
  | (.string bytes, d) => bytes.length + uptoBulk d + 1
  | (_, d) => uptoBulk d + 1
 end
def uptoSmall : (H : Type) → List (DataW H) → Bool := fun _ ds => decide (uptoBulkAll ds ≤ 1048576)
def OpenSpec.upto (s : _root_.Go.ChangeSpec) : _root_.Go.OpenSpec := { _root_.Go.OpenSpec.ofChange s with cond := some uptoSmall }

/-- 'laws.FnExactEntryOk', WHERE WHAT IT READS IS OF BULK AT MOST 1048576: true; the input reads as it did. -/
def fnExactEntryOkUptoRow : OpenClaim := { program := "ytihbmefidbmmdaa", sum := "9737add8bc70ed745794e81ab24701241208f4662166b1d9876c71b1f70d0cf0", func := "loop.example/g00797/laws.FnExactEntryOk", spec := "fnExactEntryOk", unfollowed := true, recurses := true, apart := false, narrowed := true }
def FnExactEntryOkUptoSaid : Prop := fnExactEntryOkUptoRow.holds Try.pinned (OpenSpec.upto fnExactEntryOkSpec)

/-- 'laws.FnExactRingOk', WHERE WHAT IT READS IS OF BULK AT MOST 1048576: true; the input reads as it did. -/
def fnExactRingOkUptoRow : OpenClaim := { program := "ytihbmefidbmmdaa", sum := "9737add8bc70ed745794e81ab24701241208f4662166b1d9876c71b1f70d0cf0", func := "loop.example/g00797/laws.FnExactRingOk", spec := "fnExactRingOk", unfollowed := true, recurses := true, apart := false, narrowed := true }
def FnExactRingOkUptoSaid : Prop := fnExactRingOkUptoRow.holds Try.pinned (OpenSpec.upto fnExactRingOkSpec)

/-- 'laws.FnExactRingNew', WHERE WHAT IT READS IS OF BULK AT MOST 1048576: true; the input reads as it did. -/
def fnExactRingNewUptoRow : OpenClaim := { program := "ytihbmefidbmmdaa", sum := "9737add8bc70ed745794e81ab24701241208f4662166b1d9876c71b1f70d0cf0", func := "loop.example/g00797/laws.FnExactRingNew", spec := "fnExactRingNew", unfollowed := true, recurses := true, apart := false, narrowed := true }
def FnExactRingNewUptoSaid : Prop := fnExactRingNewUptoRow.holds Try.pinned (OpenSpec.upto fnExactRingNewSpec)

/-- 'laws.FnExactTaskOk', WHERE WHAT IT READS IS OF BULK AT MOST 1048576: true; the input reads as it did. -/
def fnExactTaskOkUptoRow : OpenClaim := { program := "ytihbmefidbmmdaa", sum := "9737add8bc70ed745794e81ab24701241208f4662166b1d9876c71b1f70d0cf0", func := "loop.example/g00797/laws.FnExactTaskOk", spec := "fnExactTaskOk", unfollowed := true, recurses := true, apart := false, narrowed := true }
def FnExactTaskOkUptoSaid : Prop := fnExactTaskOkUptoRow.holds Try.pinned (OpenSpec.upto fnExactTaskOkSpec)

/-- 'laws.FnExactRingResync', WHERE WHAT IT READS IS OF BULK AT MOST 1048576: true; the input reads as it did. -/
def fnExactRingResyncUptoRow : OpenClaim := { program := "ytihbmefidbmmdaa", sum := "9737add8bc70ed745794e81ab24701241208f4662166b1d9876c71b1f70d0cf0", func := "loop.example/g00797/laws.FnExactRingResync", spec := "fnExactRingResync", unfollowed := true, recurses := true, apart := false, narrowed := true }
def FnExactRingResyncUptoSaid : Prop := fnExactRingResyncUptoRow.holds Try.pinned (OpenSpec.upto fnExactRingResyncSpec)

/-- 'laws.FnExactRingPoll', WHERE WHAT IT READS IS OF BULK AT MOST 1048576: true; the input reads as it did. -/
def fnExactRingPollUptoRow : OpenClaim := { program := "ytihbmefidbmmdaa", sum := "9737add8bc70ed745794e81ab24701241208f4662166b1d9876c71b1f70d0cf0", func := "loop.example/g00797/laws.FnExactRingPoll", spec := "fnExactRingPoll", unfollowed := true, recurses := true, apart := false, narrowed := true }
def FnExactRingPollUptoSaid : Prop := fnExactRingPollUptoRow.holds Try.pinned (OpenSpec.upto fnExactRingPollSpec)

/-- 'laws.FnExactRingPush', WHERE WHAT IT READS IS OF BULK AT MOST 1048576: true; the input reads as it did. -/
def fnExactRingPushUptoRow : OpenClaim := { program := "ytihbmefidbmmdaa", sum := "9737add8bc70ed745794e81ab24701241208f4662166b1d9876c71b1f70d0cf0", func := "loop.example/g00797/laws.FnExactRingPush", spec := "fnExactRingPush", unfollowed := true, recurses := true, apart := false, narrowed := true }
def FnExactRingPushUptoSaid : Prop := fnExactRingPushUptoRow.holds Try.pinned (OpenSpec.upto fnExactRingPushSpec)

/-- 'laws.FnRing', WHERE WHAT IT READS IS OF BULK AT MOST 1048576: true; the input reads as it did. -/
def fnRingUptoRow : OpenClaim := { program := "ytihbmefidbmmdaa", sum := "9737add8bc70ed745794e81ab24701241208f4662166b1d9876c71b1f70d0cf0", func := "loop.example/g00797/laws.FnRing", spec := "fnRing", unfollowed := true, recurses := true, apart := false, narrowed := true }
def FnRingUptoSaid : Prop := fnRingUptoRow.holds Try.pinned (OpenSpec.upto fnRingSpec)

/-- 'laws.FnExactCallOk', WHERE WHAT IT READS IS OF BULK AT MOST 1048576: true; the input reads as it did. -/
def fnExactCallOkUptoRow : OpenClaim := { program := "ytihbmefidbmmdaa", sum := "9737add8bc70ed745794e81ab24701241208f4662166b1d9876c71b1f70d0cf0", func := "loop.example/g00797/laws.FnExactCallOk", spec := "fnExactCallOk", unfollowed := true, recurses := true, apart := false, narrowed := true }
def FnExactCallOkUptoSaid : Prop := fnExactCallOkUptoRow.holds Try.pinned (OpenSpec.upto fnExactCallOkSpec)

end Rows
end Go.Proofs.Ytihbmefidbmmdaa
