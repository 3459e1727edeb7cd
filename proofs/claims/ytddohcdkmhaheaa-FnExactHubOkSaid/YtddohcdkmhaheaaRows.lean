/-
  No cell of these rows narrows 'for every input' (looked for: loops, veiled, ifaces, maps, wideKeys, modest, calm, conditions, laid).
  DERIVED. THE GIVEN ROWS OF THIS SEAT. 3 by the template 'for every input the law returns true; each argument reads behind the call as it read before'; 0 by the template 'total and deterministic' (their statements: YtddohcdkmhaheaaTotals.lean).
  GIVEN WITH THE SEED: the statements are not yours to turn. If you find one false, say at which input.
  Laid BY PROGRAM, IN A SANDBOX (cutbox-rows.mjs): the forced cells as the released guide's own fill.sh prints them over the translation 2f295f491b38de6c… (all of the seat's roots in one cut). By AI agents, Wed Nov 11 2026. No macro, syntax, notation, axiom, sorry.
-/
import Derived.Test.YtddohcdkmhaheaaChecked
import GoSem.Claim
import GoSem.ClaimJoined
import GoSem.ClaimMapViews
import Derived.JoinedTies
import Derived.KernelRfl
namespace Go.Proofs.Ytddohcdkmhaheaa
/- THE CELL 'sum', in the pinned program and in every row, IS THE sha256 OF THE DUMP (.gsa) THAT YtddohcdkmhaheaaProg.lean LOADS. Nothing in Lean hashes anything: it is a label: what it is worth is what the hold of that sum in a sandbox is worth. -/
noncomputable def Try.pinned : Pinned := { name := "ytddohcdkmhaheaa", sum := "2f295f491b38de6c438da504b779cb2672e3022201cf82a2d84f0889480b229f", checked := Try.checked }
namespace Rows
def none {H : Type} : Left H := { results := [], args := [] }

/-- 'laws.FnExactRingPush': WHATEVER THE INPUT: true; the input reads as it did. -/
def fnExactRingPushSpec : ChangeSpec := { name := "fnExactRingPush", fn := fun _ => fun
  | [d1, d2] => { results := [.lit (.bool true)], args := [d1, d2] }
  | _ => none }
def fnExactRingPushRow : OpenClaim := { program := "ytddohcdkmhaheaa", sum := "2f295f491b38de6c438da504b779cb2672e3022201cf82a2d84f0889480b229f", func := "loop.example/g00797/laws.FnExactRingPush", spec := "fnExactRingPush", unfollowed := true, recurses := true, apart := false }
def FnExactRingPushSaid : Prop := fnExactRingPushRow.holds Try.pinned (OpenSpec.ofChange fnExactRingPushSpec)

/-- ITS FALSE NEIGHBOUR: 'it returns false'. Refute it at one input. -/
def fnExactRingPushWrong : ChangeSpec := { name := "fnExactRingPush", fn := fun _ => fun
  | [d1, d2] => { results := [.lit (.bool false)], args := [d1, d2] }
  | _ => none }
def FnExactRingPushWrongFalsely : Prop := fnExactRingPushRow.holds Try.pinned (OpenSpec.ofChange fnExactRingPushWrong)

/-- 'laws.FnRing': WHATEVER THE INPUT: true; the input reads as it did. -/
def fnRingSpec : ChangeSpec := { name := "fnRing", fn := fun _ => fun
  | [d] => { results := [.lit (.bool true)], args := [d] }
  | _ => none }
def fnRingRow : OpenClaim := { program := "ytddohcdkmhaheaa", sum := "2f295f491b38de6c438da504b779cb2672e3022201cf82a2d84f0889480b229f", func := "loop.example/g00797/laws.FnRing", spec := "fnRing", unfollowed := true, recurses := true, apart := false }
def FnRingSaid : Prop := fnRingRow.holds Try.pinned (OpenSpec.ofChange fnRingSpec)

/-- ITS FALSE NEIGHBOUR: 'it returns false'. Refute it at one input. -/
def fnRingWrong : ChangeSpec := { name := "fnRing", fn := fun _ => fun
  | [d] => { results := [.lit (.bool false)], args := [d] }
  | _ => none }
def FnRingWrongFalsely : Prop := fnRingRow.holds Try.pinned (OpenSpec.ofChange fnRingWrong)

/-- 'laws.FnExactHubOk': WHATEVER THE INPUT: true; the input reads as it did. -/
def fnExactHubOkSpec : ChangeSpec := { name := "fnExactHubOk", fn := fun _ => fun
  | [d] => { results := [.lit (.bool true)], args := [d] }
  | _ => none }
def fnExactHubOkRow : OpenClaim := { program := "ytddohcdkmhaheaa", sum := "2f295f491b38de6c438da504b779cb2672e3022201cf82a2d84f0889480b229f", func := "loop.example/g00797/laws.FnExactHubOk", spec := "fnExactHubOk", unfollowed := true, recurses := true, apart := false }
def FnExactHubOkSaid : Prop := fnExactHubOkRow.holds Try.pinned (OpenSpec.ofChange fnExactHubOkSpec)

/-- ITS FALSE NEIGHBOUR: 'it returns false'. Refute it at one input. -/
def fnExactHubOkWrong : ChangeSpec := { name := "fnExactHubOk", fn := fun _ => fun
  | [d] => { results := [.lit (.bool false)], args := [d] }
  | _ => none }
def FnExactHubOkWrongFalsely : Prop := fnExactHubOkRow.holds Try.pinned (OpenSpec.ofChange fnExactHubOkWrong)

/- THE SECOND FORM. 'bulk': how many values and letters a reading holds, each counted each time it is reached (what is shared counts as often as it is met; a slice's spare places count too). A statement '..UptoSaid' is the law's where the arguments, and the package variables that the reading takes, are together of bulk at most 1048576: NARROWER than '..Said'. Prove '..Said' where nothing that the law and all that it calls make is longer than what came in: it says more and counts as full. Else prove '..UptoSaid'. A law counts once. -/
mutual
def uptoBulk {H : Type} : DataW H → Nat
  | .lit (.string bytes) => bytes.length + 1
  | .lit _ => 1
  | .nil => 1
  | .ptr d => uptoBulk d + 1
  | .slice elems spare => uptoBulkAll elems + uptoBulkAll spare + 1
  | .agg parts => uptoBulkAll parts + 1
  | .iface _ d => uptoBulk d + 1
  | .map entries => uptoBulkEntries entries + 1
  | .held _ => 1
def uptoBulkAll {H : Type} : List (DataW H) → Nat
  | [] => 0
  | d :: r => uptoBulk d + uptoBulkAll r
def uptoBulkEntries {H : Type} : List (Lit × DataW H) → Nat
  | [] => 0
  | x :: r => uptoBulkEntry x + uptoBulkEntries r
def uptoBulkEntry {H : Type} : Lit × DataW H → Nat
  | (.string bytes, d) => bytes.length + uptoBulk d + 1
  | (_, d) => uptoBulk d + 1
 end
def uptoSmall : (H : Type) → List (DataW H) → Bool := fun _ ds => decide (uptoBulkAll ds ≤ 1048576)
def OpenSpec.upto (s : _root_.Go.ChangeSpec) : _root_.Go.OpenSpec := { _root_.Go.OpenSpec.ofChange s with cond := some uptoSmall }

/-- 'laws.FnExactRingPush', WHERE WHAT IT READS IS OF BULK AT MOST 1048576: true; the input reads as it did. -/
def fnExactRingPushUptoRow : OpenClaim := { program := "ytddohcdkmhaheaa", sum := "2f295f491b38de6c438da504b779cb2672e3022201cf82a2d84f0889480b229f", func := "loop.example/g00797/laws.FnExactRingPush", spec := "fnExactRingPush", unfollowed := true, recurses := true, apart := false, narrowed := true }
def FnExactRingPushUptoSaid : Prop := fnExactRingPushUptoRow.holds Try.pinned (OpenSpec.upto fnExactRingPushSpec)

/-- 'laws.FnRing', WHERE WHAT IT READS IS OF BULK AT MOST 1048576: true; the input reads as it did. -/
def fnRingUptoRow : OpenClaim := { program := "ytddohcdkmhaheaa", sum := "2f295f491b38de6c438da504b779cb2672e3022201cf82a2d84f0889480b229f", func := "loop.example/g00797/laws.FnRing", spec := "fnRing", unfollowed := true, recurses := true, apart := false, narrowed := true }
def FnRingUptoSaid : Prop := fnRingUptoRow.holds Try.pinned (OpenSpec.upto fnRingSpec)

/-- 'laws.FnExactHubOk', WHERE WHAT IT READS IS OF BULK AT MOST 1048576: true; the input reads as it did. -/
def fnExactHubOkUptoRow : OpenClaim := { program := "ytddohcdkmhaheaa", sum := "2f295f491b38de6c438da504b779cb2672e3022201cf82a2d84f0889480b229f", func := "loop.example/g00797/laws.FnExactHubOk", spec := "fnExactHubOk", unfollowed := true, recurses := true, apart := false, narrowed := true }
def FnExactHubOkUptoSaid : Prop := fnExactHubOkUptoRow.holds Try.pinned (OpenSpec.upto fnExactHubOkSpec)

end Rows
end Go.Proofs.Ytddohcdkmhaheaa
