/-
  No cell of these rows narrows 'for every input' (looked for: loops, veiled, ifaces, maps, wideKeys, modest, calm, conditions, laid).
  DERIVED. THE GIVEN ROWS OF THIS SEAT. 6 by the template 'for every input the law returns true; each argument reads behind the call as it read before'; 0 by the template 'total and deterministic' (their statements: YtgcgdneplgkcgaaTotals.lean).
  GIVEN WITH THE SEED: the statements are not yours to turn. If you find one false, say at which input.
  Laid BY PROGRAM, IN A SANDBOX (cutbox-rows.mjs): the forced cells as the released guide's own fill.sh prints them over the translation d6125e55c4838d41… (all of the seat's roots in one cut). By AI agents, Wed Nov 11 2026. No macro, syntax, notation, axiom, sorry.
-/
import Derived.Test.YtgcgdneplgkcgaaChecked
import GoSem.Claim
import GoSem.ClaimJoined
import GoSem.ClaimMapViews
import Derived.JoinedTies
import Derived.KernelRfl
namespace Go.Proofs.Ytgcgdneplgkcgaa
/- THE CELL 'sum', in the pinned program and in every row, IS THE sha256 OF THE DUMP (.gsa) THAT YtgcgdneplgkcgaaProg.lean LOADS. Nothing in Lean hashes anything: it is a label: what it is worth is what the hold of that sum in a sandbox is worth. -/
noncomputable def Try.pinned : Pinned := { name := "ytgcgdneplgkcgaa", sum := "d6125e55c4838d417f109d259f100e93f8488a6cd12c0dcd198dad085940d374", checked := Try.checked }
namespace Rows
def none {H : Type} : Left H := { results := [], args := [] }

/-- 'laws.FnExactOnDoc': WHATEVER THE INPUT: true; the input reads as it did. -/
def fnExactOnDocSpec : ChangeSpec := { name := "fnExactOnDoc", fn := fun _ => fun
  | [d] => { results := [.lit (.bool true)], args := [d] }
  | _ => none }
def fnExactOnDocRow : OpenClaim := { program := "ytgcgdneplgkcgaa", sum := "d6125e55c4838d417f109d259f100e93f8488a6cd12c0dcd198dad085940d374", func := "loop.example/g00797/laws.FnExactOnDoc", spec := "fnExactOnDoc", apart := false }
def FnExactOnDocSaid : Prop := fnExactOnDocRow.holds Try.pinned (OpenSpec.ofChange fnExactOnDocSpec)

/-- ITS FALSE NEIGHBOUR: 'it returns false'. Refute it at one input. -/
def fnExactOnDocWrong : ChangeSpec := { name := "fnExactOnDoc", fn := fun _ => fun
  | [d] => { results := [.lit (.bool false)], args := [d] }
  | _ => none }
def FnExactOnDocWrongFalsely : Prop := fnExactOnDocRow.holds Try.pinned (OpenSpec.ofChange fnExactOnDocWrong)

/-- 'laws.FnExactOtName': WHATEVER THE INPUT: true; the input reads as it did. -/
def fnExactOtNameSpec : ChangeSpec := { name := "fnExactOtName", fn := fun _ => fun
  | [d] => { results := [.lit (.bool true)], args := [d] }
  | _ => none }
def fnExactOtNameRow : OpenClaim := { program := "ytgcgdneplgkcgaa", sum := "d6125e55c4838d417f109d259f100e93f8488a6cd12c0dcd198dad085940d374", func := "loop.example/g00797/laws.FnExactOtName", spec := "fnExactOtName", apart := false }
def FnExactOtNameSaid : Prop := fnExactOtNameRow.holds Try.pinned (OpenSpec.ofChange fnExactOtNameSpec)

/-- ITS FALSE NEIGHBOUR: 'it returns false'. Refute it at one input. -/
def fnExactOtNameWrong : ChangeSpec := { name := "fnExactOtName", fn := fun _ => fun
  | [d] => { results := [.lit (.bool false)], args := [d] }
  | _ => none }
def FnExactOtNameWrongFalsely : Prop := fnExactOtNameRow.holds Try.pinned (OpenSpec.ofChange fnExactOtNameWrong)

/-- 'laws.FnExactPcName': WHATEVER THE INPUT: true; the input reads as it did. -/
def fnExactPcNameSpec : ChangeSpec := { name := "fnExactPcName", fn := fun _ => fun
  | [d] => { results := [.lit (.bool true)], args := [d] }
  | _ => none }
def fnExactPcNameRow : OpenClaim := { program := "ytgcgdneplgkcgaa", sum := "d6125e55c4838d417f109d259f100e93f8488a6cd12c0dcd198dad085940d374", func := "loop.example/g00797/laws.FnExactPcName", spec := "fnExactPcName", apart := false }
def FnExactPcNameSaid : Prop := fnExactPcNameRow.holds Try.pinned (OpenSpec.ofChange fnExactPcNameSpec)

/-- ITS FALSE NEIGHBOUR: 'it returns false'. Refute it at one input. -/
def fnExactPcNameWrong : ChangeSpec := { name := "fnExactPcName", fn := fun _ => fun
  | [d] => { results := [.lit (.bool false)], args := [d] }
  | _ => none }
def FnExactPcNameWrongFalsely : Prop := fnExactPcNameRow.holds Try.pinned (OpenSpec.ofChange fnExactPcNameWrong)

/-- 'laws.FnExactClName': WHATEVER THE INPUT: true; the input reads as it did. -/
def fnExactClNameSpec : ChangeSpec := { name := "fnExactClName", fn := fun _ => fun
  | [d] => { results := [.lit (.bool true)], args := [d] }
  | _ => none }
def fnExactClNameRow : OpenClaim := { program := "ytgcgdneplgkcgaa", sum := "d6125e55c4838d417f109d259f100e93f8488a6cd12c0dcd198dad085940d374", func := "loop.example/g00797/laws.FnExactClName", spec := "fnExactClName", apart := false }
def FnExactClNameSaid : Prop := fnExactClNameRow.holds Try.pinned (OpenSpec.ofChange fnExactClNameSpec)

/-- ITS FALSE NEIGHBOUR: 'it returns false'. Refute it at one input. -/
def fnExactClNameWrong : ChangeSpec := { name := "fnExactClName", fn := fun _ => fun
  | [d] => { results := [.lit (.bool false)], args := [d] }
  | _ => none }
def FnExactClNameWrongFalsely : Prop := fnExactClNameRow.holds Try.pinned (OpenSpec.ofChange fnExactClNameWrong)

/-- 'laws.FnExactStripeOf': WHATEVER THE INPUT: true; the input reads as it did. -/
def fnExactStripeOfSpec : ChangeSpec := { name := "fnExactStripeOf", fn := fun _ => fun
  | [d1, d2] => { results := [.lit (.bool true)], args := [d1, d2] }
  | _ => none }
def fnExactStripeOfRow : OpenClaim := { program := "ytgcgdneplgkcgaa", sum := "d6125e55c4838d417f109d259f100e93f8488a6cd12c0dcd198dad085940d374", func := "loop.example/g00797/laws.FnExactStripeOf", spec := "fnExactStripeOf", apart := false }
def FnExactStripeOfSaid : Prop := fnExactStripeOfRow.holds Try.pinned (OpenSpec.ofChange fnExactStripeOfSpec)

/-- ITS FALSE NEIGHBOUR: 'it returns false'. Refute it at one input. -/
def fnExactStripeOfWrong : ChangeSpec := { name := "fnExactStripeOf", fn := fun _ => fun
  | [d1, d2] => { results := [.lit (.bool false)], args := [d1, d2] }
  | _ => none }
def FnExactStripeOfWrongFalsely : Prop := fnExactStripeOfRow.holds Try.pinned (OpenSpec.ofChange fnExactStripeOfWrong)

/-- 'laws.FnExactShare': WHATEVER THE INPUT: true; the input reads as it did. -/
def fnExactShareSpec : ChangeSpec := { name := "fnExactShare", fn := fun _ => fun
  | [d1, d2] => { results := [.lit (.bool true)], args := [d1, d2] }
  | _ => none }
def fnExactShareRow : OpenClaim := { program := "ytgcgdneplgkcgaa", sum := "d6125e55c4838d417f109d259f100e93f8488a6cd12c0dcd198dad085940d374", func := "loop.example/g00797/laws.FnExactShare", spec := "fnExactShare", apart := false }
def FnExactShareSaid : Prop := fnExactShareRow.holds Try.pinned (OpenSpec.ofChange fnExactShareSpec)

/-- ITS FALSE NEIGHBOUR: 'it returns false'. Refute it at one input. -/
def fnExactShareWrong : ChangeSpec := { name := "fnExactShare", fn := fun _ => fun
  | [d1, d2] => { results := [.lit (.bool false)], args := [d1, d2] }
  | _ => none }
def FnExactShareWrongFalsely : Prop := fnExactShareRow.holds Try.pinned (OpenSpec.ofChange fnExactShareWrong)

/- THE SECOND FORM. 'bulk': how many values and letters a reading holds, each counted each time it is reached (what is shared counts as often as it is met; a slice's spare places count too). A statement '..UptoSaid' is the law's where the arguments, and the package variables that the reading takes, are together of bulk at most 1048576: NARROWER than '..Said'. Prove '..Said' where nothing that the law and all that it calls make is longer than what came in: it says more and counts as full. Else prove '..UptoSaid'. A law counts once. -/
mutual
def uptoBulk {H : Type} : DataW H → Nat
  | .lit (.string bytes) => bytes.length + 1
  | .lit _ => 1
  | .nil => 1
  | .ptr d => uptoBulk d + 1
  | .slice elems spare => uptoBulkAll elems + uptoBulkAll spare + 1
  | .agg parts => uptoBulkAll parts + 1
  | .iface _ d => uptoBulk d + 1
  | .map entries => uptoBulkEntries entries + 1
  | .held _ => 1
def uptoBulkAll {H : Type} : List (DataW H) → Nat
  | [] => 0
  | d :: r => uptoBulk d + uptoBulkAll r
def uptoBulkEntries {H : Type} : List (Lit × DataW H) → Nat
  | [] => 0
  | x :: r => uptoBulkEntry x + uptoBulkEntries r
def uptoBulkEntry {H : Type} : Lit × DataW H → Nat
  | (.string bytes, d) => bytes.length + uptoBulk d + 1
  | (_, d) => uptoBulk d + 1
 end
def uptoSmall : (H : Type) → List (DataW H) → Bool := fun _ ds => decide (uptoBulkAll ds ≤ 1048576)
def OpenSpec.upto (s : _root_.Go.ChangeSpec) : _root_.Go.OpenSpec := { _root_.Go.OpenSpec.ofChange s with cond := some uptoSmall }

/-- 'laws.FnExactOnDoc', WHERE WHAT IT READS IS OF BULK AT MOST 1048576: true; the input reads as it did. -/
def fnExactOnDocUptoRow : OpenClaim := { program := "ytgcgdneplgkcgaa", sum := "d6125e55c4838d417f109d259f100e93f8488a6cd12c0dcd198dad085940d374", func := "loop.example/g00797/laws.FnExactOnDoc", spec := "fnExactOnDoc", apart := false, narrowed := true }
def FnExactOnDocUptoSaid : Prop := fnExactOnDocUptoRow.holds Try.pinned (OpenSpec.upto fnExactOnDocSpec)

/-- 'laws.FnExactOtName', WHERE WHAT IT READS IS OF BULK AT MOST 1048576: true; the input reads as it did. -/
def fnExactOtNameUptoRow : OpenClaim := { program := "ytgcgdneplgkcgaa", sum := "d6125e55c4838d417f109d259f100e93f8488a6cd12c0dcd198dad085940d374", func := "loop.example/g00797/laws.FnExactOtName", spec := "fnExactOtName", apart := false, narrowed := true }
def FnExactOtNameUptoSaid : Prop := fnExactOtNameUptoRow.holds Try.pinned (OpenSpec.upto fnExactOtNameSpec)

/-- 'laws.FnExactPcName', WHERE WHAT IT READS IS OF BULK AT MOST 1048576: true; the input reads as it did. -/
def fnExactPcNameUptoRow : OpenClaim := { program := "ytgcgdneplgkcgaa", sum := "d6125e55c4838d417f109d259f100e93f8488a6cd12c0dcd198dad085940d374", func := "loop.example/g00797/laws.FnExactPcName", spec := "fnExactPcName", apart := false, narrowed := true }
def FnExactPcNameUptoSaid : Prop := fnExactPcNameUptoRow.holds Try.pinned (OpenSpec.upto fnExactPcNameSpec)

/-- 'laws.FnExactClName', WHERE WHAT IT READS IS OF BULK AT MOST 1048576: true; the input reads as it did. -/
def fnExactClNameUptoRow : OpenClaim := { program := "ytgcgdneplgkcgaa", sum := "d6125e55c4838d417f109d259f100e93f8488a6cd12c0dcd198dad085940d374", func := "loop.example/g00797/laws.FnExactClName", spec := "fnExactClName", apart := false, narrowed := true }
def FnExactClNameUptoSaid : Prop := fnExactClNameUptoRow.holds Try.pinned (OpenSpec.upto fnExactClNameSpec)

/-- 'laws.FnExactStripeOf', WHERE WHAT IT READS IS OF BULK AT MOST 1048576: true; the input reads as it did. -/
def fnExactStripeOfUptoRow : OpenClaim := { program := "ytgcgdneplgkcgaa", sum := "d6125e55c4838d417f109d259f100e93f8488a6cd12c0dcd198dad085940d374", func := "loop.example/g00797/laws.FnExactStripeOf", spec := "fnExactStripeOf", apart := false, narrowed := true }
def FnExactStripeOfUptoSaid : Prop := fnExactStripeOfUptoRow.holds Try.pinned (OpenSpec.upto fnExactStripeOfSpec)

/-- 'laws.FnExactShare', WHERE WHAT IT READS IS OF BULK AT MOST 1048576: true; the input reads as it did. -/
def fnExactShareUptoRow : OpenClaim := { program := "ytgcgdneplgkcgaa", sum := "d6125e55c4838d417f109d259f100e93f8488a6cd12c0dcd198dad085940d374", func := "loop.example/g00797/laws.FnExactShare", spec := "fnExactShare", apart := false, narrowed := true }
def FnExactShareUptoSaid : Prop := fnExactShareUptoRow.holds Try.pinned (OpenSpec.upto fnExactShareSpec)

end Rows
end Go.Proofs.Ytgcgdneplgkcgaa
