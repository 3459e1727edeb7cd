/-
  No cell of these rows narrows 'for every input' (looked for: loops, veiled, ifaces, maps, wideKeys, modest, calm, conditions, laid).
  DERIVED. THE GIVEN ROWS OF THIS SEAT. 12 by the template 'for every input the law returns true; each argument reads behind the call as it read before'; 0 by the template 'total and deterministic' (their statements: YtdbfgolabnomgaaTotals.lean).
  GIVEN WITH THE SEED: the statements are not yours to turn. If you find one false, say at which input.
  Laid BY PROGRAM, IN A SANDBOX (cutbox-rows.mjs): the forced cells as the released guide's own fill.sh prints them over the translation e943cc1d2a74a72a… (all of the seat's roots in one cut). By AI agents, Wed Nov 11 2026. No macro, syntax, notation, axiom, sorry.
-/
import Derived.Test.YtdbfgolabnomgaaChecked
import GoSem.Claim
import GoSem.ClaimJoined
import GoSem.ClaimMapViews
import Derived.JoinedTies
import Derived.KernelRfl
namespace Go.Proofs.Ytdbfgolabnomgaa
/- THE CELL 'sum', in the pinned program and in every row, IS THE sha256 OF THE DUMP (.gsa) THAT YtdbfgolabnomgaaProg.lean LOADS. Nothing in Lean hashes anything: it is a label: what it is worth is what the hold of that sum in a sandbox is worth. -/
noncomputable def Try.pinned : Pinned := { name := "ytdbfgolabnomgaa", sum := "e943cc1d2a74a72add71675681428397725067cc813d6405aaa2c6d5dcc67a6b", checked := Try.checked }
namespace Rows
def none {H : Type} : Left H := { results := [], args := [] }

/-- 'laws.FnExactRuns': WHATEVER THE INPUT: true; the input reads as it did. -/
def fnExactRunsSpec : ChangeSpec := { name := "fnExactRuns", fn := fun _ => fun
  | [d] => { results := [.lit (.bool true)], args := [d] }
  | _ => none }
def fnExactRunsRow : OpenClaim := { program := "ytdbfgolabnomgaa", sum := "e943cc1d2a74a72add71675681428397725067cc813d6405aaa2c6d5dcc67a6b", func := "loop.example/g00797/laws.FnExactRuns", spec := "fnExactRuns", apart := false }
def FnExactRunsSaid : Prop := fnExactRunsRow.holds Try.pinned (OpenSpec.ofChange fnExactRunsSpec)

/-- ITS FALSE NEIGHBOUR: 'it returns false'. Refute it at one input. -/
def fnExactRunsWrong : ChangeSpec := { name := "fnExactRuns", fn := fun _ => fun
  | [d] => { results := [.lit (.bool false)], args := [d] }
  | _ => none }
def FnExactRunsWrongFalsely : Prop := fnExactRunsRow.holds Try.pinned (OpenSpec.ofChange fnExactRunsWrong)

/-- 'laws.FnExactRingLag': WHATEVER THE INPUT: true; the input reads as it did. -/
def fnExactRingLagSpec : ChangeSpec := { name := "fnExactRingLag", fn := fun _ => fun
  | [d] => { results := [.lit (.bool true)], args := [d] }
  | _ => none }
def fnExactRingLagRow : OpenClaim := { program := "ytdbfgolabnomgaa", sum := "e943cc1d2a74a72add71675681428397725067cc813d6405aaa2c6d5dcc67a6b", func := "loop.example/g00797/laws.FnExactRingLag", spec := "fnExactRingLag", apart := false }
def FnExactRingLagSaid : Prop := fnExactRingLagRow.holds Try.pinned (OpenSpec.ofChange fnExactRingLagSpec)

/-- ITS FALSE NEIGHBOUR: 'it returns false'. Refute it at one input. -/
def fnExactRingLagWrong : ChangeSpec := { name := "fnExactRingLag", fn := fun _ => fun
  | [d] => { results := [.lit (.bool false)], args := [d] }
  | _ => none }
def FnExactRingLagWrongFalsely : Prop := fnExactRingLagRow.holds Try.pinned (OpenSpec.ofChange fnExactRingLagWrong)

/-- 'laws.FnExactCallSame': WHATEVER THE INPUT: true; the input reads as it did. -/
def fnExactCallSameSpec : ChangeSpec := { name := "fnExactCallSame", fn := fun _ => fun
  | [d1, d2] => { results := [.lit (.bool true)], args := [d1, d2] }
  | _ => none }
def fnExactCallSameRow : OpenClaim := { program := "ytdbfgolabnomgaa", sum := "e943cc1d2a74a72add71675681428397725067cc813d6405aaa2c6d5dcc67a6b", func := "loop.example/g00797/laws.FnExactCallSame", spec := "fnExactCallSame", unfollowed := true, recurses := true, apart := false }
def FnExactCallSameSaid : Prop := fnExactCallSameRow.holds Try.pinned (OpenSpec.ofChange fnExactCallSameSpec)

/-- ITS FALSE NEIGHBOUR: 'it returns false'. Refute it at one input. -/
def fnExactCallSameWrong : ChangeSpec := { name := "fnExactCallSame", fn := fun _ => fun
  | [d1, d2] => { results := [.lit (.bool false)], args := [d1, d2] }
  | _ => none }
def FnExactCallSameWrongFalsely : Prop := fnExactCallSameRow.holds Try.pinned (OpenSpec.ofChange fnExactCallSameWrong)

/-- 'laws.FnExactRingSame': WHATEVER THE INPUT: true; the input reads as it did. -/
def fnExactRingSameSpec : ChangeSpec := { name := "fnExactRingSame", fn := fun _ => fun
  | [d1, d2] => { results := [.lit (.bool true)], args := [d1, d2] }
  | _ => none }
def fnExactRingSameRow : OpenClaim := { program := "ytdbfgolabnomgaa", sum := "e943cc1d2a74a72add71675681428397725067cc813d6405aaa2c6d5dcc67a6b", func := "loop.example/g00797/laws.FnExactRingSame", spec := "fnExactRingSame", unfollowed := true, recurses := true, apart := false }
def FnExactRingSameSaid : Prop := fnExactRingSameRow.holds Try.pinned (OpenSpec.ofChange fnExactRingSameSpec)

/-- ITS FALSE NEIGHBOUR: 'it returns false'. Refute it at one input. -/
def fnExactRingSameWrong : ChangeSpec := { name := "fnExactRingSame", fn := fun _ => fun
  | [d1, d2] => { results := [.lit (.bool false)], args := [d1, d2] }
  | _ => none }
def FnExactRingSameWrongFalsely : Prop := fnExactRingSameRow.holds Try.pinned (OpenSpec.ofChange fnExactRingSameWrong)

/-- 'laws.FnExactAnswerSame': WHATEVER THE INPUT: true; the input reads as it did. -/
def fnExactAnswerSameSpec : ChangeSpec := { name := "fnExactAnswerSame", fn := fun _ => fun
  | [d1, d2] => { results := [.lit (.bool true)], args := [d1, d2] }
  | _ => none }
def fnExactAnswerSameRow : OpenClaim := { program := "ytdbfgolabnomgaa", sum := "e943cc1d2a74a72add71675681428397725067cc813d6405aaa2c6d5dcc67a6b", func := "loop.example/g00797/laws.FnExactAnswerSame", spec := "fnExactAnswerSame", unfollowed := true, recurses := true, apart := false }
def FnExactAnswerSameSaid : Prop := fnExactAnswerSameRow.holds Try.pinned (OpenSpec.ofChange fnExactAnswerSameSpec)

/-- ITS FALSE NEIGHBOUR: 'it returns false'. Refute it at one input. -/
def fnExactAnswerSameWrong : ChangeSpec := { name := "fnExactAnswerSame", fn := fun _ => fun
  | [d1, d2] => { results := [.lit (.bool false)], args := [d1, d2] }
  | _ => none }
def FnExactAnswerSameWrongFalsely : Prop := fnExactAnswerSameRow.holds Try.pinned (OpenSpec.ofChange fnExactAnswerSameWrong)

/-- 'laws.FnExactSeenOf': WHATEVER THE INPUT: true; the input reads as it did. -/
def fnExactSeenOfSpec : ChangeSpec := { name := "fnExactSeenOf", fn := fun _ => fun
  | [d1, d2] => { results := [.lit (.bool true)], args := [d1, d2] }
  | _ => none }
def fnExactSeenOfRow : OpenClaim := { program := "ytdbfgolabnomgaa", sum := "e943cc1d2a74a72add71675681428397725067cc813d6405aaa2c6d5dcc67a6b", func := "loop.example/g00797/laws.FnExactSeenOf", spec := "fnExactSeenOf", apart := false }
def FnExactSeenOfSaid : Prop := fnExactSeenOfRow.holds Try.pinned (OpenSpec.ofChange fnExactSeenOfSpec)

/-- ITS FALSE NEIGHBOUR: 'it returns false'. Refute it at one input. -/
def fnExactSeenOfWrong : ChangeSpec := { name := "fnExactSeenOf", fn := fun _ => fun
  | [d1, d2] => { results := [.lit (.bool false)], args := [d1, d2] }
  | _ => none }
def FnExactSeenOfWrongFalsely : Prop := fnExactSeenOfRow.holds Try.pinned (OpenSpec.ofChange fnExactSeenOfWrong)

/-- 'laws.FnExactWriters': WHATEVER THE INPUT: true; the input reads as it did. -/
def fnExactWritersSpec : ChangeSpec := { name := "fnExactWriters", fn := fun _ => fun
  | [d1, d2, d3] => { results := [.lit (.bool true)], args := [d1, d2, d3] }
  | _ => none }
def fnExactWritersRow : OpenClaim := { program := "ytdbfgolabnomgaa", sum := "e943cc1d2a74a72add71675681428397725067cc813d6405aaa2c6d5dcc67a6b", func := "loop.example/g00797/laws.FnExactWriters", spec := "fnExactWriters", apart := false }
def FnExactWritersSaid : Prop := fnExactWritersRow.holds Try.pinned (OpenSpec.ofChange fnExactWritersSpec)

/-- ITS FALSE NEIGHBOUR: 'it returns false'. Refute it at one input. -/
def fnExactWritersWrong : ChangeSpec := { name := "fnExactWriters", fn := fun _ => fun
  | [d1, d2, d3] => { results := [.lit (.bool false)], args := [d1, d2, d3] }
  | _ => none }
def FnExactWritersWrongFalsely : Prop := fnExactWritersRow.holds Try.pinned (OpenSpec.ofChange fnExactWritersWrong)

/-- 'laws.FnExactCallOk': WHATEVER THE INPUT: true; the input reads as it did. -/
def fnExactCallOkSpec : ChangeSpec := { name := "fnExactCallOk", fn := fun _ => fun
  | [d] => { results := [.lit (.bool true)], args := [d] }
  | _ => none }
def fnExactCallOkRow : OpenClaim := { program := "ytdbfgolabnomgaa", sum := "e943cc1d2a74a72add71675681428397725067cc813d6405aaa2c6d5dcc67a6b", func := "loop.example/g00797/laws.FnExactCallOk", spec := "fnExactCallOk", unfollowed := true, recurses := true, apart := false }
def FnExactCallOkSaid : Prop := fnExactCallOkRow.holds Try.pinned (OpenSpec.ofChange fnExactCallOkSpec)

/-- ITS FALSE NEIGHBOUR: 'it returns false'. Refute it at one input. -/
def fnExactCallOkWrong : ChangeSpec := { name := "fnExactCallOk", fn := fun _ => fun
  | [d] => { results := [.lit (.bool false)], args := [d] }
  | _ => none }
def FnExactCallOkWrongFalsely : Prop := fnExactCallOkRow.holds Try.pinned (OpenSpec.ofChange fnExactCallOkWrong)

/-- 'laws.FnExactDocSame': WHATEVER THE INPUT: true; the input reads as it did. -/
def fnExactDocSameSpec : ChangeSpec := { name := "fnExactDocSame", fn := fun _ => fun
  | [d1, d2] => { results := [.lit (.bool true)], args := [d1, d2] }
  | _ => none }
def fnExactDocSameRow : OpenClaim := { program := "ytdbfgolabnomgaa", sum := "e943cc1d2a74a72add71675681428397725067cc813d6405aaa2c6d5dcc67a6b", func := "loop.example/g00797/laws.FnExactDocSame", spec := "fnExactDocSame", unfollowed := true, recurses := true, apart := false }
def FnExactDocSameSaid : Prop := fnExactDocSameRow.holds Try.pinned (OpenSpec.ofChange fnExactDocSameSpec)

/-- ITS FALSE NEIGHBOUR: 'it returns false'. Refute it at one input. -/
def fnExactDocSameWrong : ChangeSpec := { name := "fnExactDocSame", fn := fun _ => fun
  | [d1, d2] => { results := [.lit (.bool false)], args := [d1, d2] }
  | _ => none }
def FnExactDocSameWrongFalsely : Prop := fnExactDocSameRow.holds Try.pinned (OpenSpec.ofChange fnExactDocSameWrong)

/-- 'laws.FnExactHubDoc': WHATEVER THE INPUT: true; the input reads as it did. -/
def fnExactHubDocSpec : ChangeSpec := { name := "fnExactHubDoc", fn := fun _ => fun
  | [d1, d2] => { results := [.lit (.bool true)], args := [d1, d2] }
  | _ => none }
def fnExactHubDocRow : OpenClaim := { program := "ytdbfgolabnomgaa", sum := "e943cc1d2a74a72add71675681428397725067cc813d6405aaa2c6d5dcc67a6b", func := "loop.example/g00797/laws.FnExactHubDoc", spec := "fnExactHubDoc", unfollowed := true, recurses := true, apart := false }
def FnExactHubDocSaid : Prop := fnExactHubDocRow.holds Try.pinned (OpenSpec.ofChange fnExactHubDocSpec)

/-- ITS FALSE NEIGHBOUR: 'it returns false'. Refute it at one input. -/
def fnExactHubDocWrong : ChangeSpec := { name := "fnExactHubDoc", fn := fun _ => fun
  | [d1, d2] => { results := [.lit (.bool false)], args := [d1, d2] }
  | _ => none }
def FnExactHubDocWrongFalsely : Prop := fnExactHubDocRow.holds Try.pinned (OpenSpec.ofChange fnExactHubDocWrong)

/-- 'laws.FnExactHubSub': WHATEVER THE INPUT: true; the input reads as it did. -/
def fnExactHubSubSpec : ChangeSpec := { name := "fnExactHubSub", fn := fun _ => fun
  | [d1, d2] => { results := [.lit (.bool true)], args := [d1, d2] }
  | _ => none }
def fnExactHubSubRow : OpenClaim := { program := "ytdbfgolabnomgaa", sum := "e943cc1d2a74a72add71675681428397725067cc813d6405aaa2c6d5dcc67a6b", func := "loop.example/g00797/laws.FnExactHubSub", spec := "fnExactHubSub", unfollowed := true, recurses := true, apart := false }
def FnExactHubSubSaid : Prop := fnExactHubSubRow.holds Try.pinned (OpenSpec.ofChange fnExactHubSubSpec)

/-- ITS FALSE NEIGHBOUR: 'it returns false'. Refute it at one input. -/
def fnExactHubSubWrong : ChangeSpec := { name := "fnExactHubSub", fn := fun _ => fun
  | [d1, d2] => { results := [.lit (.bool false)], args := [d1, d2] }
  | _ => none }
def FnExactHubSubWrongFalsely : Prop := fnExactHubSubRow.holds Try.pinned (OpenSpec.ofChange fnExactHubSubWrong)

/-- 'laws.FnExactHubSame': WHATEVER THE INPUT: true; the input reads as it did. -/
def fnExactHubSameSpec : ChangeSpec := { name := "fnExactHubSame", fn := fun _ => fun
  | [d1, d2] => { results := [.lit (.bool true)], args := [d1, d2] }
  | _ => none }
def fnExactHubSameRow : OpenClaim := { program := "ytdbfgolabnomgaa", sum := "e943cc1d2a74a72add71675681428397725067cc813d6405aaa2c6d5dcc67a6b", func := "loop.example/g00797/laws.FnExactHubSame", spec := "fnExactHubSame", unfollowed := true, recurses := true, apart := false }
def FnExactHubSameSaid : Prop := fnExactHubSameRow.holds Try.pinned (OpenSpec.ofChange fnExactHubSameSpec)

/-- ITS FALSE NEIGHBOUR: 'it returns false'. Refute it at one input. -/
def fnExactHubSameWrong : ChangeSpec := { name := "fnExactHubSame", fn := fun _ => fun
  | [d1, d2] => { results := [.lit (.bool false)], args := [d1, d2] }
  | _ => none }
def FnExactHubSameWrongFalsely : Prop := fnExactHubSameRow.holds Try.pinned (OpenSpec.ofChange fnExactHubSameWrong)

/- THE SECOND FORM. 'bulk': how many values and letters a reading holds, each counted each time it is reached (what is shared counts as often as it is met; a slice's spare places count too). A statement '..UptoSaid' is the law's where the arguments, and the package variables that the reading takes, are together of bulk at most 1048576: NARROWER than '..Said'. Prove '..Said' where nothing that the law and all that it calls make is longer than what came in: it says more and counts as full. Else prove '..UptoSaid'. A law counts once. -/
mutual
def uptoBulk {H : Type} : DataW H → Nat
  | .lit (.string bytes) => bytes.length + 1
  | .lit _ => 1
  | .nil => 1
  | .ptr d => uptoBulk d + 1
  | .slice elems spare => uptoBulkAll elems + uptoBulkAll spare + 1
  | .agg parts => uptoBulkAll parts + 1
  | .iface _ d => uptoBulk d + 1
  | .map entries => uptoBulkEntries entries + 1
  | .held _ => 1
def uptoBulkAll {H : Type} : List (DataW H) → Nat
  | [] => 0
  | d :: r => uptoBulk d + uptoBulkAll r
def uptoBulkEntries {H : Type} : List (Lit × DataW H) → Nat
  | [] => 0
  | x :: r => uptoBulkEntry x + uptoBulkEntries r
def uptoBulkEntry {H : Type} : Lit × DataW H → Nat
  | (.string bytes, d) => bytes.length + uptoBulk d + 1
  | (_, d) => uptoBulk d + 1
 end
def uptoSmall : (H : Type) → List (DataW H) → Bool := fun _ ds => decide (uptoBulkAll ds ≤ 1048576)
def OpenSpec.upto (s : _root_.Go.ChangeSpec) : _root_.Go.OpenSpec := { _root_.Go.OpenSpec.ofChange s with cond := some uptoSmall }

/-- 'laws.FnExactRuns', WHERE WHAT IT READS IS OF BULK AT MOST 1048576: true; the input reads as it did. -/
def fnExactRunsUptoRow : OpenClaim := { program := "ytdbfgolabnomgaa", sum := "e943cc1d2a74a72add71675681428397725067cc813d6405aaa2c6d5dcc67a6b", func := "loop.example/g00797/laws.FnExactRuns", spec := "fnExactRuns", apart := false, narrowed := true }
def FnExactRunsUptoSaid : Prop := fnExactRunsUptoRow.holds Try.pinned (OpenSpec.upto fnExactRunsSpec)

/-- 'laws.FnExactRingLag', WHERE WHAT IT READS IS OF BULK AT MOST 1048576: true; the input reads as it did. -/
def fnExactRingLagUptoRow : OpenClaim := { program := "ytdbfgolabnomgaa", sum := "e943cc1d2a74a72add71675681428397725067cc813d6405aaa2c6d5dcc67a6b", func := "loop.example/g00797/laws.FnExactRingLag", spec := "fnExactRingLag", apart := false, narrowed := true }
def FnExactRingLagUptoSaid : Prop := fnExactRingLagUptoRow.holds Try.pinned (OpenSpec.upto fnExactRingLagSpec)

/-- 'laws.FnExactCallSame', WHERE WHAT IT READS IS OF BULK AT MOST 1048576: true; the input reads as it did. -/
def fnExactCallSameUptoRow : OpenClaim := { program := "ytdbfgolabnomgaa", sum := "e943cc1d2a74a72add71675681428397725067cc813d6405aaa2c6d5dcc67a6b", func := "loop.example/g00797/laws.FnExactCallSame", spec := "fnExactCallSame", unfollowed := true, recurses := true, apart := false, narrowed := true }
def FnExactCallSameUptoSaid : Prop := fnExactCallSameUptoRow.holds Try.pinned (OpenSpec.upto fnExactCallSameSpec)

/-- 'laws.FnExactRingSame', WHERE WHAT IT READS IS OF BULK AT MOST 1048576: true; the input reads as it did. -/
def fnExactRingSameUptoRow : OpenClaim := { program := "ytdbfgolabnomgaa", sum := "e943cc1d2a74a72add71675681428397725067cc813d6405aaa2c6d5dcc67a6b", func := "loop.example/g00797/laws.FnExactRingSame", spec := "fnExactRingSame", unfollowed := true, recurses := true, apart := false, narrowed := true }
def FnExactRingSameUptoSaid : Prop := fnExactRingSameUptoRow.holds Try.pinned (OpenSpec.upto fnExactRingSameSpec)

/-- 'laws.FnExactAnswerSame', WHERE WHAT IT READS IS OF BULK AT MOST 1048576: true; the input reads as it did. -/
def fnExactAnswerSameUptoRow : OpenClaim := { program := "ytdbfgolabnomgaa", sum := "e943cc1d2a74a72add71675681428397725067cc813d6405aaa2c6d5dcc67a6b", func := "loop.example/g00797/laws.FnExactAnswerSame", spec := "fnExactAnswerSame", unfollowed := true, recurses := true, apart := false, narrowed := true }
def FnExactAnswerSameUptoSaid : Prop := fnExactAnswerSameUptoRow.holds Try.pinned (OpenSpec.upto fnExactAnswerSameSpec)

/-- 'laws.FnExactSeenOf', WHERE WHAT IT READS IS OF BULK AT MOST 1048576: true; the input reads as it did. -/
def fnExactSeenOfUptoRow : OpenClaim := { program := "ytdbfgolabnomgaa", sum := "e943cc1d2a74a72add71675681428397725067cc813d6405aaa2c6d5dcc67a6b", func := "loop.example/g00797/laws.FnExactSeenOf", spec := "fnExactSeenOf", apart := false, narrowed := true }
def FnExactSeenOfUptoSaid : Prop := fnExactSeenOfUptoRow.holds Try.pinned (OpenSpec.upto fnExactSeenOfSpec)

/-- 'laws.FnExactWriters', WHERE WHAT IT READS IS OF BULK AT MOST 1048576: true; the input reads as it did. -/
def fnExactWritersUptoRow : OpenClaim := { program := "ytdbfgolabnomgaa", sum := "e943cc1d2a74a72add71675681428397725067cc813d6405aaa2c6d5dcc67a6b", func := "loop.example/g00797/laws.FnExactWriters", spec := "fnExactWriters", apart := false, narrowed := true }
def FnExactWritersUptoSaid : Prop := fnExactWritersUptoRow.holds Try.pinned (OpenSpec.upto fnExactWritersSpec)

/-- 'laws.FnExactCallOk', WHERE WHAT IT READS IS OF BULK AT MOST 1048576: true; the input reads as it did. -/
def fnExactCallOkUptoRow : OpenClaim := { program := "ytdbfgolabnomgaa", sum := "e943cc1d2a74a72add71675681428397725067cc813d6405aaa2c6d5dcc67a6b", func := "loop.example/g00797/laws.FnExactCallOk", spec := "fnExactCallOk", unfollowed := true, recurses := true, apart := false, narrowed := true }
def FnExactCallOkUptoSaid : Prop := fnExactCallOkUptoRow.holds Try.pinned (OpenSpec.upto fnExactCallOkSpec)

/-- 'laws.FnExactDocSame', WHERE WHAT IT READS IS OF BULK AT MOST 1048576: true; the input reads as it did. -/
def fnExactDocSameUptoRow : OpenClaim := { program := "ytdbfgolabnomgaa", sum := "e943cc1d2a74a72add71675681428397725067cc813d6405aaa2c6d5dcc67a6b", func := "loop.example/g00797/laws.FnExactDocSame", spec := "fnExactDocSame", unfollowed := true, recurses := true, apart := false, narrowed := true }
def FnExactDocSameUptoSaid : Prop := fnExactDocSameUptoRow.holds Try.pinned (OpenSpec.upto fnExactDocSameSpec)

/-- 'laws.FnExactHubDoc', WHERE WHAT IT READS IS OF BULK AT MOST 1048576: true; the input reads as it did. -/
def fnExactHubDocUptoRow : OpenClaim := { program := "ytdbfgolabnomgaa", sum := "e943cc1d2a74a72add71675681428397725067cc813d6405aaa2c6d5dcc67a6b", func := "loop.example/g00797/laws.FnExactHubDoc", spec := "fnExactHubDoc", unfollowed := true, recurses := true, apart := false, narrowed := true }
def FnExactHubDocUptoSaid : Prop := fnExactHubDocUptoRow.holds Try.pinned (OpenSpec.upto fnExactHubDocSpec)

/-- 'laws.FnExactHubSub', WHERE WHAT IT READS IS OF BULK AT MOST 1048576: true; the input reads as it did. -/
def fnExactHubSubUptoRow : OpenClaim := { program := "ytdbfgolabnomgaa", sum := "e943cc1d2a74a72add71675681428397725067cc813d6405aaa2c6d5dcc67a6b", func := "loop.example/g00797/laws.FnExactHubSub", spec := "fnExactHubSub", unfollowed := true, recurses := true, apart := false, narrowed := true }
def FnExactHubSubUptoSaid : Prop := fnExactHubSubUptoRow.holds Try.pinned (OpenSpec.upto fnExactHubSubSpec)

/-- 'laws.FnExactHubSame', WHERE WHAT IT READS IS OF BULK AT MOST 1048576: true; the input reads as it did. -/
def fnExactHubSameUptoRow : OpenClaim := { program := "ytdbfgolabnomgaa", sum := "e943cc1d2a74a72add71675681428397725067cc813d6405aaa2c6d5dcc67a6b", func := "loop.example/g00797/laws.FnExactHubSame", spec := "fnExactHubSame", unfollowed := true, recurses := true, apart := false, narrowed := true }
def FnExactHubSameUptoSaid : Prop := fnExactHubSameUptoRow.holds Try.pinned (OpenSpec.upto fnExactHubSameSpec)

end Rows
end Go.Proofs.Ytdbfgolabnomgaa
