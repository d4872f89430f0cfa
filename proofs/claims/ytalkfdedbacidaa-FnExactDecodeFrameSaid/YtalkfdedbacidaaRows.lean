/-
  No cell of these rows narrows 'for every input' (looked for: loops, veiled, ifaces, maps, wideKeys, modest, calm, conditions, laid).
  DERIVED. THE GIVEN ROWS OF THIS SEAT. 12 by the template 'for every input the law returns true; each argument reads behind the call as it read before'; 0 by the template 'total and deterministic' (their statements: YtalkfdedbacidaaTotals.lean).
  GIVEN WITH THE SEED: the statements are not yours to turn. If you find one false, say at which input.
  Laid BY PROGRAM, IN A SANDBOX (cutbox-rows.mjs): the forced cells as the released guide's own fill.sh prints them over the translation 763651fcd4839fd1… (all of the seat's roots in one cut). By AI agents, Wed Nov 11 2026. No macro, syntax, notation, axiom, sorry.
-/
import Derived.Test.YtalkfdedbacidaaChecked
import GoSem.Claim
import GoSem.ClaimJoined
import GoSem.ClaimMapViews
import Derived.JoinedTies
import Derived.KernelRfl
namespace Go.Proofs.Ytalkfdedbacidaa
/- THE CELL 'sum', in the pinned program and in every row, IS THE sha256 OF THE DUMP (.gsa) THAT YtalkfdedbacidaaProg.lean LOADS. Nothing in Lean hashes anything: it is a label: what it is worth is what the hold of that sum in a sandbox is worth. -/
noncomputable def Try.pinned : Pinned := { name := "ytalkfdedbacidaa", sum := "763651fcd4839fd1f5e0c1d2c39f88186522cd965c389ddf9ee5d2e34d7acfb7", checked := Try.checked }
namespace Rows
def none {H : Type} : Left H := { results := [], args := [] }

/-- 'laws.FnExactWindowFault': WHATEVER THE INPUT: true; the input reads as it did. -/
def fnExactWindowFaultSpec : ChangeSpec := { name := "fnExactWindowFault", fn := fun _ => fun
  | [d] => { results := [.lit (.bool true)], args := [d] }
  | _ => none }
def fnExactWindowFaultRow : OpenClaim := { program := "ytalkfdedbacidaa", sum := "763651fcd4839fd1f5e0c1d2c39f88186522cd965c389ddf9ee5d2e34d7acfb7", func := "loop.example/g00205/laws.FnExactWindowFault", spec := "fnExactWindowFault", apart := false }
def FnExactWindowFaultSaid : Prop := fnExactWindowFaultRow.holds Try.pinned (OpenSpec.ofChange fnExactWindowFaultSpec)

/-- ITS FALSE NEIGHBOUR: 'it returns false'. Refute it at one input. -/
def fnExactWindowFaultWrong : ChangeSpec := { name := "fnExactWindowFault", fn := fun _ => fun
  | [d] => { results := [.lit (.bool false)], args := [d] }
  | _ => none }
def FnExactWindowFaultWrongFalsely : Prop := fnExactWindowFaultRow.holds Try.pinned (OpenSpec.ofChange fnExactWindowFaultWrong)

/-- 'laws.FnExactSeenIn': WHATEVER THE INPUT: true; the input reads as it did. -/
def fnExactSeenInSpec : ChangeSpec := { name := "fnExactSeenIn", fn := fun _ => fun
  | [d1, d2] => { results := [.lit (.bool true)], args := [d1, d2] }
  | _ => none }
def fnExactSeenInRow : OpenClaim := { program := "ytalkfdedbacidaa", sum := "763651fcd4839fd1f5e0c1d2c39f88186522cd965c389ddf9ee5d2e34d7acfb7", func := "loop.example/g00205/laws.FnExactSeenIn", spec := "fnExactSeenIn", apart := false }
def FnExactSeenInSaid : Prop := fnExactSeenInRow.holds Try.pinned (OpenSpec.ofChange fnExactSeenInSpec)

/-- ITS FALSE NEIGHBOUR: 'it returns false'. Refute it at one input. -/
def fnExactSeenInWrong : ChangeSpec := { name := "fnExactSeenIn", fn := fun _ => fun
  | [d1, d2] => { results := [.lit (.bool false)], args := [d1, d2] }
  | _ => none }
def FnExactSeenInWrongFalsely : Prop := fnExactSeenInRow.holds Try.pinned (OpenSpec.ofChange fnExactSeenInWrong)

/-- 'laws.FnExactWeakerSuite': WHATEVER THE INPUT: true; the input reads as it did. -/
def fnExactWeakerSuiteSpec : ChangeSpec := { name := "fnExactWeakerSuite", fn := fun _ => fun
  | [d1, d2] => { results := [.lit (.bool true)], args := [d1, d2] }
  | _ => none }
def fnExactWeakerSuiteRow : OpenClaim := { program := "ytalkfdedbacidaa", sum := "763651fcd4839fd1f5e0c1d2c39f88186522cd965c389ddf9ee5d2e34d7acfb7", func := "loop.example/g00205/laws.FnExactWeakerSuite", spec := "fnExactWeakerSuite", apart := false }
def FnExactWeakerSuiteSaid : Prop := fnExactWeakerSuiteRow.holds Try.pinned (OpenSpec.ofChange fnExactWeakerSuiteSpec)

/-- ITS FALSE NEIGHBOUR: 'it returns false'. Refute it at one input. -/
def fnExactWeakerSuiteWrong : ChangeSpec := { name := "fnExactWeakerSuite", fn := fun _ => fun
  | [d1, d2] => { results := [.lit (.bool false)], args := [d1, d2] }
  | _ => none }
def FnExactWeakerSuiteWrongFalsely : Prop := fnExactWeakerSuiteRow.holds Try.pinned (OpenSpec.ofChange fnExactWeakerSuiteWrong)

/-- 'laws.FnExactTakeNumber': WHATEVER THE INPUT: true; the input reads as it did. -/
def fnExactTakeNumberSpec : ChangeSpec := { name := "fnExactTakeNumber", fn := fun _ => fun
  | [d1, d2, d3] => { results := [.lit (.bool true)], args := [d1, d2, d3] }
  | _ => none }
def fnExactTakeNumberRow : OpenClaim := { program := "ytalkfdedbacidaa", sum := "763651fcd4839fd1f5e0c1d2c39f88186522cd965c389ddf9ee5d2e34d7acfb7", func := "loop.example/g00205/laws.FnExactTakeNumber", spec := "fnExactTakeNumber", apart := false }
def FnExactTakeNumberSaid : Prop := fnExactTakeNumberRow.holds Try.pinned (OpenSpec.ofChange fnExactTakeNumberSpec)

/-- ITS FALSE NEIGHBOUR: 'it returns false'. Refute it at one input. -/
def fnExactTakeNumberWrong : ChangeSpec := { name := "fnExactTakeNumber", fn := fun _ => fun
  | [d1, d2, d3] => { results := [.lit (.bool false)], args := [d1, d2, d3] }
  | _ => none }
def FnExactTakeNumberWrongFalsely : Prop := fnExactTakeNumberRow.holds Try.pinned (OpenSpec.ofChange fnExactTakeNumberWrong)

/-- 'laws.FnNumbers': WHATEVER THE INPUT: true; the input reads as it did. -/
def fnNumbersSpec : ChangeSpec := { name := "fnNumbers", fn := fun _ => fun
  | [d] => { results := [.lit (.bool true)], args := [d] }
  | _ => none }
def fnNumbersRow : OpenClaim := { program := "ytalkfdedbacidaa", sum := "763651fcd4839fd1f5e0c1d2c39f88186522cd965c389ddf9ee5d2e34d7acfb7", func := "loop.example/g00205/laws.FnNumbers", spec := "fnNumbers", apart := false }
def FnNumbersSaid : Prop := fnNumbersRow.holds Try.pinned (OpenSpec.ofChange fnNumbersSpec)

/-- ITS FALSE NEIGHBOUR: 'it returns false'. Refute it at one input. -/
def fnNumbersWrong : ChangeSpec := { name := "fnNumbers", fn := fun _ => fun
  | [d] => { results := [.lit (.bool false)], args := [d] }
  | _ => none }
def FnNumbersWrongFalsely : Prop := fnNumbersRow.holds Try.pinned (OpenSpec.ofChange fnNumbersWrong)

/-- 'laws.FnExactGuessSeq': WHATEVER THE INPUT: true; the input reads as it did. -/
def fnExactGuessSeqSpec : ChangeSpec := { name := "fnExactGuessSeq", fn := fun _ => fun
  | [d1, d2] => { results := [.lit (.bool true)], args := [d1, d2] }
  | _ => none }
def fnExactGuessSeqRow : OpenClaim := { program := "ytalkfdedbacidaa", sum := "763651fcd4839fd1f5e0c1d2c39f88186522cd965c389ddf9ee5d2e34d7acfb7", func := "loop.example/g00205/laws.FnExactGuessSeq", spec := "fnExactGuessSeq", apart := false }
def FnExactGuessSeqSaid : Prop := fnExactGuessSeqRow.holds Try.pinned (OpenSpec.ofChange fnExactGuessSeqSpec)

/-- ITS FALSE NEIGHBOUR: 'it returns false'. Refute it at one input. -/
def fnExactGuessSeqWrong : ChangeSpec := { name := "fnExactGuessSeq", fn := fun _ => fun
  | [d1, d2] => { results := [.lit (.bool false)], args := [d1, d2] }
  | _ => none }
def FnExactGuessSeqWrongFalsely : Prop := fnExactGuessSeqRow.holds Try.pinned (OpenSpec.ofChange fnExactGuessSeqWrong)

/-- 'laws.FnExactSuitesFault': WHATEVER THE INPUT: true; the input reads as it did. -/
def fnExactSuitesFaultSpec : ChangeSpec := { name := "fnExactSuitesFault", fn := fun _ => fun
  | [d] => { results := [.lit (.bool true)], args := [d] }
  | _ => none }
def fnExactSuitesFaultRow : OpenClaim := { program := "ytalkfdedbacidaa", sum := "763651fcd4839fd1f5e0c1d2c39f88186522cd965c389ddf9ee5d2e34d7acfb7", func := "loop.example/g00205/laws.FnExactSuitesFault", spec := "fnExactSuitesFault", apart := false }
def FnExactSuitesFaultSaid : Prop := fnExactSuitesFaultRow.holds Try.pinned (OpenSpec.ofChange fnExactSuitesFaultSpec)

/-- ITS FALSE NEIGHBOUR: 'it returns false'. Refute it at one input. -/
def fnExactSuitesFaultWrong : ChangeSpec := { name := "fnExactSuitesFault", fn := fun _ => fun
  | [d] => { results := [.lit (.bool false)], args := [d] }
  | _ => none }
def FnExactSuitesFaultWrongFalsely : Prop := fnExactSuitesFaultRow.holds Try.pinned (OpenSpec.ofChange fnExactSuitesFaultWrong)

/-- 'laws.FnExactMissingIn': WHATEVER THE INPUT: true; the input reads as it did. -/
def fnExactMissingInSpec : ChangeSpec := { name := "fnExactMissingIn", fn := fun _ => fun
  | [d] => { results := [.lit (.bool true)], args := [d] }
  | _ => none }
def fnExactMissingInRow : OpenClaim := { program := "ytalkfdedbacidaa", sum := "763651fcd4839fd1f5e0c1d2c39f88186522cd965c389ddf9ee5d2e34d7acfb7", func := "loop.example/g00205/laws.FnExactMissingIn", spec := "fnExactMissingIn", apart := false }
def FnExactMissingInSaid : Prop := fnExactMissingInRow.holds Try.pinned (OpenSpec.ofChange fnExactMissingInSpec)

/-- ITS FALSE NEIGHBOUR: 'it returns false'. Refute it at one input. -/
def fnExactMissingInWrong : ChangeSpec := { name := "fnExactMissingIn", fn := fun _ => fun
  | [d] => { results := [.lit (.bool false)], args := [d] }
  | _ => none }
def FnExactMissingInWrongFalsely : Prop := fnExactMissingInRow.holds Try.pinned (OpenSpec.ofChange fnExactMissingInWrong)

/-- 'laws.FnExactTakeSeq': WHATEVER THE INPUT: true; the input reads as it did. -/
def fnExactTakeSeqSpec : ChangeSpec := { name := "fnExactTakeSeq", fn := fun _ => fun
  | [d1, d2] => { results := [.lit (.bool true)], args := [d1, d2] }
  | _ => none }
def fnExactTakeSeqRow : OpenClaim := { program := "ytalkfdedbacidaa", sum := "763651fcd4839fd1f5e0c1d2c39f88186522cd965c389ddf9ee5d2e34d7acfb7", func := "loop.example/g00205/laws.FnExactTakeSeq", spec := "fnExactTakeSeq", apart := false }
def FnExactTakeSeqSaid : Prop := fnExactTakeSeqRow.holds Try.pinned (OpenSpec.ofChange fnExactTakeSeqSpec)

/-- ITS FALSE NEIGHBOUR: 'it returns false'. Refute it at one input. -/
def fnExactTakeSeqWrong : ChangeSpec := { name := "fnExactTakeSeq", fn := fun _ => fun
  | [d1, d2] => { results := [.lit (.bool false)], args := [d1, d2] }
  | _ => none }
def FnExactTakeSeqWrongFalsely : Prop := fnExactTakeSeqRow.holds Try.pinned (OpenSpec.ofChange fnExactTakeSeqWrong)

/-- 'laws.FnExactDecodeFrame': WHATEVER THE INPUT: true; the input reads as it did. -/
def fnExactDecodeFrameSpec : ChangeSpec := { name := "fnExactDecodeFrame", fn := fun _ => fun
  | [d] => { results := [.lit (.bool true)], args := [d] }
  | _ => none }
def fnExactDecodeFrameRow : OpenClaim := { program := "ytalkfdedbacidaa", sum := "763651fcd4839fd1f5e0c1d2c39f88186522cd965c389ddf9ee5d2e34d7acfb7", func := "loop.example/g00205/laws.FnExactDecodeFrame", spec := "fnExactDecodeFrame", apart := false }
def FnExactDecodeFrameSaid : Prop := fnExactDecodeFrameRow.holds Try.pinned (OpenSpec.ofChange fnExactDecodeFrameSpec)

/-- ITS FALSE NEIGHBOUR: 'it returns false'. Refute it at one input. -/
def fnExactDecodeFrameWrong : ChangeSpec := { name := "fnExactDecodeFrame", fn := fun _ => fun
  | [d] => { results := [.lit (.bool false)], args := [d] }
  | _ => none }
def FnExactDecodeFrameWrongFalsely : Prop := fnExactDecodeFrameRow.holds Try.pinned (OpenSpec.ofChange fnExactDecodeFrameWrong)

/-- 'laws.FnExactTakeLow': WHATEVER THE INPUT: true; the input reads as it did. -/
def fnExactTakeLowSpec : ChangeSpec := { name := "fnExactTakeLow", fn := fun _ => fun
  | [d1, d2] => { results := [.lit (.bool true)], args := [d1, d2] }
  | _ => none }
def fnExactTakeLowRow : OpenClaim := { program := "ytalkfdedbacidaa", sum := "763651fcd4839fd1f5e0c1d2c39f88186522cd965c389ddf9ee5d2e34d7acfb7", func := "loop.example/g00205/laws.FnExactTakeLow", spec := "fnExactTakeLow", apart := false }
def FnExactTakeLowSaid : Prop := fnExactTakeLowRow.holds Try.pinned (OpenSpec.ofChange fnExactTakeLowSpec)

/-- ITS FALSE NEIGHBOUR: 'it returns false'. Refute it at one input. -/
def fnExactTakeLowWrong : ChangeSpec := { name := "fnExactTakeLow", fn := fun _ => fun
  | [d1, d2] => { results := [.lit (.bool false)], args := [d1, d2] }
  | _ => none }
def FnExactTakeLowWrongFalsely : Prop := fnExactTakeLowRow.holds Try.pinned (OpenSpec.ofChange fnExactTakeLowWrong)

/-- 'laws.FnExactTakeAll': WHATEVER THE INPUT: true; the input reads as it did. -/
def fnExactTakeAllSpec : ChangeSpec := { name := "fnExactTakeAll", fn := fun _ => fun
  | [d1, d2] => { results := [.lit (.bool true)], args := [d1, d2] }
  | _ => none }
def fnExactTakeAllRow : OpenClaim := { program := "ytalkfdedbacidaa", sum := "763651fcd4839fd1f5e0c1d2c39f88186522cd965c389ddf9ee5d2e34d7acfb7", func := "loop.example/g00205/laws.FnExactTakeAll", spec := "fnExactTakeAll", apart := false }
def FnExactTakeAllSaid : Prop := fnExactTakeAllRow.holds Try.pinned (OpenSpec.ofChange fnExactTakeAllSpec)

/-- ITS FALSE NEIGHBOUR: 'it returns false'. Refute it at one input. -/
def fnExactTakeAllWrong : ChangeSpec := { name := "fnExactTakeAll", fn := fun _ => fun
  | [d1, d2] => { results := [.lit (.bool false)], args := [d1, d2] }
  | _ => none }
def FnExactTakeAllWrongFalsely : Prop := fnExactTakeAllRow.holds Try.pinned (OpenSpec.ofChange fnExactTakeAllWrong)

/- THE SECOND FORM. 'bulk': how many values and letters a reading holds, each counted each time it is reached (what is shared counts as often as it is met; a slice's spare places count too). A statement '..UptoSaid' is the law's where the arguments, and the package variables that the reading takes, are together of bulk at most 1048576: NARROWER than '..Said'. Prove '..Said' where nothing that the law and all that it calls make is longer than what came in: it says more and counts as full. Else prove '..UptoSaid'. A law counts once. -/
mutual
def uptoBulk {H : Type} : DataW H → Nat
  | .lit (.string bytes) => bytes.length + 1
  | .lit _ => 1
  | .nil => 1
  | .ptr d => uptoBulk d + 1
  | .slice elems spare => uptoBulkAll elems + uptoBulkAll spare + 1
  | .agg parts => uptoBulkAll parts + 1
  | .iface _ d => uptoBulk d + 1
  | .map entries => uptoBulkEntries entries + 1
  | .held _ => 1
def uptoBulkAll {H : Type} : List (DataW H) → Nat
  | [] => 0
  | d :: r => uptoBulk d + uptoBulkAll r
def uptoBulkEntries {H : Type} : List (Lit × DataW H) → Nat
  | [] => 0
  | x :: r => uptoBulkEntry x + uptoBulkEntries r
def uptoBulkEntry {H : Type} : Lit × DataW H → Nat
  | (.string bytes, d) => bytes.length + uptoBulk d + 1
  | (_, d) => uptoBulk d + 1
 end
def uptoSmall : (H : Type) → List (DataW H) → Bool := fun _ ds => decide (uptoBulkAll ds ≤ 1048576)
def OpenSpec.upto (s : _root_.Go.ChangeSpec) : _root_.Go.OpenSpec := { _root_.Go.OpenSpec.ofChange s with cond := some uptoSmall }

/-- 'laws.FnExactWindowFault', WHERE WHAT IT READS IS OF BULK AT MOST 1048576: true; the input reads as it did. -/
def fnExactWindowFaultUptoRow : OpenClaim := { program := "ytalkfdedbacidaa", sum := "763651fcd4839fd1f5e0c1d2c39f88186522cd965c389ddf9ee5d2e34d7acfb7", func := "loop.example/g00205/laws.FnExactWindowFault", spec := "fnExactWindowFault", apart := false, narrowed := true }
def FnExactWindowFaultUptoSaid : Prop := fnExactWindowFaultUptoRow.holds Try.pinned (OpenSpec.upto fnExactWindowFaultSpec)

/-- 'laws.FnExactSeenIn', WHERE WHAT IT READS IS OF BULK AT MOST 1048576: true; the input reads as it did. -/
def fnExactSeenInUptoRow : OpenClaim := { program := "ytalkfdedbacidaa", sum := "763651fcd4839fd1f5e0c1d2c39f88186522cd965c389ddf9ee5d2e34d7acfb7", func := "loop.example/g00205/laws.FnExactSeenIn", spec := "fnExactSeenIn", apart := false, narrowed := true }
def FnExactSeenInUptoSaid : Prop := fnExactSeenInUptoRow.holds Try.pinned (OpenSpec.upto fnExactSeenInSpec)

/-- 'laws.FnExactWeakerSuite', WHERE WHAT IT READS IS OF BULK AT MOST 1048576: true; the input reads as it did. -/
def fnExactWeakerSuiteUptoRow : OpenClaim := { program := "ytalkfdedbacidaa", sum := "763651fcd4839fd1f5e0c1d2c39f88186522cd965c389ddf9ee5d2e34d7acfb7", func := "loop.example/g00205/laws.FnExactWeakerSuite", spec := "fnExactWeakerSuite", apart := false, narrowed := true }
def FnExactWeakerSuiteUptoSaid : Prop := fnExactWeakerSuiteUptoRow.holds Try.pinned (OpenSpec.upto fnExactWeakerSuiteSpec)

/-- 'laws.FnExactTakeNumber', WHERE WHAT IT READS IS OF BULK AT MOST 1048576: true; the input reads as it did. -/
def fnExactTakeNumberUptoRow : OpenClaim := { program := "ytalkfdedbacidaa", sum := "763651fcd4839fd1f5e0c1d2c39f88186522cd965c389ddf9ee5d2e34d7acfb7", func := "loop.example/g00205/laws.FnExactTakeNumber", spec := "fnExactTakeNumber", apart := false, narrowed := true }
def FnExactTakeNumberUptoSaid : Prop := fnExactTakeNumberUptoRow.holds Try.pinned (OpenSpec.upto fnExactTakeNumberSpec)

/-- 'laws.FnNumbers', WHERE WHAT IT READS IS OF BULK AT MOST 1048576: true; the input reads as it did. -/
def fnNumbersUptoRow : OpenClaim := { program := "ytalkfdedbacidaa", sum := "763651fcd4839fd1f5e0c1d2c39f88186522cd965c389ddf9ee5d2e34d7acfb7", func := "loop.example/g00205/laws.FnNumbers", spec := "fnNumbers", apart := false, narrowed := true }
def FnNumbersUptoSaid : Prop := fnNumbersUptoRow.holds Try.pinned (OpenSpec.upto fnNumbersSpec)

/-- 'laws.FnExactGuessSeq', WHERE WHAT IT READS IS OF BULK AT MOST 1048576: true; the input reads as it did. -/
def fnExactGuessSeqUptoRow : OpenClaim := { program := "ytalkfdedbacidaa", sum := "763651fcd4839fd1f5e0c1d2c39f88186522cd965c389ddf9ee5d2e34d7acfb7", func := "loop.example/g00205/laws.FnExactGuessSeq", spec := "fnExactGuessSeq", apart := false, narrowed := true }
def FnExactGuessSeqUptoSaid : Prop := fnExactGuessSeqUptoRow.holds Try.pinned (OpenSpec.upto fnExactGuessSeqSpec)

/-- 'laws.FnExactSuitesFault', WHERE WHAT IT READS IS OF BULK AT MOST 1048576: true; the input reads as it did. -/
def fnExactSuitesFaultUptoRow : OpenClaim := { program := "ytalkfdedbacidaa", sum := "763651fcd4839fd1f5e0c1d2c39f88186522cd965c389ddf9ee5d2e34d7acfb7", func := "loop.example/g00205/laws.FnExactSuitesFault", spec := "fnExactSuitesFault", apart := false, narrowed := true }
def FnExactSuitesFaultUptoSaid : Prop := fnExactSuitesFaultUptoRow.holds Try.pinned (OpenSpec.upto fnExactSuitesFaultSpec)

/-- 'laws.FnExactMissingIn', WHERE WHAT IT READS IS OF BULK AT MOST 1048576: true; the input reads as it did. -/
def fnExactMissingInUptoRow : OpenClaim := { program := "ytalkfdedbacidaa", sum := "763651fcd4839fd1f5e0c1d2c39f88186522cd965c389ddf9ee5d2e34d7acfb7", func := "loop.example/g00205/laws.FnExactMissingIn", spec := "fnExactMissingIn", apart := false, narrowed := true }
def FnExactMissingInUptoSaid : Prop := fnExactMissingInUptoRow.holds Try.pinned (OpenSpec.upto fnExactMissingInSpec)

/-- 'laws.FnExactTakeSeq', WHERE WHAT IT READS IS OF BULK AT MOST 1048576: true; the input reads as it did. -/
def fnExactTakeSeqUptoRow : OpenClaim := { program := "ytalkfdedbacidaa", sum := "763651fcd4839fd1f5e0c1d2c39f88186522cd965c389ddf9ee5d2e34d7acfb7", func := "loop.example/g00205/laws.FnExactTakeSeq", spec := "fnExactTakeSeq", apart := false, narrowed := true }
def FnExactTakeSeqUptoSaid : Prop := fnExactTakeSeqUptoRow.holds Try.pinned (OpenSpec.upto fnExactTakeSeqSpec)

/-- 'laws.FnExactDecodeFrame', WHERE WHAT IT READS IS OF BULK AT MOST 1048576: true; the input reads as it did. -/
def fnExactDecodeFrameUptoRow : OpenClaim := { program := "ytalkfdedbacidaa", sum := "763651fcd4839fd1f5e0c1d2c39f88186522cd965c389ddf9ee5d2e34d7acfb7", func := "loop.example/g00205/laws.FnExactDecodeFrame", spec := "fnExactDecodeFrame", apart := false, narrowed := true }
def FnExactDecodeFrameUptoSaid : Prop := fnExactDecodeFrameUptoRow.holds Try.pinned (OpenSpec.upto fnExactDecodeFrameSpec)

/-- 'laws.FnExactTakeLow', WHERE WHAT IT READS IS OF BULK AT MOST 1048576: true; the input reads as it did. -/
def fnExactTakeLowUptoRow : OpenClaim := { program := "ytalkfdedbacidaa", sum := "763651fcd4839fd1f5e0c1d2c39f88186522cd965c389ddf9ee5d2e34d7acfb7", func := "loop.example/g00205/laws.FnExactTakeLow", spec := "fnExactTakeLow", apart := false, narrowed := true }
def FnExactTakeLowUptoSaid : Prop := fnExactTakeLowUptoRow.holds Try.pinned (OpenSpec.upto fnExactTakeLowSpec)

/-- 'laws.FnExactTakeAll', WHERE WHAT IT READS IS OF BULK AT MOST 1048576: true; the input reads as it did. -/
def fnExactTakeAllUptoRow : OpenClaim := { program := "ytalkfdedbacidaa", sum := "763651fcd4839fd1f5e0c1d2c39f88186522cd965c389ddf9ee5d2e34d7acfb7", func := "loop.example/g00205/laws.FnExactTakeAll", spec := "fnExactTakeAll", apart := false, narrowed := true }
def FnExactTakeAllUptoSaid : Prop := fnExactTakeAllUptoRow.holds Try.pinned (OpenSpec.upto fnExactTakeAllSpec)

end Rows
end Go.Proofs.Ytalkfdedbacidaa
