/-
  No cell of these rows narrows 'for every input' (looked for: loops, veiled, ifaces, maps, wideKeys, modest, calm, conditions, laid).
  DERIVED. THE GIVEN ROWS OF THIS SEAT. 6 by the template 'for every input the law returns true; each argument reads behind the call as it read before'; 0 by the template 'total and deterministic' (their statements: YtodeihnbjflpaaaTotals.lean).
  GIVEN WITH THE SEED: the statements are not yours to turn. If you find one false, say at which input.
  Laid BY PROGRAM, IN A SANDBOX (cutbox-rows.mjs): the forced cells as the released guide's own fill.sh prints them over the translation 7d3ce5100a01dd84… (all of the seat's roots in one cut). By AI agents, Wed Nov 11 2026. No macro, syntax, notation, axiom, sorry.
-/
import Derived.Test.YtodeihnbjflpaaaChecked
import GoSem.Claim
import GoSem.ClaimJoined
import GoSem.ClaimMapViews
import Derived.JoinedTies
import Derived.KernelRfl
namespace Go.Proofs.Ytodeihnbjflpaaa
/- THE CELL 'sum', in the pinned program and in every row, IS THE sha256 OF THE DUMP (.gsa) THAT YtodeihnbjflpaaaProg.lean LOADS. Nothing in Lean hashes anything: it is a label: what it is worth is what the hold of that sum in a sandbox is worth. -/
noncomputable def Try.pinned : Pinned := { name := "ytodeihnbjflpaaa", sum := "7d3ce5100a01dd84b34ad0eeb6db91c0d1cdd1f5b476d8432b9179f557d9f476", checked := Try.checked }
namespace Rows
def none {H : Type} : Left H := { results := [], args := [] }

/-- 'laws.FnFrames': WHATEVER THE INPUT: true; the input reads as it did. -/
def fnFramesSpec : ChangeSpec := { name := "fnFrames", fn := fun _ => fun
  | [d] => { results := [.lit (.bool true)], args := [d] }
  | _ => none }
def fnFramesRow : OpenClaim := { program := "ytodeihnbjflpaaa", sum := "7d3ce5100a01dd84b34ad0eeb6db91c0d1cdd1f5b476d8432b9179f557d9f476", func := "loop.example/g00205/laws.FnFrames", spec := "fnFrames", apart := false }
def FnFramesSaid : Prop := fnFramesRow.holds Try.pinned (OpenSpec.ofChange fnFramesSpec)

/-- ITS FALSE NEIGHBOUR: 'it returns false'. Refute it at one input. -/
def fnFramesWrong : ChangeSpec := { name := "fnFrames", fn := fun _ => fun
  | [d] => { results := [.lit (.bool false)], args := [d] }
  | _ => none }
def FnFramesWrongFalsely : Prop := fnFramesRow.holds Try.pinned (OpenSpec.ofChange fnFramesWrong)

/-- 'laws.FnGuesses': WHATEVER THE INPUT: true; the input reads as it did. -/
def fnGuessesSpec : ChangeSpec := { name := "fnGuesses", fn := fun _ => fun
  | [d] => { results := [.lit (.bool true)], args := [d] }
  | _ => none }
def fnGuessesRow : OpenClaim := { program := "ytodeihnbjflpaaa", sum := "7d3ce5100a01dd84b34ad0eeb6db91c0d1cdd1f5b476d8432b9179f557d9f476", func := "loop.example/g00205/laws.FnGuesses", spec := "fnGuesses", apart := false }
def FnGuessesSaid : Prop := fnGuessesRow.holds Try.pinned (OpenSpec.ofChange fnGuessesSpec)

/-- ITS FALSE NEIGHBOUR: 'it returns false'. Refute it at one input. -/
def fnGuessesWrong : ChangeSpec := { name := "fnGuesses", fn := fun _ => fun
  | [d] => { results := [.lit (.bool false)], args := [d] }
  | _ => none }
def FnGuessesWrongFalsely : Prop := fnGuessesRow.holds Try.pinned (OpenSpec.ofChange fnGuessesWrong)

/-- 'laws.FnWindows': WHATEVER THE INPUT: true; the input reads as it did. -/
def fnWindowsSpec : ChangeSpec := { name := "fnWindows", fn := fun _ => fun
  | [d] => { results := [.lit (.bool true)], args := [d] }
  | _ => none }
def fnWindowsRow : OpenClaim := { program := "ytodeihnbjflpaaa", sum := "7d3ce5100a01dd84b34ad0eeb6db91c0d1cdd1f5b476d8432b9179f557d9f476", func := "loop.example/g00205/laws.FnWindows", spec := "fnWindows", apart := false }
def FnWindowsSaid : Prop := fnWindowsRow.holds Try.pinned (OpenSpec.ofChange fnWindowsSpec)

/-- ITS FALSE NEIGHBOUR: 'it returns false'. Refute it at one input. -/
def fnWindowsWrong : ChangeSpec := { name := "fnWindows", fn := fun _ => fun
  | [d] => { results := [.lit (.bool false)], args := [d] }
  | _ => none }
def FnWindowsWrongFalsely : Prop := fnWindowsRow.holds Try.pinned (OpenSpec.ofChange fnWindowsWrong)

/-- 'laws.FnExactDecodeSuites': WHATEVER THE INPUT: true; the input reads as it did. -/
def fnExactDecodeSuitesSpec : ChangeSpec := { name := "fnExactDecodeSuites", fn := fun _ => fun
  | [d] => { results := [.lit (.bool true)], args := [d] }
  | _ => none }
def fnExactDecodeSuitesRow : OpenClaim := { program := "ytodeihnbjflpaaa", sum := "7d3ce5100a01dd84b34ad0eeb6db91c0d1cdd1f5b476d8432b9179f557d9f476", func := "loop.example/g00205/laws.FnExactDecodeSuites", spec := "fnExactDecodeSuites", apart := false }
def FnExactDecodeSuitesSaid : Prop := fnExactDecodeSuitesRow.holds Try.pinned (OpenSpec.ofChange fnExactDecodeSuitesSpec)

/-- ITS FALSE NEIGHBOUR: 'it returns false'. Refute it at one input. -/
def fnExactDecodeSuitesWrong : ChangeSpec := { name := "fnExactDecodeSuites", fn := fun _ => fun
  | [d] => { results := [.lit (.bool false)], args := [d] }
  | _ => none }
def FnExactDecodeSuitesWrongFalsely : Prop := fnExactDecodeSuitesRow.holds Try.pinned (OpenSpec.ofChange fnExactDecodeSuitesWrong)

/-- 'laws.FnExactEncodeSuites': WHATEVER THE INPUT: true; the input reads as it did. -/
def fnExactEncodeSuitesSpec : ChangeSpec := { name := "fnExactEncodeSuites", fn := fun _ => fun
  | [d] => { results := [.lit (.bool true)], args := [d] }
  | _ => none }
def fnExactEncodeSuitesRow : OpenClaim := { program := "ytodeihnbjflpaaa", sum := "7d3ce5100a01dd84b34ad0eeb6db91c0d1cdd1f5b476d8432b9179f557d9f476", func := "loop.example/g00205/laws.FnExactEncodeSuites", spec := "fnExactEncodeSuites", apart := false }
def FnExactEncodeSuitesSaid : Prop := fnExactEncodeSuitesRow.holds Try.pinned (OpenSpec.ofChange fnExactEncodeSuitesSpec)

/-- ITS FALSE NEIGHBOUR: 'it returns false'. Refute it at one input. -/
def fnExactEncodeSuitesWrong : ChangeSpec := { name := "fnExactEncodeSuites", fn := fun _ => fun
  | [d] => { results := [.lit (.bool false)], args := [d] }
  | _ => none }
def FnExactEncodeSuitesWrongFalsely : Prop := fnExactEncodeSuitesRow.holds Try.pinned (OpenSpec.ofChange fnExactEncodeSuitesWrong)

/-- 'laws.FnExactParsePacket': WHATEVER THE INPUT: true; the input reads as it did. -/
def fnExactParsePacketSpec : ChangeSpec := { name := "fnExactParsePacket", fn := fun _ => fun
  | [d] => { results := [.lit (.bool true)], args := [d] }
  | _ => none }
def fnExactParsePacketRow : OpenClaim := { program := "ytodeihnbjflpaaa", sum := "7d3ce5100a01dd84b34ad0eeb6db91c0d1cdd1f5b476d8432b9179f557d9f476", func := "loop.example/g00205/laws.FnExactParsePacket", spec := "fnExactParsePacket", apart := false }
def FnExactParsePacketSaid : Prop := fnExactParsePacketRow.holds Try.pinned (OpenSpec.ofChange fnExactParsePacketSpec)

/-- ITS FALSE NEIGHBOUR: 'it returns false'. Refute it at one input. -/
def fnExactParsePacketWrong : ChangeSpec := { name := "fnExactParsePacket", fn := fun _ => fun
  | [d] => { results := [.lit (.bool false)], args := [d] }
  | _ => none }
def FnExactParsePacketWrongFalsely : Prop := fnExactParsePacketRow.holds Try.pinned (OpenSpec.ofChange fnExactParsePacketWrong)

/- THE SECOND FORM. 'bulk': how many values and letters a reading holds, each counted each time it is reached (what is shared counts as often as it is met; a slice's spare places count too). A statement '..UptoSaid' is the law's where the arguments, and the package variables that the reading takes, are together of bulk at most 1048576: NARROWER than '..Said'. Prove '..Said' where nothing that the law and all that it calls make is longer than what came in: it says more and counts as full. Else prove '..UptoSaid'. A law counts once. -/
mutual
def uptoBulk {H : Type} : DataW H → Nat
  | .lit (.string bytes) => bytes.length + 1
  | .lit _ => 1
  | .nil => 1
  | .ptr d => uptoBulk d + 1
  | .slice elems spare => uptoBulkAll elems + uptoBulkAll spare + 1
  | .agg parts => uptoBulkAll parts + 1
  | .iface _ d => uptoBulk d + 1
  | .map entries => uptoBulkEntries entries + 1
  | .held _ => 1
def uptoBulkAll {H : Type} : List (DataW H) → Nat
  | [] => 0
  | d :: r => uptoBulk d + uptoBulkAll r
def uptoBulkEntries {H : Type} : List (Lit × DataW H) → Nat
  | [] => 0
  | x :: r => uptoBulkEntry x + uptoBulkEntries r
def uptoBulkEntry {H : Type} : Lit × DataW H → Nat
  | (.string bytes, d) => bytes.length + uptoBulk d + 1
  | (_, d) => uptoBulk d + 1
 end
def uptoSmall : (H : Type) → List (DataW H) → Bool := fun _ ds => decide (uptoBulkAll ds ≤ 1048576)
def OpenSpec.upto (s : _root_.Go.ChangeSpec) : _root_.Go.OpenSpec := { _root_.Go.OpenSpec.ofChange s with cond := some uptoSmall }

/-- 'laws.FnFrames', WHERE WHAT IT READS IS OF BULK AT MOST 1048576: true; the input reads as it did. -/
def fnFramesUptoRow : OpenClaim := { program := "ytodeihnbjflpaaa", sum := "7d3ce5100a01dd84b34ad0eeb6db91c0d1cdd1f5b476d8432b9179f557d9f476", func := "loop.example/g00205/laws.FnFrames", spec := "fnFrames", apart := false, narrowed := true }
def FnFramesUptoSaid : Prop := fnFramesUptoRow.holds Try.pinned (OpenSpec.upto fnFramesSpec)

/-- 'laws.FnGuesses', WHERE WHAT IT READS IS OF BULK AT MOST 1048576: true; the input reads as it did. -/
def fnGuessesUptoRow : OpenClaim := { program := "ytodeihnbjflpaaa", sum := "7d3ce5100a01dd84b34ad0eeb6db91c0d1cdd1f5b476d8432b9179f557d9f476", func := "loop.example/g00205/laws.FnGuesses", spec := "fnGuesses", apart := false, narrowed := true }
def FnGuessesUptoSaid : Prop := fnGuessesUptoRow.holds Try.pinned (OpenSpec.upto fnGuessesSpec)

/-- 'laws.FnWindows', WHERE WHAT IT READS IS OF BULK AT MOST 1048576: true; the input reads as it did. -/
def fnWindowsUptoRow : OpenClaim := { program := "ytodeihnbjflpaaa", sum := "7d3ce5100a01dd84b34ad0eeb6db91c0d1cdd1f5b476d8432b9179f557d9f476", func := "loop.example/g00205/laws.FnWindows", spec := "fnWindows", apart := false, narrowed := true }
def FnWindowsUptoSaid : Prop := fnWindowsUptoRow.holds Try.pinned (OpenSpec.upto fnWindowsSpec)

/-- 'laws.FnExactDecodeSuites', WHERE WHAT IT READS IS OF BULK AT MOST 1048576: true; the input reads as it did. -/
def fnExactDecodeSuitesUptoRow : OpenClaim := { program := "ytodeihnbjflpaaa", sum := "7d3ce5100a01dd84b34ad0eeb6db91c0d1cdd1f5b476d8432b9179f557d9f476", func := "loop.example/g00205/laws.FnExactDecodeSuites", spec := "fnExactDecodeSuites", apart := false, narrowed := true }
def FnExactDecodeSuitesUptoSaid : Prop := fnExactDecodeSuitesUptoRow.holds Try.pinned (OpenSpec.upto fnExactDecodeSuitesSpec)

/-- 'laws.FnExactEncodeSuites', WHERE WHAT IT READS IS OF BULK AT MOST 1048576: true; the input reads as it did. -/
def fnExactEncodeSuitesUptoRow : OpenClaim := { program := "ytodeihnbjflpaaa", sum := "7d3ce5100a01dd84b34ad0eeb6db91c0d1cdd1f5b476d8432b9179f557d9f476", func := "loop.example/g00205/laws.FnExactEncodeSuites", spec := "fnExactEncodeSuites", apart := false, narrowed := true }
def FnExactEncodeSuitesUptoSaid : Prop := fnExactEncodeSuitesUptoRow.holds Try.pinned (OpenSpec.upto fnExactEncodeSuitesSpec)

/-- 'laws.FnExactParsePacket', WHERE WHAT IT READS IS OF BULK AT MOST 1048576: true; the input reads as it did. -/
def fnExactParsePacketUptoRow : OpenClaim := { program := "ytodeihnbjflpaaa", sum := "7d3ce5100a01dd84b34ad0eeb6db91c0d1cdd1f5b476d8432b9179f557d9f476", func := "loop.example/g00205/laws.FnExactParsePacket", spec := "fnExactParsePacket", apart := false, narrowed := true }
def FnExactParsePacketUptoSaid : Prop := fnExactParsePacketUptoRow.holds Try.pinned (OpenSpec.upto fnExactParsePacketSpec)

end Rows
end Go.Proofs.Ytodeihnbjflpaaa
