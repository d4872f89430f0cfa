/-
  No cell of these rows narrows 'for every input' (looked for: loops, veiled, ifaces, maps, wideKeys, modest, calm, conditions, laid).
  DERIVED. THE GIVEN ROWS OF THIS SEAT. 5 by the template 'for every input the law returns true; each argument reads behind the call as it read before'; 0 by the template 'total and deterministic' (their statements: YtidejdfbapjfiaaTotals.lean).
  GIVEN WITH THE SEED: the statements are not yours to turn. If you find one false, say at which input.
  Laid BY PROGRAM, IN A SANDBOX (cutbox-rows.mjs): the forced cells as the released guide's own fill.sh prints them over the translation 1d9696710b1dbed4… (all of the seat's roots in one cut). By AI agents, Wed Nov 11 2026. No macro, syntax, notation, axiom, sorry.
-/
import Derived.Test.YtidejdfbapjfiaaChecked
import GoSem.Claim
import GoSem.ClaimJoined
import GoSem.ClaimMapViews
import Derived.JoinedTies
import Derived.KernelRfl
namespace Go.Proofs.Ytidejdfbapjfiaa
/- THE CELL 'sum', in the pinned program and in every row, IS THE sha256 OF THE DUMP (.gsa) THAT YtidejdfbapjfiaaProg.lean LOADS. Nothing in Lean hashes anything: it is a label: what it is worth is what the hold of that sum in a sandbox is worth. -/
noncomputable def Try.pinned : Pinned := { name := "ytidejdfbapjfiaa", sum := "1d9696710b1dbed48862ba7ab988655a50ad0605eeea1a7f6de9af220159330a", checked := Try.checked }
namespace Rows
def none {H : Type} : Left H := { results := [], args := [] }

/-- 'laws.FnFrames': WHATEVER THE INPUT: true; the input reads as it did. -/
def fnFramesSpec : ChangeSpec := { name := "fnFrames", fn := fun _ => fun
  | [d] => { results := [.lit (.bool true)], args := [d] }
  | _ => none }
def fnFramesRow : OpenClaim := { program := "ytidejdfbapjfiaa", sum := "1d9696710b1dbed48862ba7ab988655a50ad0605eeea1a7f6de9af220159330a", func := "loop.example/g00205/laws.FnFrames", spec := "fnFrames", apart := false }
def FnFramesSaid : Prop := fnFramesRow.holds Try.pinned (OpenSpec.ofChange fnFramesSpec)

/-- ITS FALSE NEIGHBOUR: 'it returns false'. Refute it at one input. -/
def fnFramesWrong : ChangeSpec := { name := "fnFrames", fn := fun _ => fun
  | [d] => { results := [.lit (.bool false)], args := [d] }
  | _ => none }
def FnFramesWrongFalsely : Prop := fnFramesRow.holds Try.pinned (OpenSpec.ofChange fnFramesWrong)

/-- 'laws.FnExactParsePacket': WHATEVER THE INPUT: true; the input reads as it did. -/
def fnExactParsePacketSpec : ChangeSpec := { name := "fnExactParsePacket", fn := fun _ => fun
  | [d] => { results := [.lit (.bool true)], args := [d] }
  | _ => none }
def fnExactParsePacketRow : OpenClaim := { program := "ytidejdfbapjfiaa", sum := "1d9696710b1dbed48862ba7ab988655a50ad0605eeea1a7f6de9af220159330a", func := "loop.example/g00205/laws.FnExactParsePacket", spec := "fnExactParsePacket", apart := false }
def FnExactParsePacketSaid : Prop := fnExactParsePacketRow.holds Try.pinned (OpenSpec.ofChange fnExactParsePacketSpec)

/-- ITS FALSE NEIGHBOUR: 'it returns false'. Refute it at one input. -/
def fnExactParsePacketWrong : ChangeSpec := { name := "fnExactParsePacket", fn := fun _ => fun
  | [d] => { results := [.lit (.bool false)], args := [d] }
  | _ => none }
def FnExactParsePacketWrongFalsely : Prop := fnExactParsePacketRow.holds Try.pinned (OpenSpec.ofChange fnExactParsePacketWrong)

/-- 'laws.FnExactTtlDown': WHATEVER THE INPUT: true; the input reads as it did. -/
def fnExactTtlDownSpec : ChangeSpec := { name := "fnExactTtlDown", fn := fun _ => fun
  | [d] => { results := [.lit (.bool true)], args := [d] }
  | _ => none }
def fnExactTtlDownRow : OpenClaim := { program := "ytidejdfbapjfiaa", sum := "1d9696710b1dbed48862ba7ab988655a50ad0605eeea1a7f6de9af220159330a", func := "loop.example/g00205/laws.FnExactTtlDown", spec := "fnExactTtlDown", apart := false }
def FnExactTtlDownSaid : Prop := fnExactTtlDownRow.holds Try.pinned (OpenSpec.ofChange fnExactTtlDownSpec)

/-- ITS FALSE NEIGHBOUR: 'it returns false'. Refute it at one input. -/
def fnExactTtlDownWrong : ChangeSpec := { name := "fnExactTtlDown", fn := fun _ => fun
  | [d] => { results := [.lit (.bool false)], args := [d] }
  | _ => none }
def FnExactTtlDownWrongFalsely : Prop := fnExactTtlDownRow.holds Try.pinned (OpenSpec.ofChange fnExactTtlDownWrong)

/-- 'laws.FnTtls': WHATEVER THE INPUT: true; the input reads as it did. -/
def fnTtlsSpec : ChangeSpec := { name := "fnTtls", fn := fun _ => fun
  | [d] => { results := [.lit (.bool true)], args := [d] }
  | _ => none }
def fnTtlsRow : OpenClaim := { program := "ytidejdfbapjfiaa", sum := "1d9696710b1dbed48862ba7ab988655a50ad0605eeea1a7f6de9af220159330a", func := "loop.example/g00205/laws.FnTtls", spec := "fnTtls", apart := false }
def FnTtlsSaid : Prop := fnTtlsRow.holds Try.pinned (OpenSpec.ofChange fnTtlsSpec)

/-- ITS FALSE NEIGHBOUR: 'it returns false'. Refute it at one input. -/
def fnTtlsWrong : ChangeSpec := { name := "fnTtls", fn := fun _ => fun
  | [d] => { results := [.lit (.bool false)], args := [d] }
  | _ => none }
def FnTtlsWrongFalsely : Prop := fnTtlsRow.holds Try.pinned (OpenSpec.ofChange fnTtlsWrong)

/-- 'laws.FnPackets': WHATEVER THE INPUT: true; the input reads as it did. -/
def fnPacketsSpec : ChangeSpec := { name := "fnPackets", fn := fun _ => fun
  | [d] => { results := [.lit (.bool true)], args := [d] }
  | _ => none }
def fnPacketsRow : OpenClaim := { program := "ytidejdfbapjfiaa", sum := "1d9696710b1dbed48862ba7ab988655a50ad0605eeea1a7f6de9af220159330a", func := "loop.example/g00205/laws.FnPackets", spec := "fnPackets", apart := false }
def FnPacketsSaid : Prop := fnPacketsRow.holds Try.pinned (OpenSpec.ofChange fnPacketsSpec)

/-- ITS FALSE NEIGHBOUR: 'it returns false'. Refute it at one input. -/
def fnPacketsWrong : ChangeSpec := { name := "fnPackets", fn := fun _ => fun
  | [d] => { results := [.lit (.bool false)], args := [d] }
  | _ => none }
def FnPacketsWrongFalsely : Prop := fnPacketsRow.holds Try.pinned (OpenSpec.ofChange fnPacketsWrong)

/- THE SECOND FORM. 'bulk': how many values and letters a reading holds, each counted each time it is reached (what is shared counts as often as it is met; a slice's spare places count too). A statement '..UptoSaid' is the law's where the arguments, and the package variables that the reading takes, are together of bulk at most 1048576: NARROWER than '..Said'. Prove '..Said' where nothing that the law and all that it calls make is longer than what came in: it says more and counts as full. Else prove '..UptoSaid'. A law counts once. -/
mutual
def uptoBulk {H : Type} : DataW H → Nat
  | .lit (.string bytes) => bytes.length + 1
  | .lit _ => 1
  | .nil => 1
  | .ptr d => uptoBulk d + 1
  | .slice elems spare => uptoBulkAll elems + uptoBulkAll spare + 1
  | .agg parts => uptoBulkAll parts + 1
  | .iface _ d => uptoBulk d + 1
  | .map entries => uptoBulkEntries entries + 1
  | .held _ => 1
def uptoBulkAll {H : Type} : List (DataW H) → Nat
  | [] => 0
  | d :: r => uptoBulk d + uptoBulkAll r
def uptoBulkEntries {H : Type} : List (Lit × DataW H) → Nat
  | [] => 0
  | x :: r => uptoBulkEntry x + uptoBulkEntries r
def uptoBulkEntry {H : Type} : Lit × DataW H → Nat
  | (.string bytes, d) => bytes.length + uptoBulk d + 1
  | (_, d) => uptoBulk d + 1
 end
def uptoSmall : (H : Type) → List (DataW H) → Bool := fun _ ds => decide (uptoBulkAll ds ≤ 1048576)
def OpenSpec.upto (s : _root_.Go.ChangeSpec) : _root_.Go.OpenSpec := { _root_.Go.OpenSpec.ofChange s with cond := some uptoSmall }

/-- 'laws.FnFrames', WHERE WHAT IT READS IS OF BULK AT MOST 1048576: true; the input reads as it did. -/
def fnFramesUptoRow : OpenClaim := { program := "ytidejdfbapjfiaa", sum := "1d9696710b1dbed48862ba7ab988655a50ad0605eeea1a7f6de9af220159330a", func := "loop.example/g00205/laws.FnFrames", spec := "fnFrames", apart := false, narrowed := true }
def FnFramesUptoSaid : Prop := fnFramesUptoRow.holds Try.pinned (OpenSpec.upto fnFramesSpec)

/-- 'laws.FnExactParsePacket', WHERE WHAT IT READS IS OF BULK AT MOST 1048576: true; the input reads as it did. -/
def fnExactParsePacketUptoRow : OpenClaim := { program := "ytidejdfbapjfiaa", sum := "1d9696710b1dbed48862ba7ab988655a50ad0605eeea1a7f6de9af220159330a", func := "loop.example/g00205/laws.FnExactParsePacket", spec := "fnExactParsePacket", apart := false, narrowed := true }
def FnExactParsePacketUptoSaid : Prop := fnExactParsePacketUptoRow.holds Try.pinned (OpenSpec.upto fnExactParsePacketSpec)

/-- 'laws.FnExactTtlDown', WHERE WHAT IT READS IS OF BULK AT MOST 1048576: true; the input reads as it did. -/
def fnExactTtlDownUptoRow : OpenClaim := { program := "ytidejdfbapjfiaa", sum := "1d9696710b1dbed48862ba7ab988655a50ad0605eeea1a7f6de9af220159330a", func := "loop.example/g00205/laws.FnExactTtlDown", spec := "fnExactTtlDown", apart := false, narrowed := true }
def FnExactTtlDownUptoSaid : Prop := fnExactTtlDownUptoRow.holds Try.pinned (OpenSpec.upto fnExactTtlDownSpec)

/-- 'laws.FnTtls', WHERE WHAT IT READS IS OF BULK AT MOST 1048576: true; the input reads as it did. -/
def fnTtlsUptoRow : OpenClaim := { program := "ytidejdfbapjfiaa", sum := "1d9696710b1dbed48862ba7ab988655a50ad0605eeea1a7f6de9af220159330a", func := "loop.example/g00205/laws.FnTtls", spec := "fnTtls", apart := false, narrowed := true }
def FnTtlsUptoSaid : Prop := fnTtlsUptoRow.holds Try.pinned (OpenSpec.upto fnTtlsSpec)

/-- 'laws.FnPackets', WHERE WHAT IT READS IS OF BULK AT MOST 1048576: true; the input reads as it did. -/
def fnPacketsUptoRow : OpenClaim := { program := "ytidejdfbapjfiaa", sum := "1d9696710b1dbed48862ba7ab988655a50ad0605eeea1a7f6de9af220159330a", func := "loop.example/g00205/laws.FnPackets", spec := "fnPackets", apart := false, narrowed := true }
def FnPacketsUptoSaid : Prop := fnPacketsUptoRow.holds Try.pinned (OpenSpec.upto fnPacketsSpec)

end Rows
end Go.Proofs.Ytidejdfbapjfiaa
