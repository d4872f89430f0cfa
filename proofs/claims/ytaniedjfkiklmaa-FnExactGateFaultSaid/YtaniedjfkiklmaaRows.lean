/-
  No cell of these rows narrows 'for every input' (looked for: loops, veiled, ifaces, maps, wideKeys, modest, calm, conditions, laid).
  DERIVED. THE GIVEN ROWS OF THIS SEAT. 3 by the template 'for every input the law returns true; each argument reads behind the call as it read before'; 0 by the template 'total and deterministic' (their statements: YtaniedjfkiklmaaTotals.lean).
  GIVEN WITH THE SEED: the statements are not yours to turn. If you find one false, say at which input.
  Laid BY PROGRAM, IN A SANDBOX (cutbox-rows.mjs): the forced cells as the released guide's own fill.sh prints them over the translation 2069586b055b023b… (all of the seat's roots in one cut). By AI agents, Wed Nov 11 2026. No macro, syntax, notation, axiom, sorry.
-/
import Derived.Test.YtaniedjfkiklmaaChecked
import GoSem.Claim
import GoSem.ClaimJoined
import GoSem.ClaimMapViews
import Derived.JoinedTies
import Derived.KernelRfl
namespace Go.Proofs.Ytaniedjfkiklmaa
/- THE CELL 'sum', in the pinned program and in every row, IS THE sha256 OF THE DUMP (.gsa) THAT YtaniedjfkiklmaaProg.lean LOADS. Nothing in Lean hashes anything: it is a label: what it is worth is what the hold of that sum in a sandbox is worth. -/
noncomputable def Try.pinned : Pinned := { name := "ytaniedjfkiklmaa", sum := "2069586b055b023bef1e1de44bb7bb2ced28fc1663c94b1b1c8d42f7ba18e9ad", checked := Try.checked }
namespace Rows
def none {H : Type} : Left H := { results := [], args := [] }

/-- 'laws.FnExactDoneTalks': WHATEVER THE INPUT: true; the input reads as it did. -/
def fnExactDoneTalksSpec : ChangeSpec := { name := "fnExactDoneTalks", fn := fun _ => fun
  | [d] => { results := [.lit (.bool true)], args := [d] }
  | _ => none }
def fnExactDoneTalksRow : OpenClaim := { program := "ytaniedjfkiklmaa", sum := "2069586b055b023bef1e1de44bb7bb2ced28fc1663c94b1b1c8d42f7ba18e9ad", func := "loop.example/g00205/laws.FnExactDoneTalks", spec := "fnExactDoneTalks", plainKeys := false, apart := false }
def FnExactDoneTalksSaid : Prop := fnExactDoneTalksRow.holds Try.pinned (OpenSpec.ofChange fnExactDoneTalksSpec)

/-- ITS FALSE NEIGHBOUR: 'it returns false'. Refute it at one input. -/
def fnExactDoneTalksWrong : ChangeSpec := { name := "fnExactDoneTalks", fn := fun _ => fun
  | [d] => { results := [.lit (.bool false)], args := [d] }
  | _ => none }
def FnExactDoneTalksWrongFalsely : Prop := fnExactDoneTalksRow.holds Try.pinned (OpenSpec.ofChange fnExactDoneTalksWrong)

/-- 'laws.FnExactNewGate': WHATEVER THE INPUT: true; the input reads as it did. -/
def fnExactNewGateSpec : ChangeSpec := { name := "fnExactNewGate", fn := fun _ => fun
  | [d] => { results := [.lit (.bool true)], args := [d] }
  | _ => none }
def fnExactNewGateRow : OpenClaim := { program := "ytaniedjfkiklmaa", sum := "2069586b055b023bef1e1de44bb7bb2ced28fc1663c94b1b1c8d42f7ba18e9ad", func := "loop.example/g00205/laws.FnExactNewGate", spec := "fnExactNewGate", plainKeys := false, apart := false }
def FnExactNewGateSaid : Prop := fnExactNewGateRow.holds Try.pinned (OpenSpec.ofChange fnExactNewGateSpec)

/-- ITS FALSE NEIGHBOUR: 'it returns false'. Refute it at one input. -/
def fnExactNewGateWrong : ChangeSpec := { name := "fnExactNewGate", fn := fun _ => fun
  | [d] => { results := [.lit (.bool false)], args := [d] }
  | _ => none }
def FnExactNewGateWrongFalsely : Prop := fnExactNewGateRow.holds Try.pinned (OpenSpec.ofChange fnExactNewGateWrong)

/-- 'laws.FnExactGateFault': WHATEVER THE INPUT: true; the input reads as it did. -/
def fnExactGateFaultSpec : ChangeSpec := { name := "fnExactGateFault", fn := fun _ => fun
  | [d1, d2] => { results := [.lit (.bool true)], args := [d1, d2] }
  | _ => none }
def fnExactGateFaultRow : OpenClaim := { program := "ytaniedjfkiklmaa", sum := "2069586b055b023bef1e1de44bb7bb2ced28fc1663c94b1b1c8d42f7ba18e9ad", func := "loop.example/g00205/laws.FnExactGateFault", spec := "fnExactGateFault", unfollowed := true, recurses := true, plainKeys := false, apart := false }
def FnExactGateFaultSaid : Prop := fnExactGateFaultRow.holds Try.pinned (OpenSpec.ofChange fnExactGateFaultSpec)

/-- ITS FALSE NEIGHBOUR: 'it returns false'. Refute it at one input. -/
def fnExactGateFaultWrong : ChangeSpec := { name := "fnExactGateFault", fn := fun _ => fun
  | [d1, d2] => { results := [.lit (.bool false)], args := [d1, d2] }
  | _ => none }
def FnExactGateFaultWrongFalsely : Prop := fnExactGateFaultRow.holds Try.pinned (OpenSpec.ofChange fnExactGateFaultWrong)

/- THE SECOND FORM. 'bulk': how many values and letters a reading holds, each counted each time it is reached (what is shared counts as often as it is met; a slice's spare places count too). A statement '..UptoSaid' is the law's where the arguments, and the package variables that the reading takes, are together of bulk at most 1048576: NARROWER than '..Said'. Prove '..Said' where nothing that the law and all that it calls make is longer than what came in: it says more and counts as full. Else prove '..UptoSaid'. A law counts once. -/
mutual
def uptoBulk {H : Type} : DataW H → Nat
  | .lit (.string bytes) => bytes.length + 1
  | .lit _ => 1
  | .nil => 1
  | .ptr d => uptoBulk d + 1
  | .slice elems spare => uptoBulkAll elems + uptoBulkAll spare + 1
  | .agg parts => uptoBulkAll parts + 1
  | .iface _ d => uptoBulk d + 1
  | .map entries => uptoBulkEntries entries + 1
  | .held _ => 1
def uptoBulkAll {H : Type} : List (DataW H) → Nat
  | [] => 0
  | d :: r => uptoBulk d + uptoBulkAll r
def uptoBulkEntries {H : Type} : List (Lit × DataW H) → Nat
  | [] => 0
  | x :: r => uptoBulkEntry x + uptoBulkEntries r
def uptoBulkEntry {H : Type} : Lit × DataW H → Nat
  | (.string bytes, d) => bytes.length + uptoBulk d + 1
  | (_, d) => uptoBulk d + 1
 end
def uptoSmall : (H : Type) → List (DataW H) → Bool := fun _ ds => decide (uptoBulkAll ds ≤ 1048576)
def OpenSpec.upto (s : _root_.Go.ChangeSpec) : _root_.Go.OpenSpec := { _root_.Go.OpenSpec.ofChange s with cond := some uptoSmall }

/-- 'laws.FnExactDoneTalks', WHERE WHAT IT READS IS OF BULK AT MOST 1048576: true; the input reads as it did. -/
def fnExactDoneTalksUptoRow : OpenClaim := { program := "ytaniedjfkiklmaa", sum := "2069586b055b023bef1e1de44bb7bb2ced28fc1663c94b1b1c8d42f7ba18e9ad", func := "loop.example/g00205/laws.FnExactDoneTalks", spec := "fnExactDoneTalks", plainKeys := false, apart := false, narrowed := true }
def FnExactDoneTalksUptoSaid : Prop := fnExactDoneTalksUptoRow.holds Try.pinned (OpenSpec.upto fnExactDoneTalksSpec)

/-- 'laws.FnExactNewGate', WHERE WHAT IT READS IS OF BULK AT MOST 1048576: true; the input reads as it did. -/
def fnExactNewGateUptoRow : OpenClaim := { program := "ytaniedjfkiklmaa", sum := "2069586b055b023bef1e1de44bb7bb2ced28fc1663c94b1b1c8d42f7ba18e9ad", func := "loop.example/g00205/laws.FnExactNewGate", spec := "fnExactNewGate", plainKeys := false, apart := false, narrowed := true }
def FnExactNewGateUptoSaid : Prop := fnExactNewGateUptoRow.holds Try.pinned (OpenSpec.upto fnExactNewGateSpec)

/-- 'laws.FnExactGateFault', WHERE WHAT IT READS IS OF BULK AT MOST 1048576: true; the input reads as it did. -/
def fnExactGateFaultUptoRow : OpenClaim := { program := "ytaniedjfkiklmaa", sum := "2069586b055b023bef1e1de44bb7bb2ced28fc1663c94b1b1c8d42f7ba18e9ad", func := "loop.example/g00205/laws.FnExactGateFault", spec := "fnExactGateFault", unfollowed := true, recurses := true, plainKeys := false, apart := false, narrowed := true }
def FnExactGateFaultUptoSaid : Prop := fnExactGateFaultUptoRow.holds Try.pinned (OpenSpec.upto fnExactGateFaultSpec)

end Rows
end Go.Proofs.Ytaniedjfkiklmaa
