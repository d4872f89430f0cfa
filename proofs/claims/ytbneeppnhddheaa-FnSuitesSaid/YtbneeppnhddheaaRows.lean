/-
  No cell of these rows narrows 'for every input' (looked for: loops, veiled, ifaces, maps, wideKeys, modest, calm, conditions, laid).
  DERIVED. THE GIVEN ROWS OF THIS SEAT. 4 by the template 'for every input the law returns true; each argument reads behind the call as it read before'; 0 by the template 'total and deterministic' (their statements: YtbneeppnhddheaaTotals.lean).
  GIVEN WITH THE SEED: the statements are not yours to turn. If you find one false, say at which input.
  Laid BY PROGRAM, IN A SANDBOX (cutbox-rows.mjs): the forced cells as the released guide's own fill.sh prints them over the translation d12517787249534c… (all of the seat's roots in one cut). By AI agents, Wed Nov 11 2026. No macro, syntax, notation, axiom, sorry.
-/
import Derived.Test.YtbneeppnhddheaaChecked
import GoSem.Claim
import GoSem.ClaimJoined
import GoSem.ClaimMapViews
import Derived.JoinedTies
import Derived.KernelRfl
namespace Go.Proofs.Ytbneeppnhddheaa
/- THE CELL 'sum', in the pinned program and in every row, IS THE sha256 OF THE DUMP (.gsa) THAT YtbneeppnhddheaaProg.lean LOADS. Nothing in Lean hashes anything: it is a label: what it is worth is what the hold of that sum in a sandbox is worth. -/
noncomputable def Try.pinned : Pinned := { name := "ytbneeppnhddheaa", sum := "d12517787249534ce97fda9b4ca2fb7e912eb2d6914e396e5b0e0eaf41c1c992", checked := Try.checked }
namespace Rows
def none {H : Type} : Left H := { results := [], args := [] }

/-- 'laws.FnExactStrongestOf': WHATEVER THE INPUT: true; the input reads as it did. -/
def fnExactStrongestOfSpec : ChangeSpec := { name := "fnExactStrongestOf", fn := fun _ => fun
  | [d] => { results := [.lit (.bool true)], args := [d] }
  | _ => none }
def fnExactStrongestOfRow : OpenClaim := { program := "ytbneeppnhddheaa", sum := "d12517787249534ce97fda9b4ca2fb7e912eb2d6914e396e5b0e0eaf41c1c992", func := "loop.example/g00205/laws.FnExactStrongestOf", spec := "fnExactStrongestOf", unfollowed := true, recurses := true, apart := false }
def FnExactStrongestOfSaid : Prop := fnExactStrongestOfRow.holds Try.pinned (OpenSpec.ofChange fnExactStrongestOfSpec)

/-- ITS FALSE NEIGHBOUR: 'it returns false'. Refute it at one input. -/
def fnExactStrongestOfWrong : ChangeSpec := { name := "fnExactStrongestOf", fn := fun _ => fun
  | [d] => { results := [.lit (.bool false)], args := [d] }
  | _ => none }
def FnExactStrongestOfWrongFalsely : Prop := fnExactStrongestOfRow.holds Try.pinned (OpenSpec.ofChange fnExactStrongestOfWrong)

/-- 'laws.FnExactChooseSuite': WHATEVER THE INPUT: true; the input reads as it did. -/
def fnExactChooseSuiteSpec : ChangeSpec := { name := "fnExactChooseSuite", fn := fun _ => fun
  | [d1, d2] => { results := [.lit (.bool true)], args := [d1, d2] }
  | _ => none }
def fnExactChooseSuiteRow : OpenClaim := { program := "ytbneeppnhddheaa", sum := "d12517787249534ce97fda9b4ca2fb7e912eb2d6914e396e5b0e0eaf41c1c992", func := "loop.example/g00205/laws.FnExactChooseSuite", spec := "fnExactChooseSuite", unfollowed := true, recurses := true, apart := false }
def FnExactChooseSuiteSaid : Prop := fnExactChooseSuiteRow.holds Try.pinned (OpenSpec.ofChange fnExactChooseSuiteSpec)

/-- ITS FALSE NEIGHBOUR: 'it returns false'. Refute it at one input. -/
def fnExactChooseSuiteWrong : ChangeSpec := { name := "fnExactChooseSuite", fn := fun _ => fun
  | [d1, d2] => { results := [.lit (.bool false)], args := [d1, d2] }
  | _ => none }
def FnExactChooseSuiteWrongFalsely : Prop := fnExactChooseSuiteRow.holds Try.pinned (OpenSpec.ofChange fnExactChooseSuiteWrong)

/-- 'laws.FnExactCommonSuites': WHATEVER THE INPUT: true; the input reads as it did. -/
def fnExactCommonSuitesSpec : ChangeSpec := { name := "fnExactCommonSuites", fn := fun _ => fun
  | [d1, d2] => { results := [.lit (.bool true)], args := [d1, d2] }
  | _ => none }
def fnExactCommonSuitesRow : OpenClaim := { program := "ytbneeppnhddheaa", sum := "d12517787249534ce97fda9b4ca2fb7e912eb2d6914e396e5b0e0eaf41c1c992", func := "loop.example/g00205/laws.FnExactCommonSuites", spec := "fnExactCommonSuites", unfollowed := true, recurses := true, apart := false }
def FnExactCommonSuitesSaid : Prop := fnExactCommonSuitesRow.holds Try.pinned (OpenSpec.ofChange fnExactCommonSuitesSpec)

/-- ITS FALSE NEIGHBOUR: 'it returns false'. Refute it at one input. -/
def fnExactCommonSuitesWrong : ChangeSpec := { name := "fnExactCommonSuites", fn := fun _ => fun
  | [d1, d2] => { results := [.lit (.bool false)], args := [d1, d2] }
  | _ => none }
def FnExactCommonSuitesWrongFalsely : Prop := fnExactCommonSuitesRow.holds Try.pinned (OpenSpec.ofChange fnExactCommonSuitesWrong)

/-- 'laws.FnSuites': WHATEVER THE INPUT: true; the input reads as it did. -/
def fnSuitesSpec : ChangeSpec := { name := "fnSuites", fn := fun _ => fun
  | [d] => { results := [.lit (.bool true)], args := [d] }
  | _ => none }
def fnSuitesRow : OpenClaim := { program := "ytbneeppnhddheaa", sum := "d12517787249534ce97fda9b4ca2fb7e912eb2d6914e396e5b0e0eaf41c1c992", func := "loop.example/g00205/laws.FnSuites", spec := "fnSuites", unfollowed := true, recurses := true, apart := false }
def FnSuitesSaid : Prop := fnSuitesRow.holds Try.pinned (OpenSpec.ofChange fnSuitesSpec)

/-- ITS FALSE NEIGHBOUR: 'it returns false'. Refute it at one input. -/
def fnSuitesWrong : ChangeSpec := { name := "fnSuites", fn := fun _ => fun
  | [d] => { results := [.lit (.bool false)], args := [d] }
  | _ => none }
def FnSuitesWrongFalsely : Prop := fnSuitesRow.holds Try.pinned (OpenSpec.ofChange fnSuitesWrong)

/- THE SECOND FORM. 'bulk': how many values and letters a reading holds, each counted each time it is reached (what is shared counts as often as it is met; a slice's spare places count too). A statement '..UptoSaid' is the law's where the arguments, and the package variables that the reading takes, are together of bulk at most 1048576: NARROWER than '..Said'. Prove '..Said' where nothing that the law and all that it calls make is longer than what came in: it says more and counts as full. Else prove '..UptoSaid'. A law counts once. -/
mutual
def uptoBulk {H : Type} : DataW H → Nat
  | .lit (.string bytes) => bytes.length + 1
  | .lit _ => 1
  | .nil => 1
  | .ptr d => uptoBulk d + 1
  | .slice elems spare => uptoBulkAll elems + uptoBulkAll spare + 1
  | .agg parts => uptoBulkAll parts + 1
  | .iface _ d => uptoBulk d + 1
  | .map entries => uptoBulkEntries entries + 1
  | .held _ => 1
def uptoBulkAll {H : Type} : List (DataW H) → Nat
  | [] => 0
  | d :: r => uptoBulk d + uptoBulkAll r
def uptoBulkEntries {H : Type} : List (Lit × DataW H) → Nat
  | [] => 0
  | x :: r => uptoBulkEntry x + uptoBulkEntries r
def uptoBulkEntry {H : Type} : Lit × DataW H → Nat
  | (.string bytes, d) => bytes.length + uptoBulk d + 1
  | (_, d) => uptoBulk d + 1
 end
def uptoSmall : (H : Type) → List (DataW H) → Bool := fun _ ds => decide (uptoBulkAll ds ≤ 1048576)
def OpenSpec.upto (s : _root_.Go.ChangeSpec) : _root_.Go.OpenSpec := { _root_.Go.OpenSpec.ofChange s with cond := some uptoSmall }

/-- 'laws.FnExactStrongestOf', WHERE WHAT IT READS IS OF BULK AT MOST 1048576: true; the input reads as it did. -/
def fnExactStrongestOfUptoRow : OpenClaim := { program := "ytbneeppnhddheaa", sum := "d12517787249534ce97fda9b4ca2fb7e912eb2d6914e396e5b0e0eaf41c1c992", func := "loop.example/g00205/laws.FnExactStrongestOf", spec := "fnExactStrongestOf", unfollowed := true, recurses := true, apart := false, narrowed := true }
def FnExactStrongestOfUptoSaid : Prop := fnExactStrongestOfUptoRow.holds Try.pinned (OpenSpec.upto fnExactStrongestOfSpec)

/-- 'laws.FnExactChooseSuite', WHERE WHAT IT READS IS OF BULK AT MOST 1048576: true; the input reads as it did. -/
def fnExactChooseSuiteUptoRow : OpenClaim := { program := "ytbneeppnhddheaa", sum := "d12517787249534ce97fda9b4ca2fb7e912eb2d6914e396e5b0e0eaf41c1c992", func := "loop.example/g00205/laws.FnExactChooseSuite", spec := "fnExactChooseSuite", unfollowed := true, recurses := true, apart := false, narrowed := true }
def FnExactChooseSuiteUptoSaid : Prop := fnExactChooseSuiteUptoRow.holds Try.pinned (OpenSpec.upto fnExactChooseSuiteSpec)

/-- 'laws.FnExactCommonSuites', WHERE WHAT IT READS IS OF BULK AT MOST 1048576: true; the input reads as it did. -/
def fnExactCommonSuitesUptoRow : OpenClaim := { program := "ytbneeppnhddheaa", sum := "d12517787249534ce97fda9b4ca2fb7e912eb2d6914e396e5b0e0eaf41c1c992", func := "loop.example/g00205/laws.FnExactCommonSuites", spec := "fnExactCommonSuites", unfollowed := true, recurses := true, apart := false, narrowed := true }
def FnExactCommonSuitesUptoSaid : Prop := fnExactCommonSuitesUptoRow.holds Try.pinned (OpenSpec.upto fnExactCommonSuitesSpec)

/-- 'laws.FnSuites', WHERE WHAT IT READS IS OF BULK AT MOST 1048576: true; the input reads as it did. -/
def fnSuitesUptoRow : OpenClaim := { program := "ytbneeppnhddheaa", sum := "d12517787249534ce97fda9b4ca2fb7e912eb2d6914e396e5b0e0eaf41c1c992", func := "loop.example/g00205/laws.FnSuites", spec := "fnSuites", unfollowed := true, recurses := true, apart := false, narrowed := true }
def FnSuitesUptoSaid : Prop := fnSuitesUptoRow.holds Try.pinned (OpenSpec.upto fnSuitesSpec)

end Rows
end Go.Proofs.Ytbneeppnhddheaa
