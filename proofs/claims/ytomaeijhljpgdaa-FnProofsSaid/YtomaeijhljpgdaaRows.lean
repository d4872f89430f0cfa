/-
  No cell of these rows narrows 'for every input' (looked for: loops, veiled, ifaces, maps, wideKeys, modest, calm, conditions, laid).
  DERIVED. THE GIVEN ROWS OF THIS SEAT. 7 by the template 'for every input the law returns true; each argument reads behind the call as it read before'; 0 by the template 'total and deterministic' (their statements: YtomaeijhljpgdaaTotals.lean).
  GIVEN WITH THE SEED: the statements are not yours to turn. If you find one false, say at which input.
  Laid BY PROGRAM, IN A SANDBOX (cutbox-rows.mjs): the forced cells as the released guide's own fill.sh prints them over the translation 1ba848f3bfd0a6b7… (all of the seat's roots in one cut). By AI agents, Wed Nov 11 2026. No macro, syntax, notation, axiom, sorry.
-/
import Derived.Test.YtomaeijhljpgdaaChecked
import GoSem.Claim
import GoSem.ClaimJoined
import GoSem.ClaimMapViews
import Derived.JoinedTies
import Derived.KernelRfl
namespace Go.Proofs.Ytomaeijhljpgdaa
/- THE CELL 'sum', in the pinned program and in every row, IS THE sha256 OF THE DUMP (.gsa) THAT YtomaeijhljpgdaaProg.lean LOADS. Nothing in Lean hashes anything: it is a label: what it is worth is what the hold of that sum in a sandbox is worth. -/
noncomputable def Try.pinned : Pinned := { name := "ytomaeijhljpgdaa", sum := "1ba848f3bfd0a6b72a536fd3f58d55df199fc73623fb8d19d6a1f929d02ee67b", checked := Try.checked }
namespace Rows
def none {H : Type} : Left H := { results := [], args := [] }

/-- 'laws.FnInterns': WHATEVER THE INPUT: true; the input reads as it did. -/
def fnInternsSpec : ChangeSpec := { name := "fnInterns", fn := fun _ => fun
  | [d] => { results := [.lit (.bool true)], args := [d] }
  | _ => none }
def fnInternsRow : OpenClaim := { program := "ytomaeijhljpgdaa", sum := "1ba848f3bfd0a6b72a536fd3f58d55df199fc73623fb8d19d6a1f929d02ee67b", func := "loop.example/g00205/laws.FnInterns", spec := "fnInterns", unfollowed := true, recurses := true, plainKeys := false, apart := false }
def FnInternsSaid : Prop := fnInternsRow.holds Try.pinned (OpenSpec.ofChange fnInternsSpec)

/-- ITS FALSE NEIGHBOUR: 'it returns false'. Refute it at one input. -/
def fnInternsWrong : ChangeSpec := { name := "fnInterns", fn := fun _ => fun
  | [d] => { results := [.lit (.bool false)], args := [d] }
  | _ => none }
def FnInternsWrongFalsely : Prop := fnInternsRow.holds Try.pinned (OpenSpec.ofChange fnInternsWrong)

/-- 'laws.FnLists': WHATEVER THE INPUT: true; the input reads as it did. -/
def fnListsSpec : ChangeSpec := { name := "fnLists", fn := fun _ => fun
  | [d] => { results := [.lit (.bool true)], args := [d] }
  | _ => none }
def fnListsRow : OpenClaim := { program := "ytomaeijhljpgdaa", sum := "1ba848f3bfd0a6b72a536fd3f58d55df199fc73623fb8d19d6a1f929d02ee67b", func := "loop.example/g00205/laws.FnLists", spec := "fnLists", unfollowed := true, recurses := true, plainKeys := false, apart := false }
def FnListsSaid : Prop := fnListsRow.holds Try.pinned (OpenSpec.ofChange fnListsSpec)

/-- ITS FALSE NEIGHBOUR: 'it returns false'. Refute it at one input. -/
def fnListsWrong : ChangeSpec := { name := "fnLists", fn := fun _ => fun
  | [d] => { results := [.lit (.bool false)], args := [d] }
  | _ => none }
def FnListsWrongFalsely : Prop := fnListsRow.holds Try.pinned (OpenSpec.ofChange fnListsWrong)

/-- 'laws.FnExactPutNames': WHATEVER THE INPUT: true; the input reads as it did. -/
def fnExactPutNamesSpec : ChangeSpec := { name := "fnExactPutNames", fn := fun _ => fun
  | [d1, d2] => { results := [.lit (.bool true)], args := [d1, d2] }
  | _ => none }
def fnExactPutNamesRow : OpenClaim := { program := "ytomaeijhljpgdaa", sum := "1ba848f3bfd0a6b72a536fd3f58d55df199fc73623fb8d19d6a1f929d02ee67b", func := "loop.example/g00205/laws.FnExactPutNames", spec := "fnExactPutNames", unfollowed := true, recurses := true, plainKeys := false, apart := false }
def FnExactPutNamesSaid : Prop := fnExactPutNamesRow.holds Try.pinned (OpenSpec.ofChange fnExactPutNamesSpec)

/-- ITS FALSE NEIGHBOUR: 'it returns false'. Refute it at one input. -/
def fnExactPutNamesWrong : ChangeSpec := { name := "fnExactPutNames", fn := fun _ => fun
  | [d1, d2] => { results := [.lit (.bool false)], args := [d1, d2] }
  | _ => none }
def FnExactPutNamesWrongFalsely : Prop := fnExactPutNamesRow.holds Try.pinned (OpenSpec.ofChange fnExactPutNamesWrong)

/-- 'laws.FnExactMakeProof': WHATEVER THE INPUT: true; the input reads as it did. -/
def fnExactMakeProofSpec : ChangeSpec := { name := "fnExactMakeProof", fn := fun _ => fun
  | [d1, d2, d3, d4, d5, d6] => { results := [.lit (.bool true)], args := [d1, d2, d3, d4, d5, d6] }
  | _ => none }
def fnExactMakeProofRow : OpenClaim := { program := "ytomaeijhljpgdaa", sum := "1ba848f3bfd0a6b72a536fd3f58d55df199fc73623fb8d19d6a1f929d02ee67b", func := "loop.example/g00205/laws.FnExactMakeProof", spec := "fnExactMakeProof", unfollowed := true, recurses := true, plainKeys := false, apart := false }
def FnExactMakeProofSaid : Prop := fnExactMakeProofRow.holds Try.pinned (OpenSpec.ofChange fnExactMakeProofSpec)

/-- ITS FALSE NEIGHBOUR: 'it returns false'. Refute it at one input. -/
def fnExactMakeProofWrong : ChangeSpec := { name := "fnExactMakeProof", fn := fun _ => fun
  | [d1, d2, d3, d4, d5, d6] => { results := [.lit (.bool false)], args := [d1, d2, d3, d4, d5, d6] }
  | _ => none }
def FnExactMakeProofWrongFalsely : Prop := fnExactMakeProofRow.holds Try.pinned (OpenSpec.ofChange fnExactMakeProofWrong)

/-- 'laws.FnExactMakeChild': WHATEVER THE INPUT: true; the input reads as it did. -/
def fnExactMakeChildSpec : ChangeSpec := { name := "fnExactMakeChild", fn := fun _ => fun
  | [d1, d2, d3, d4, d5, d6] => { results := [.lit (.bool true)], args := [d1, d2, d3, d4, d5, d6] }
  | _ => none }
def fnExactMakeChildRow : OpenClaim := { program := "ytomaeijhljpgdaa", sum := "1ba848f3bfd0a6b72a536fd3f58d55df199fc73623fb8d19d6a1f929d02ee67b", func := "loop.example/g00205/laws.FnExactMakeChild", spec := "fnExactMakeChild", unfollowed := true, recurses := true, plainKeys := false, apart := false }
def FnExactMakeChildSaid : Prop := fnExactMakeChildRow.holds Try.pinned (OpenSpec.ofChange fnExactMakeChildSpec)

/-- ITS FALSE NEIGHBOUR: 'it returns false'. Refute it at one input. -/
def fnExactMakeChildWrong : ChangeSpec := { name := "fnExactMakeChild", fn := fun _ => fun
  | [d1, d2, d3, d4, d5, d6] => { results := [.lit (.bool false)], args := [d1, d2, d3, d4, d5, d6] }
  | _ => none }
def FnExactMakeChildWrongFalsely : Prop := fnExactMakeChildRow.holds Try.pinned (OpenSpec.ofChange fnExactMakeChildWrong)

/-- 'laws.FnExactMakeKeys': WHATEVER THE INPUT: true; the input reads as it did. -/
def fnExactMakeKeysSpec : ChangeSpec := { name := "fnExactMakeKeys", fn := fun _ => fun
  | [d1, d2, d3, d4, d5, d6, d7] => { results := [.lit (.bool true)], args := [d1, d2, d3, d4, d5, d6, d7] }
  | _ => none }
def fnExactMakeKeysRow : OpenClaim := { program := "ytomaeijhljpgdaa", sum := "1ba848f3bfd0a6b72a536fd3f58d55df199fc73623fb8d19d6a1f929d02ee67b", func := "loop.example/g00205/laws.FnExactMakeKeys", spec := "fnExactMakeKeys", unfollowed := true, recurses := true, plainKeys := false, apart := false }
def FnExactMakeKeysSaid : Prop := fnExactMakeKeysRow.holds Try.pinned (OpenSpec.ofChange fnExactMakeKeysSpec)

/-- ITS FALSE NEIGHBOUR: 'it returns false'. Refute it at one input. -/
def fnExactMakeKeysWrong : ChangeSpec := { name := "fnExactMakeKeys", fn := fun _ => fun
  | [d1, d2, d3, d4, d5, d6, d7] => { results := [.lit (.bool false)], args := [d1, d2, d3, d4, d5, d6, d7] }
  | _ => none }
def FnExactMakeKeysWrongFalsely : Prop := fnExactMakeKeysRow.holds Try.pinned (OpenSpec.ofChange fnExactMakeKeysWrong)

/-- 'laws.FnProofs': WHATEVER THE INPUT: true; the input reads as it did. -/
def fnProofsSpec : ChangeSpec := { name := "fnProofs", fn := fun _ => fun
  | [d] => { results := [.lit (.bool true)], args := [d] }
  | _ => none }
def fnProofsRow : OpenClaim := { program := "ytomaeijhljpgdaa", sum := "1ba848f3bfd0a6b72a536fd3f58d55df199fc73623fb8d19d6a1f929d02ee67b", func := "loop.example/g00205/laws.FnProofs", spec := "fnProofs", unfollowed := true, recurses := true, plainKeys := false, apart := false }
def FnProofsSaid : Prop := fnProofsRow.holds Try.pinned (OpenSpec.ofChange fnProofsSpec)

/-- ITS FALSE NEIGHBOUR: 'it returns false'. Refute it at one input. -/
def fnProofsWrong : ChangeSpec := { name := "fnProofs", fn := fun _ => fun
  | [d] => { results := [.lit (.bool false)], args := [d] }
  | _ => none }
def FnProofsWrongFalsely : Prop := fnProofsRow.holds Try.pinned (OpenSpec.ofChange fnProofsWrong)

/- THE SECOND FORM. 'bulk': how many values and letters a reading holds, each counted each time it is reached (what is shared counts as often as it is met; a slice's spare places count too). A statement '..UptoSaid' is the law's where the arguments, and the package variables that the reading takes, are together of bulk at most 1048576: NARROWER than '..Said'. Prove '..Said' where nothing that the law and all that it calls make is longer than what came in: it says more and counts as full. Else prove '..UptoSaid'. A law counts once. -/
mutual
def uptoBulk {H : Type} : DataW H → Nat
  | .lit (.string bytes) => bytes.length + 1
  | .lit _ => 1
  | .nil => 1
  | .ptr d => uptoBulk d + 1
  | .slice elems spare => uptoBulkAll elems + uptoBulkAll spare + 1
  | .agg parts => uptoBulkAll parts + 1
  | .iface _ d => uptoBulk d + 1
  | .map entries => uptoBulkEntries entries + 1
  | .held _ => 1
def uptoBulkAll {H : Type} : List (DataW H) → Nat
  | [] => 0
  | d :: r => uptoBulk d + uptoBulkAll r
def uptoBulkEntries {H : Type} : List (Lit × DataW H) → Nat
  | [] => 0
  | x :: r => uptoBulkEntry x + uptoBulkEntries r
def uptoBulkEntry {H : Type} : Lit × DataW H → Nat
  | (.string bytes, d) => bytes.length + uptoBulk d + 1
  | (_, d) => uptoBulk d + 1
 end
def uptoSmall : (H : Type) → List (DataW H) → Bool := fun _ ds => decide (uptoBulkAll ds ≤ 1048576)
def OpenSpec.upto (s : _root_.Go.ChangeSpec) : _root_.Go.OpenSpec := { _root_.Go.OpenSpec.ofChange s with cond := some uptoSmall }

/-- 'laws.FnInterns', WHERE WHAT IT READS IS OF BULK AT MOST 1048576: true; the input reads as it did. -/
def fnInternsUptoRow : OpenClaim := { program := "ytomaeijhljpgdaa", sum := "1ba848f3bfd0a6b72a536fd3f58d55df199fc73623fb8d19d6a1f929d02ee67b", func := "loop.example/g00205/laws.FnInterns", spec := "fnInterns", unfollowed := true, recurses := true, plainKeys := false, apart := false, narrowed := true }
def FnInternsUptoSaid : Prop := fnInternsUptoRow.holds Try.pinned (OpenSpec.upto fnInternsSpec)

/-- 'laws.FnLists', WHERE WHAT IT READS IS OF BULK AT MOST 1048576: true; the input reads as it did. -/
def fnListsUptoRow : OpenClaim := { program := "ytomaeijhljpgdaa", sum := "1ba848f3bfd0a6b72a536fd3f58d55df199fc73623fb8d19d6a1f929d02ee67b", func := "loop.example/g00205/laws.FnLists", spec := "fnLists", unfollowed := true, recurses := true, plainKeys := false, apart := false, narrowed := true }
def FnListsUptoSaid : Prop := fnListsUptoRow.holds Try.pinned (OpenSpec.upto fnListsSpec)

/-- 'laws.FnExactPutNames', WHERE WHAT IT READS IS OF BULK AT MOST 1048576: true; the input reads as it did. -/
def fnExactPutNamesUptoRow : OpenClaim := { program := "ytomaeijhljpgdaa", sum := "1ba848f3bfd0a6b72a536fd3f58d55df199fc73623fb8d19d6a1f929d02ee67b", func := "loop.example/g00205/laws.FnExactPutNames", spec := "fnExactPutNames", unfollowed := true, recurses := true, plainKeys := false, apart := false, narrowed := true }
def FnExactPutNamesUptoSaid : Prop := fnExactPutNamesUptoRow.holds Try.pinned (OpenSpec.upto fnExactPutNamesSpec)

/-- 'laws.FnExactMakeProof', WHERE WHAT IT READS IS OF BULK AT MOST 1048576: true; the input reads as it did. -/
def fnExactMakeProofUptoRow : OpenClaim := { program := "ytomaeijhljpgdaa", sum := "1ba848f3bfd0a6b72a536fd3f58d55df199fc73623fb8d19d6a1f929d02ee67b", func := "loop.example/g00205/laws.FnExactMakeProof", spec := "fnExactMakeProof", unfollowed := true, recurses := true, plainKeys := false, apart := false, narrowed := true }
def FnExactMakeProofUptoSaid : Prop := fnExactMakeProofUptoRow.holds Try.pinned (OpenSpec.upto fnExactMakeProofSpec)

/-- 'laws.FnExactMakeChild', WHERE WHAT IT READS IS OF BULK AT MOST 1048576: true; the input reads as it did. -/
def fnExactMakeChildUptoRow : OpenClaim := { program := "ytomaeijhljpgdaa", sum := "1ba848f3bfd0a6b72a536fd3f58d55df199fc73623fb8d19d6a1f929d02ee67b", func := "loop.example/g00205/laws.FnExactMakeChild", spec := "fnExactMakeChild", unfollowed := true, recurses := true, plainKeys := false, apart := false, narrowed := true }
def FnExactMakeChildUptoSaid : Prop := fnExactMakeChildUptoRow.holds Try.pinned (OpenSpec.upto fnExactMakeChildSpec)

/-- 'laws.FnExactMakeKeys', WHERE WHAT IT READS IS OF BULK AT MOST 1048576: true; the input reads as it did. -/
def fnExactMakeKeysUptoRow : OpenClaim := { program := "ytomaeijhljpgdaa", sum := "1ba848f3bfd0a6b72a536fd3f58d55df199fc73623fb8d19d6a1f929d02ee67b", func := "loop.example/g00205/laws.FnExactMakeKeys", spec := "fnExactMakeKeys", unfollowed := true, recurses := true, plainKeys := false, apart := false, narrowed := true }
def FnExactMakeKeysUptoSaid : Prop := fnExactMakeKeysUptoRow.holds Try.pinned (OpenSpec.upto fnExactMakeKeysSpec)

/-- 'laws.FnProofs', WHERE WHAT IT READS IS OF BULK AT MOST 1048576: true; the input reads as it did. -/
def fnProofsUptoRow : OpenClaim := { program := "ytomaeijhljpgdaa", sum := "1ba848f3bfd0a6b72a536fd3f58d55df199fc73623fb8d19d6a1f929d02ee67b", func := "loop.example/g00205/laws.FnProofs", spec := "fnProofs", unfollowed := true, recurses := true, plainKeys := false, apart := false, narrowed := true }
def FnProofsUptoSaid : Prop := fnProofsUptoRow.holds Try.pinned (OpenSpec.upto fnProofsSpec)

end Rows
end Go.Proofs.Ytomaeijhljpgdaa
