/-
  No cell of these rows narrows 'for every input' (looked for: loops, veiled, ifaces, maps, wideKeys, modest, calm, conditions, laid).
  DERIVED. THE GIVEN ROWS OF THIS SEAT. 8 by the template 'for every input the law returns true; each argument reads behind the call as it read before'; 0 by the template 'total and deterministic' (their statements: YtgognaaljleioaaTotals.lean).
  GIVEN WITH THE SEED: the statements are not yours to turn. If you find one false, say at which input.
  Laid BY PROGRAM, IN A SANDBOX (cutbox-rows.mjs): the forced cells as the released guide's own fill.sh prints them over the translation c5e072c7d8c00ebc… (all of the seat's roots in one cut). By AI agents, Wed Nov 11 2026. No macro, syntax, notation, axiom, sorry.
-/
import Derived.Test.YtgognaaljleioaaChecked
import GoSem.Claim
import GoSem.ClaimJoined
import GoSem.ClaimMapViews
import Derived.JoinedTies
import Derived.KernelRfl
namespace Go.Proofs.Ytgognaaljleioaa
/- THE CELL 'sum', in the pinned program and in every row, IS THE sha256 OF THE DUMP (.gsa) THAT YtgognaaljleioaaProg.lean LOADS. Nothing in Lean hashes anything: it is a label: what it is worth is what the hold of that sum in a sandbox is worth. -/
noncomputable def Try.pinned : Pinned := { name := "ytgognaaljleioaa", sum := "c5e072c7d8c00ebc43dbcf2f59db64290bf0521794f60f8932dd6c90da95e62e", checked := Try.checked }
namespace Rows
def none {H : Type} : Left H := { results := [], args := [] }

/-- 'laws.FnExactNameAt': WHATEVER THE INPUT: true; the input reads as it did. -/
def fnExactNameAtSpec : ChangeSpec := { name := "fnExactNameAt", fn := fun _ => fun
  | [d1, d2] => { results := [.lit (.bool true)], args := [d1, d2] }
  | _ => none }
def fnExactNameAtRow : OpenClaim := { program := "ytgognaaljleioaa", sum := "c5e072c7d8c00ebc43dbcf2f59db64290bf0521794f60f8932dd6c90da95e62e", func := "loop.example/g00205/laws.FnExactNameAt", spec := "fnExactNameAt", unfollowed := true, recurses := true, plainKeys := false, apart := false }
def FnExactNameAtSaid : Prop := fnExactNameAtRow.holds Try.pinned (OpenSpec.ofChange fnExactNameAtSpec)

/-- ITS FALSE NEIGHBOUR: 'it returns false'. Refute it at one input. -/
def fnExactNameAtWrong : ChangeSpec := { name := "fnExactNameAt", fn := fun _ => fun
  | [d1, d2] => { results := [.lit (.bool false)], args := [d1, d2] }
  | _ => none }
def FnExactNameAtWrongFalsely : Prop := fnExactNameAtRow.holds Try.pinned (OpenSpec.ofChange fnExactNameAtWrong)

/-- 'laws.FnExactOpenSeal': WHATEVER THE INPUT: true; the input reads as it did. -/
def fnExactOpenSealSpec : ChangeSpec := { name := "fnExactOpenSeal", fn := fun _ => fun
  | [d1, d2, d3] => { results := [.lit (.bool true)], args := [d1, d2, d3] }
  | _ => none }
def fnExactOpenSealRow : OpenClaim := { program := "ytgognaaljleioaa", sum := "c5e072c7d8c00ebc43dbcf2f59db64290bf0521794f60f8932dd6c90da95e62e", func := "loop.example/g00205/laws.FnExactOpenSeal", spec := "fnExactOpenSeal", unfollowed := true, recurses := true, plainKeys := false, apart := false }
def FnExactOpenSealSaid : Prop := fnExactOpenSealRow.holds Try.pinned (OpenSpec.ofChange fnExactOpenSealSpec)

/-- ITS FALSE NEIGHBOUR: 'it returns false'. Refute it at one input. -/
def fnExactOpenSealWrong : ChangeSpec := { name := "fnExactOpenSeal", fn := fun _ => fun
  | [d1, d2, d3] => { results := [.lit (.bool false)], args := [d1, d2, d3] }
  | _ => none }
def FnExactOpenSealWrongFalsely : Prop := fnExactOpenSealRow.holds Try.pinned (OpenSpec.ofChange fnExactOpenSealWrong)

/-- 'laws.FnExactKindOf': WHATEVER THE INPUT: true; the input reads as it did. -/
def fnExactKindOfSpec : ChangeSpec := { name := "fnExactKindOf", fn := fun _ => fun
  | [d1, d2] => { results := [.lit (.bool true)], args := [d1, d2] }
  | _ => none }
def fnExactKindOfRow : OpenClaim := { program := "ytgognaaljleioaa", sum := "c5e072c7d8c00ebc43dbcf2f59db64290bf0521794f60f8932dd6c90da95e62e", func := "loop.example/g00205/laws.FnExactKindOf", spec := "fnExactKindOf", unfollowed := true, recurses := true, plainKeys := false, apart := false }
def FnExactKindOfSaid : Prop := fnExactKindOfRow.holds Try.pinned (OpenSpec.ofChange fnExactKindOfSpec)

/-- ITS FALSE NEIGHBOUR: 'it returns false'. Refute it at one input. -/
def fnExactKindOfWrong : ChangeSpec := { name := "fnExactKindOf", fn := fun _ => fun
  | [d1, d2] => { results := [.lit (.bool false)], args := [d1, d2] }
  | _ => none }
def FnExactKindOfWrongFalsely : Prop := fnExactKindOfRow.holds Try.pinned (OpenSpec.ofChange fnExactKindOfWrong)

/-- 'laws.FnExactPutTerm': WHATEVER THE INPUT: true; the input reads as it did. -/
def fnExactPutTermSpec : ChangeSpec := { name := "fnExactPutTerm", fn := fun _ => fun
  | [d1, d2] => { results := [.lit (.bool true)], args := [d1, d2] }
  | _ => none }
def fnExactPutTermRow : OpenClaim := { program := "ytgognaaljleioaa", sum := "c5e072c7d8c00ebc43dbcf2f59db64290bf0521794f60f8932dd6c90da95e62e", func := "loop.example/g00205/laws.FnExactPutTerm", spec := "fnExactPutTerm", unfollowed := true, recurses := true, plainKeys := false, apart := false }
def FnExactPutTermSaid : Prop := fnExactPutTermRow.holds Try.pinned (OpenSpec.ofChange fnExactPutTermSpec)

/-- ITS FALSE NEIGHBOUR: 'it returns false'. Refute it at one input. -/
def fnExactPutTermWrong : ChangeSpec := { name := "fnExactPutTerm", fn := fun _ => fun
  | [d1, d2] => { results := [.lit (.bool false)], args := [d1, d2] }
  | _ => none }
def FnExactPutTermWrongFalsely : Prop := fnExactPutTermRow.holds Try.pinned (OpenSpec.ofChange fnExactPutTermWrong)

/-- 'laws.FnExactSplitList': WHATEVER THE INPUT: true; the input reads as it did. -/
def fnExactSplitListSpec : ChangeSpec := { name := "fnExactSplitList", fn := fun _ => fun
  | [d1, d2, d3] => { results := [.lit (.bool true)], args := [d1, d2, d3] }
  | _ => none }
def fnExactSplitListRow : OpenClaim := { program := "ytgognaaljleioaa", sum := "c5e072c7d8c00ebc43dbcf2f59db64290bf0521794f60f8932dd6c90da95e62e", func := "loop.example/g00205/laws.FnExactSplitList", spec := "fnExactSplitList", unfollowed := true, recurses := true, plainKeys := false, apart := false }
def FnExactSplitListSaid : Prop := fnExactSplitListRow.holds Try.pinned (OpenSpec.ofChange fnExactSplitListSpec)

/-- ITS FALSE NEIGHBOUR: 'it returns false'. Refute it at one input. -/
def fnExactSplitListWrong : ChangeSpec := { name := "fnExactSplitList", fn := fun _ => fun
  | [d1, d2, d3] => { results := [.lit (.bool false)], args := [d1, d2, d3] }
  | _ => none }
def FnExactSplitListWrongFalsely : Prop := fnExactSplitListRow.holds Try.pinned (OpenSpec.ofChange fnExactSplitListWrong)

/-- 'laws.FnExactPutBoth': WHATEVER THE INPUT: true; the input reads as it did. -/
def fnExactPutBothSpec : ChangeSpec := { name := "fnExactPutBoth", fn := fun _ => fun
  | [d1, d2, d3] => { results := [.lit (.bool true)], args := [d1, d2, d3] }
  | _ => none }
def fnExactPutBothRow : OpenClaim := { program := "ytgognaaljleioaa", sum := "c5e072c7d8c00ebc43dbcf2f59db64290bf0521794f60f8932dd6c90da95e62e", func := "loop.example/g00205/laws.FnExactPutBoth", spec := "fnExactPutBoth", unfollowed := true, recurses := true, plainKeys := false, apart := false }
def FnExactPutBothSaid : Prop := fnExactPutBothRow.holds Try.pinned (OpenSpec.ofChange fnExactPutBothSpec)

/-- ITS FALSE NEIGHBOUR: 'it returns false'. Refute it at one input. -/
def fnExactPutBothWrong : ChangeSpec := { name := "fnExactPutBoth", fn := fun _ => fun
  | [d1, d2, d3] => { results := [.lit (.bool false)], args := [d1, d2, d3] }
  | _ => none }
def FnExactPutBothWrongFalsely : Prop := fnExactPutBothRow.holds Try.pinned (OpenSpec.ofChange fnExactPutBothWrong)

/-- 'laws.FnExactSharedOf': WHATEVER THE INPUT: true; the input reads as it did. -/
def fnExactSharedOfSpec : ChangeSpec := { name := "fnExactSharedOf", fn := fun _ => fun
  | [d1, d2, d3] => { results := [.lit (.bool true)], args := [d1, d2, d3] }
  | _ => none }
def fnExactSharedOfRow : OpenClaim := { program := "ytgognaaljleioaa", sum := "c5e072c7d8c00ebc43dbcf2f59db64290bf0521794f60f8932dd6c90da95e62e", func := "loop.example/g00205/laws.FnExactSharedOf", spec := "fnExactSharedOf", unfollowed := true, recurses := true, plainKeys := false, apart := false }
def FnExactSharedOfSaid : Prop := fnExactSharedOfRow.holds Try.pinned (OpenSpec.ofChange fnExactSharedOfSpec)

/-- ITS FALSE NEIGHBOUR: 'it returns false'. Refute it at one input. -/
def fnExactSharedOfWrong : ChangeSpec := { name := "fnExactSharedOf", fn := fun _ => fun
  | [d1, d2, d3] => { results := [.lit (.bool false)], args := [d1, d2, d3] }
  | _ => none }
def FnExactSharedOfWrongFalsely : Prop := fnExactSharedOfRow.holds Try.pinned (OpenSpec.ofChange fnExactSharedOfWrong)

/-- 'laws.FnExactPutList': WHATEVER THE INPUT: true; the input reads as it did. -/
def fnExactPutListSpec : ChangeSpec := { name := "fnExactPutList", fn := fun _ => fun
  | [d1, d2] => { results := [.lit (.bool true)], args := [d1, d2] }
  | _ => none }
def fnExactPutListRow : OpenClaim := { program := "ytgognaaljleioaa", sum := "c5e072c7d8c00ebc43dbcf2f59db64290bf0521794f60f8932dd6c90da95e62e", func := "loop.example/g00205/laws.FnExactPutList", spec := "fnExactPutList", unfollowed := true, recurses := true, plainKeys := false, apart := false }
def FnExactPutListSaid : Prop := fnExactPutListRow.holds Try.pinned (OpenSpec.ofChange fnExactPutListSpec)

/-- ITS FALSE NEIGHBOUR: 'it returns false'. Refute it at one input. -/
def fnExactPutListWrong : ChangeSpec := { name := "fnExactPutList", fn := fun _ => fun
  | [d1, d2] => { results := [.lit (.bool false)], args := [d1, d2] }
  | _ => none }
def FnExactPutListWrongFalsely : Prop := fnExactPutListRow.holds Try.pinned (OpenSpec.ofChange fnExactPutListWrong)

/- THE SECOND FORM. 'bulk': how many values and letters a reading holds, each counted each time it is reached (what is shared counts as often as it is met; a slice's spare places count too). A statement '..UptoSaid' is the law's where the arguments, and the package variables that the reading takes, are together of bulk at most 1048576: NARROWER than '..Said'. Prove '..Said' where nothing that the law and all that it calls make is longer than what came in: it says more and counts as full. Else prove '..UptoSaid'. A law counts once. -/
mutual
def uptoBulk {H : Type} : DataW H → Nat
  | .lit (.string bytes) => bytes.length + 1
  | .lit _ => 1
  | .nil => 1
  | .ptr d => uptoBulk d + 1
  | .slice elems spare => uptoBulkAll elems + uptoBulkAll spare + 1
  | .agg parts => uptoBulkAll parts + 1
  | .iface _ d => uptoBulk d + 1
  | .map entries => uptoBulkEntries entries + 1
  | .held _ => 1
def uptoBulkAll {H : Type} : List (DataW H) → Nat
  | [] => 0
  | d :: r => uptoBulk d + uptoBulkAll r
def uptoBulkEntries {H : Type} : List (Lit × DataW H) → Nat
  | [] => 0
  | x :: r => uptoBulkEntry x + uptoBulkEntries r
def uptoBulkEntry {H : Type} : Lit × DataW H → Nat
  | (.string bytes, d) => bytes.length + uptoBulk d + 1
  | (_, d) => uptoBulk d + 1
 end
def uptoSmall : (H : Type) → List (DataW H) → Bool := fun _ ds => decide (uptoBulkAll ds ≤ 1048576)
def OpenSpec.upto (s : _root_.Go.ChangeSpec) : _root_.Go.OpenSpec := { _root_.Go.OpenSpec.ofChange s with cond := some uptoSmall }

/-- 'laws.FnExactNameAt', WHERE WHAT IT READS IS OF BULK AT MOST 1048576: true; the input reads as it did. -/
def fnExactNameAtUptoRow : OpenClaim := { program := "ytgognaaljleioaa", sum := "c5e072c7d8c00ebc43dbcf2f59db64290bf0521794f60f8932dd6c90da95e62e", func := "loop.example/g00205/laws.FnExactNameAt", spec := "fnExactNameAt", unfollowed := true, recurses := true, plainKeys := false, apart := false, narrowed := true }
def FnExactNameAtUptoSaid : Prop := fnExactNameAtUptoRow.holds Try.pinned (OpenSpec.upto fnExactNameAtSpec)

/-- 'laws.FnExactOpenSeal', WHERE WHAT IT READS IS OF BULK AT MOST 1048576: true; the input reads as it did. -/
def fnExactOpenSealUptoRow : OpenClaim := { program := "ytgognaaljleioaa", sum := "c5e072c7d8c00ebc43dbcf2f59db64290bf0521794f60f8932dd6c90da95e62e", func := "loop.example/g00205/laws.FnExactOpenSeal", spec := "fnExactOpenSeal", unfollowed := true, recurses := true, plainKeys := false, apart := false, narrowed := true }
def FnExactOpenSealUptoSaid : Prop := fnExactOpenSealUptoRow.holds Try.pinned (OpenSpec.upto fnExactOpenSealSpec)

/-- 'laws.FnExactKindOf', WHERE WHAT IT READS IS OF BULK AT MOST 1048576: true; the input reads as it did. -/
def fnExactKindOfUptoRow : OpenClaim := { program := "ytgognaaljleioaa", sum := "c5e072c7d8c00ebc43dbcf2f59db64290bf0521794f60f8932dd6c90da95e62e", func := "loop.example/g00205/laws.FnExactKindOf", spec := "fnExactKindOf", unfollowed := true, recurses := true, plainKeys := false, apart := false, narrowed := true }
def FnExactKindOfUptoSaid : Prop := fnExactKindOfUptoRow.holds Try.pinned (OpenSpec.upto fnExactKindOfSpec)

/-- 'laws.FnExactPutTerm', WHERE WHAT IT READS IS OF BULK AT MOST 1048576: true; the input reads as it did. -/
def fnExactPutTermUptoRow : OpenClaim := { program := "ytgognaaljleioaa", sum := "c5e072c7d8c00ebc43dbcf2f59db64290bf0521794f60f8932dd6c90da95e62e", func := "loop.example/g00205/laws.FnExactPutTerm", spec := "fnExactPutTerm", unfollowed := true, recurses := true, plainKeys := false, apart := false, narrowed := true }
def FnExactPutTermUptoSaid : Prop := fnExactPutTermUptoRow.holds Try.pinned (OpenSpec.upto fnExactPutTermSpec)

/-- 'laws.FnExactSplitList', WHERE WHAT IT READS IS OF BULK AT MOST 1048576: true; the input reads as it did. -/
def fnExactSplitListUptoRow : OpenClaim := { program := "ytgognaaljleioaa", sum := "c5e072c7d8c00ebc43dbcf2f59db64290bf0521794f60f8932dd6c90da95e62e", func := "loop.example/g00205/laws.FnExactSplitList", spec := "fnExactSplitList", unfollowed := true, recurses := true, plainKeys := false, apart := false, narrowed := true }
def FnExactSplitListUptoSaid : Prop := fnExactSplitListUptoRow.holds Try.pinned (OpenSpec.upto fnExactSplitListSpec)

/-- 'laws.FnExactPutBoth', WHERE WHAT IT READS IS OF BULK AT MOST 1048576: true; the input reads as it did. -/
def fnExactPutBothUptoRow : OpenClaim := { program := "ytgognaaljleioaa", sum := "c5e072c7d8c00ebc43dbcf2f59db64290bf0521794f60f8932dd6c90da95e62e", func := "loop.example/g00205/laws.FnExactPutBoth", spec := "fnExactPutBoth", unfollowed := true, recurses := true, plainKeys := false, apart := false, narrowed := true }
def FnExactPutBothUptoSaid : Prop := fnExactPutBothUptoRow.holds Try.pinned (OpenSpec.upto fnExactPutBothSpec)

/-- 'laws.FnExactSharedOf', WHERE WHAT IT READS IS OF BULK AT MOST 1048576: true; the input reads as it did. -/
def fnExactSharedOfUptoRow : OpenClaim := { program := "ytgognaaljleioaa", sum := "c5e072c7d8c00ebc43dbcf2f59db64290bf0521794f60f8932dd6c90da95e62e", func := "loop.example/g00205/laws.FnExactSharedOf", spec := "fnExactSharedOf", unfollowed := true, recurses := true, plainKeys := false, apart := false, narrowed := true }
def FnExactSharedOfUptoSaid : Prop := fnExactSharedOfUptoRow.holds Try.pinned (OpenSpec.upto fnExactSharedOfSpec)

/-- 'laws.FnExactPutList', WHERE WHAT IT READS IS OF BULK AT MOST 1048576: true; the input reads as it did. -/
def fnExactPutListUptoRow : OpenClaim := { program := "ytgognaaljleioaa", sum := "c5e072c7d8c00ebc43dbcf2f59db64290bf0521794f60f8932dd6c90da95e62e", func := "loop.example/g00205/laws.FnExactPutList", spec := "fnExactPutList", unfollowed := true, recurses := true, plainKeys := false, apart := false, narrowed := true }
def FnExactPutListUptoSaid : Prop := fnExactPutListUptoRow.holds Try.pinned (OpenSpec.upto fnExactPutListSpec)

end Rows
end Go.Proofs.Ytgognaaljleioaa
