/- FnExactNewGate: for every input the law returns true and its arguments read afterwards as they read before. No condition. -/
import Derived.Test.YtaniedjfkiklmaaCFnExactNewGate4
import Derived.ChangeArms
import Derived.Deep.Slices
import Derived.ProofKit
import Derived.OpenShut
import Derived.Test.YtaniedjfkiklmaaRows
import Derived.WalkKit
import Derived.ShutString
import Derived.ChangeOld
import Derived.Below
import Derived.SizedLaws
namespace Go.Proofs.Ytaniedjfkiklmaa.Pure
open Go.RowKit Go.Proofs.Ytaniedjfkiklmaa.G Go.Proofs.YtaniedjfkiklmaaW.PrintWords Go.Proofs.YtaniedjfkiklmaaW.PrintLast
def laws_FnExactNewGate.Pure : Prop := ∀ (a0 : Int), (Lit.int .i64 a0).wf = true → ∃ k, laws_FnExactNewGate.f k a0 = some true
end Go.Proofs.Ytaniedjfkiklmaa.Pure
set_option linter.unusedVariables false
set_option linter.unusedSimpArgs false
namespace Go.Proofs.Ytaniedjfkiklmaa.Pure
open Go.RowKit Go.Proofs.Ytaniedjfkiklmaa.G Go.Proofs.YtaniedjfkiklmaaW.PrintWords Go.Proofs.YtaniedjfkiklmaaW.PrintLast
theorem eqTalkS_nil (k : Nat) : laws_eqTalkS.f (k + 1) [] [] = some true := by simp [laws_eqTalkS.f, laws_eqTalkS.l0]
theorem eqTermS_nil (k : Nat) : laws_eqTermS.f (k + 1) [] [] = some true := by simp [laws_eqTermS.f, laws_eqTermS.l0]
theorem markTalkS_nil (k : Nat) (m : Int) : laws_markTalkS.f (k + 1) [] m = some (m, []) := by simp [laws_markTalkS.f, laws_markTalkS.l0]
theorem markTermS_nil (k : Nat) (m : Int) : laws_markTermS.f (k + 1) [] m = some (m, []) := by simp [laws_markTermS.f, laws_markTermS.l0]
theorem heldTalkS_nil (k : Nat) (m : Int) : laws_heldTalkS.f (k + 1) [] m = some m := by simp [laws_heldTalkS.f, laws_heldTalkS.l0]
theorem heldTermS_nil (k : Nat) (m : Int) : laws_heldTermS.f (k + 1) [] m = some m := by simp [laws_heldTermS.f, laws_heldTermS.l0]
theorem eqGateResult_nil (k : Nat) (a b c d e f : Int) : laws_eqGateResult.f (k + 1) a b c d e f [] [] a b c d e f [] [] = some true := by
  simp only [laws_eqGateResult.f, laws_eqGate.f, eqTalkS_nil, eqTermS_nil, Option.bind_some, if_true]
theorem markGateResult_nil (k : Nat) (a b c d e f m : Int) : laws_markGateResult.f (k + 1) a b c d e f [] [] m = some (m, [], []) := by
  simp only [laws_markGateResult.f, laws_markGate.f, markTalkS_nil, markTermS_nil, Option.bind_some]
theorem heldGateResult_nil (k : Nat) (a b c d e f m : Int) (hm : ¬ m < 0) : laws_heldGateResult.f (k + 1) a b c d e f [] [] m = some m := by
  simp only [laws_heldGateResult.f, laws_heldGate.f, heldTalkS_nil, heldTermS_nil, Option.bind_some, hm, if_false]
theorem FnExactNewGate : laws_FnExactNewGate.Pure := by
  intro a0 _
  refine ⟨1, ?_⟩
  have h : ∃ a b c d e f : Int, spec_NewGate.f a0 = some (a, b, c, d, e, f, [], []) ∧ impl_NewGate.f a0 = some (a, b, c, d, e, f, [], []) := by
    unfold spec_NewGate.f impl_NewGate.f spec_l1In.f impl_isId.f impl_in.f
    by_cases h1 : a0 ≥ 1
    · by_cases h2 : a0 ≤ 9
      · exact ⟨0, 0, 0, 0, a0, 0, by simp [h1, h2], by simp [h1, h2]⟩
      · exact ⟨3, 0, 0, 0, 0, 0, by simp [h1, h2], by simp [h1, h2]⟩
    · exact ⟨3, 0, 0, 0, 0, 0, by simp [h1], by simp [h1]⟩
  obtain ⟨a, b, c, d, e, f, h1, h2⟩ := h
  unfold laws_FnExactNewGate.f
  simp only [h1, h2, Option.bind_some, eqGateResult_nil 0, markGateResult_nil 0, heldGateResult_nil 0 _ _ _ _ _ _ 1 (by decide), if_true, show ¬ (1 : Int) < 0 by decide, if_false]
end Go.Proofs.Ytaniedjfkiklmaa.Pure
namespace Go.Proofs.Ytaniedjfkiklmaa.fnExactNewGate
open Go.ChangeShapes Go.WideShapes Go.ChangeAt
open Go.RowKit Go.Proofs.Ytaniedjfkiklmaa.G Go.Proofs.YtaniedjfkiklmaaW.PrintWords Go.Proofs.YtaniedjfkiklmaaW.PrintLast
open Go.ChangeMaps (open_string shut_string)
set_option linter.unusedVariables false
theorem own : ownKnob Try.prog.godebug = none := by kernel_rfl
set_option maxRecDepth 100000 in
theorem lifted (os : Os) (started : os.Started) (H : Type) (enc : TypeId × Value → H) :
    ReturnsInHanded {} Try.checked os 4 .any (Rows.fnExactNewGateSpec.pre6 enc Try.prog Try.f4 Rows.fnExactNewGateRow.domain false) (Rows.fnExactNewGateSpec.post enc Try.prog Try.f4 false true false false) := by
  refine returnsInHanded_of_change_sized (C := Try.checked) own started (by kernel_rfl) Try.func4
    (ChangeSpec.witness6 (enc := enc) (C := Try.checked) false ⟨#[], #[.int .i64 0], []⟩ 8 (by kernel_rfl) (by kernel_rfl) (by kernel_rfl) (by kernel_rfl)) ?_
  intro W base args ds gs before hval0 hW hcnd hsz0 _
  have hval : ∀ (j : Nat) t v, Try.f4.params[j]? = some t → args[j]? = some v → Value.okWide Try.prog W .any base t v := hval0
  have hW' := hW
  obtain ⟨p, q, hA0, hV, rfl, hfz, hnd⟩ := hW
  have hA : DataW.TrodAll enc Try.prog W 0 (fun _ => true) true Try.f4.params.toList args.toList ds p := hA0
  rw [Try.params4] at hA hval
  obtain ⟨v0, vs0, d0, ds0, p0, q0, hargs, rfl, rfl, h0, r0⟩ := trodAll_cons hA
  obtain ⟨rfl, rfl, rfl⟩ := trodAll_nil r0
  obtain rfl : args = #[v0] := by cases args; simp_all
  obtain ⟨rfl, rfl⟩ := trodVars_none hV
  obtain ⟨a0, rfl, rfl, rfl, w0⟩ := open_int Try.underlying2 (hval 0 2 v0 rfl rfl) h0
  clear hA0 hval0 hsz0
  obtain ⟨k, h⟩ := Pure.FnExactNewGate a0 w0
  refine (laws_FnExactNewGate.calls k a0 W  h).mono fun e W' ⟨he, bel0⟩ => ?_
  have bel : Below W.heap.size W W' := bel0
  subst he
  exact ⟨_, rfl, _, _, _, [], _, [], hW', trodAll_mk1 (shut_bool Try.underlying4 _), (trodAll_cons_mk (shut_int Try.underlying2 w0) trodAll_mk0), rfl, bel.frame _, fun h => by cases h⟩
theorem over : Rows.fnExactNewGateRow.holds Try.pinned (OpenSpec.ofChange Rows.fnExactNewGateSpec) :=
  OpenClaim.holds_of_wide 4 Try.f4 rfl rfl rfl rfl rfl rfl rfl ⟨rfl, rfl, rfl, rfl, rfl⟩ rfl rfl rfl rfl rfl (by kernel_rfl) Try.func4 (by kernel_rfl)
    (of_decide_eq_true (by kernel_rfl)) (by unfold Func.isWrapper; first | (rw [if_pos (by decide +kernel)]; kernel_rfl) | (rw [if_neg (by decide +kernel)]; exact ⟨rfl, rfl⟩))
    (fun os started H enc _ => lifted os started H enc)
end Go.Proofs.Ytaniedjfkiklmaa.fnExactNewGate
namespace Go.Proofs.Ytaniedjfkiklmaa
theorem fnExactNewGate_holds : Rows.FnExactNewGateSaid := fnExactNewGate.over
end Go.Proofs.Ytaniedjfkiklmaa
#print axioms Go.Proofs.Ytaniedjfkiklmaa.fnExactNewGate_holds
