/- FnExactTakeLow: for every input the law returns true and its arguments read afterwards as they read before. No condition. -/
import Derived.Test.YtalkfdedbacidaaRows
import Derived.Test.YtalkfdedbacidaaGx89
import Derived.Test.YtalkfdedbacidaaOpn
import Derived.Test.YtalkfdedbacidaaPureFnExactTakeLow
import Derived.WalkKit
import Derived.ProofKit
import Derived.OpenShut
import Derived.ShutString
import Derived.ChangeOld
import Derived.Below
import Derived.SizedLaws
namespace Go.Proofs.Ytalkfdedbacidaa.fnExactTakeLow
open Go.ChangeShapes Go.WideShapes Go.ChangeAt
open Go.RowKit Go.Proofs.Ytalkfdedbacidaa.G Go.Proofs.YtalkfdedbacidaaW.PrintWords Go.Proofs.YtalkfdedbacidaaW.PrintLast
open Go.ChangeMaps (open_string shut_string)
set_option linter.unusedVariables false
theorem own : ownKnob Try.prog.godebug = none := by kernel_rfl
theorem laidOut : laidOutB Try.prog = true := by kernel_rfl
theorem o2 : Opn.Opens Try.prog 2 (Kd.int .i64) (fun n => (Lit.int .i64 n).wf = true) := Opn.opens_int Try.underlying2 (by kernel_rfl)
theorem o23 : Opn.Opens Try.prog 23 (Kd.iso (Kd.pair (Kd.int .i64) (Kd.int .i64)) (fun x => x)) (fun (x : Int × Int) => (fun n => (Lit.int .i64 n).wf = true) x.1 ∧ (fun n => (Lit.int .i64 n).wf = true) x.2) := by
  refine Opn.opens_struct (G := fun (x : Int × Int) => (fun n => (Lit.int .i64 n).wf = true) x.1 ∧ (fun n => (Lit.int .i64 n).wf = true) x.2) (fun x => x) (fun y => y) (fun _ => rfl) Try.underlying23 (by kernel_rfl) ?_
  apply Opn.at_cons (T := 2) (G := fun n => (Lit.int .i64 n).wf = true) (G2 := fun n => (Lit.int .i64 n).wf = true)
  · rfl
  · rfl
  · exact o2
  apply Opn.at_last (T := 2)
  · rfl
  · rfl
  · exact o2
set_option maxRecDepth 100000 in
theorem lifted (os : Os) (started : os.Started) (H : Type) (enc : TypeId × Value → H) :
    ReturnsInHanded {} Try.checked os 13 .any (Rows.fnExactTakeLowSpec.pre6 enc Try.prog Try.f13 Rows.fnExactTakeLowRow.domain false) (Rows.fnExactTakeLowSpec.post enc Try.prog Try.f13 false true false false) := by
  refine returnsInHanded_of_change_sized (C := Try.checked) own started (by kernel_rfl) Try.func13
    (ChangeSpec.witness6 (enc := enc) (C := Try.checked) false ⟨#[], #[.agg #[.int .i64 0, .int .i64 0], .int .i64 0], []⟩ 8 (by kernel_rfl) (by kernel_rfl) (by kernel_rfl) (by kernel_rfl)) ?_
  intro W base args ds gs before hval0 hW hcnd hsz0 _
  have hval : ∀ (j : Nat) t v, Try.f13.params[j]? = some t → args[j]? = some v → Value.okWide Try.prog W .any base t v := hval0
  have hW' := hW
  obtain ⟨p, q, hA0, hV, rfl, hfz, hnd⟩ := hW
  have hA : DataW.TrodAll enc Try.prog W 0 (fun _ => true) true Try.f13.params.toList args.toList ds p := hA0
  rw [Try.params13] at hA hval
  obtain ⟨v0, vs0, d0, ds0, p0, q0, hargs, rfl, rfl, h0, r0⟩ := trodAll_cons hA
  obtain ⟨v1, vs1, d1, ds1, p1, q1, rfl, rfl, rfl, h1, r1⟩ := trodAll_cons r0
  obtain ⟨rfl, rfl, rfl⟩ := trodAll_nil r1
  obtain rfl : args = #[v0, v1] := by cases args; simp_all
  obtain ⟨rfl, rfl⟩ := trodVars_none hV
  have k0 := h0
  have lt0 : ∀ x ∈ p0, x.block < W.heap.size := by obtain ⟨m, hm⟩ := k0; exact DataW.trod_lt m _ _ _ hm
  obtain ⟨x0, cs0, rfl, hk0, hg0⟩ := Opn.arg_struct Try.underlying23 o23 (hval 0 23 v0 rfl rfl) h0
  obtain ⟨_, _, rfl, rfl, rfl⟩ := hk0
  obtain ⟨a1, rfl, rfl, rfl, w1⟩ := open_int Try.underlying2 (hval 1 2 v1 rfl rfl) h1
  clear hA0 hval0 hsz0
  obtain ⟨k, h⟩ := Pure.FnExactTakeLow x0 a1 hg0 w1
  refine (laws_FnExactTakeLow.calls k (x0.1) (x0.2) a1 W  h).mono fun e W' ⟨he, bel0⟩ => ?_
  have bel : Below W.heap.size W W' := bel0
  subst he
  exact ⟨_, rfl, _, _, _, [], _, [], hW', trodAll_mk1 (shut_bool Try.underlying4 _), (trodAll_cons_mk (Below.trod laidOut (by kernel_rfl) (of_decide_eq_true (by kernel_rfl)) k0 bel lt0) (trodAll_cons_mk (shut_int Try.underlying2 w1) trodAll_mk0)), rfl, bel.frame _, fun h => by cases h⟩
theorem over : Rows.fnExactTakeLowRow.holds Try.pinned (OpenSpec.ofChange Rows.fnExactTakeLowSpec) :=
  OpenClaim.holds_of_wide 13 Try.f13 rfl rfl rfl rfl rfl rfl rfl ⟨rfl, rfl, rfl, rfl, rfl⟩ rfl rfl rfl rfl rfl (by kernel_rfl) Try.func13 (by kernel_rfl)
    (of_decide_eq_true (by kernel_rfl)) (by unfold Func.isWrapper; first | (rw [if_pos (by decide +kernel)]; kernel_rfl) | (rw [if_neg (by decide +kernel)]; exact ⟨rfl, rfl⟩))
    (fun os started H enc _ => lifted os started H enc)
end Go.Proofs.Ytalkfdedbacidaa.fnExactTakeLow
namespace Go.Proofs.Ytalkfdedbacidaa
theorem fnExactTakeLow_holds : Rows.FnExactTakeLowSaid := fnExactTakeLow.over
#print axioms fnExactTakeLow_holds
end Go.Proofs.Ytalkfdedbacidaa
