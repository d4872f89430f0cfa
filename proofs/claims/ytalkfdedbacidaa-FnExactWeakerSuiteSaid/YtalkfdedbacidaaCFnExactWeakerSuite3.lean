/- FnExactWeakerSuite: for every input the law returns true and its arguments read afterwards as they read before. No condition. -/
import Derived.Test.YtalkfdedbacidaaCFnExactWeakerSuite2
import Derived.ChangeArms
import Derived.Deep.Slices
import Derived.ProofKit
import Derived.OpenShut
import Derived.Test.YtalkfdedbacidaaRows
import Derived.WalkKit
import Derived.ShutString
import Derived.ChangeOld
import Derived.Below
import Derived.SizedLaws
set_option linter.unusedVariables false
namespace Go.Proofs.Ytalkfdedbacidaa.Opn
open Go.Proofs.YtalkfdedbacidaaW.PrintWords
def Opens {α : Type} (P : Program) (t : TypeId) (d : Kd α) (G : α → Prop) : Prop :=
  P.cellsOf t = d.sz ∧ ∀ (H : Type) (enc : TypeId × Value → H) (W : World) (base : Nat) (sp : Nat → Bool) (held : Bool) (fuel : Nat) (cs : List Value) (x : DataW H × List MemPlace),
    DataW.trod enc P W base sp held fuel t cs = some x → ∃ a, d.K W a cs ∧ G a
theorem opens_int {P : Program} {t : TypeId} {k : IntKind} (ht : P.underlying t = some (.int k)) (hc : P.cellsOf t = 1) : Opens P t (Kd.int k) (fun n => (Lit.int k n).wf = true) :=
  ⟨hc, fun H enc W base sp held fuel cs x hx => by
    obtain ⟨n, h, hx, hw⟩ := DataW.trod_int ht hx
    exact ⟨n, h, hw⟩⟩
def OpensAt {α : Type} (P : Program) (fs : List Field) (off : Nat) (d : Kd α) (G : α → Prop) : Prop :=
  ∀ (H : Type) (enc : TypeId × Value → H) (W : World) (base : Nat) (sp : Nat → Bool) (held : Bool) (n : Nat) (cs : List Value),
    cs.length = off + d.sz → (∀ f ∈ fs, ∃ y, DataW.trod enc P W base sp held n f.type ((cs.drop f.offset).take (P.cellsOf f.type)) = some y) → ∃ a, d.K W a (cs.drop off) ∧ G a
theorem at_last {α : Type} {P : Program} {f : Field} {off : Nat} {T : TypeId} {d : Kd α} {G : α → Prop} (hf : f.offset = off) (hT : f.type = T) (h : Opens P T d G) : OpensAt P [f] off d G :=
  fun H enc W base sp held n cs hl hfs => by
    subst hT
    obtain ⟨y, hy⟩ := hfs f (List.mem_singleton.2 rfl)
    rw [hf, h.1, List.take_of_length_le (by rw [List.length_drop]; omega)] at hy
    exact h.2 H enc W base sp held n _ _ hy
theorem at_cons {α β : Type} {P : Program} {f : Field} {fs : List Field} {off : Nat} {T : TypeId} {d : Kd α} {d2 : Kd β} {G : α → Prop} {G2 : β → Prop} (hf : f.offset = off) (hT : f.type = T) (h : Opens P T d G) (h2 : OpensAt P fs (off + d.sz) d2 G2) :
    OpensAt P (f :: fs) off (Kd.pair d d2) (fun x => G x.1 ∧ G2 x.2) :=
  fun H enc W base sp held n cs hl hfs => by
    subst hT
    obtain ⟨y, hy⟩ := hfs f (List.mem_cons_self)
    have hl' : cs.length = off + (d.sz + d2.sz) := hl
    rw [hf, h.1] at hy
    obtain ⟨a, k1, g1⟩ := h.2 H enc W base sp held n _ _ hy
    obtain ⟨b, k2, g2⟩ := h2 H enc W base sp held n cs (by omega) (fun f' hf' => hfs f' (List.mem_cons_of_mem _ hf'))
    refine ⟨(a, b), ⟨_, _, ?_, k1, k2⟩, g1, g2⟩
    rw [← List.drop_drop, List.take_append_drop]
theorem opens_struct {α β : Type} {P : Program} {t : TypeId} {fs : List Field} {d : Kd α} {G : α → Prop} (f : β → α) (g : α → β) (hfg : ∀ x, f (g x) = x) (ht : P.underlying t = some (.struct fs.toArray)) (hc : P.cellsOf t = d.sz) (h : OpensAt P fs 0 d G) :
    Opens P t (Kd.iso d f) (fun x => G (f x)) :=
  ⟨hc, fun H enc W base sp held fuel cs x hx => by
    obtain ⟨xs, n, _, _, hl, hlen, hf⟩ := DataW.trod_struct ht hx
    obtain ⟨a, k, g1⟩ := h H enc W base sp held n cs (by rw [hl, hc]; omega) (fun f' hf' => by
      obtain ⟨i, hi⟩ := List.getElem?_of_mem hf'
      have hi' : fs.toArray[i]? = some f' := by simpa using hi
      have hil : i < xs.length := by
        have := (List.getElem?_eq_some_iff.1 hi).1
        have h2 : xs.length = fs.length := by simpa using hlen
        omega
      have := hf i f' hi'
      rw [List.getElem?_eq_getElem hil] at this
      exact ⟨_, this⟩)
    refine ⟨g a, ?_, ?_⟩
    · show d.K W (f (g a)) cs
      rw [hfg]; simpa using k
    · show G (f (g a))
      rw [hfg]; exact g1⟩
theorem arg_struct {α : Type} {P : Program} {W : World} {r : Reach} {b0 : Nat} {t : TypeId} {fs : Array Field} {d : Kd α} {G : α → Prop} {H : Type} {enc : TypeId × Value → H} {base : Nat} {sp : Nat → Bool} {held : Bool} {v : Value} {x : DataW H} {ps : List MemPlace}
    (ht : P.underlying t = some (.struct fs)) (ho : Opens P t d G) (hv : Value.okWide P W r b0 t v) (h : DataW.Trod enc P W base sp held t v x ps) :
    ∃ (a : α) (cs : List Value), v = .agg cs.toArray ∧ d.K W a cs ∧ G a := by
  obtain ⟨cs, rfl, hsz⟩ := Go.WideShapes.okWide_struct ht hv
  obtain ⟨fuel, hf⟩ := h
  obtain ⟨a, k, g⟩ := ho.2 H enc W base sp held fuel _ _ hf
  exact ⟨a, cs.toList, by simp, by simpa [Value.cells] using k, g⟩
end Go.Proofs.Ytalkfdedbacidaa.Opn
namespace Go.Proofs.Ytalkfdedbacidaa.Pure
open Go.RowKit Go.Proofs.Ytalkfdedbacidaa.G Go.Proofs.YtalkfdedbacidaaW.PrintWords Go.Proofs.YtalkfdedbacidaaW.PrintLast
def laws_FnExactWeakerSuite.Pure : Prop := ∀ (x0 : S31) (x1 : S31), (fun (x : S31) => (fun (x : Int × Int × Int × Int) => (fun n => (Lit.int .i64 n).wf = true) x.1 ∧ (fun (x : Int × Int × Int) => (fun n => (Lit.int .i64 n).wf = true) x.1 ∧ (fun (x : Int × Int) => (fun n => (Lit.int .i64 n).wf = true) x.1 ∧ (fun n => (Lit.int .i64 n).wf = true) x.2) x.2) x.2) (x.f0, x.f1, x.f2, x.f3)) x0 → (fun (x : S31) => (fun (x : Int × Int × Int × Int) => (fun n => (Lit.int .i64 n).wf = true) x.1 ∧ (fun (x : Int × Int × Int) => (fun n => (Lit.int .i64 n).wf = true) x.1 ∧ (fun (x : Int × Int) => (fun n => (Lit.int .i64 n).wf = true) x.1 ∧ (fun n => (Lit.int .i64 n).wf = true) x.2) x.2) x.2) (x.f0, x.f1, x.f2, x.f3)) x1 → ∃ k, laws_FnExactWeakerSuite.f k (x0.f0) (x0.f1) (x0.f2) (x0.f3) (x1.f0) (x1.f1) (x1.f2) (x1.f3) = some true
end Go.Proofs.Ytalkfdedbacidaa.Pure
set_option linter.unusedVariables false
set_option linter.unusedSimpArgs false
namespace Go.Proofs.Ytalkfdedbacidaa.Pure
open Go.RowKit Go.Proofs.Ytalkfdedbacidaa.G Go.Proofs.YtalkfdedbacidaaW.PrintWords Go.Proofs.YtalkfdedbacidaaW.PrintLast Go.Proofs.YtalkfdedbacidaaW.PrintMore
theorem w64' {n : Int} (h0 : -9223372036854775808 ≤ n) (h1 : n ≤ 9223372036854775807) : wrap64 n = n := by unfold wrap64; omega
end Go.Proofs.Ytalkfdedbacidaa.Pure
set_option linter.unusedVariables false
set_option linter.unusedSimpArgs false
namespace Go.Proofs.Ytalkfdedbacidaa.Pure
open Go.RowKit Go.Proofs.Ytalkfdedbacidaa.G Go.Proofs.YtalkfdedbacidaaW.PrintWords Go.Proofs.YtalkfdedbacidaaW.PrintLast Go.Proofs.YtalkfdedbacidaaW.PrintMore
theorem in_spec' (a b c : Int) : spec_l1In.f a b c = some (decide (b ≤ a ∧ a ≤ c)) := by
  unfold spec_l1In.f; split
  · congr 1; simp; omega
  · congr 1; simp; omega
theorem in_impl' (a b c : Int) : impl_in.f a b c = some (decide (b ≤ a ∧ a ≤ c)) := by
  unfold impl_in.f; split
  · congr 1; simp; omega
  · congr 1; simp; omega
def SF (c b m g : Int) : Int := if (1 ≤ c ∧ c ≤ 4) ∧ (b = 128 ∨ b = 192 ∨ b = 256) ∧ (1 ≤ m ∧ m ≤ 3) ∧ (1 ≤ g ∧ g ≤ 6) then 0 else 3
theorem sf_spec (c b m g : Int) : spec_SuiteFault.f c b m g = some (SF c b m g) := by
  unfold spec_SuiteFault.f SF
  simp only [in_spec', Option.bind_some, decide_eq_true_eq]
  by_cases h1 : 1 ≤ c ∧ c ≤ 4 <;> by_cases h3 : 1 ≤ m ∧ m ≤ 3 <;> by_cases h4 : 1 ≤ g ∧ g ≤ 6 <;> by_cases b1 : b = 128 <;> by_cases b2 : b = 192 <;> by_cases b3 : b = 256 <;> simp [h1, h3, h4, b1, b2, b3]
theorem sf_bits (b : Int) : Ev (fun k => slices_Contains_int64_int64.f k ([128, 192, 256] : List Int) b) (decide (b = 128 ∨ b = 192 ∨ b = 256)) := by
  refine ⟨5, fun k hk => ?_⟩
  obtain ⟨m, rfl⟩ : ∃ m, k = m + 4 := ⟨k - 4, by omega⟩
  have e1 : wrap64 1 = 1 := w64' (by omega) (by omega)
  have e2 : wrap64 2 = 2 := w64' (by omega) (by omega)
  have e3 : wrap64 (1 + 1) = 2 := w64' (by omega) (by omega)
  have e4 : wrap64 3 = 3 := w64' (by omega) (by omega)
  have e5 : wrap64 (2 + 1) = 3 := w64' (by omega) (by omega)
  unfold slices_Contains_int64_int64.f slices_Index_int64_int64.f
  by_cases b1 : b = 128
  · simp [slices_Index_int64_int64.l0, rd, b1]
  by_cases b2 : b = 192
  · simp [slices_Index_int64_int64.l0, rd, b2, e1]
  by_cases b3 : b = 256
  · simp [slices_Index_int64_int64.l0, rd, b3, e1, e2, e3]
  · simp [slices_Index_int64_int64.l0, rd, b1, b2, b3, e1, e2, e3, e4, e5]
theorem sf_impl (c b m g : Int) : Ev (fun k => impl_SuiteFault.f k c b m g) (SF c b m g) := by
  unfold impl_SuiteFault.f SF
  refine Ev.bind (sf_bits b) ?_
  simp only [in_impl', Option.bind_some, decide_eq_true_eq]
  by_cases h1 : 1 ≤ c ∧ c ≤ 4 <;> by_cases h3 : 1 ≤ m ∧ m ≤ 3 <;> by_cases h4 : 1 ≤ g ∧ g ≤ 6 <;> by_cases b1 : b = 128 ∨ b = 192 ∨ b = 256 <;> simp only [h1, h3, h4, b1, and_self, true_and, and_true, false_and, and_false, if_true, if_false] <;> exact Ev.now _
theorem faultOf2' (x y : Int) : Ev (fun k => impl_faultOf.f k ([x, y] : List Int)) (if x = 0 then y else x) := by
  refine ⟨3, fun k hk => ?_⟩
  obtain ⟨m, rfl⟩ : ∃ m, k = m + 3 := ⟨k - 3, by omega⟩
  unfold impl_faultOf.f
  have e1 : wrap64 1 = 1 := w64' (by omega) (by omega)
  have e2 : wrap64 2 = 2 := w64' (by omega) (by omega)
  have e3 : wrap64 (1 + 1) = 2 := w64' (by omega) (by omega)
  by_cases hx : x = 0 <;> by_cases hy : y = 0 <;> simp [impl_faultOf.l0, rd, e1, e2, e3, hx, hy]
def WS (a0 a1 a2 a3 b0 b1 b2 b3 : Int) : Bool := if SF a0 a1 a2 a3 = 0 ∧ SF b0 b1 b2 b3 = 0 then (if (!(a0 == b0) || (!(a1 == b1) || (!(a2 == b2) || (!(a3 == b3))))) = true then decide (a0 ≤ b0) && decide (a1 ≤ b1) && decide (a2 ≤ b2) && decide (a3 ≤ b3) else false) else false
theorem ws_spec (a0 a1 a2 a3 b0 b1 b2 b3 : Int) : spec_WeakerSuite.f a0 a1 a2 a3 b0 b1 b2 b3 = some (WS a0 a1 a2 a3 b0 b1 b2 b3) := by
  unfold spec_WeakerSuite.f WS
  simp only [sf_spec, Option.bind_some]
  by_cases h1 : SF a0 a1 a2 a3 = 0 <;> by_cases h2 : SF b0 b1 b2 b3 = 0 <;> simp only [h1, h2, if_true, if_false, and_self, true_and, and_true, false_and, and_false]
  generalize (!(a0 == b0) || (!(a1 == b1) || (!(a2 == b2) || (!(a3 == b3))))) = t
  by_cases c0 : a0 ≤ b0 <;> by_cases c1 : a1 ≤ b1 <;> by_cases c2 : a2 ≤ b2 <;> cases t <;> simp [c0, c1, c2]
theorem ws_impl (a0 a1 a2 a3 b0 b1 b2 b3 : Int) : Ev (fun k => impl_WeakerSuite.f k a0 a1 a2 a3 b0 b1 b2 b3) (WS a0 a1 a2 a3 b0 b1 b2 b3) := by
  unfold impl_WeakerSuite.f WS
  refine Ev.bind (sf_impl a0 a1 a2 a3) (Ev.bind (sf_impl b0 b1 b2 b3) (Ev.bind (faultOf2' _ _) ?_))
  by_cases h1 : SF a0 a1 a2 a3 = 0
  · by_cases h2 : SF b0 b1 b2 b3 = 0
    · simp only [h1, h2, if_true, and_self]
      generalize (!(a0 == b0) || (!(a1 == b1) || (!(a2 == b2) || (!(a3 == b3))))) = t
      by_cases c0 : a0 ≤ b0 <;> by_cases c1 : a1 ≤ b1 <;> by_cases c2 : a2 ≤ b2 <;> cases t <;> simp only [c0, c1, c2, if_true, if_false, decide_true, decide_false, Bool.true_and, Bool.false_and, Bool.and_false, Bool.false_eq_true] <;> exact Ev.now _
    · simp only [h1, h2, if_true, if_false, and_false]; exact Ev.now _
  · simp only [h1, if_false, false_and]; exact Ev.now _
end Go.Proofs.Ytalkfdedbacidaa.Pure
namespace Go.Proofs.Ytalkfdedbacidaa.Pure
open Go.RowKit Go.Proofs.Ytalkfdedbacidaa.G Go.Proofs.YtalkfdedbacidaaW.PrintWords Go.Proofs.YtalkfdedbacidaaW.PrintLast
theorem FnExactWeakerSuite : laws_FnExactWeakerSuite.Pure := by
  intro x0 x1 _ _
  refine Ev.rounds ?_
  unfold laws_FnExactWeakerSuite.f laws_toSuite.f
  simp only [Option.bind_some, ws_spec]
  refine Ev.bind (ws_impl _ _ _ _ _ _ _ _) ?_
  simp only [bne_self_eq_false, Bool.false_eq_true, if_false]; exact Ev.now _
end Go.Proofs.Ytalkfdedbacidaa.Pure
namespace Go.Proofs.Ytalkfdedbacidaa.fnExactWeakerSuite
open Go.ChangeShapes Go.WideShapes Go.ChangeAt
open Go.RowKit Go.Proofs.Ytalkfdedbacidaa.G Go.Proofs.YtalkfdedbacidaaW.PrintWords Go.Proofs.YtalkfdedbacidaaW.PrintLast
open Go.ChangeMaps (open_string shut_string)
set_option linter.unusedVariables false
theorem own : ownKnob Try.prog.godebug = none := by kernel_rfl
theorem laidOut : laidOutB Try.prog = true := by kernel_rfl
theorem o2 : Opn.Opens Try.prog 2 (Kd.int .i64) (fun n => (Lit.int .i64 n).wf = true) := Opn.opens_int Try.underlying2 (by kernel_rfl)
theorem o31 : Opn.Opens Try.prog 31 k31 (fun (x : S31) => (fun (x : Int × Int × Int × Int) => (fun n => (Lit.int .i64 n).wf = true) x.1 ∧ (fun (x : Int × Int × Int) => (fun n => (Lit.int .i64 n).wf = true) x.1 ∧ (fun (x : Int × Int) => (fun n => (Lit.int .i64 n).wf = true) x.1 ∧ (fun n => (Lit.int .i64 n).wf = true) x.2) x.2) x.2) (x.f0, x.f1, x.f2, x.f3)) := by
  refine Opn.opens_struct (G := fun (x : Int × Int × Int × Int) => (fun n => (Lit.int .i64 n).wf = true) x.1 ∧ (fun (x : Int × Int × Int) => (fun n => (Lit.int .i64 n).wf = true) x.1 ∧ (fun (x : Int × Int) => (fun n => (Lit.int .i64 n).wf = true) x.1 ∧ (fun n => (Lit.int .i64 n).wf = true) x.2) x.2) x.2) (fun x : S31 => (x.f0, x.f1, x.f2, x.f3)) (fun y => ⟨y.1, y.2.1, y.2.2.1, y.2.2.2⟩) (fun _ => rfl) Try.underlying31 (by kernel_rfl) ?_
  apply Opn.at_cons (T := 2) (G := fun n => (Lit.int .i64 n).wf = true) (G2 := fun (x : Int × Int × Int) => (fun n => (Lit.int .i64 n).wf = true) x.1 ∧ (fun (x : Int × Int) => (fun n => (Lit.int .i64 n).wf = true) x.1 ∧ (fun n => (Lit.int .i64 n).wf = true) x.2) x.2)
  · rfl
  · rfl
  · exact o2
  apply Opn.at_cons (T := 2) (G := fun n => (Lit.int .i64 n).wf = true) (G2 := fun (x : Int × Int) => (fun n => (Lit.int .i64 n).wf = true) x.1 ∧ (fun n => (Lit.int .i64 n).wf = true) x.2)
  · rfl
  · rfl
  · exact o2
  apply Opn.at_cons (T := 2) (G := fun n => (Lit.int .i64 n).wf = true) (G2 := fun n => (Lit.int .i64 n).wf = true)
  · rfl
  · rfl
  · exact o2
  apply Opn.at_last (T := 2)
  · rfl
  · rfl
  · exact o2
set_option maxRecDepth 100000 in
theorem lifted (os : Os) (started : os.Started) (H : Type) (enc : TypeId × Value → H) :
    ReturnsInHanded {} Try.checked os 5 .any (Rows.fnExactWeakerSuiteSpec.pre6 enc Try.prog Try.f5 Rows.fnExactWeakerSuiteRow.domain false) (Rows.fnExactWeakerSuiteSpec.post enc Try.prog Try.f5 false true false false) := by
  refine returnsInHanded_of_change_sized (C := Try.checked) own started (by kernel_rfl) Try.func5
    (ChangeSpec.witness6 (enc := enc) (C := Try.checked) false ⟨#[], #[.agg #[.int .i64 0, .int .i64 0, .int .i64 0, .int .i64 0], .agg #[.int .i64 0, .int .i64 0, .int .i64 0, .int .i64 0]], []⟩ 8 (by kernel_rfl) (by kernel_rfl) (by kernel_rfl) (by kernel_rfl)) ?_
  intro W base args ds gs before hval0 hW hcnd hsz0 _
  have hval : ∀ (j : Nat) t v, Try.f5.params[j]? = some t → args[j]? = some v → Value.okWide Try.prog W .any base t v := hval0
  have hW' := hW
  obtain ⟨p, q, hA0, hV, rfl, hfz, hnd⟩ := hW
  have hA : DataW.TrodAll enc Try.prog W 0 (fun _ => true) true Try.f5.params.toList args.toList ds p := hA0
  rw [Try.params5] at hA hval
  obtain ⟨v0, vs0, d0, ds0, p0, q0, hargs, rfl, rfl, h0, r0⟩ := trodAll_cons hA
  obtain ⟨v1, vs1, d1, ds1, p1, q1, rfl, rfl, rfl, h1, r1⟩ := trodAll_cons r0
  obtain ⟨rfl, rfl, rfl⟩ := trodAll_nil r1
  obtain rfl : args = #[v0, v1] := by cases args; simp_all
  obtain ⟨rfl, rfl⟩ := trodVars_none hV
  have k0 := h0
  have lt0 : ∀ x ∈ p0, x.block < W.heap.size := by obtain ⟨m, hm⟩ := k0; exact DataW.trod_lt m _ _ _ hm
  obtain ⟨x0, cs0, rfl, hk0, hg0⟩ := Opn.arg_struct Try.underlying31 o31 (hval 0 31 v0 rfl rfl) h0
  obtain ⟨_, _, rfl, rfl, ⟨_, _, rfl, rfl, ⟨_, _, rfl, rfl, rfl⟩⟩⟩ := hk0
  have k1 := h1
  have lt1 : ∀ x ∈ p1, x.block < W.heap.size := by obtain ⟨m, hm⟩ := k1; exact DataW.trod_lt m _ _ _ hm
  obtain ⟨x1, cs1, rfl, hk1, hg1⟩ := Opn.arg_struct Try.underlying31 o31 (hval 1 31 v1 rfl rfl) h1
  obtain ⟨_, _, rfl, rfl, ⟨_, _, rfl, rfl, ⟨_, _, rfl, rfl, rfl⟩⟩⟩ := hk1
  clear hA0 hval0 hsz0
  obtain ⟨k, h⟩ := Pure.FnExactWeakerSuite x0 x1 hg0 hg1
  refine (laws_FnExactWeakerSuite.calls k (x0.f0) (x0.f1) (x0.f2) (x0.f3) (x1.f0) (x1.f1) (x1.f2) (x1.f3) W  h).mono fun e W' ⟨he, bel0⟩ => ?_
  have bel : Below W.heap.size W W' := bel0
  subst he
  exact ⟨_, rfl, _, _, _, [], _, [], hW', trodAll_mk1 (shut_bool Try.underlying4 _), (trodAll_cons_mk (Below.trod laidOut (by kernel_rfl) (of_decide_eq_true (by kernel_rfl)) k0 bel lt0) (trodAll_cons_mk (Below.trod laidOut (by kernel_rfl) (of_decide_eq_true (by kernel_rfl)) k1 bel lt1) trodAll_mk0)), rfl, bel.frame _, fun h => by cases h⟩
theorem over : Rows.fnExactWeakerSuiteRow.holds Try.pinned (OpenSpec.ofChange Rows.fnExactWeakerSuiteSpec) :=
  OpenClaim.holds_of_wide 5 Try.f5 rfl rfl rfl rfl rfl rfl rfl ⟨rfl, rfl, rfl, rfl, rfl⟩ rfl rfl rfl rfl rfl (by kernel_rfl) Try.func5 (by kernel_rfl)
    (of_decide_eq_true (by kernel_rfl)) (by unfold Func.isWrapper; first | (rw [if_pos (by decide +kernel)]; kernel_rfl) | (rw [if_neg (by decide +kernel)]; exact ⟨rfl, rfl⟩))
    (fun os started H enc _ => lifted os started H enc)
end Go.Proofs.Ytalkfdedbacidaa.fnExactWeakerSuite
namespace Go.Proofs.Ytalkfdedbacidaa
theorem fnExactWeakerSuite_holds : Rows.FnExactWeakerSuiteSaid := fnExactWeakerSuite.over
end Go.Proofs.Ytalkfdedbacidaa
#print axioms Go.Proofs.Ytalkfdedbacidaa.fnExactWeakerSuite_holds
