/- FnSuites: for every input the law returns true and its arguments read afterwards as they read before. No condition. -/
import Derived.Test.YtbneeppnhddheaaCFnSuites5
import Derived.ChangeArms
import Derived.Deep.Slices
import Derived.ProofKit
import Derived.OpenShut
import Derived.Test.YtbneeppnhddheaaRows
import Derived.WalkKit
import Derived.ShutString
import Derived.ChangeOld
import Derived.Below
import Derived.SizedLaws
set_option linter.unusedVariables false
namespace Go.Proofs.Ytbneeppnhddheaa.Opn
open Go.Proofs.YtbneeppnhddheaaW.PrintWords
def Opens {α : Type} (P : Program) (t : TypeId) (d : Kd α) (G : α → Prop) : Prop :=
  P.cellsOf t = d.sz ∧ ∀ (H : Type) (enc : TypeId × Value → H) (W : World) (base : Nat) (sp : Nat → Bool) (held : Bool) (fuel : Nat) (cs : List Value) (x : DataW H × List MemPlace),
    DataW.trod enc P W base sp held fuel t cs = some x → ∃ a, d.K W a cs ∧ G a
theorem opens_int {P : Program} {t : TypeId} {k : IntKind} (ht : P.underlying t = some (.int k)) (hc : P.cellsOf t = 1) : Opens P t (Kd.int k) (fun n => (Lit.int k n).wf = true) :=
  ⟨hc, fun H enc W base sp held fuel cs x hx => by
    obtain ⟨n, h, hx, hw⟩ := DataW.trod_int ht hx
    exact ⟨n, h, hw⟩⟩
theorem opens_slice {α : Type} {P : Program} {t e : TypeId} {d : Kd α} {G : α → Prop} (ht : P.underlying t = some (.slice e)) (hc : P.cellsOf t = 1) (he : Opens P e d G) :
    Opens P t (Kd.slice e d) (fun xs => xs.length ≤ maxLen ∧ ∀ x ∈ xs, G x) :=
  ⟨hc, fun H enc W base sp held fuel cs x hx => by
    rcases Go.Deep.open_slice ht hx with ⟨rfl, rfl⟩ | ⟨a, len, cap, m, n, D, Pl, rfl, hb, hl, hm, hmm, rfl, hel⟩
    · refine ⟨[], ⟨none, 0, rfl, Nat.le_refl _, rfl, by simp, ?_⟩, by simp, by simp⟩
      intro h; exact absurd h (by simp)
    · have hle : len ≤ m := by rw [hmm]; split <;> omega
      have key : ∀ i, i < len → ∃ p : α, ∃ c : List Value, c.length = d.sz ∧ d.K W p c ∧ G p ∧ ∀ j u, c[j]? = some u → W.cell? (a.add (i * d.sz + j)) = some u := by
        intro i hi
        obtain ⟨c, h1, h2⟩ := hel i (by omega)
        obtain ⟨p, h3, h4⟩ := he.2 H enc W base sp held n c _ h2
        obtain ⟨_, h5, h6⟩ := World.cells?_some h1
        rw [he.1] at h5 h6
        refine ⟨p, c, h5, h3, h4, fun j u hj => ?_⟩
        have hjl : j < d.sz := by
          have := (List.getElem?_eq_some_iff.1 hj).1
          omega
        rw [← Go.Deep.add_add, h6 j hjl, hj]
      have ex : ∃ ps : List α, ps.length = len ∧ ∀ i p, ps[i]? = some p → ∃ c : List Value, c.length = d.sz ∧ d.K W p c ∧ G p ∧ ∀ j u, c[j]? = some u → W.cell? (a.add (i * d.sz + j)) = some u := by
        clear hel hmm hle hl hm hx
        induction len with
        | zero => exact ⟨[], rfl, fun i p h => by simp at h⟩
        | succ k ih =>
          obtain ⟨ps, h1, h2⟩ := ih (fun i hi => key i (by omega))
          obtain ⟨p, hp⟩ := key k (by omega)
          refine ⟨ps ++ [p], by simp [h1], fun i q h => ?_⟩
          by_cases hi : i < ps.length
          · rw [List.getElem?_append_left hi] at h
            exact h2 i q h
          · rw [List.getElem?_append_right (by omega)] at h
            have hi0 : i - ps.length = 0 := by
              have := (List.getElem?_eq_some_iff.1 h).1
              simp at this
              omega
            rw [hi0] at h
            simp at h
            subst h
            have : i = k := by omega
            subst this
            exact hp
      obtain ⟨ps, h1, h2⟩ := ex
      subst h1
      refine ⟨ps, ⟨some a, cap, rfl, hl, rfl, by simp only [maxLen] at hm; omega, fun _ => ⟨a, rfl, fun j p hj => ?_⟩⟩, by omega, fun x hx' => ?_⟩
      · obtain ⟨c, g1, g2, g3, g4⟩ := h2 j p hj
        exact ⟨c, g1, g2, g4⟩
      · obtain ⟨i, hi⟩ := List.getElem?_of_mem hx'
        obtain ⟨c, g1, g2, g3, g4⟩ := h2 i x hi
        exact g3⟩
theorem arg_slice {α : Type} {P : Program} {W : World} {t e : TypeId} {d : Kd α} {G : α → Prop} {H : Type} {enc : TypeId × Value → H} {base : Nat} {sp : Nat → Bool} {held : Bool} {A : Option Addr} {n c : Nat} {x : DataW H} {ps : List MemPlace}
    (ht : P.underlying t = some (.slice e)) (hc : P.cellsOf t = 1) (he : Opens P e d G) (h : DataW.Trod enc P W base sp held t (.slice A n c) x ps) :
    ∃ xs : List α, n = xs.length ∧ d.C W A xs.length xs ∧ xs.length ≤ c ∧ xs.length ≤ maxLen ∧ ∀ a ∈ xs, G a := by
  obtain ⟨fuel, hf⟩ := h
  obtain ⟨xs, ⟨A', c', h1, h2, h3⟩, h4, h5⟩ := (opens_slice ht hc he).2 H enc W base sp held fuel _ _ hf
  simp [Value.cells] at h1
  obtain ⟨rfl, rfl, rfl⟩ := h1
  exact ⟨xs, rfl, h3, h2, h4, h5⟩
end Go.Proofs.Ytbneeppnhddheaa.Opn
namespace Go.Proofs.Ytbneeppnhddheaa.Pure
open Go.RowKit Go.Proofs.Ytbneeppnhddheaa.G Go.Proofs.YtbneeppnhddheaaW.PrintWords Go.Proofs.YtbneeppnhddheaaW.PrintLast
def laws_FnSuites.Pure : Prop := ∀ (l0 : List Int), l0.length ≤ maxLen → (∀ x ∈ l0, (fun n => (Lit.int .u8 n).wf = true) x) → ∃ k, laws_FnSuites.f k l0 = some true
end Go.Proofs.Ytbneeppnhddheaa.Pure
set_option linter.unusedVariables false
set_option linter.unusedSimpArgs false
namespace Go.Proofs.Ytbneeppnhddheaa.Pure
open Go.RowKit Go.Proofs.Ytbneeppnhddheaa.G Go.Proofs.YtbneeppnhddheaaW.PrintWords Go.Proofs.YtbneeppnhddheaaW.PrintLast Go.Proofs.YtbneeppnhddheaaW.PrintMore
theorem ev_succ {α : Type} {g : Nat → Option α} {r : α} (h : Ev (fun k => g (k + 1)) r) : Ev g r := by
  obtain ⟨K, hK⟩ := h
  refine ⟨K + 1, fun k hk => ?_⟩
  obtain ⟨m, rfl⟩ : ∃ m, k = m + 1 := ⟨k - 1, by omega⟩
  exact hK m (by omega)
theorem w64' {n : Int} (h0 : -9223372036854775808 ≤ n) (h1 : n ≤ 9223372036854775807) : wrap64 n = n := by unfold wrap64; omega
theorem byte_wf {l : List Int} (h : ∀ x ∈ l, (Lit.int .u8 x).wf = true) : ∀ x ∈ l, 0 ≤ x ∧ x ≤ 255 := fun x hx => by
  have := h x hx
  simpa [Lit.wf, IntKind.min, IntKind.max, IntKind.signed, IntKind.bits] using this
end Go.Proofs.Ytbneeppnhddheaa.Pure
set_option linter.unusedVariables false
set_option linter.unusedSimpArgs false
namespace Go.Proofs.Ytbneeppnhddheaa.Pure
open Go.RowKit Go.Proofs.Ytbneeppnhddheaa.G Go.Proofs.YtbneeppnhddheaaW.PrintWords Go.Proofs.YtbneeppnhddheaaW.PrintLast Go.Proofs.YtbneeppnhddheaaW.PrintMore
theorem in_spec' (a b c : Int) : spec_l1In.f a b c = some (decide (b ≤ a ∧ a ≤ c)) := by
  unfold spec_l1In.f; split
  · congr 1; simp; omega
  · congr 1; simp; omega
theorem in_impl' (a b c : Int) : impl_in.f a b c = some (decide (b ≤ a ∧ a ≤ c)) := by
  unfold impl_in.f; split
  · congr 1; simp; omega
  · congr 1; simp; omega
def SF (c b m g : Int) : Int := if (1 ≤ c ∧ c ≤ 4) ∧ (b = 128 ∨ b = 192 ∨ b = 256) ∧ (1 ≤ m ∧ m ≤ 3) ∧ (1 ≤ g ∧ g ≤ 6) then 0 else 3
theorem sf_spec (c b m g : Int) : spec_SuiteFault.f c b m g = some (SF c b m g) := by
  unfold spec_SuiteFault.f SF
  simp only [in_spec', Option.bind_some, decide_eq_true_eq]
  by_cases h1 : 1 ≤ c ∧ c ≤ 4 <;> by_cases h3 : 1 ≤ m ∧ m ≤ 3 <;> by_cases h4 : 1 ≤ g ∧ g ≤ 6 <;> by_cases b1 : b = 128 <;> by_cases b2 : b = 192 <;> by_cases b3 : b = 256 <;> simp [h1, h3, h4, b1, b2, b3]
theorem sf_bits (b : Int) : Ev (fun k => slices_Contains_int64_int64.f k ([128, 192, 256] : List Int) b) (decide (b = 128 ∨ b = 192 ∨ b = 256)) := by
  refine ⟨5, fun k hk => ?_⟩
  obtain ⟨m, rfl⟩ : ∃ m, k = m + 4 := ⟨k - 4, by omega⟩
  have e1 : wrap64 1 = 1 := w64' (by omega) (by omega)
  have e2 : wrap64 2 = 2 := w64' (by omega) (by omega)
  have e3 : wrap64 (1 + 1) = 2 := w64' (by omega) (by omega)
  have e4 : wrap64 3 = 3 := w64' (by omega) (by omega)
  have e5 : wrap64 (2 + 1) = 3 := w64' (by omega) (by omega)
  unfold slices_Contains_int64_int64.f slices_Index_int64_int64.f
  by_cases b1 : b = 128
  · simp [slices_Index_int64_int64.l0, rd, b1]
  by_cases b2 : b = 192
  · simp [slices_Index_int64_int64.l0, rd, b2, e1]
  by_cases b3 : b = 256
  · simp [slices_Index_int64_int64.l0, rd, b3, e1, e2, e3]
  · simp [slices_Index_int64_int64.l0, rd, b1, b2, b3, e1, e2, e3, e4, e5]
theorem sf_impl (c b m g : Int) : Ev (fun k => impl_SuiteFault.f k c b m g) (SF c b m g) := by
  unfold impl_SuiteFault.f SF
  refine Ev.bind (sf_bits b) ?_
  simp only [in_impl', Option.bind_some, decide_eq_true_eq]
  by_cases h1 : 1 ≤ c ∧ c ≤ 4 <;> by_cases h3 : 1 ≤ m ∧ m ≤ 3 <;> by_cases h4 : 1 ≤ g ∧ g ≤ 6 <;> by_cases b1 : b = 128 ∨ b = 192 ∨ b = 256 <;> simp only [h1, h3, h4, b1, and_self, true_and, and_true, false_and, and_false, if_true, if_false] <;> exact Ev.now _
theorem faultOf2' (x y : Int) : Ev (fun k => impl_faultOf.f k ([x, y] : List Int)) (if x = 0 then y else x) := by
  refine ⟨3, fun k hk => ?_⟩
  obtain ⟨m, rfl⟩ : ∃ m, k = m + 3 := ⟨k - 3, by omega⟩
  unfold impl_faultOf.f
  have e1 : wrap64 1 = 1 := w64' (by omega) (by omega)
  have e2 : wrap64 2 = 2 := w64' (by omega) (by omega)
  have e3 : wrap64 (1 + 1) = 2 := w64' (by omega) (by omega)
  by_cases hx : x = 0 <;> by_cases hy : y = 0 <;> simp [impl_faultOf.l0, rd, e1, e2, e3, hx, hy]
def WS (a0 a1 a2 a3 b0 b1 b2 b3 : Int) : Bool := if SF a0 a1 a2 a3 = 0 ∧ SF b0 b1 b2 b3 = 0 then (if (!(a0 == b0) || (!(a1 == b1) || (!(a2 == b2) || (!(a3 == b3))))) = true then decide (a0 ≤ b0) && decide (a1 ≤ b1) && decide (a2 ≤ b2) && decide (a3 ≤ b3) else false) else false
theorem ws_impl (a0 a1 a2 a3 b0 b1 b2 b3 : Int) : Ev (fun k => impl_WeakerSuite.f k a0 a1 a2 a3 b0 b1 b2 b3) (WS a0 a1 a2 a3 b0 b1 b2 b3) := by
  unfold impl_WeakerSuite.f WS
  refine Ev.bind (sf_impl a0 a1 a2 a3) (Ev.bind (sf_impl b0 b1 b2 b3) (Ev.bind (faultOf2' _ _) ?_))
  by_cases h1 : SF a0 a1 a2 a3 = 0
  · by_cases h2 : SF b0 b1 b2 b3 = 0
    · simp only [h1, h2, if_true, and_self]
      generalize (!(a0 == b0) || (!(a1 == b1) || (!(a2 == b2) || (!(a3 == b3))))) = t
      by_cases c0 : a0 ≤ b0 <;> by_cases c1 : a1 ≤ b1 <;> by_cases c2 : a2 ≤ b2 <;> cases t <;> simp only [c0, c1, c2, if_true, if_false, decide_true, decide_false, Bool.true_and, Bool.false_and, Bool.and_false, Bool.false_eq_true] <;> exact Ev.now _
    · simp only [h1, h2, if_true, if_false, and_false]; exact Ev.now _
  · simp only [h1, if_false, false_and]; exact Ev.now _
def eqs (x : S25) (a0 a1 a2 a3 : Int) : Bool := x.f0 == a0 && (x.f1 == a1 && (x.f2 == a2 && (x.f3 == a3)))
theorem drop_rd (l : List S25) (i : Nat) (h : i < l.length) : l.drop i = rd_T25 l (i : Int) :: l.drop (i + 1) := by
  rw [List.drop_eq_getElem_cons h]
  simp [rd_T25, List.getD, List.getElem?_eq_getElem h]
theorem has_spec_l0 (l : List S25) (hl : l.length ≤ 9223372036854775807) (a0 a1 a2 a3 : Int) (d : Nat) : ∀ (k i : Nat), i + d = l.length → d < k → spec_l8Has.l0 k l i a0 a1 a2 a3 = some ((l.drop i).any fun x => eqs x a0 a1 a2 a3) := by
  induction d with
  | zero =>
    intro k i hi hk
    obtain ⟨k, rfl⟩ : ∃ m, k = m + 1 := ⟨k - 1, by omega⟩
    simp only [spec_l8Has.l0]; rw [if_neg (by omega), List.drop_of_length_le (by omega)]; rfl
  | succ d ih =>
    intro k i hi hk
    obtain ⟨k, rfl⟩ : ∃ m, k = m + 1 := ⟨k - 1, by omega⟩
    simp only [spec_l8Has.l0]
    rw [if_pos (by omega), if_pos (by omega), drop_rd l i (by omega), w64' (by omega) (by omega), List.any_cons]
    have e := ih k (i + 1) (by omega) (by omega)
    have e' : spec_l8Has.l0 k l ((i : Int) + 1) a0 a1 a2 a3 = some ((l.drop (i + 1)).any fun x => eqs x a0 a1 a2 a3) := by simpa using e
    rw [e']
    cases h : eqs (rd_T25 l i) a0 a1 a2 a3
    · rw [if_neg (by unfold eqs at h; rw [h]; simp)]; simp
    · rw [if_pos (by unfold eqs at h; rw [h])]; simp
theorem has_spec (l : List S25) (hl : l.length ≤ 9223372036854775807) (a0 a1 a2 a3 : Int) : Ev (fun k => spec_l8Has.f k l a0 a1 a2 a3) (l.any fun x => eqs x a0 a1 a2 a3) := by
  refine ⟨l.length + 1, fun k hk => ?_⟩
  have := has_spec_l0 l hl a0 a1 a2 a3 l.length k 0 (by omega) (by omega)
  simpa [spec_l8Has.f] using this
def idx (l : List S25) (a0 a1 a2 a3 : Int) (i : Nat) : Int :=
  match (l.drop i).findIdx? fun x => eqs x a0 a1 a2 a3 with
  | some j => ((i + j : Nat) : Int)
  | none => -1
theorem index_l0 (l : List S25) (hl : l.length ≤ 9223372036854775807) (a0 a1 a2 a3 : Int) (d : Nat) : ∀ (k i : Nat), i + d = l.length → d < k → impl_Suite_32.l0 k l (l.length : Int) i a0 a1 a2 a3 = some (idx l a0 a1 a2 a3 i) := by
  induction d with
  | zero =>
    intro k i hi hk
    obtain ⟨k, rfl⟩ : ∃ m, k = m + 1 := ⟨k - 1, by omega⟩
    simp only [impl_Suite_32.l0]; rw [if_neg (by omega)]; unfold idx; rw [List.drop_of_length_le (by omega)]; rfl
  | succ d ih =>
    intro k i hi hk
    obtain ⟨k, rfl⟩ : ∃ m, k = m + 1 := ⟨k - 1, by omega⟩
    simp only [impl_Suite_32.l0]
    rw [if_pos (by omega), if_pos (by omega), if_pos (by omega), w64' (by omega) (by omega)]
    have e := ih k (i + 1) (by omega) (by omega)
    have e' : impl_Suite_32.l0 k l (l.length : Int) ((i : Int) + 1) a0 a1 a2 a3 = some (idx l a0 a1 a2 a3 (i + 1)) := by simpa using e
    rw [e']
    have sw : (a0 == (rd_T25 l i).f0 && (a1 == (rd_T25 l i).f1 && (a2 == (rd_T25 l i).f2 && (a3 == (rd_T25 l i).f3)))) = eqs (rd_T25 l i) a0 a1 a2 a3 := by
      unfold eqs; rw [BEq.comm (a := a0), BEq.comm (a := a1), BEq.comm (a := a2), BEq.comm (a := a3)]
    rw [sw]
    unfold idx
    rw [drop_rd l i (by omega), List.findIdx?_cons]
    cases h : eqs (rd_T25 l i) a0 a1 a2 a3
    · simp only [Bool.false_eq_true, if_false]
      cases (l.drop (i + 1)).findIdx? fun x => eqs x a0 a1 a2 a3 with
      | none => rfl
      | some j => simp; omega
    · simp
theorem has_impl (l : List S25) (hl : l.length ≤ 9223372036854775807) (a0 a1 a2 a3 : Int) : Ev (fun k => impl_Suite_40.f k l a0 a1 a2 a3) (l.any fun x => eqs x a0 a1 a2 a3) := by
  refine ⟨l.length + 1, fun k hk => ?_⟩
  have h := index_l0 l hl a0 a1 a2 a3 l.length k 0 (by omega) (by omega)
  have h' : impl_Suite_32.l0 k l (l.length : Int) 0 a0 a1 a2 a3 = some (idx l a0 a1 a2 a3 0) := by simpa using h
  show (impl_Suite_32.l0 k l (l.length : Int) 0 a0 a1 a2 a3).bind _ = _
  rw [h']
  simp only [Option.bind_some]
  congr 1
  unfold idx
  simp only [List.drop_zero]
  cases h2 : l.findIdx? fun x => eqs x a0 a1 a2 a3 with
  | none =>
    rw [List.findIdx?_eq_none_iff] at h2
    simp only
    symm
    simpa using h2
  | some j =>
    have : (l.any fun x => eqs x a0 a1 a2 a3) = true := by
      rw [List.findIdx?_eq_some_iff_getElem] at h2
      obtain ⟨hj, h3, _⟩ := h2
      exact List.any_eq_true.2 ⟨_, List.getElem_mem hj, h3⟩
    rw [this]; simp <;> omega
def SFs : List S25 → List S25 → Int
  | _, [] => 0
  | pre, x :: r => if SF x.f0 x.f1 x.f2 x.f3 = 0 then (if (pre.any fun y => eqs y x.f0 x.f1 x.f2 x.f3) = true then 7 else SFs (pre ++ [x]) r) else SF x.f0 x.f1 x.f2 x.f3
def SSF (l : List S25) : Int := if 1 ≤ l.length ∧ l.length ≤ 10 then SFs [] l else 2
theorem take_rd (l : List S25) (i : Nat) (h : i < l.length) : l.take (i + 1) = l.take i ++ [rd_T25 l (i : Int)] := by
  rw [List.take_succ_eq_append_getElem h]
  simp [rd_T25, List.getD, List.getElem?_eq_getElem h]
theorem ssf_spec_l0 (l : List S25) (hl : l.length ≤ 10) (d : Nat) : ∀ (i : Nat), i + d = l.length → Ev (fun k => spec_SuitesFault.l0 k l i) (SFs (l.take i) (l.drop i)) := by
  induction d with
  | zero =>
    intro i hi
    refine ev_succ ?_
    simp only [spec_SuitesFault.l0, show ¬ (i : Int) < (l.length : Int) by omega, if_false]
    rw [List.drop_of_length_le (by omega)]; exact Ev.now _
  | succ d ih =>
    intro i hi
    refine ev_succ ?_
    simp only [spec_SuitesFault.l0, show (i : Int) < (l.length : Int) by omega, show 0 ≤ (i : Int) by omega, show (i : Int) ≤ (l.length : Int) by omega, if_true, sf_spec, Option.bind_some]
    rw [drop_rd l i (by omega)]
    generalize hx : rd_T25 l (i : Int) = x
    simp only [SFs]
    by_cases h0 : SF x.f0 x.f1 x.f2 x.f3 = 0
    · simp only [h0, if_true]
      refine Ev.bind (has_spec _ (by simp; omega) _ _ _ _) ?_
      simp only [Int.toNat_natCast]
      by_cases hh : ((l.take i).any fun y => eqs y x.f0 x.f1 x.f2 x.f3) = true
      · simp only [if_pos hh]; exact Ev.now _
      · simp only [if_neg hh]
        rw [w64' (by omega) (by omega), ← hx, ← take_rd l i (by omega)]
        have := ih (i + 1) (by omega)
        simpa using this
    · simp only [h0, if_false]; exact Ev.now _
theorem ssf_impl_l0 (l : List S25) (hl : l.length ≤ 10) (d : Nat) : ∀ (i : Nat), i + d = l.length → Ev (fun k => impl_SuitesFault.l0 k l l (l.length : Int) i) (SFs (l.take i) (l.drop i)) := by
  induction d with
  | zero =>
    intro i hi
    refine ev_succ ?_
    simp only [impl_SuitesFault.l0, show ¬ (i : Int) < (l.length : Int) by omega, if_false]
    rw [List.drop_of_length_le (by omega)]; exact Ev.now _
  | succ d ih =>
    intro i hi
    refine ev_succ ?_
    simp only [impl_SuitesFault.l0, show (i : Int) < (l.length : Int) by omega, show 0 ≤ (i : Int) by omega, show (i : Int) ≤ (l.length : Int) by omega, if_true]
    rw [drop_rd l i (by omega)]
    generalize hx : rd_T25 l (i : Int) = x
    simp only [SFs]
    refine Ev.bind (sf_impl _ _ _ _) ?_
    by_cases h0 : SF x.f0 x.f1 x.f2 x.f3 = 0
    · simp only [h0, if_true]
      refine Ev.bind (has_impl _ (by simp; omega) _ _ _ _) ?_
      simp only [Int.toNat_natCast]
      by_cases hh : ((l.take i).any fun y => eqs y x.f0 x.f1 x.f2 x.f3) = true
      · simp only [if_pos hh]; exact Ev.now _
      · simp only [if_neg hh]
        rw [w64' (by omega) (by omega), ← hx, ← take_rd l i (by omega)]
        have := ih (i + 1) (by omega)
        simpa using this
    · simp only [h0, if_false]; exact Ev.now _
theorem ssf_spec (l : List S25) : Ev (fun k => spec_SuitesFault.f k l) (SSF l) := by
  unfold spec_SuitesFault.f SSF
  by_cases h1 : 1 ≤ l.length
  · simp only [show ¬ (l.length : Int) < 1 by omega, if_false]
    refine ev_succ ?_
    by_cases h2 : l.length ≤ 10
    · simp only [spec_SuitesFault.j0, decide_eq_true_eq, show ¬ (l.length : Int) > 10 by omega, if_false, h1, h2, and_self, if_true]
      have := ssf_spec_l0 l h2 l.length 0 (by omega)
      simpa using this
    · simp only [spec_SuitesFault.j0, decide_eq_true_eq, show (l.length : Int) > 10 by omega, if_true, h2, and_false, if_false]; exact Ev.now _
  · simp only [show (l.length : Int) < 1 by omega, if_true, h1, false_and, if_false]
    refine ev_succ ?_
    simp only [spec_SuitesFault.j0, if_true]; exact Ev.now _
theorem ssf_impl (l : List S25) : Ev (fun k => impl_SuitesFault.f k l) (SSF l) := by
  unfold impl_SuitesFault.f SSF
  simp only [in_impl', Option.bind_some, decide_eq_true_eq]
  by_cases h : 1 ≤ l.length ∧ l.length ≤ 10
  · simp only [show (1 : Int) ≤ (l.length : Int) ∧ (l.length : Int) ≤ 10 by omega, h, and_self, if_true]
    have := ssf_impl_l0 l h.2 l.length 0 (by omega)
    simpa using this
  · simp only [show ¬ ((1 : Int) ≤ (l.length : Int) ∧ (l.length : Int) ≤ 10) by omega, h, if_false]; exact Ev.now _
end Go.Proofs.Ytbneeppnhddheaa.Pure
set_option linter.unusedVariables false
set_option linter.unusedSimpArgs false
namespace Go.Proofs.Ytbneeppnhddheaa.Pure
open Go.RowKit Go.Proofs.Ytbneeppnhddheaa.G Go.Proofs.YtbneeppnhddheaaW.PrintWords Go.Proofs.YtbneeppnhddheaaW.PrintLast Go.Proofs.YtbneeppnhddheaaW.PrintMore
def rk (x : S25) : Int := ((x.f1 * 10 + x.f3) * 10 + x.f2) * 10 + x.f0
def OkS (x : S25) : Prop := SF x.f0 x.f1 x.f2 x.f3 = 0
theorem okS_iff {x : S25} (h : OkS x) : (1 ≤ x.f0 ∧ x.f0 ≤ 4) ∧ (x.f1 = 128 ∨ x.f1 = 192 ∨ x.f1 = 256) ∧ (1 ≤ x.f2 ∧ x.f2 ≤ 3) ∧ (1 ≤ x.f3 ∧ x.f3 ≤ 6) := by
  unfold OkS SF at h
  split at h
  · assumption
  · cases h
theorem SFs_ok : ∀ (l pre : List S25), SFs pre l = 0 → ∀ x ∈ l, OkS x
  | [], _, _, x, hx => by cases hx
  | y :: r, pre, h, x, hx => by
    simp only [SFs] at h
    by_cases h0 : SF y.f0 y.f1 y.f2 y.f3 = 0
    · rw [if_pos h0] at h
      by_cases hh : (pre.any fun z => eqs z y.f0 y.f1 y.f2 y.f3) = true
      · rw [if_pos hh] at h; cases h
      · rw [if_neg hh] at h
        rcases List.mem_cons.mp hx with rfl | hx
        · exact h0
        · exact SFs_ok r _ h x hx
    · rw [if_neg h0] at h; exact absurd h h0
theorem SSF_ok {l : List S25} (h : SSF l = 0) : (1 ≤ l.length ∧ l.length ≤ 10) ∧ ∀ x ∈ l, OkS x := by
  unfold SSF at h
  by_cases hl : 1 ≤ l.length ∧ l.length ≤ 10
  · rw [if_pos hl] at h; exact ⟨hl, SFs_ok _ _ h⟩
  · rw [if_neg hl] at h; cases h
theorem rank_ev {x : S25} (h : OkS x) : spec_l8Rank.f x.f0 x.f1 x.f2 x.f3 = some (rk x) := by
  obtain ⟨h0, h1, h2, h3⟩ := okS_iff h
  unfold spec_l8Rank.f rk
  rw [w64' (n := x.f1 * 10) (by omega) (by omega), w64' (n := x.f1 * 10 + x.f3) (by omega) (by omega), w64' (n := (x.f1 * 10 + x.f3) * 10) (by omega) (by omega), w64' (n := (x.f1 * 10 + x.f3) * 10 + x.f2) (by omega) (by omega), w64' (n := ((x.f1 * 10 + x.f3) * 10 + x.f2) * 10) (by omega) (by omega), w64' (n := ((x.f1 * 10 + x.f3) * 10 + x.f2) * 10 + x.f0) (by omega) (by omega)]
def cmpI (a b : Int) : Int := if a < b then -1 else if a > b then 1 else 0
theorem compare_ev (a b : Int) : cmp_Compare_int64.f a b = some (cmpI a b) := by
  unfold cmp_Compare_int64.f cmpI cmp_isNaN_int64.f
  simp only [bne_self_eq_false, Option.bind_some, Bool.false_eq_true, if_false]
  split
  · rfl
  · split <;> rfl
def or4 (p q r s : Int) : Int := if p = 0 then (if q = 0 then (if r = 0 then s else r) else q) else p
theorem or_ev (p q r s : Int) : Ev (fun k => cmp_Or_int.f k ([p, q, r, s] : List Int)) (or4 p q r s) := by
  refine ⟨6, fun k hk => ?_⟩
  obtain ⟨m, rfl⟩ : ∃ m, k = m + 5 := ⟨k - 5, by omega⟩
  have e1 : wrap64 1 = 1 := w64' (by omega) (by omega)
  have e2 : wrap64 2 = 2 := w64' (by omega) (by omega)
  have e3 : wrap64 3 = 3 := w64' (by omega) (by omega)
  have e4 : wrap64 4 = 4 := w64' (by omega) (by omega)
  have e5 : wrap64 (1 + 1) = 2 := w64' (by omega) (by omega)
  have e6 : wrap64 (2 + 1) = 3 := w64' (by omega) (by omega)
  have e7 : wrap64 (3 + 1) = 4 := w64' (by omega) (by omega)
  unfold cmp_Or_int.f or4
  by_cases hp : p = 0 <;> by_cases hq : q = 0 <;> by_cases hr : r = 0 <;> by_cases hs : s = 0 <;> simp [cmp_Or_int.l0, rd, e1, e2, e3, e4, e5, e6, e7, hp, hq, hr, hs]
theorem stronger_ev {x m : S25} (hx : OkS x) (hm : OkS m) : ∃ c, Ev (fun k => impl_stronger.f k x.f0 x.f1 x.f2 x.f3 m.f0 m.f1 m.f2 m.f3) c ∧ (c < 0 ↔ rk m < rk x) := by
  refine ⟨or4 (cmpI m.f1 x.f1) (cmpI m.f3 x.f3) (cmpI m.f2 x.f2) (cmpI m.f0 x.f0), ?_, ?_⟩
  · unfold impl_stronger.f
    simp only [compare_ev, Option.bind_some]
    refine Ev.bind (or_ev _ _ _ _) ?_
    exact Ev.now _
  · obtain ⟨h0, h1, h2, h3⟩ := okS_iff hx
    obtain ⟨g0, g1, g2, g3⟩ := okS_iff hm
    unfold or4 cmpI rk
    repeat' split
    all_goals omega
def mx : List S25 → S25 → S25
  | [], m => m
  | x :: xs, m => mx xs (if rk m < rk x then x else m)
theorem step_ev : ∀ (l : List S25) (m : S25), (∀ x ∈ l, OkS x) → OkS m → Ev (fun k => slices_MinFunc.step k l m) (mx l m)
  | [], m, _, _ => Ev.now _
  | x :: xs, m, h, hm => by
    simp only [slices_MinFunc.step, mx]
    obtain ⟨c, hc, hlt⟩ := stronger_ev (h x List.mem_cons_self) hm
    refine Ev.bind hc ?_
    by_cases h1 : c < 0
    · rw [if_pos (hlt.1 h1)]; simp only [h1, if_true]
      exact step_ev xs x (fun y hy => h y (List.mem_cons_of_mem _ hy)) (h x List.mem_cons_self)
    · rw [if_neg (fun h2 => h1 (hlt.2 h2))]; simp only [h1, if_false]
      exact step_ev xs m (fun y hy => h y (List.mem_cons_of_mem _ hy)) hm
theorem rd_mem (l : List S25) (i : Nat) (h : i < l.length) : rd_T25 l (i : Int) ∈ l := by
  have : rd_T25 l (i : Int) = l[i] := by simp [rd_T25, List.getD, List.getElem?_eq_getElem h]
  rw [this]; exact List.getElem_mem h
theorem rd_get (l : List S25) (i : Nat) (h : i < l.length) : rd_T25 l (i : Int) = l[i] := by simp [rd_T25, List.getD, List.getElem?_eq_getElem h]
theorem strong_spec_l0 (l : List S25) (hok : ∀ x ∈ l, OkS x) (hl : l.length ≤ 10) (d : Nat) : ∀ (a i : Nat), i + d = l.length → a < i → (∀ j : Nat, j < a → rk (rd_T25 l j) < rk (rd_T25 l a)) → (∀ j : Nat, j < i → rk (rd_T25 l j) ≤ rk (rd_T25 l a)) →
    ∃ t : Nat, t < l.length ∧ rd_T25 l t = mx (l.drop i) (rd_T25 l a) ∧ (∀ j : Nat, j < t → rk (rd_T25 l j) < rk (rd_T25 l t)) ∧ Ev (fun k => spec_StrongestOf.l0 k l a i) (0, (t : Int), (rd_T25 l t).f0, (rd_T25 l t).f1, (rd_T25 l t).f2, (rd_T25 l t).f3) := by
  induction d with
  | zero =>
    intro a i hi ha h1 h2
    refine ⟨a, by omega, ?_, h1, ?_⟩
    · rw [List.drop_of_length_le (by omega)]; rfl
    · refine ev_succ ?_
      simp only [spec_StrongestOf.l0, show ¬ (i : Int) < (l.length : Int) by omega, if_false, show 0 ≤ (a : Int) by omega, show (a : Int) < (l.length : Int) by omega, if_true]
      exact Ev.now _
  | succ d ih =>
    intro a i hi ha h1 h2
    by_cases hlt : rk (rd_T25 l a) < rk (rd_T25 l i)
    · obtain ⟨t, k1, k2, k3, k4⟩ := ih i (i + 1) (by omega) (by omega) (fun j hj => by have := h2 j hj; omega) (fun j hj => by
        by_cases e : j = i
        · subst e; omega
        · have := h2 j (by omega); omega)
      refine ⟨t, k1, ?_, k3, ?_⟩
      · rw [drop_rd l i (by omega), mx, if_pos hlt]; exact k2
      · refine ev_succ ?_
        simp only [spec_StrongestOf.l0, show (i : Int) < (l.length : Int) by omega, show 0 ≤ (i : Int) by omega, show 0 ≤ (a : Int) by omega, show (a : Int) < (l.length : Int) by omega, if_true, rank_ev (hok _ (rd_mem l i (by omega))), rank_ev (hok _ (rd_mem l a (by omega))), Option.bind_some, show rk (rd_T25 l (i : Int)) > rk (rd_T25 l (a : Int)) from hlt]
        rw [w64' (by omega) (by omega)]
        simpa using k4
    · obtain ⟨t, k1, k2, k3, k4⟩ := ih a (i + 1) (by omega) (by omega) h1 (fun j hj => by
        by_cases e : j = i
        · subst e; omega
        · exact h2 j (by omega))
      refine ⟨t, k1, ?_, k3, ?_⟩
      · rw [drop_rd l i (by omega), mx, if_neg hlt]; exact k2
      · refine ev_succ ?_
        simp only [spec_StrongestOf.l0, show (i : Int) < (l.length : Int) by omega, show 0 ≤ (i : Int) by omega, show 0 ≤ (a : Int) by omega, show (a : Int) < (l.length : Int) by omega, if_true, rank_ev (hok _ (rd_mem l i (by omega))), rank_ev (hok _ (rd_mem l a (by omega))), Option.bind_some, show ¬ rk (rd_T25 l (i : Int)) > rk (rd_T25 l (a : Int)) from hlt, if_false]
        rw [w64' (by omega) (by omega)]
        simpa using k4
theorem eqs_true {x y : S25} : eqs y x.f0 x.f1 x.f2 x.f3 = true ↔ y = x := by
  unfold eqs
  cases x; cases y
  simp
theorem index_ev (l : List S25) (hl : l.length ≤ 9223372036854775807) (x : S25) (t : Nat) (ht : t < l.length) (hx : rd_T25 l t = x) (hf : ∀ j : Nat, j < t → rd_T25 l j ≠ x) :
    Ev (fun k => impl_Suite_32.f k l x.f0 x.f1 x.f2 x.f3) (t : Int) := by
  refine ⟨l.length + 1, fun k hk => ?_⟩
  have h := index_l0 l hl x.f0 x.f1 x.f2 x.f3 l.length k 0 (by omega) (by omega)
  have h' : impl_Suite_32.l0 k l (l.length : Int) 0 x.f0 x.f1 x.f2 x.f3 = some (idx l x.f0 x.f1 x.f2 x.f3 0) := by simpa using h
  show impl_Suite_32.l0 k l (l.length : Int) 0 x.f0 x.f1 x.f2 x.f3 = _
  rw [h']
  have hi : (l.drop 0).findIdx? (fun y => eqs y x.f0 x.f1 x.f2 x.f3) = some t := by
    rw [List.drop_zero, List.findIdx?_eq_some_iff_getElem]
    refine ⟨ht, ?_, ?_⟩
    · rw [eqs_true, ← rd_get l t ht]; exact hx
    · intro j hj
      rw [eqs_true, ← rd_get l j (by omega)]; exact hf j hj
  unfold idx
  rw [hi]
  simp
end Go.Proofs.Ytbneeppnhddheaa.Pure
set_option linter.unusedVariables false
set_option linter.unusedSimpArgs false
namespace Go.Proofs.Ytbneeppnhddheaa.Pure
open Go.RowKit Go.Proofs.Ytbneeppnhddheaa.G Go.Proofs.YtbneeppnhddheaaW.PrintWords Go.Proofs.YtbneeppnhddheaaW.PrintLast Go.Proofs.YtbneeppnhddheaaW.PrintMore
def hasB (l : List S25) (x : S25) : Bool := l.any fun y => eqs y x.f0 x.f1 x.f2 x.f3
def CSc (l0 l1 : List S25) : Int := if SSF l0 = 0 then SSF l1 else SSF l0
theorem asked_ev (l0 l1 : List S25) : Ev (fun k => spec_l8Asked.f k l0 l1) (CSc l0 l1) := by
  unfold spec_l8Asked.f CSc
  refine Ev.bind (ssf_spec l0) ?_
  by_cases h : SSF l0 = 0
  · simp only [h, if_true]; refine Ev.bind (ssf_spec l1) ?_; exact Ev.now _
  · simp only [h, if_false]; exact Ev.now _
def CS (l0 l1 : List S25) : Int × List S25 := if CSc l0 l1 = 0 then (if (l0.filter (hasB l1)).length = 0 then (4, []) else (0, l0.filter (hasB l1))) else (CSc l0 l1, [])
theorem CSc_ok {l0 l1 : List S25} (h : CSc l0 l1 = 0) : ((1 ≤ l0.length ∧ l0.length ≤ 10) ∧ ∀ x ∈ l0, OkS x) ∧ ((1 ≤ l1.length ∧ l1.length ≤ 10) ∧ ∀ x ∈ l1, OkS x) := by
  unfold CSc at h
  by_cases h0 : SSF l0 = 0
  · rw [if_pos h0] at h; exact ⟨SSF_ok h0, SSF_ok h⟩
  · rw [if_neg h0] at h; exact absurd h h0
theorem keep_ev (l1 : List S25) (hl : l1.length ≤ 9223372036854775807) : ∀ (l : List S25), Ev (fun k => impl_CommonSuites.keep k l1 l) (l.filter (hasB l1))
  | [] => Ev.now _
  | x :: xs => by
    simp only [impl_CommonSuites.keep]
    refine Ev.bind (has_impl l1 hl x.f0 x.f1 x.f2 x.f3) (Ev.bind (keep_ev l1 hl xs) ?_)
    have e : (if (l1.any fun y => eqs y x.f0 x.f1 x.f2 x.f3) = true then x :: xs.filter (hasB l1) else xs.filter (hasB l1)) = (x :: xs).filter (hasB l1) := by
      show (if hasB l1 x = true then _ else _) = _
      rw [List.filter_cons]
    rw [e]
    exact Ev.now _
theorem cs_impl (l0 l1 : List S25) : Ev (fun k => impl_CommonSuites.f k l0 l1) (CS l0 l1) := by
  unfold impl_CommonSuites.f CS
  refine Ev.bind (ssf_impl l0) (Ev.bind (ssf_impl l1) (Ev.bind (faultOf2' _ _) ?_))
  by_cases h : CSc l0 l1 = 0
  · have h' : (if SSF l0 = 0 then SSF l1 else SSF l0) = 0 := h
    obtain ⟨⟨⟨h1, h2⟩, _⟩, ⟨h3, h4⟩, _⟩ := CSc_ok h
    simp only [h, h', if_true, show 0 < l0.length ∧ l0.length * 32 ≤ 140737488355328 from ⟨by omega, by omega⟩, and_self]
    refine Ev.bind (keep_ev l1 (by omega) l0) ?_
    by_cases hr : (l0.filter (hasB l1)).length = 0
    · simp only [hr, if_true]; exact Ev.now _
    · simp only [hr, if_false]; exact Ev.now _
  · have h' : ¬ (if SSF l0 = 0 then SSF l1 else SSF l0) = 0 := h
    simp only [h, h', if_false]; exact Ev.now _
theorem filter_head (p : S25 → Bool) : ∀ l : List S25, (l.filter p = [] ∧ ∀ j : Nat, j < l.length → p (rd_T25 l j) = false) ∨ ∃ t : Nat, t < l.length ∧ (∃ r, l.filter p = rd_T25 l t :: r) ∧ p (rd_T25 l t) = true ∧ ∀ j : Nat, j < t → p (rd_T25 l j) = false
  | [] => .inl ⟨rfl, fun j hj => absurd hj (Nat.not_lt_zero _)⟩
  | x :: xs => by
    have h0 : rd_T25 (x :: xs) ((0 : Nat) : Int) = x := rfl
    have hs : ∀ j : Nat, rd_T25 (x :: xs) ((j + 1 : Nat) : Int) = rd_T25 xs (j : Int) := fun j => by simp [rd_T25, List.getD, show ((j : Int) + 1).toNat = j + 1 by omega]
    cases hp : p x with
    | true => exact .inr ⟨0, Nat.succ_pos _, ⟨xs.filter p, by rw [h0, List.filter_cons, if_pos hp]⟩, by rw [h0]; exact hp, fun j hj => absurd hj (Nat.not_lt_zero _)⟩
    | false =>
      have hf : (x :: xs).filter p = xs.filter p := by rw [List.filter_cons, if_neg (by rw [hp]; decide)]
      rcases filter_head p xs with ⟨h1, h2⟩ | ⟨t, h1, ⟨r, h2⟩, h3, h4⟩
      · refine .inl ⟨by rw [hf, h1], fun j hj => ?_⟩
        match j, hj with
        | 0, _ => rw [h0]; exact hp
        | j + 1, hj => rw [hs]; exact h2 j (by simpa using hj)
      · refine .inr ⟨t + 1, by simpa using h1, ⟨r, by rw [hf, h2, hs]⟩, by rw [hs]; exact h3, fun j hj => ?_⟩
        match j, hj with
        | 0, _ => rw [h0]; exact hp
        | j + 1, hj => rw [hs]; exact h4 j (by omega)
theorem choose_both (l0 l1 : List S25) : ∃ r, Ev (fun k => spec_ChooseSuite.f k l0 l1) r ∧ Ev (fun k => impl_ChooseSuite.f k l0 l1) r ∧
    ((CSc l0 l1 ≠ 0 ∧ r = (CSc l0 l1, 0, 0, 0, 0, 0)) ∨ (CSc l0 l1 = 0 ∧ CS l0 l1 = (4, []) ∧ r = (4, 0, 0, 0, 0, 0)) ∨ (CSc l0 l1 = 0 ∧ ∃ t : Nat, t < l0.length ∧ (∃ q, CS l0 l1 = (0, rd_T25 l0 t :: q)) ∧ hasB l1 (rd_T25 l0 t) = true ∧ r = (0, (t : Int), (rd_T25 l0 t).f0, (rd_T25 l0 t).f1, (rd_T25 l0 t).f2, (rd_T25 l0 t).f3))) := by
  by_cases h : CSc l0 l1 = 0
  · obtain ⟨⟨⟨h1, h2⟩, _⟩, ⟨h3, h4⟩, _⟩ := CSc_ok h
    -- the reference's loop, from i on
    have loop : ∀ (r : Int × Int × Int × Int × Int × Int) (n : Nat) (d i : Nat), i + d = n → n ≤ l0.length → (∀ j : Nat, j < n → hasB l1 (rd_T25 l0 j) = false) → Ev (fun k => spec_ChooseSuite.l0 k l0 l1 n) r → Ev (fun k => spec_ChooseSuite.l0 k l0 l1 i) r := by
      intro r n d
      induction d with
      | zero => intro i hi _ _ he; obtain rfl : i = n := by omega
                exact he
      | succ d ih =>
        intro i hi hn hf he
        refine ev_succ ?_
        simp only [spec_ChooseSuite.l0, show (i : Int) < (l0.length : Int) by omega, show 0 ≤ (i : Int) by omega, if_true]
        refine Ev.bind (has_spec l1 (by omega) _ _ _ _) ?_
        have hh : (l1.any fun y => eqs y (rd_T25 l0 (i : Int)).f0 (rd_T25 l0 (i : Int)).f1 (rd_T25 l0 (i : Int)).f2 (rd_T25 l0 (i : Int)).f3) = false := hf i (by omega)
        simp only [hh, Bool.false_eq_true, if_false]
        rw [w64' (by omega) (by omega)]
        have := ih (i + 1) (by omega) hn hf he
        simpa using this
    rcases filter_head (hasB l1) l0 with ⟨k1, k2⟩ | ⟨t, k1, ⟨q, k2⟩, k3, k4⟩
    · have hcs : CS l0 l1 = (4, []) := by unfold CS; rw [if_pos h, k1]; rfl
      refine ⟨(4, 0, 0, 0, 0, 0), ?_, ?_, .inr (.inl ⟨h, hcs, rfl⟩)⟩
      · unfold spec_ChooseSuite.f
        refine Ev.bind (asked_ev l0 l1) ?_
        simp only [h, if_true]
        refine loop _ l0.length l0.length 0 (by omega) (Nat.le_refl _) k2 ?_
        refine ev_succ ?_
        simp only [spec_ChooseSuite.l0, show ¬ (l0.length : Int) < (l0.length : Int) by omega, if_false]; exact Ev.now _
      · unfold impl_ChooseSuite.f
        refine Ev.bind (cs_impl l0 l1) ?_
        rw [hcs]
        simp only [show ¬ (4 : Int) = 0 by omega, if_false]; exact Ev.now _
    · have hcs : CS l0 l1 = (0, rd_T25 l0 t :: q) := by unfold CS; rw [if_pos h, k2, if_neg (by simp)]
      refine ⟨(0, (t : Int), (rd_T25 l0 t).f0, (rd_T25 l0 t).f1, (rd_T25 l0 t).f2, (rd_T25 l0 t).f3), ?_, ?_, .inr (.inr ⟨h, t, k1, ⟨q, hcs⟩, k3, rfl⟩)⟩
      · unfold spec_ChooseSuite.f
        refine Ev.bind (asked_ev l0 l1) ?_
        simp only [h, if_true]
        refine loop _ t t 0 (by omega) (by omega) k4 ?_
        refine ev_succ ?_
        simp only [spec_ChooseSuite.l0, show (t : Int) < (l0.length : Int) by omega, show 0 ≤ (t : Int) by omega, if_true]
        refine Ev.bind (has_spec l1 (by omega) _ _ _ _) ?_
        have hh : (l1.any fun y => eqs y (rd_T25 l0 (t : Int)).f0 (rd_T25 l0 (t : Int)).f1 (rd_T25 l0 (t : Int)).f2 (rd_T25 l0 (t : Int)).f3) = true := k3
        simp only [hh, if_true]; exact Ev.now _
      · unfold impl_ChooseSuite.f
        refine Ev.bind (cs_impl l0 l1) ?_
        rw [hcs]
        have hr0 : rd_T25 (rd_T25 l0 (t : Int) :: q) 0 = rd_T25 l0 (t : Int) := rfl
        simp only [if_true, hr0, show 0 < ((rd_T25 l0 (t : Int) :: q).length : Int) by simp <;> omega]
        refine Ev.bind (index_ev l0 (by omega) _ t k1 rfl (fun j hj e => by have := k4 j hj; rw [e, k3] at this; cases this)) ?_
        exact Ev.now _
  · refine ⟨(CSc l0 l1, 0, 0, 0, 0, 0), ?_, ?_, .inl ⟨h, rfl⟩⟩
    · unfold spec_ChooseSuite.f
      refine Ev.bind (asked_ev l0 l1) ?_
      simp only [h, if_false]; exact Ev.now _
    · unfold impl_ChooseSuite.f
      refine Ev.bind (cs_impl l0 l1) ?_
      have hcs : CS l0 l1 = (CSc l0 l1, []) := by unfold CS; rw [if_neg h]
      rw [hcs]
      simp only [h, if_false]; exact Ev.now _
end Go.Proofs.Ytbneeppnhddheaa.Pure
set_option linter.unusedVariables false
set_option linter.unusedSimpArgs false
namespace Go.Proofs.Ytbneeppnhddheaa.Pure
open Go.RowKit Go.Proofs.Ytbneeppnhddheaa.G Go.Proofs.YtbneeppnhddheaaW.PrintWords Go.Proofs.YtbneeppnhddheaaW.PrintLast Go.Proofs.YtbneeppnhddheaaW.PrintMore
theorem w64d {n : Int} (h0 : 0 ≤ n) (h1 : n ≤ 9223372036854775807) : wrap64 n = n := by unfold wrap64; omega
theorem rd_byte {l : List Int} (hb : ∀ x ∈ l, 0 ≤ x ∧ x ≤ 255) (i : Int) : 0 ≤ rd l i ∧ rd l i ≤ 255 := by
  unfold rd
  simp only [List.getD]
  cases h : l[i.toNat]? with
  | none => simp
  | some x => simpa using hb x (List.mem_of_getElem? h)
theorem next_ok (l : List Int) (hb : ∀ x ∈ l, 0 ≤ x ∧ x ≤ 255) (hl : l.length ≤ 1048576) (s a : Int) (s0 : 0 ≤ s) (s1 : s ≤ 1000000000000) (ha : 1 ≤ a) : ∃ r, spec_l1Next.f l s a = some (r, s + 1) ∧ 0 ≤ r ∧ r < a := by
  unfold spec_l1Next.f
  have e1 : wrap64 (s + 1) = s + 1 := w64d (by omega) (by omega)
  have e2 : wrap64 (s + 1 - 1) = s := by rw [w64d (by omega) (by omega)]; omega
  rw [if_neg (by omega), e1, e2]
  by_cases h0 : (l.length : Int) = 0
  · rw [if_pos h0, if_neg (by omega), w64d (by omega) (by omega)]
    exact ⟨_, rfl, Int.tmod_nonneg _ (by omega), Int.tmod_lt_of_pos _ (by omega)⟩
  rw [if_neg h0]
  have m0 := Int.tmod_nonneg (l.length : Int) (show 0 ≤ s by omega)
  have m1 := Int.tmod_lt_of_pos s (show 0 < (l.length : Int) by omega)
  have d0 : 0 ≤ s.tdiv (l.length : Int) := Int.tdiv_nonneg s0 (by omega)
  have d1 : s.tdiv (l.length : Int) ≤ s := by
    rw [Int.tdiv_eq_ediv_of_nonneg s0]; exact Int.ediv_le_self _ s0
  have r0 := rd_byte hb (s.tmod (l.length : Int))
  generalize rd l (s.tmod (l.length : Int)) = x at r0 ⊢
  rw [if_pos m0, if_pos m1]
  have f1 : wrap64 x = x := w64d r0.1 (by omega)
  have f2 : wrap64 (s.tdiv (l.length : Int)) = s.tdiv (l.length : Int) := w64d d0 (by omega)
  generalize s.tdiv (l.length : Int) = q at d0 d1 f2 ⊢
  have f3 : wrap64 (q * 37) = q * 37 := w64d (by omega) (by omega)
  have f4 : wrap64 (x + q * 37) = x + q * 37 := w64d (by omega) (by omega)
  rw [f1, f2, f3, f4]
  by_cases h2 : a > 200
  · rw [if_pos h2]
    try simp only [e1]
    have g0 : 0 ≤ (wrap64 (s + 1)).tmod (l.length : Int) := Int.tmod_nonneg _ (by rw [e1]; omega)
    have g1 : (wrap64 (s + 1)).tmod (l.length : Int) < (l.length : Int) := Int.tmod_lt_of_pos _ (by omega)
    have y0 := rd_byte hb ((wrap64 (s + 1)).tmod (l.length : Int))
    rw [e1] at g0 g1 y0
    generalize rd l ((s + 1).tmod (l.length : Int)) = y at y0 ⊢
    rw [if_pos g0, if_pos g1, if_neg (by omega)]
    have f5 : wrap64 y = y := w64d y0.1 (by omega)
    have f6 : wrap64 (y * 13) = y * 13 := w64d (by omega) (by omega)
    have f7 : wrap64 ((x + q * 37) * 251) = (x + q * 37) * 251 := w64d (by omega) (by omega)
    have f8 : wrap64 ((x + q * 37) * 251 + y * 13) = (x + q * 37) * 251 + y * 13 := w64d (by omega) (by omega)
    have f9 : wrap64 ((x + q * 37) * 251 + y * 13 + s) = (x + q * 37) * 251 + y * 13 + s := w64d (by omega) (by omega)
    rw [f5, f6, f7, f8, f9]
    exact ⟨_, rfl, Int.tmod_nonneg _ (by omega), Int.tmod_lt_of_pos _ (by omega)⟩
  · rw [if_neg h2, if_neg (by omega)]
    exact ⟨_, rfl, Int.tmod_nonneg _ (by omega), Int.tmod_lt_of_pos _ (by omega)⟩
theorem pick_ok (l : List Int) (hb : ∀ x ∈ l, 0 ≤ x ∧ x ≤ 255) (hl : l.length ≤ 1048576) (s : Int) (L : List Int) (s0 : 0 ≤ s) (s1 : s ≤ 1000000000000) (hL : 1 ≤ L.length) : ∃ x, x ∈ L ∧ spec_l1Pick.f l s L = some (x, s + 1) := by
  obtain ⟨r, h, r0, r1⟩ := next_ok l hb hl s (L.length : Int) s0 s1 (by omega)
  obtain ⟨n, rfl⟩ := Int.eq_ofNat_of_zero_le r0
  have hn : n < L.length := by omega
  refine ⟨L[n], List.getElem_mem hn, ?_⟩
  unfold spec_l1Pick.f
  rw [h]; simp only [Option.bind_some]
  rw [if_pos r0, if_pos r1]
  have : rd L (n : Int) = L[n] := by simp [rd, List.getD, List.getElem?_eq_getElem hn]
  rw [this]
end Go.Proofs.Ytbneeppnhddheaa.Pure
set_option linter.unusedVariables false
set_option linter.unusedSimpArgs false
namespace Go.Proofs.Ytbneeppnhddheaa.Pure
open Go.RowKit Go.Proofs.Ytbneeppnhddheaa.G Go.Proofs.YtbneeppnhddheaaW.PrintWords Go.Proofs.YtbneeppnhddheaaW.PrintLast Go.Proofs.YtbneeppnhddheaaW.PrintMore
def four (x : S25) : List Int := [x.f0 % 256, (wrap64 (Int.tdiv x.f1 64)) % 256, x.f2 % 256, x.f3 % 256]
def ens (l : List S25) : List Int := (l.map four).flatten
theorem ens_length (l : List S25) : (ens l).length = 4 * l.length := by
  induction l with
  | nil => rfl
  | cons x r ih =>
    have : ens (x :: r) = four x ++ ens r := by simp [ens]
    rw [this, List.length_append, ih]; simp [four]; omega
theorem ens_snoc (l : List S25) (i : Nat) (h : i < l.length) : ens (l.take (i + 1)) = ens (l.take i) ++ four (rd_T25 l (i : Int)) := by
  rw [take_rd l i h]; simp [ens]
theorem en_impl_l0 (l : List S25) (hl : l.length ≤ 1048576) (d : Nat) : ∀ (k i : Nat), i + d = l.length → d < k → impl_EncodeSuites.l0 k (ens (l.take i)) l (l.length : Int) i = some (0, ens l) := by
  induction d with
  | zero =>
    intro k i hi hk
    obtain ⟨k, rfl⟩ : ∃ m, k = m + 1 := ⟨k - 1, by omega⟩
    simp only [impl_EncodeSuites.l0]; rw [if_neg (by omega), List.take_of_length_le (by omega)]
  | succ d ih =>
    intro k i hi hk
    obtain ⟨k, rfl⟩ : ∃ m, k = m + 1 := ⟨k - 1, by omega⟩
    have h1 := ens_length (l.take i)
    have h2 : (l.take i).length = i := by simp; omega
    simp only [impl_EncodeSuites.l0, Option.bind_some, List.length_cons, List.length_nil]
    rw [if_pos (by omega), if_pos (by omega), if_pos (by omega), if_pos (by omega), w64' (n := (i : Int) + 1) (by omega) (by omega)]
    have := ih k (i + 1) (by omega) (by omega)
    rw [ens_snoc l i (by omega)] at this
    exact this
def EN (l : List S25) : Int × List Int := if SSF l = 0 then (0, ens l) else (SSF l, [])
theorem en_impl (l : List S25) (hl : l.length ≤ 1048576) : Ev (fun k => impl_EncodeSuites.f k l) (EN l) := by
  unfold impl_EncodeSuites.f EN
  refine Ev.bind (ssf_impl l) ?_
  by_cases h : SSF l = 0
  · simp only [if_pos h]
    refine ⟨l.length + 1, fun k hk => ?_⟩
    have := en_impl_l0 l hl l.length k 0 (by omega) (by omega)
    simpa [ens] using this
  · simp only [if_neg h]; exact Ev.now _
def su (l : List Int) (i : Int) : S25 := ⟨wrap64 (rd l i), wrap64 (64 * wrap64 (rd l (i + 1))), wrap64 (rd l (i + 2)), wrap64 (rd l (i + 3))⟩
def cl (l : List Int) : Nat → List S25 → Nat → List S25
  | 0, acc, _ => acc
  | d + 1, acc, i => if i + 4 ≤ l.length ∧ acc.length ≤ 10 then cl l d (acc ++ [su l i]) (i + 4) else acc
def fin (a : List S25) : Int × List S25 := if SSF a = 0 then (0, a) else (5, [])
theorem fin_impl (a : List S25) : Ev (fun k => (impl_SuitesFault.f k a).bind fun t => (if t = 0 then (some (0, a)) else (some (5, ([] : List (S25)))))) (fin a) := by
  refine Ev.bind (ssf_impl a) ?_
  unfold fin
  by_cases h : SSF a = 0
  · simp only [h, if_true]; exact Ev.now _
  · simp only [h, if_false]; exact Ev.now _
theorem ds_impl_l0 (l : List Int) (hl : l.length ≤ 1048576) (d : Nat) : ∀ (acc : List S25) (i : Nat), l.length ≤ i + d → i ≤ l.length → Ev (fun k => impl_DecodeSuites.l0 k l acc i) (if (l.length : Int) % 4 = 0 then fin (cl l d acc i) else (5, [])) := by
  have done : ∀ acc : List S25, Ev (fun n => (if ((l.length : Int) % 4) = 0 then ((impl_SuitesFault.f n acc).bind fun t => (if t = 0 then (some (0, acc)) else (some (5, ([] : List (S25)))))) else (some (5, ([] : List (S25)))))) (if (l.length : Int) % 4 = 0 then fin acc else (5, [])) := by
    intro acc
    by_cases h4 : (l.length : Int) % 4 = 0
    · simp only [if_pos h4]; exact fin_impl _
    · simp only [if_neg h4]; exact Ev.now _
  induction d with
  | zero =>
    intro acc i hi hil
    refine ev_succ ?_
    simp only [impl_DecodeSuites.l0, w64' (n := (i : Int) + 4) (by omega) (by omega), show ¬ ((i : Int) + 4 ≤ l.length) by omega, if_false]
    exact done _
  | succ d ih =>
    intro acc i hi hil
    refine ev_succ ?_
    simp only [impl_DecodeSuites.l0, w64' (n := (i : Int) + 3) (by omega) (by omega), w64' (n := (i : Int) + 1) (by omega) (by omega), w64' (n := (i : Int) + 2) (by omega) (by omega), w64' (n := (i : Int) + 4) (by omega) (by omega), cl]
    by_cases h1 : i + 4 ≤ l.length
    · by_cases h2 : acc.length ≤ 10
      · simp only [h1, h2, and_self, if_true, show (i : Int) + 4 ≤ l.length by omega, show (acc.length : Int) ≤ 10 by omega, show 0 ≤ (i : Int) by omega, show (i : Int) < l.length by omega, show 0 ≤ (i : Int) + 1 by omega, show (i : Int) + 1 < l.length by omega, show 0 ≤ (i : Int) + 2 by omega, show (i : Int) + 2 < l.length by omega, show 0 ≤ (i : Int) + 3 by omega, show (i : Int) + 3 < l.length by omega, show acc.length < 4398046511104 by omega]
        exact ih (acc ++ [su l i]) (i + 4) (by omega) (by omega)
      · simp only [h2, and_false, if_false, if_true, show (i : Int) + 4 ≤ l.length by omega, show ¬ (acc.length : Int) ≤ 10 by omega]
        exact done _
    · simp only [h1, false_and, if_false, show ¬ ((i : Int) + 4 ≤ l.length) by omega]
      exact done _
def DS (l : List Int) : Int × List S25 := if (l.length : Int) % 4 = 0 then fin (cl l l.length [] 0) else (5, [])
theorem ds_impl (l : List Int) (hl : l.length ≤ 1048576) : Ev (fun k => impl_DecodeSuites.f k l) (DS l) := by
  unfold impl_DecodeSuites.f DS
  exact ds_impl_l0 l hl l.length [] 0 (by omega) (by omega)
theorem rd_mid (p q r : List Int) (n : Nat) (j : Nat) (hp : p.length = n) (hj : j < q.length) : rd (p ++ (q ++ r)) ((n + j : Nat) : Int) = q[j] := by
  have h : (p ++ (q ++ r))[n + j]? = some q[j] := by
    rw [List.getElem?_append_right (by omega), List.getElem?_append_left (by omega)]
    rw [show n + j - p.length = j by omega]
    exact List.getElem?_eq_getElem hj
  simp [rd, List.getD, h, show ((n : Int) + (j : Int)).toNat = n + j by omega]
theorem ens_split (l : List S25) (j : Nat) (h : j < l.length) : ens l = ens (l.take j) ++ (four (rd_T25 l (j : Int)) ++ ens (l.drop (j + 1))) := by
  have : l = l.take j ++ (rd_T25 l (j : Int) :: l.drop (j + 1)) := by rw [← drop_rd l j h, List.take_append_drop]
  conv => lhs; rw [this]
  simp [ens]
theorem su_ens (l : List S25) (j : Nat) (h : j < l.length) (hok : OkS (rd_T25 l (j : Int))) : su (ens l) ((4 * j : Nat) : Int) = rd_T25 l (j : Int) := by
  have hl : (ens (l.take j)).length = 4 * j := by rw [ens_length, List.length_take]; omega
  obtain ⟨⟨a0, a1⟩, hb, ⟨c0, c1⟩, ⟨d0, d1⟩⟩ := okS_iff hok
  have e := ens_split l j h
  generalize rd_T25 l (j : Int) = x at e a0 a1 hb c0 c1 d0 d1 ⊢
  rw [e]
  have r0 := rd_mid (ens (l.take j)) (four x) (ens (l.drop (j + 1))) (4 * j) 0 hl (by simp [four])
  have r1 := rd_mid (ens (l.take j)) (four x) (ens (l.drop (j + 1))) (4 * j) 1 hl (by simp [four])
  have r2 := rd_mid (ens (l.take j)) (four x) (ens (l.drop (j + 1))) (4 * j) 2 hl (by simp [four])
  have r3 := rd_mid (ens (l.take j)) (four x) (ens (l.drop (j + 1))) (4 * j) 3 hl (by simp [four])
  simp only [four, List.getElem_cons_zero, List.getElem_cons_succ, Nat.add_zero] at r0 r1 r2 r3
  unfold su
  have q1 : ((4 * j : Nat) : Int) + 1 = ((4 * j + 1 : Nat) : Int) := by omega
  have q2 : ((4 * j : Nat) : Int) + 2 = ((4 * j + 2 : Nat) : Int) := by omega
  have q3 : ((4 * j : Nat) : Int) + 3 = ((4 * j + 3 : Nat) : Int) := by omega
  rw [q1, q2, q3]
  have r0' : rd (ens (l.take j) ++ ([x.f0 % 256, wrap64 (x.f1.tdiv 64) % 256, x.f2 % 256, x.f3 % 256] ++ ens (l.drop (j + 1)))) ((4 * j : Nat) : Int) = x.f0 % 256 := by simpa using r0
  have hf : four x = [x.f0 % 256, wrap64 (x.f1.tdiv 64) % 256, x.f2 % 256, x.f3 % 256] := rfl
  rw [hf, r0', r1, r2, r3]
  have e0 : x.f0 % 256 = x.f0 := by omega
  have e2 : x.f2 % 256 = x.f2 := by omega
  have e3 : x.f3 % 256 = x.f3 := by omega
  have e1 : wrap64 (64 * wrap64 (wrap64 (x.f1.tdiv 64) % 256)) = x.f1 := by
    have w2 : ∀ q v : Int, x.f1.tdiv 64 = q → 0 ≤ q → q ≤ 255 → 64 * q = v → wrap64 (64 * wrap64 (wrap64 (x.f1.tdiv 64) % 256)) = v := by
      intro q v h0 h1 h2 h3
      rw [h0, w64' (n := q) (by omega) (by omega), show q % 256 = q by omega, w64' (n := q) (by omega) (by omega), w64' (n := 64 * q) (by omega) (by omega), h3]
    rcases hb with h | h | h
    · rw [w2 2 128 (by rw [h]; decide) (by omega) (by omega) (by omega), h]
    · rw [w2 3 192 (by rw [h]; decide) (by omega) (by omega) (by omega), h]
    · rw [w2 4 256 (by rw [h]; decide) (by omega) (by omega) (by omega), h]
  rw [e0, e1, e2, e3, w64' (n := x.f0) (by omega) (by omega), w64' (n := x.f2) (by omega) (by omega), w64' (n := x.f3) (by omega) (by omega)]
theorem cl_ens (l : List S25) (hok : ∀ x ∈ l, OkS x) (hl : l.length ≤ 10) (m : Nat) : ∀ (d j : Nat), j + m = l.length → m ≤ d → cl (ens l) d (l.take j) (4 * j) = l := by
  have hn := ens_length l
  induction m with
  | zero =>
    intro d j hj hd
    have ht : l.take j = l := List.take_of_length_le (by omega)
    cases d with
    | zero => simp only [cl]; exact ht
    | succ d => simp only [cl]; rw [if_neg (by omega)]; exact ht
  | succ m ih =>
    intro d j hj hd
    obtain ⟨d, rfl⟩ : ∃ e, d = e + 1 := ⟨d - 1, by omega⟩
    have ht : (l.take j).length = j := by rw [List.length_take]; omega
    simp only [cl]
    rw [if_pos ⟨by omega, by omega⟩, su_ens l j (by omega) (hok _ (rd_mem l j (by omega))), ← take_rd l j (by omega)]
    exact ih d (j + 1) (by omega) (by omega)
theorem ds_ens (l : List S25) (h : SSF l = 0) : DS (ens l) = (0, l) := by
  obtain ⟨⟨h1, h2⟩, hok⟩ := SSF_ok h
  have hn := ens_length l
  unfold DS
  rw [if_pos (by omega)]
  have : cl (ens l) (ens l).length [] 0 = l := cl_ens l hok h2 l.length _ 0 (by omega) (by omega)
  rw [this]
  unfold fin
  rw [if_pos h]
theorem SFs_nodup : ∀ (l pre : List S25), SFs pre l = 0 → l.Nodup ∧ ∀ x ∈ l, x ∉ pre
  | [], _, _ => ⟨List.nodup_nil, fun x hx => by cases hx⟩
  | y :: r, pre, h => by
    simp only [SFs] at h
    by_cases h0 : SF y.f0 y.f1 y.f2 y.f3 = 0
    · rw [if_pos h0] at h
      by_cases hh : (pre.any fun z => eqs z y.f0 y.f1 y.f2 y.f3) = true
      · rw [if_pos hh] at h; cases h
      · rw [if_neg hh] at h
        obtain ⟨k1, k2⟩ := SFs_nodup r _ h
        have hy : y ∉ pre := fun hm => hh (List.any_eq_true.2 ⟨y, hm, eqs_true.2 rfl⟩)
        refine ⟨List.nodup_cons.2 ⟨fun hm => k2 y hm (by simp), k1⟩, fun x hx => ?_⟩
        rcases List.mem_cons.mp hx with rfl | hx
        · exact hy
        · exact fun hm => k2 x hx (by simp [hm])
    · rw [if_neg h0] at h; exact absurd h h0
theorem SFs_of : ∀ (l pre : List S25), (∀ x ∈ l, OkS x) → l.Nodup → (∀ x ∈ l, x ∉ pre) → SFs pre l = 0
  | [], _, _, _, _ => rfl
  | y :: r, pre, h, hn, hp => by
    simp only [SFs]
    have h0 : SF y.f0 y.f1 y.f2 y.f3 = 0 := h y List.mem_cons_self
    obtain ⟨n1, n2⟩ := List.nodup_cons.1 hn
    rw [if_pos h0, if_neg (by
      intro hh
      obtain ⟨z, hz, he⟩ := List.any_eq_true.1 hh
      exact hp y List.mem_cons_self (by rw [← eqs_true.1 he]; exact hz))]
    refine SFs_of r _ (fun x hx => h x (List.mem_cons_of_mem _ hx)) n2 (fun x hx hm => ?_)
    rcases List.mem_append.1 hm with hm | hm
    · exact hp x (List.mem_cons_of_mem _ hx) hm
    · rw [List.mem_singleton.1 hm] at hx; exact n1 hx
theorem len_le : ∀ (a b : List S25), a.Nodup → (∀ x ∈ a, x ∈ b) → a.length ≤ b.length
  | [], _, _, _ => Nat.zero_le _
  | x :: r, b, hn, hs => by
    obtain ⟨n1, n2⟩ := List.nodup_cons.1 hn
    obtain ⟨s, t, rfl⟩ := List.append_of_mem (hs x List.mem_cons_self)
    have := len_le r (s ++ t) n2 (fun y hy => by
      have := hs y (List.mem_cons_of_mem _ hy)
      rcases List.mem_append.1 this with h | h
      · exact List.mem_append.2 (.inl h)
      · rcases List.mem_cons.1 h with h | h
        · subst h; exact absurd hy n1
        · exact List.mem_append.2 (.inr h))
    simp at this ⊢
    omega
theorem hasB_iff (l : List S25) (x : S25) : hasB l x = true ↔ x ∈ l := by
  unfold hasB
  rw [List.any_eq_true]
  constructor
  · rintro ⟨y, hy, he⟩; rw [← eqs_true.1 he]; exact hy
  · intro h; exact ⟨x, h, eqs_true.2 rfl⟩
theorem both_len (a b : List S25) (ha : a.Nodup) (hb : b.Nodup) : (a.filter (hasB b)).length = (b.filter (hasB a)).length := by
  have key : ∀ u v : List S25, u.Nodup → (u.filter (hasB v)).length ≤ (v.filter (hasB u)).length := by
    intro u v hu
    refine len_le _ _ (hu.filter _) (fun x hx => ?_)
    obtain ⟨h1, h2⟩ := List.mem_filter.1 hx
    exact List.mem_filter.2 ⟨(hasB_iff v x).1 h2, (hasB_iff u x).2 h1⟩
  exact Nat.le_antisymm (key a b ha) (key b a hb)
theorem mx_max : ∀ (l : List S25) (m : S25), rk m ≤ rk (mx l m) ∧ ∀ x ∈ l, rk x ≤ rk (mx l m)
  | [], m => ⟨Int.le_refl _, fun x hx => by cases hx⟩
  | y :: r, m => by
    simp only [mx]
    obtain ⟨h1, h2⟩ := mx_max r (if rk m < rk y then y else m)
    have hm : rk m ≤ rk (if rk m < rk y then y else m) := by split <;> omega
    have hy : rk y ≤ rk (if rk m < rk y then y else m) := by split <;> omega
    refine ⟨Int.le_trans hm h1, fun x hx => ?_⟩
    rcases List.mem_cons.1 hx with rfl | hx
    · exact Int.le_trans hy h1
    · exact h2 x hx
theorem strong_max (l : List S25) (h : SSF l = 0) : ∃ (t : Nat) (x : S25), Ev (fun k => impl_StrongestOf.f k l) (0, (t : Int), x.f0, x.f1, x.f2, x.f3) ∧ ∀ y ∈ l, rk y ≤ rk x := by
  obtain ⟨⟨hl1, hl2⟩, hok⟩ := SSF_ok h
  obtain ⟨t, k1, k2, k3, _⟩ := strong_spec_l0 l hok hl2 (l.length - 1) 0 1 (by omega) (by omega) (fun j hj => absurd hj (Nat.not_lt_zero _)) (fun j hj => by have e : j = 0 := (by omega); subst e; exact Int.le_refl _)
  have k2' : rd_T25 l t = mx (l.drop 1) (rd_T25 l 0) := k2
  refine ⟨t, rd_T25 l t, ?_, ?_⟩
  · unfold impl_StrongestOf.f
    refine Ev.bind (ssf_impl l) ?_
    simp only [h, if_true, show 0 < l.length ∧ l.length ≤ 9223372036854775807 from ⟨by omega, by omega⟩, and_self]
    refine Ev.bind (step_ev (l.drop 1) (rd_T25 l 0) (fun x hx => hok x (List.mem_of_mem_drop hx)) (hok _ (rd_mem l 0 (by omega)))) ?_
    rw [← k2']
    refine Ev.bind (index_ev l (by omega) _ t k1 rfl (fun j hj e => by have := k3 j hj; rw [e] at this; omega)) ?_
    exact Ev.now _
  · intro y hy
    rw [k2']
    obtain ⟨m1, m2⟩ := mx_max (l.drop 1) (rd_T25 l 0)
    have hl0 : l = rd_T25 l 0 :: l.drop 1 := by
      have := drop_rd l 0 (by omega)
      rw [List.drop_zero] at this
      exact this
    rw [hl0] at hy
    rcases List.mem_cons.1 hy with rfl | hy
    · exact m1
    · exact m2 y hy
theorem weaker_false {x y : S25} (h : rk y ≤ rk x) : WS x.f0 x.f1 x.f2 x.f3 y.f0 y.f1 y.f2 y.f3 = false := by
  unfold WS
  split
  · split
    · rename_i hs hne
      obtain ⟨h0, h1, h2, h3⟩ := okS_iff (x := x) hs.1
      obtain ⟨g0, g1, g2, g3⟩ := okS_iff (x := y) hs.2
      unfold rk at h
      by_cases c0 : x.f0 ≤ y.f0
      · by_cases c1 : x.f1 ≤ y.f1
        · by_cases c2 : x.f2 ≤ y.f2
          · by_cases c3 : x.f3 ≤ y.f3
            · exfalso
              have e0 : x.f0 = y.f0 := by omega
              have e1 : x.f1 = y.f1 := by omega
              have e2 : x.f2 = y.f2 := by omega
              have e3 : x.f3 = y.f3 := by omega
              simp [e0, e1, e2, e3] at hne
            · simp [c3]
          · simp [c2]
        · simp [c1]
      · simp [c0]
    · rfl
  · rfl
theorem suite_ok (l : List Int) (hb : ∀ x ∈ l, 0 ≤ x ∧ x ≤ 255) (hl : l.length ≤ 1048576) (s : Int) (s0 : 0 ≤ s) (s1 : s ≤ 1000000) : ∃ a b c d, spec_l8Suite.f l s = some (a, b, c, d, s + 4) := by
  obtain ⟨r1, e1, _, _⟩ := next_ok l hb hl s 2 s0 (by omega) (by omega)
  obtain ⟨r2, _, e2⟩ := pick_ok l hb hl (s + 1) [128, 256, 192] (by omega) (by omega) (by simp)
  obtain ⟨r3, e3, _, _⟩ := next_ok l hb hl (s + 1 + 1) 2 (by omega) (by omega) (by omega)
  obtain ⟨r4, e4, _, _⟩ := next_ok l hb hl (s + 1 + 1 + 1) 2 (by omega) (by omega) (by omega)
  refine ⟨wrap64 (1 + r1), r2, wrap64 (1 + r3), wrap64 (1 + r4), ?_⟩
  unfold spec_l8Suite.f
  simp only [e1, e2, e3, e4, Option.bind_some]
  rw [show s + 1 + 1 + 1 + 1 = s + 4 by omega]
theorem bent_ok (l : List Int) (hb : ∀ x ∈ l, 0 ≤ x ∧ x ≤ 255) (hl : l.length ≤ 1048576) (s : Int) (s0 : 0 ≤ s) (s1 : s ≤ 1000000) : ∃ a b c d s', spec_l8Bent.f l s = some (a, b, c, d, s') ∧ 0 ≤ s' ∧ s' ≤ s + 6 := by
  obtain ⟨a, b, c, d, e1⟩ := suite_ok l hb hl s s0 s1
  obtain ⟨r, e2, _, _⟩ := next_ok l hb hl (s + 4) 12 (by omega) (by omega) (by omega)
  obtain ⟨x1, _, p1⟩ := pick_ok l hb hl (s + 4 + 1) [0, 5, 4] (by omega) (by omega) (by simp)
  obtain ⟨x2, _, p2⟩ := pick_ok l hb hl (s + 4 + 1) [0, 64, 257] (by omega) (by omega) (by simp)
  obtain ⟨x3, _, p3⟩ := pick_ok l hb hl (s + 4 + 1) [0, 4, 3] (by omega) (by omega) (by simp)
  obtain ⟨x4, _, p4⟩ := pick_ok l hb hl (s + 4 + 1) [0, 7, 6] (by omega) (by omega) (by simp)
  unfold spec_l8Bent.f
  simp only [e1, e2, p1, p2, p3, p4, Option.bind_some]
  by_cases c0 : r = 0
  · exact ⟨_, _, _, _, _, if_pos c0, by omega, by omega⟩
  rw [if_neg c0]
  by_cases c1 : r = 1
  · exact ⟨_, _, _, _, _, if_pos c1, by omega, by omega⟩
  rw [if_neg c1]
  by_cases c2 : r = 2
  · exact ⟨_, _, _, _, _, if_pos c2, by omega, by omega⟩
  rw [if_neg c2]
  by_cases c3 : r = 3
  · exact ⟨_, _, _, _, _, if_pos c3, by omega, by omega⟩
  rw [if_neg c3]
  exact ⟨_, _, _, _, _, rfl, by omega, by omega⟩
theorem list_ok_l0 (l : List Int) (hb : ∀ x ∈ l, 0 ≤ x ∧ x ≤ 255) (hl : l.length ≤ 1048576) (d : Nat) : ∀ (acc : List S25) (n s : Int), n = d → 0 ≤ s → s + 4 * n ≤ 900000 → acc.length + d ≤ 20 → (0 < acc.length ∨ 0 < d) →
    ∃ L s', Ev (fun k => spec_l8List.l0 k acc n l s) (L, s') ∧ 0 ≤ s' ∧ s' ≤ s + 4 * n + 10 ∧ L.length ≤ 30 := by
  induction d with
  | zero =>
    intro acc n s hn s0 s1 ha hne
    obtain ⟨r, e1, _, _⟩ := next_ok l hb hl s 20 s0 (by omega) (by omega)
    obtain ⟨a, b, c, q, s', e2, q0, q1⟩ := bent_ok l hb hl (s + 1) (by omega) (by omega)
    have hp : 0 < (acc.length : Int) := by omega
    have fin_ : ∀ (L : List S25) (s2 : Int), L.length ≤ 30 → 0 ≤ s2 → s2 ≤ s + 4 * n + 10 → Ev (fun k => spec_l8List.l0 (k + 1) acc n l s) (L, s2) → ∃ L s', Ev (fun k => spec_l8List.l0 k acc n l s) (L, s') ∧ 0 ≤ s' ∧ s' ≤ s + 4 * n + 10 ∧ L.length ≤ 30 := fun L s2 k1 k2 k3 k4 => ⟨L, s2, ev_succ k4, k2, k3, k1⟩
    by_cases c0 : r = 0
    · refine fin_ (acc.set (0 : Int).toNat ⟨a, b, c, q⟩) s' (by simp; omega) q0 (by omega) ?_
      simp only [spec_l8List.l0, show ¬ n > 0 by omega, if_false, e1, Option.bind_some, c0, if_true, e2, hp]; exact Ev.now _
    by_cases c1 : r = 1
    · refine fin_ (acc ++ [⟨(rd_T25 acc 0).f0, (rd_T25 acc 0).f1, (rd_T25 acc 0).f2, (rd_T25 acc 0).f3⟩]) (s + 1) (by simp; omega) (by omega) (by omega) ?_
      simp only [spec_l8List.l0, show ¬ n > 0 by omega, if_false, e1, Option.bind_some, c0, c1, if_true, hp, show acc.length < 4398046511104 by omega, show ¬ (1 : Int) = 0 by omega]; exact Ev.now _
    by_cases c2 : r = 2
    · refine fin_ [] (s + 1) (by simp) (by omega) (by omega) ?_
      simp only [spec_l8List.l0, show ¬ n > 0 by omega, if_false, e1, Option.bind_some, c2, if_true, show ¬ (2 : Int) = 0 by omega, show ¬ (2 : Int) = 1 by omega]; exact Ev.now _
    by_cases c3 : r = 3
    · refine fin_ (List.replicate 11 z25) (s + 1) (by simp) (by omega) (by omega) ?_
      simp only [spec_l8List.l0, show ¬ n > 0 by omega, if_false, e1, Option.bind_some, c3, if_true, show ¬ (3 : Int) = 0 by omega, show ¬ (3 : Int) = 1 by omega, show ¬ (3 : Int) = 2 by omega, show 11 ≤ 8796093022208 by omega]; exact Ev.now _
    · refine fin_ acc (s + 1) (by omega) (by omega) (by omega) ?_
      simp only [spec_l8List.l0, show ¬ n > 0 by omega, if_false, e1, Option.bind_some, c0, c1, c2, c3]; exact Ev.now _
  | succ d ih =>
    intro acc n s hn s0 s1 ha hne
    obtain ⟨a, b, c, q, e1⟩ := suite_ok l hb hl s s0 (by omega)
    cases hh : acc.any fun x => eqs x a b c q with
    | true =>
      have hacc : 0 < acc.length := by
        rcases Nat.eq_zero_or_pos acc.length with h | h
        · rw [List.eq_nil_of_length_eq_zero h] at hh; cases hh
        · exact h
      obtain ⟨L, s', k1, k2, k3, k4⟩ := ih acc (n - 1) (s + 4) (by omega) (by omega) (by omega) (by omega) (.inl hacc)
      refine ⟨L, s', ev_succ ?_, k2, by omega, k4⟩
      simp only [spec_l8List.l0, show n > 0 by omega, if_true, e1, Option.bind_some]
      refine Ev.bind (has_spec acc (by omega) a b c q) ?_
      simp only [hh, if_true]
      rw [w64' (n := n - 1) (by omega) (by omega)]
      exact k1
    | false =>
      obtain ⟨L, s', k1, k2, k3, k4⟩ := ih (acc ++ [⟨a, b, c, q⟩]) (n - 1) (s + 4) (by omega) (by omega) (by omega) (by simp; omega) (.inl (by simp))
      refine ⟨L, s', ev_succ ?_, k2, by omega, k4⟩
      simp only [spec_l8List.l0, show n > 0 by omega, if_true, e1, Option.bind_some]
      refine Ev.bind (has_spec acc (by omega) a b c q) ?_
      simp only [hh, Bool.false_eq_true, if_false, show acc.length < 4398046511104 by omega, if_true]
      rw [w64' (n := n - 1) (by omega) (by omega)]
      exact k1
theorem list_ok (l : List Int) (hb : ∀ x ∈ l, 0 ≤ x ∧ x ≤ 255) (hl : l.length ≤ 1048576) (s : Int) (s0 : 0 ≤ s) (s1 : s ≤ 100000) : ∃ L s', Ev (fun k => spec_l8List.f k l s) (L, s') ∧ 0 ≤ s' ∧ s' ≤ s + 100 ∧ L.length ≤ 30 := by
  obtain ⟨n, hn, e1⟩ := pick_ok l hb hl s [1, 2, 3, 4, 6] s0 (by omega) (by simp)
  have hn' : 1 ≤ n ∧ n ≤ 6 := by simp at hn; omega
  obtain ⟨L, s', k1, k2, k3, k4⟩ := list_ok_l0 l hb hl n.toNat [] n (s + 1) (by omega) (by omega) (by omega) (by simp; omega) (.inr (by omega))
  refine ⟨L, s', ?_, k2, by omega, k4⟩
  unfold spec_l8List.f
  simp only [e1, Option.bind_some]
  exact k1
theorem draw_ok (l : List Int) (hb : ∀ x ∈ l, 0 ≤ x ∧ x ≤ 255) (hl : l.length ≤ 1048576) : ∃ a b : List S25, Ev (fun k => spec_DrawChooseSuite.f k l) (a, b) ∧ a.length ≤ 30 ∧ b.length ≤ 30 := by
  obtain ⟨a, s', k1, k2, k3, k4⟩ := list_ok l hb hl 0 (by omega) (by omega)
  obtain ⟨b, s2, j1, _, _, j4⟩ := list_ok l hb hl s' (by omega) (by omega)
  refine ⟨a, b, ?_, k4, j4⟩
  unfold spec_DrawChooseSuite.f spec_l8Two.f spec_l1Source.f
  simp only [Option.bind_some]
  refine Ev.bind (a := (a, b)) ?_ (Ev.now _)
  refine Ev.bind k1 (Ev.bind j1 ?_)
  exact Ev.now _
theorem eqS4 (x : S25) : (!(x.f0 == x.f0) || (!(x.f1 == x.f1) || (!(x.f2 == x.f2) || (!(x.f3 == x.f3))))) = false := by simp
theorem last_l0 (a al : List S25) (ha : SSF a = 0) (hal : al.length ≤ 10) (x : S25) (hx : ∀ y ∈ al, rk y ≤ rk x) (bl : List S25) (hbl : bl.length = al.length) (t : Int) (d : Nat) : ∀ (i : Nat), i + d = al.length →
    Ev (fun k => laws_FnSuites.l0 k a i 0 al 0 bl 0 t x.f0 x.f1 x.f2 x.f3) true := by
  obtain ⟨⟨h1, h2⟩, hok⟩ := SSF_ok ha
  induction d with
  | zero =>
    intro i hi
    refine ev_succ ?_
    simp only [laws_FnSuites.l0, show ¬ (i : Int) < (al.length : Int) by omega, if_false]
    have hen : EN a = (0, ens a) := by unfold EN; rw [if_pos ha]
    have e1 := en_impl a (by omega)
    rw [hen] at e1
    have hn := ens_length a
    have e2 := ds_impl (ens a) (by omega)
    rw [ds_ens a ha] at e2
    refine Ev.bind e1 (Ev.bind e2 ?_)
    simp only [show (bl.length : Int) = (al.length : Int) by omega, if_true, show 0 < (a.length : Int) by omega, beq_self_eq_true, Bool.and_self]
    exact Ev.now _
  | succ d ih =>
    intro i hi
    refine ev_succ ?_
    simp only [laws_FnSuites.l0, show (i : Int) < (al.length : Int) by omega, show 0 ≤ (i : Int) by omega, if_true]
    refine Ev.bind (ws_impl _ _ _ _ _ _ _ _) ?_
    rw [weaker_false (hx _ (rd_mem al i (by omega)))]
    simp only [Bool.false_eq_true, if_false]
    rw [w64' (by omega) (by omega)]
    have := ih (i + 1) (by omega)
    simpa using this
theorem FnSuites : laws_FnSuites.Pure := by
  intro l hm hw
  refine Ev.rounds ?_
  have hb := byte_wf hw
  unfold laws_FnSuites.f laws_lwBig.f
  simp only [Option.bind_some, decide_eq_true_eq]
  by_cases hbig : (l.length : Int) > 1048576
  · simp only [hbig, if_true]; exact Ev.now _
  simp only [hbig, if_false]
  obtain ⟨a, b, hd, ha30, hb30⟩ := draw_ok l hb (by omega)
  obtain ⟨r, h1, h2, hr⟩ := choose_both a b
  refine Ev.bind hd (Ev.bind h2 (Ev.bind (cs_impl a b) ?_))
  rcases hr with ⟨hc, rfl⟩ | ⟨hc, hcs, rfl⟩ | ⟨hc, t, ht, ⟨q, hcs⟩, hh, rfl⟩
  · have hcs : CS a b = (CSc a b, []) := by unfold CS; rw [if_neg hc]
    rw [hcs]
    simp only [hc, if_false]
    refine Ev.bind h1 ?_
    simp only [if_true, beq_self_eq_true]; exact Ev.now _
  · rw [hcs]
    simp only [show ¬ (4 : Int) = 0 by omega, if_false]
    refine Ev.bind h1 ?_
    simp only [if_true, beq_self_eq_true]; exact Ev.now _
  · rw [hcs]
    have hr0 : rd_T25 (rd_T25 a (t : Int) :: q) 0 = rd_T25 a (t : Int) := rfl
    simp only [if_true, hr0, show ¬ (((rd_T25 a (t : Int) :: q).length : Int) = 0) by simp <;> omega, if_false, show 0 < ((rd_T25 a (t : Int) :: q).length : Int) by simp <;> omega, eqS4, Bool.false_eq_true, show 0 ≤ (t : Int) by omega, show (t : Int) < (a.length : Int) by omega]
    have hc0 : SSF a = 0 := by
      unfold CSc at hc
      by_cases h : SSF a = 0
      · exact h
      · rw [if_neg h] at hc; exact absurd hc h
    have hc1 : SSF b = 0 := by unfold CSc at hc; rw [if_pos hc0] at hc; exact hc
    have hfl : a.filter (hasB b) = rd_T25 a (t : Int) :: q := by
      have := hcs
      unfold CS at this
      rw [if_pos hc] at this
      by_cases hz : (a.filter (hasB b)).length = 0
      · rw [if_pos hz] at this; cases this
      · rw [if_neg hz] at this; injection this
    obtain ⟨⟨a1, a2⟩, aok⟩ := SSF_ok hc0
    obtain ⟨⟨b1, b2⟩, bok⟩ := SSF_ok hc1
    have na : a.Nodup := by unfold SSF at hc0; rw [if_pos ⟨a1, a2⟩] at hc0; exact (SFs_nodup a [] hc0).1
    have nb : b.Nodup := by unfold SSF at hc1; rw [if_pos ⟨b1, b2⟩] at hc1; exact (SFs_nodup b [] hc1).1
    have hlen := both_len a b na nb
    have hle := List.length_filter_le (hasB b) a
    have hcb : CSc b a = 0 := by unfold CSc; rw [if_pos hc1]; exact hc0
    have hcs2 : CS b a = (0, b.filter (hasB a)) := by
      unfold CS
      rw [if_pos hcb, if_neg (by rw [← hlen, hfl]; simp)]
    have hsf : SSF (a.filter (hasB b)) = 0 := by
      unfold SSF
      rw [if_pos ⟨by rw [hfl]; simp, by omega⟩]
      exact SFs_of _ [] (fun x hx => aok x (List.mem_filter.1 hx).1) (na.filter _) (fun x _ hm => by cases hm)
    obtain ⟨t2, x, e2, hx⟩ := strong_max (a.filter (hasB b)) hsf
    rw [← hfl]
    refine ev_succ ?_
    simp only [laws_FnSuites.j0, Bool.false_eq_true, if_false]
    refine Ev.bind (cs_impl b a) ?_
    rw [hcs2]
    refine Ev.bind e2 ?_
    have := last_l0 a (a.filter (hasB b)) hc0 (by omega) x hx (b.filter (hasB a)) hlen.symm t2 _ 0 (Nat.zero_add _)
    simpa using this
end Go.Proofs.Ytbneeppnhddheaa.Pure
namespace Go.Proofs.Ytbneeppnhddheaa.fnSuites
open Go.ChangeShapes Go.WideShapes Go.ChangeAt
open Go.RowKit Go.Proofs.Ytbneeppnhddheaa.G Go.Proofs.YtbneeppnhddheaaW.PrintWords Go.Proofs.YtbneeppnhddheaaW.PrintLast
open Go.ChangeMaps (open_string shut_string)
set_option linter.unusedVariables false
theorem own : ownKnob Try.prog.godebug = none := by kernel_rfl
theorem laidOut : laidOutB Try.prog = true := by kernel_rfl
theorem o5 : Opn.Opens Try.prog 5 (Kd.int .u8) (fun n => (Lit.int .u8 n).wf = true) := Opn.opens_int Try.underlying5 (by kernel_rfl)
set_option maxRecDepth 100000 in
theorem lifted (os : Os) (started : os.Started) (H : Type) (enc : TypeId × Value → H) :
    ReturnsInHanded {} Try.checked os 6 .any (Rows.fnSuitesSpec.pre6 enc Try.prog Try.f6 Rows.fnSuitesRow.domain false) (Rows.fnSuitesSpec.post enc Try.prog Try.f6 false true false false) := by
  refine returnsInHanded_of_change_sized (C := Try.checked) own started (by kernel_rfl) Try.func6
    (ChangeSpec.witness6 (enc := enc) (C := Try.checked) false ⟨#[], #[.slice none 0 0], []⟩ 8 (by kernel_rfl) (by kernel_rfl) (by kernel_rfl) (by kernel_rfl)) ?_
  intro W base args ds gs before hval0 hW hcnd hsz0 _
  have hval : ∀ (j : Nat) t v, Try.f6.params[j]? = some t → args[j]? = some v → Value.okWide Try.prog W .any base t v := hval0
  have hW' := hW
  obtain ⟨p, q, hA0, hV, rfl, hfz, hnd⟩ := hW
  have hA : DataW.TrodAll enc Try.prog W 0 (fun _ => true) true Try.f6.params.toList args.toList ds p := hA0
  rw [Try.params6] at hA hval
  obtain ⟨v0, vs0, d0, ds0, p0, q0, hargs, rfl, rfl, h0, r0⟩ := trodAll_cons hA
  obtain ⟨rfl, rfl, rfl⟩ := trodAll_nil r0
  obtain rfl : args = #[v0] := by cases args; simp_all
  obtain ⟨rfl, rfl⟩ := trodVars_none hV
  obtain ⟨A0, len0, c0, rfl⟩ := okWide_slice Try.underlying42 (hval 0 42 v0 rfl rfl)
  have k0 := h0
  have lt0 : ∀ x ∈ p0, x.block < W.heap.size := by obtain ⟨m, hm⟩ := k0; exact DataW.trod_lt m _ _ _ hm
  obtain ⟨l0, rfl, hr0, hc0, hm0, hg0⟩ := Opn.arg_slice Try.underlying42 (by kernel_rfl) o5 h0
  clear hA0 hval0 hsz0
  obtain ⟨k, h⟩ := Pure.FnSuites l0 hm0 hg0
  refine (laws_FnSuites.calls k A0 c0 l0 W hr0 hc0 h).mono fun e W' ⟨he, bel0⟩ => ?_
  have bel : Below W.heap.size W W' := bel0
  subst he
  exact ⟨_, rfl, _, _, _, [], _, [], hW', trodAll_mk1 (shut_bool Try.underlying4 _), (trodAll_cons_mk (Below.trod laidOut (by kernel_rfl) (of_decide_eq_true (by kernel_rfl)) k0 bel lt0) trodAll_mk0), rfl, bel.frame _, fun h => by cases h⟩
theorem over : Rows.fnSuitesRow.holds Try.pinned (OpenSpec.ofChange Rows.fnSuitesSpec) :=
  OpenClaim.holds_of_wide 6 Try.f6 rfl rfl rfl rfl rfl rfl rfl ⟨rfl, rfl, rfl, rfl, rfl⟩ rfl rfl rfl rfl rfl (by kernel_rfl) Try.func6 (by kernel_rfl)
    (of_decide_eq_true (by kernel_rfl)) (by unfold Func.isWrapper; first | (rw [if_pos (by decide +kernel)]; kernel_rfl) | (rw [if_neg (by decide +kernel)]; exact ⟨rfl, rfl⟩))
    (fun os started H enc _ => lifted os started H enc)
end Go.Proofs.Ytbneeppnhddheaa.fnSuites
namespace Go.Proofs.Ytbneeppnhddheaa
theorem fnSuites_holds : Rows.FnSuitesSaid := fnSuites.over
end Go.Proofs.Ytbneeppnhddheaa
#print axioms Go.Proofs.Ytbneeppnhddheaa.fnSuites_holds
