/- FnExactCommonSuites: for every input the law returns true and its arguments read afterwards as they read before. No condition. -/
import Derived.Test.YtbneeppnhddheaaCFnExactCommonSuites4
import Derived.ChangeArms
import Derived.Deep.Slices
import Derived.ProofKit
import Derived.OpenShut
import Derived.Test.YtbneeppnhddheaaRows
import Derived.WalkKit
import Derived.ShutString
import Derived.ChangeOld
import Derived.Below
import Derived.SizedLaws
set_option linter.unusedVariables false
namespace Go.Proofs.Ytbneeppnhddheaa.Opn
open Go.Proofs.YtbneeppnhddheaaW.PrintWords
def Opens {α : Type} (P : Program) (t : TypeId) (d : Kd α) (G : α → Prop) : Prop :=
  P.cellsOf t = d.sz ∧ ∀ (H : Type) (enc : TypeId × Value → H) (W : World) (base : Nat) (sp : Nat → Bool) (held : Bool) (fuel : Nat) (cs : List Value) (x : DataW H × List MemPlace),
    DataW.trod enc P W base sp held fuel t cs = some x → ∃ a, d.K W a cs ∧ G a
theorem opens_int {P : Program} {t : TypeId} {k : IntKind} (ht : P.underlying t = some (.int k)) (hc : P.cellsOf t = 1) : Opens P t (Kd.int k) (fun n => (Lit.int k n).wf = true) :=
  ⟨hc, fun H enc W base sp held fuel cs x hx => by
    obtain ⟨n, h, hx, hw⟩ := DataW.trod_int ht hx
    exact ⟨n, h, hw⟩⟩
theorem opens_slice {α : Type} {P : Program} {t e : TypeId} {d : Kd α} {G : α → Prop} (ht : P.underlying t = some (.slice e)) (hc : P.cellsOf t = 1) (he : Opens P e d G) :
    Opens P t (Kd.slice e d) (fun xs => xs.length ≤ maxLen ∧ ∀ x ∈ xs, G x) :=
  ⟨hc, fun H enc W base sp held fuel cs x hx => by
    rcases Go.Deep.open_slice ht hx with ⟨rfl, rfl⟩ | ⟨a, len, cap, m, n, D, Pl, rfl, hb, hl, hm, hmm, rfl, hel⟩
    · refine ⟨[], ⟨none, 0, rfl, Nat.le_refl _, rfl, by simp, ?_⟩, by simp, by simp⟩
      intro h; exact absurd h (by simp)
    · have hle : len ≤ m := by rw [hmm]; split <;> omega
      have key : ∀ i, i < len → ∃ p : α, ∃ c : List Value, c.length = d.sz ∧ d.K W p c ∧ G p ∧ ∀ j u, c[j]? = some u → W.cell? (a.add (i * d.sz + j)) = some u := by
        intro i hi
        obtain ⟨c, h1, h2⟩ := hel i (by omega)
        obtain ⟨p, h3, h4⟩ := he.2 H enc W base sp held n c _ h2
        obtain ⟨_, h5, h6⟩ := World.cells?_some h1
        rw [he.1] at h5 h6
        refine ⟨p, c, h5, h3, h4, fun j u hj => ?_⟩
        have hjl : j < d.sz := by
          have := (List.getElem?_eq_some_iff.1 hj).1
          omega
        rw [← Go.Deep.add_add, h6 j hjl, hj]
      have ex : ∃ ps : List α, ps.length = len ∧ ∀ i p, ps[i]? = some p → ∃ c : List Value, c.length = d.sz ∧ d.K W p c ∧ G p ∧ ∀ j u, c[j]? = some u → W.cell? (a.add (i * d.sz + j)) = some u := by
        clear hel hmm hle hl hm hx
        induction len with
        | zero => exact ⟨[], rfl, fun i p h => by simp at h⟩
        | succ k ih =>
          obtain ⟨ps, h1, h2⟩ := ih (fun i hi => key i (by omega))
          obtain ⟨p, hp⟩ := key k (by omega)
          refine ⟨ps ++ [p], by simp [h1], fun i q h => ?_⟩
          by_cases hi : i < ps.length
          · rw [List.getElem?_append_left hi] at h
            exact h2 i q h
          · rw [List.getElem?_append_right (by omega)] at h
            have hi0 : i - ps.length = 0 := by
              have := (List.getElem?_eq_some_iff.1 h).1
              simp at this
              omega
            rw [hi0] at h
            simp at h
            subst h
            have : i = k := by omega
            subst this
            exact hp
      obtain ⟨ps, h1, h2⟩ := ex
      subst h1
      refine ⟨ps, ⟨some a, cap, rfl, hl, rfl, by simp only [maxLen] at hm; omega, fun _ => ⟨a, rfl, fun j p hj => ?_⟩⟩, by omega, fun x hx' => ?_⟩
      · obtain ⟨c, g1, g2, g3, g4⟩ := h2 j p hj
        exact ⟨c, g1, g2, g4⟩
      · obtain ⟨i, hi⟩ := List.getElem?_of_mem hx'
        obtain ⟨c, g1, g2, g3, g4⟩ := h2 i x hi
        exact g3⟩
def OpensAt {α : Type} (P : Program) (fs : List Field) (off : Nat) (d : Kd α) (G : α → Prop) : Prop :=
  ∀ (H : Type) (enc : TypeId × Value → H) (W : World) (base : Nat) (sp : Nat → Bool) (held : Bool) (n : Nat) (cs : List Value),
    cs.length = off + d.sz → (∀ f ∈ fs, ∃ y, DataW.trod enc P W base sp held n f.type ((cs.drop f.offset).take (P.cellsOf f.type)) = some y) → ∃ a, d.K W a (cs.drop off) ∧ G a
theorem at_last {α : Type} {P : Program} {f : Field} {off : Nat} {T : TypeId} {d : Kd α} {G : α → Prop} (hf : f.offset = off) (hT : f.type = T) (h : Opens P T d G) : OpensAt P [f] off d G :=
  fun H enc W base sp held n cs hl hfs => by
    subst hT
    obtain ⟨y, hy⟩ := hfs f (List.mem_singleton.2 rfl)
    rw [hf, h.1, List.take_of_length_le (by rw [List.length_drop]; omega)] at hy
    exact h.2 H enc W base sp held n _ _ hy
theorem at_cons {α β : Type} {P : Program} {f : Field} {fs : List Field} {off : Nat} {T : TypeId} {d : Kd α} {d2 : Kd β} {G : α → Prop} {G2 : β → Prop} (hf : f.offset = off) (hT : f.type = T) (h : Opens P T d G) (h2 : OpensAt P fs (off + d.sz) d2 G2) :
    OpensAt P (f :: fs) off (Kd.pair d d2) (fun x => G x.1 ∧ G2 x.2) :=
  fun H enc W base sp held n cs hl hfs => by
    subst hT
    obtain ⟨y, hy⟩ := hfs f (List.mem_cons_self)
    have hl' : cs.length = off + (d.sz + d2.sz) := hl
    rw [hf, h.1] at hy
    obtain ⟨a, k1, g1⟩ := h.2 H enc W base sp held n _ _ hy
    obtain ⟨b, k2, g2⟩ := h2 H enc W base sp held n cs (by omega) (fun f' hf' => hfs f' (List.mem_cons_of_mem _ hf'))
    refine ⟨(a, b), ⟨_, _, ?_, k1, k2⟩, g1, g2⟩
    rw [← List.drop_drop, List.take_append_drop]
theorem opens_struct {α β : Type} {P : Program} {t : TypeId} {fs : List Field} {d : Kd α} {G : α → Prop} (f : β → α) (g : α → β) (hfg : ∀ x, f (g x) = x) (ht : P.underlying t = some (.struct fs.toArray)) (hc : P.cellsOf t = d.sz) (h : OpensAt P fs 0 d G) :
    Opens P t (Kd.iso d f) (fun x => G (f x)) :=
  ⟨hc, fun H enc W base sp held fuel cs x hx => by
    obtain ⟨xs, n, _, _, hl, hlen, hf⟩ := DataW.trod_struct ht hx
    obtain ⟨a, k, g1⟩ := h H enc W base sp held n cs (by rw [hl, hc]; omega) (fun f' hf' => by
      obtain ⟨i, hi⟩ := List.getElem?_of_mem hf'
      have hi' : fs.toArray[i]? = some f' := by simpa using hi
      have hil : i < xs.length := by
        have := (List.getElem?_eq_some_iff.1 hi).1
        have h2 : xs.length = fs.length := by simpa using hlen
        omega
      have := hf i f' hi'
      rw [List.getElem?_eq_getElem hil] at this
      exact ⟨_, this⟩)
    refine ⟨g a, ?_, ?_⟩
    · show d.K W (f (g a)) cs
      rw [hfg]; simpa using k
    · show G (f (g a))
      rw [hfg]; exact g1⟩
theorem arg_slice {α : Type} {P : Program} {W : World} {t e : TypeId} {d : Kd α} {G : α → Prop} {H : Type} {enc : TypeId × Value → H} {base : Nat} {sp : Nat → Bool} {held : Bool} {A : Option Addr} {n c : Nat} {x : DataW H} {ps : List MemPlace}
    (ht : P.underlying t = some (.slice e)) (hc : P.cellsOf t = 1) (he : Opens P e d G) (h : DataW.Trod enc P W base sp held t (.slice A n c) x ps) :
    ∃ xs : List α, n = xs.length ∧ d.C W A xs.length xs ∧ xs.length ≤ c ∧ xs.length ≤ maxLen ∧ ∀ a ∈ xs, G a := by
  obtain ⟨fuel, hf⟩ := h
  obtain ⟨xs, ⟨A', c', h1, h2, h3⟩, h4, h5⟩ := (opens_slice ht hc he).2 H enc W base sp held fuel _ _ hf
  simp [Value.cells] at h1
  obtain ⟨rfl, rfl, rfl⟩ := h1
  exact ⟨xs, rfl, h3, h2, h4, h5⟩
end Go.Proofs.Ytbneeppnhddheaa.Opn
namespace Go.Proofs.Ytbneeppnhddheaa.Pure
open Go.RowKit Go.Proofs.Ytbneeppnhddheaa.G Go.Proofs.YtbneeppnhddheaaW.PrintWords Go.Proofs.YtbneeppnhddheaaW.PrintLast
def laws_FnExactCommonSuites.Pure : Prop := ∀ (l0 : List S54) (l1 : List S54), l0.length ≤ maxLen → (∀ x ∈ l0, (fun (x : S54) => (fun (x : Int × Int × Int × Int) => (fun n => (Lit.int .i64 n).wf = true) x.1 ∧ (fun (x : Int × Int × Int) => (fun n => (Lit.int .i64 n).wf = true) x.1 ∧ (fun (x : Int × Int) => (fun n => (Lit.int .i64 n).wf = true) x.1 ∧ (fun n => (Lit.int .i64 n).wf = true) x.2) x.2) x.2) (x.f0, x.f1, x.f2, x.f3)) x) → l1.length ≤ maxLen → (∀ x ∈ l1, (fun (x : S54) => (fun (x : Int × Int × Int × Int) => (fun n => (Lit.int .i64 n).wf = true) x.1 ∧ (fun (x : Int × Int × Int) => (fun n => (Lit.int .i64 n).wf = true) x.1 ∧ (fun (x : Int × Int) => (fun n => (Lit.int .i64 n).wf = true) x.1 ∧ (fun n => (Lit.int .i64 n).wf = true) x.2) x.2) x.2) (x.f0, x.f1, x.f2, x.f3)) x) → ∃ k, laws_FnExactCommonSuites.f k l0 l1 = some true
end Go.Proofs.Ytbneeppnhddheaa.Pure
set_option linter.unusedVariables false
set_option linter.unusedSimpArgs false
namespace Go.Proofs.Ytbneeppnhddheaa.Pure
open Go.RowKit Go.Proofs.Ytbneeppnhddheaa.G Go.Proofs.YtbneeppnhddheaaW.PrintWords Go.Proofs.YtbneeppnhddheaaW.PrintLast Go.Proofs.YtbneeppnhddheaaW.PrintMore
theorem ev_succ {α : Type} {g : Nat → Option α} {r : α} (h : Ev (fun k => g (k + 1)) r) : Ev g r := by
  obtain ⟨K, hK⟩ := h
  refine ⟨K + 1, fun k hk => ?_⟩
  obtain ⟨m, rfl⟩ : ∃ m, k = m + 1 := ⟨k - 1, by omega⟩
  exact hK m (by omega)
theorem w64' {n : Int} (h0 : -9223372036854775808 ≤ n) (h1 : n ≤ 9223372036854775807) : wrap64 n = n := by unfold wrap64; omega
theorem set_split {α : Type} (pre rest : List α) (x y : α) : (pre ++ x :: rest).set pre.length y = pre ++ y :: rest := by
  simp
end Go.Proofs.Ytbneeppnhddheaa.Pure
set_option linter.unusedVariables false
set_option linter.unusedSimpArgs false
namespace Go.Proofs.Ytbneeppnhddheaa.Pure
open Go.RowKit Go.Proofs.Ytbneeppnhddheaa.G Go.Proofs.YtbneeppnhddheaaW.PrintWords Go.Proofs.YtbneeppnhddheaaW.PrintLast Go.Proofs.YtbneeppnhddheaaW.PrintMore
theorem in_spec' (a b c : Int) : spec_l1In.f a b c = some (decide (b ≤ a ∧ a ≤ c)) := by
  unfold spec_l1In.f; split
  · congr 1; simp; omega
  · congr 1; simp; omega
theorem in_impl' (a b c : Int) : impl_in.f a b c = some (decide (b ≤ a ∧ a ≤ c)) := by
  unfold impl_in.f; split
  · congr 1; simp; omega
  · congr 1; simp; omega
def SF (c b m g : Int) : Int := if (1 ≤ c ∧ c ≤ 4) ∧ (b = 128 ∨ b = 192 ∨ b = 256) ∧ (1 ≤ m ∧ m ≤ 3) ∧ (1 ≤ g ∧ g ≤ 6) then 0 else 3
theorem sf_spec (c b m g : Int) : spec_SuiteFault.f c b m g = some (SF c b m g) := by
  unfold spec_SuiteFault.f SF
  simp only [in_spec', Option.bind_some, decide_eq_true_eq]
  by_cases h1 : 1 ≤ c ∧ c ≤ 4 <;> by_cases h3 : 1 ≤ m ∧ m ≤ 3 <;> by_cases h4 : 1 ≤ g ∧ g ≤ 6 <;> by_cases b1 : b = 128 <;> by_cases b2 : b = 192 <;> by_cases b3 : b = 256 <;> simp [h1, h3, h4, b1, b2, b3]
theorem sf_bits (b : Int) : Ev (fun k => slices_Contains_int64_int64.f k ([128, 192, 256] : List Int) b) (decide (b = 128 ∨ b = 192 ∨ b = 256)) := by
  refine ⟨5, fun k hk => ?_⟩
  obtain ⟨m, rfl⟩ : ∃ m, k = m + 4 := ⟨k - 4, by omega⟩
  have e1 : wrap64 1 = 1 := w64' (by omega) (by omega)
  have e2 : wrap64 2 = 2 := w64' (by omega) (by omega)
  have e3 : wrap64 (1 + 1) = 2 := w64' (by omega) (by omega)
  have e4 : wrap64 3 = 3 := w64' (by omega) (by omega)
  have e5 : wrap64 (2 + 1) = 3 := w64' (by omega) (by omega)
  unfold slices_Contains_int64_int64.f slices_Index_int64_int64.f
  by_cases b1 : b = 128
  · simp [slices_Index_int64_int64.l0, rd, b1]
  by_cases b2 : b = 192
  · simp [slices_Index_int64_int64.l0, rd, b2, e1]
  by_cases b3 : b = 256
  · simp [slices_Index_int64_int64.l0, rd, b3, e1, e2, e3]
  · simp [slices_Index_int64_int64.l0, rd, b1, b2, b3, e1, e2, e3, e4, e5]
theorem sf_impl (c b m g : Int) : Ev (fun k => impl_SuiteFault.f k c b m g) (SF c b m g) := by
  unfold impl_SuiteFault.f SF
  refine Ev.bind (sf_bits b) ?_
  simp only [in_impl', Option.bind_some, decide_eq_true_eq]
  by_cases h1 : 1 ≤ c ∧ c ≤ 4 <;> by_cases h3 : 1 ≤ m ∧ m ≤ 3 <;> by_cases h4 : 1 ≤ g ∧ g ≤ 6 <;> by_cases b1 : b = 128 ∨ b = 192 ∨ b = 256 <;> simp only [h1, h3, h4, b1, and_self, true_and, and_true, false_and, and_false, if_true, if_false] <;> exact Ev.now _
theorem faultOf2' (x y : Int) : Ev (fun k => impl_faultOf.f k ([x, y] : List Int)) (if x = 0 then y else x) := by
  refine ⟨3, fun k hk => ?_⟩
  obtain ⟨m, rfl⟩ : ∃ m, k = m + 3 := ⟨k - 3, by omega⟩
  unfold impl_faultOf.f
  have e1 : wrap64 1 = 1 := w64' (by omega) (by omega)
  have e2 : wrap64 2 = 2 := w64' (by omega) (by omega)
  have e3 : wrap64 (1 + 1) = 2 := w64' (by omega) (by omega)
  by_cases hx : x = 0 <;> by_cases hy : y = 0 <;> simp [impl_faultOf.l0, rd, e1, e2, e3, hx, hy]
def eqs (x : S25) (a0 a1 a2 a3 : Int) : Bool := x.f0 == a0 && (x.f1 == a1 && (x.f2 == a2 && (x.f3 == a3)))
theorem drop_rd (l : List S25) (i : Nat) (h : i < l.length) : l.drop i = rd_T25 l (i : Int) :: l.drop (i + 1) := by
  rw [List.drop_eq_getElem_cons h]
  simp [rd_T25, List.getD, List.getElem?_eq_getElem h]
theorem has_spec_l0 (l : List S25) (hl : l.length ≤ 9223372036854775807) (a0 a1 a2 a3 : Int) (d : Nat) : ∀ (k i : Nat), i + d = l.length → d < k → spec_l8Has.l0 k l i a0 a1 a2 a3 = some ((l.drop i).any fun x => eqs x a0 a1 a2 a3) := by
  induction d with
  | zero =>
    intro k i hi hk
    obtain ⟨k, rfl⟩ : ∃ m, k = m + 1 := ⟨k - 1, by omega⟩
    simp only [spec_l8Has.l0]; rw [if_neg (by omega), List.drop_of_length_le (by omega)]; rfl
  | succ d ih =>
    intro k i hi hk
    obtain ⟨k, rfl⟩ : ∃ m, k = m + 1 := ⟨k - 1, by omega⟩
    simp only [spec_l8Has.l0]
    rw [if_pos (by omega), if_pos (by omega), drop_rd l i (by omega), w64' (by omega) (by omega), List.any_cons]
    have e := ih k (i + 1) (by omega) (by omega)
    have e' : spec_l8Has.l0 k l ((i : Int) + 1) a0 a1 a2 a3 = some ((l.drop (i + 1)).any fun x => eqs x a0 a1 a2 a3) := by simpa using e
    rw [e']
    cases h : eqs (rd_T25 l i) a0 a1 a2 a3
    · rw [if_neg (by unfold eqs at h; rw [h]; simp)]; simp
    · rw [if_pos (by unfold eqs at h; rw [h])]; simp
theorem has_spec (l : List S25) (hl : l.length ≤ 9223372036854775807) (a0 a1 a2 a3 : Int) : Ev (fun k => spec_l8Has.f k l a0 a1 a2 a3) (l.any fun x => eqs x a0 a1 a2 a3) := by
  refine ⟨l.length + 1, fun k hk => ?_⟩
  have := has_spec_l0 l hl a0 a1 a2 a3 l.length k 0 (by omega) (by omega)
  simpa [spec_l8Has.f] using this
def idx (l : List S25) (a0 a1 a2 a3 : Int) (i : Nat) : Int :=
  match (l.drop i).findIdx? fun x => eqs x a0 a1 a2 a3 with
  | some j => ((i + j : Nat) : Int)
  | none => -1
theorem index_l0 (l : List S25) (hl : l.length ≤ 9223372036854775807) (a0 a1 a2 a3 : Int) (d : Nat) : ∀ (k i : Nat), i + d = l.length → d < k → impl_Suite_32.l0 k l (l.length : Int) i a0 a1 a2 a3 = some (idx l a0 a1 a2 a3 i) := by
  induction d with
  | zero =>
    intro k i hi hk
    obtain ⟨k, rfl⟩ : ∃ m, k = m + 1 := ⟨k - 1, by omega⟩
    simp only [impl_Suite_32.l0]; rw [if_neg (by omega)]; unfold idx; rw [List.drop_of_length_le (by omega)]; rfl
  | succ d ih =>
    intro k i hi hk
    obtain ⟨k, rfl⟩ : ∃ m, k = m + 1 := ⟨k - 1, by omega⟩
    simp only [impl_Suite_32.l0]
    rw [if_pos (by omega), if_pos (by omega), if_pos (by omega), w64' (by omega) (by omega)]
    have e := ih k (i + 1) (by omega) (by omega)
    have e' : impl_Suite_32.l0 k l (l.length : Int) ((i : Int) + 1) a0 a1 a2 a3 = some (idx l a0 a1 a2 a3 (i + 1)) := by simpa using e
    rw [e']
    have sw : (a0 == (rd_T25 l i).f0 && (a1 == (rd_T25 l i).f1 && (a2 == (rd_T25 l i).f2 && (a3 == (rd_T25 l i).f3)))) = eqs (rd_T25 l i) a0 a1 a2 a3 := by
      unfold eqs; rw [BEq.comm (a := a0), BEq.comm (a := a1), BEq.comm (a := a2), BEq.comm (a := a3)]
    rw [sw]
    unfold idx
    rw [drop_rd l i (by omega), List.findIdx?_cons]
    cases h : eqs (rd_T25 l i) a0 a1 a2 a3
    · simp only [Bool.false_eq_true, if_false]
      cases (l.drop (i + 1)).findIdx? fun x => eqs x a0 a1 a2 a3 with
      | none => rfl
      | some j => simp; omega
    · simp
theorem has_impl (l : List S25) (hl : l.length ≤ 9223372036854775807) (a0 a1 a2 a3 : Int) : Ev (fun k => impl_Suite_40.f k l a0 a1 a2 a3) (l.any fun x => eqs x a0 a1 a2 a3) := by
  refine ⟨l.length + 1, fun k hk => ?_⟩
  have h := index_l0 l hl a0 a1 a2 a3 l.length k 0 (by omega) (by omega)
  have h' : impl_Suite_32.l0 k l (l.length : Int) 0 a0 a1 a2 a3 = some (idx l a0 a1 a2 a3 0) := by simpa using h
  show (impl_Suite_32.l0 k l (l.length : Int) 0 a0 a1 a2 a3).bind _ = _
  rw [h']
  simp only [Option.bind_some]
  congr 1
  unfold idx
  simp only [List.drop_zero]
  cases h2 : l.findIdx? fun x => eqs x a0 a1 a2 a3 with
  | none =>
    rw [List.findIdx?_eq_none_iff] at h2
    simp only
    symm
    simpa using h2
  | some j =>
    have : (l.any fun x => eqs x a0 a1 a2 a3) = true := by
      rw [List.findIdx?_eq_some_iff_getElem] at h2
      obtain ⟨hj, h3, _⟩ := h2
      exact List.any_eq_true.2 ⟨_, List.getElem_mem hj, h3⟩
    rw [this]; simp <;> omega
def SFs : List S25 → List S25 → Int
  | _, [] => 0
  | pre, x :: r => if SF x.f0 x.f1 x.f2 x.f3 = 0 then (if (pre.any fun y => eqs y x.f0 x.f1 x.f2 x.f3) = true then 7 else SFs (pre ++ [x]) r) else SF x.f0 x.f1 x.f2 x.f3
def SSF (l : List S25) : Int := if 1 ≤ l.length ∧ l.length ≤ 10 then SFs [] l else 2
theorem take_rd (l : List S25) (i : Nat) (h : i < l.length) : l.take (i + 1) = l.take i ++ [rd_T25 l (i : Int)] := by
  rw [List.take_succ_eq_append_getElem h]
  simp [rd_T25, List.getD, List.getElem?_eq_getElem h]
theorem ssf_spec_l0 (l : List S25) (hl : l.length ≤ 10) (d : Nat) : ∀ (i : Nat), i + d = l.length → Ev (fun k => spec_SuitesFault.l0 k l i) (SFs (l.take i) (l.drop i)) := by
  induction d with
  | zero =>
    intro i hi
    refine ev_succ ?_
    simp only [spec_SuitesFault.l0, show ¬ (i : Int) < (l.length : Int) by omega, if_false]
    rw [List.drop_of_length_le (by omega)]; exact Ev.now _
  | succ d ih =>
    intro i hi
    refine ev_succ ?_
    simp only [spec_SuitesFault.l0, show (i : Int) < (l.length : Int) by omega, show 0 ≤ (i : Int) by omega, show (i : Int) ≤ (l.length : Int) by omega, if_true, sf_spec, Option.bind_some]
    rw [drop_rd l i (by omega)]
    generalize hx : rd_T25 l (i : Int) = x
    simp only [SFs]
    by_cases h0 : SF x.f0 x.f1 x.f2 x.f3 = 0
    · simp only [h0, if_true]
      refine Ev.bind (has_spec _ (by simp; omega) _ _ _ _) ?_
      simp only [Int.toNat_natCast]
      by_cases hh : ((l.take i).any fun y => eqs y x.f0 x.f1 x.f2 x.f3) = true
      · simp only [if_pos hh]; exact Ev.now _
      · simp only [if_neg hh]
        rw [w64' (by omega) (by omega), ← hx, ← take_rd l i (by omega)]
        have := ih (i + 1) (by omega)
        simpa using this
    · simp only [h0, if_false]; exact Ev.now _
theorem ssf_impl_l0 (l : List S25) (hl : l.length ≤ 10) (d : Nat) : ∀ (i : Nat), i + d = l.length → Ev (fun k => impl_SuitesFault.l0 k l l (l.length : Int) i) (SFs (l.take i) (l.drop i)) := by
  induction d with
  | zero =>
    intro i hi
    refine ev_succ ?_
    simp only [impl_SuitesFault.l0, show ¬ (i : Int) < (l.length : Int) by omega, if_false]
    rw [List.drop_of_length_le (by omega)]; exact Ev.now _
  | succ d ih =>
    intro i hi
    refine ev_succ ?_
    simp only [impl_SuitesFault.l0, show (i : Int) < (l.length : Int) by omega, show 0 ≤ (i : Int) by omega, show (i : Int) ≤ (l.length : Int) by omega, if_true]
    rw [drop_rd l i (by omega)]
    generalize hx : rd_T25 l (i : Int) = x
    simp only [SFs]
    refine Ev.bind (sf_impl _ _ _ _) ?_
    by_cases h0 : SF x.f0 x.f1 x.f2 x.f3 = 0
    · simp only [h0, if_true]
      refine Ev.bind (has_impl _ (by simp; omega) _ _ _ _) ?_
      simp only [Int.toNat_natCast]
      by_cases hh : ((l.take i).any fun y => eqs y x.f0 x.f1 x.f2 x.f3) = true
      · simp only [if_pos hh]; exact Ev.now _
      · simp only [if_neg hh]
        rw [w64' (by omega) (by omega), ← hx, ← take_rd l i (by omega)]
        have := ih (i + 1) (by omega)
        simpa using this
    · simp only [h0, if_false]; exact Ev.now _
theorem ssf_spec (l : List S25) : Ev (fun k => spec_SuitesFault.f k l) (SSF l) := by
  unfold spec_SuitesFault.f SSF
  by_cases h1 : 1 ≤ l.length
  · simp only [show ¬ (l.length : Int) < 1 by omega, if_false]
    refine ev_succ ?_
    by_cases h2 : l.length ≤ 10
    · simp only [spec_SuitesFault.j0, decide_eq_true_eq, show ¬ (l.length : Int) > 10 by omega, if_false, h1, h2, and_self, if_true]
      have := ssf_spec_l0 l h2 l.length 0 (by omega)
      simpa using this
    · simp only [spec_SuitesFault.j0, decide_eq_true_eq, show (l.length : Int) > 10 by omega, if_true, h2, and_false, if_false]; exact Ev.now _
  · simp only [show (l.length : Int) < 1 by omega, if_true, h1, false_and, if_false]
    refine ev_succ ?_
    simp only [spec_SuitesFault.j0, if_true]; exact Ev.now _
theorem ssf_impl (l : List S25) : Ev (fun k => impl_SuitesFault.f k l) (SSF l) := by
  unfold impl_SuitesFault.f SSF
  simp only [in_impl', Option.bind_some, decide_eq_true_eq]
  by_cases h : 1 ≤ l.length ∧ l.length ≤ 10
  · simp only [show (1 : Int) ≤ (l.length : Int) ∧ (l.length : Int) ≤ 10 by omega, h, and_self, if_true]
    have := ssf_impl_l0 l h.2 l.length 0 (by omega)
    simpa using this
  · simp only [show ¬ ((1 : Int) ≤ (l.length : Int) ∧ (l.length : Int) ≤ 10) by omega, h, if_false]; exact Ev.now _
def toS (x : S54) : S25 := ⟨x.f0, x.f1, x.f2, x.f3⟩
theorem toSuiteS_l0 (l : List S54) (hl : l.length ≤ 9223372036854775807) (z : S25) (d : Nat) : ∀ (k i : Nat), i + d = l.length → d < k →
    laws_toSuiteS.l0 k l ((l.map toS).take i ++ List.replicate d z) i = some (l.map toS) := by
  induction d with
  | zero =>
    intro k i hi hk
    obtain ⟨k, rfl⟩ : ∃ m, k = m + 1 := ⟨k - 1, by omega⟩
    simp only [laws_toSuiteS.l0]; rw [if_neg (by omega)]
    simp [List.take_of_length_le (show (l.map toS).length ≤ i by simp; omega)]
  | succ d ih =>
    intro k i hi hk
    obtain ⟨k, rfl⟩ : ∃ m, k = m + 1 := ⟨k - 1, by omega⟩
    simp only [laws_toSuiteS.l0, laws_toSuite.f, Option.bind_some]
    rw [if_pos (by omega), if_pos (by omega), if_pos (by simp; omega), w64' (by omega) (by omega)]
    have e : ((l.map toS).take i ++ List.replicate (d + 1) z).set ((i : Int)).toNat (⟨(rd_T54 l i).f0, (rd_T54 l i).f1, (rd_T54 l i).f2, (rd_T54 l i).f3⟩ : S25) = (l.map toS).take (i + 1) ++ List.replicate d z := by
      rw [List.replicate_succ]
      have h1 : ((l.map toS).take i).length = i := by simp; omega
      have := set_split ((l.map toS).take i) (List.replicate d z) z (toS (rd_T54 l i))
      rw [h1] at this
      simp only [Int.toNat_natCast]
      have hg : toS (rd_T54 l i) = (l.map toS)[i]'(by simp; omega) := by simp [rd_T54, List.getD, List.getElem?_eq_getElem (show i < l.length by omega)]
      rw [List.take_succ_eq_append_getElem (by simp; omega), ← hg, List.append_assoc]
      exact this
    rw [e]
    have := ih k (i + 1) (by omega) (by omega)
    simpa using this
theorem toSuiteS_ev (l : List S54) (hl : l.length ≤ 8796093022208) : Ev (fun k => laws_toSuiteS.f k l) (l.map toS) := by
  refine ⟨l.length + 1, fun k hk => ?_⟩
  simp only [laws_toSuiteS.f]
  rw [if_pos (by omega), if_pos (by simp; omega)]
  have := toSuiteS_l0 l (by omega) z25 l.length k 0 (by omega) (by omega)
  simpa using this
theorem eqSuiteS_l0 (l : List S25) (hl : l.length ≤ 9223372036854775807) (d : Nat) : ∀ (k i : Nat), i + d = l.length → d < k → laws_eqSuiteS.l0 k l l i = some true := by
  induction d with
  | zero =>
    intro k i hi hk
    obtain ⟨k, rfl⟩ : ∃ m, k = m + 1 := ⟨k - 1, by omega⟩
    simp only [laws_eqSuiteS.l0]; rw [if_neg (by omega)]
  | succ d ih =>
    intro k i hi hk
    obtain ⟨k, rfl⟩ : ∃ m, k = m + 1 := ⟨k - 1, by omega⟩
    simp only [laws_eqSuiteS.l0, laws_eqSuite.f, if_true, Option.bind_some]
    rw [if_pos (by omega), if_pos (by omega), if_pos (by omega), w64' (by omega) (by omega)]
    have := ih k (i + 1) (by omega) (by omega)
    simpa using this
theorem eqSuiteS_ev (l : List S25) (hl : l.length ≤ 9223372036854775807) : Ev (fun k => laws_eqSuiteS.f k l l) true := by
  refine ⟨l.length + 1, fun k hk => ?_⟩
  simp only [laws_eqSuiteS.f, if_true]
  have := eqSuiteS_l0 l hl l.length k 0 (by omega) (by omega)
  simpa using this
end Go.Proofs.Ytbneeppnhddheaa.Pure
set_option linter.unusedVariables false
set_option linter.unusedSimpArgs false
namespace Go.Proofs.Ytbneeppnhddheaa.Pure
open Go.RowKit Go.Proofs.Ytbneeppnhddheaa.G Go.Proofs.YtbneeppnhddheaaW.PrintWords Go.Proofs.YtbneeppnhddheaaW.PrintLast Go.Proofs.YtbneeppnhddheaaW.PrintMore
def OkS (x : S25) : Prop := SF x.f0 x.f1 x.f2 x.f3 = 0
theorem SFs_ok : ∀ (l pre : List S25), SFs pre l = 0 → ∀ x ∈ l, OkS x
  | [], _, _, x, hx => by cases hx
  | y :: r, pre, h, x, hx => by
    simp only [SFs] at h
    by_cases h0 : SF y.f0 y.f1 y.f2 y.f3 = 0
    · rw [if_pos h0] at h
      by_cases hh : (pre.any fun z => eqs z y.f0 y.f1 y.f2 y.f3) = true
      · rw [if_pos hh] at h; cases h
      · rw [if_neg hh] at h
        rcases List.mem_cons.mp hx with rfl | hx
        · exact h0
        · exact SFs_ok r _ h x hx
    · rw [if_neg h0] at h; exact absurd h h0
theorem SSF_ok {l : List S25} (h : SSF l = 0) : (1 ≤ l.length ∧ l.length ≤ 10) ∧ ∀ x ∈ l, OkS x := by
  unfold SSF at h
  by_cases hl : 1 ≤ l.length ∧ l.length ≤ 10
  · rw [if_pos hl] at h; exact ⟨hl, SFs_ok _ _ h⟩
  · rw [if_neg hl] at h; cases h
end Go.Proofs.Ytbneeppnhddheaa.Pure
set_option linter.unusedVariables false
set_option linter.unusedSimpArgs false
namespace Go.Proofs.Ytbneeppnhddheaa.Pure
open Go.RowKit Go.Proofs.Ytbneeppnhddheaa.G Go.Proofs.YtbneeppnhddheaaW.PrintWords Go.Proofs.YtbneeppnhddheaaW.PrintLast Go.Proofs.YtbneeppnhddheaaW.PrintMore
def smark (m : Int) (i : Nat) : S25 := ⟨m + 4 * i, m + 4 * i + 1, m + 4 * i + 1 + 1, m + 4 * i + 1 + 1 + 1⟩
def smarks (m : Int) (n : Nat) : List S25 := (List.range n).map (smark m)
theorem smarks_length (m : Int) (n : Nat) : (smarks m n).length = n := by simp [smarks]
theorem smarks_succ (m : Int) (n : Nat) : smarks m (n + 1) = smarks m n ++ [smark m n] := by simp [smarks, List.range_succ]
theorem rd_set (l : List S25) (i : Nat) (h : i < l.length) (x : S25) : rd_T25 (l.set i x) (i : Int) = x := by
  simp [rd_T25, List.getD, h]
theorem markSuiteS_l0 (l : List S25) (m : Int) (hm : 0 ≤ m) (hl : m + 4 * l.length ≤ 9223372036854775800) (d : Nat) : ∀ (k i : Nat), i + d = l.length → d < k →
    laws_markSuiteS.l0 k (smarks m i ++ l.drop i) (m + 4 * i) i = some (m + 4 * l.length, smarks m l.length) := by
  induction d with
  | zero =>
    intro k i hi hk
    obtain ⟨k, rfl⟩ : ∃ m, k = m + 1 := ⟨k - 1, by omega⟩
    obtain rfl : i = l.length := by omega
    simp only [laws_markSuiteS.l0]; rw [if_neg (by simp [smarks_length])]
    simp
  | succ d ih =>
    intro k i hi hk
    obtain ⟨k, rfl⟩ : ∃ m, k = m + 1 := ⟨k - 1, by omega⟩
    simp only [laws_markSuiteS.l0]
    have hlen : (smarks m i ++ l.drop i).length = l.length := by simp [smarks_length]; omega
    have hle : i < (smarks m i ++ l.drop i).length := by omega
    have e1 : wrap64 (m + 4 * i + 1) = m + 4 * i + 1 := w64' (by omega) (by omega)
    have e2 : wrap64 (m + 4 * i + 1 + 1) = m + 4 * i + 1 + 1 := w64' (by omega) (by omega)
    have e3 : wrap64 (m + 4 * i + 1 + 1 + 1) = m + 4 * i + 1 + 1 + 1 := w64' (by omega) (by omega)
    have e4 : wrap64 (m + 4 * i + 1 + 1 + 1 + 1) = m + 4 * i + 1 + 1 + 1 + 1 := w64' (by omega) (by omega)
    rw [e1, e2, e3, e4, w64' (n := (i : Int) + 1) (by omega) (by omega)]
    simp only [Option.bind_some, Int.toNat_natCast, show (i : Int) < ((smarks m i ++ l.drop i).length : Int) by omega, show 0 ≤ (i : Int) by omega, if_true]
    simp only [List.set_set, rd_set _ i hle]
    have e : (smarks m i ++ l.drop i).set i (⟨m + 4 * i, m + 4 * i + 1, m + 4 * i + 1 + 1, m + 4 * i + 1 + 1 + 1⟩ : S25) = smarks m (i + 1) ++ l.drop (i + 1) := by
      rw [List.drop_eq_getElem_cons (show i < l.length by omega), smarks_succ]
      have := set_split (smarks m i) (l.drop (i + 1)) l[i] (smark m i)
      rw [smarks_length] at this
      show _ = _
      rw [show (⟨m + 4 * i, m + 4 * i + 1, m + 4 * i + 1 + 1, m + 4 * i + 1 + 1 + 1⟩ : S25) = smark m i from rfl, this]; simp
    rw [e]
    have := ih k (i + 1) (by omega) (by omega)
    rw [show m + 4 * (i : Int) + 1 + 1 + 1 + 1 = m + 4 * ((i + 1 : Nat) : Int) by omega, show (i : Int) + 1 = ((i + 1 : Nat) : Int) by omega]
    exact this
theorem markSuiteS_ev (l : List S25) (m : Int) (hm : 0 ≤ m) (hl : m + 4 * l.length ≤ 9223372036854775800) : Ev (fun k => laws_markSuiteS.f k l m) (m + 4 * l.length, smarks m l.length) := by
  refine ⟨l.length + 1, fun k hk => ?_⟩
  unfold laws_markSuiteS.f
  have := markSuiteS_l0 l m hm hl l.length k 0 (by omega) (by omega)
  simpa [smarks] using this
theorem heldSuiteS_l0 (n : Nat) (m : Int) (hm : 0 ≤ m) (hl : m + 4 * n ≤ 9223372036854775800) (d : Nat) : ∀ (k i : Nat), i + d = n → d < k →
    laws_heldSuiteS.l0 k (smarks m n) (m + 4 * i) i = some (m + 4 * n) := by
  induction d with
  | zero =>
    intro k i hi hk
    obtain ⟨k, rfl⟩ : ∃ m, k = m + 1 := ⟨k - 1, by omega⟩
    obtain rfl : i = n := by omega
    simp only [laws_heldSuiteS.l0]; rw [if_neg (by simp [smarks_length])]
  | succ d ih =>
    intro k i hi hk
    obtain ⟨k, rfl⟩ : ∃ m, k = m + 1 := ⟨k - 1, by omega⟩
    simp only [laws_heldSuiteS.l0]
    have e : rd_T25 (smarks m n) (i : Int) = smark m i := by
      simp [rd_T25, smarks, List.getD, List.getElem?_map, List.getElem?_range (show i < n by omega)]
    have e1 : wrap64 (m + 4 * i + 1) = m + 4 * i + 1 := w64' (by omega) (by omega)
    have e2 : wrap64 (m + 4 * i + 1 + 1) = m + 4 * i + 1 + 1 := w64' (by omega) (by omega)
    have e3 : wrap64 (m + 4 * i + 1 + 1 + 1) = m + 4 * i + 1 + 1 + 1 := w64' (by omega) (by omega)
    have e4 : wrap64 (m + 4 * i + 1 + 1 + 1 + 1) = m + 4 * i + 1 + 1 + 1 + 1 := w64' (by omega) (by omega)
    rw [e1, e2, e3, e4, e, w64' (n := (i : Int) + 1) (by omega) (by omega)]
    rw [if_pos (by rw [smarks_length]; omega), if_pos (by omega)]
    simp only [smark, if_true]
    have := ih k (i + 1) (by omega) (by omega)
    rw [show m + 4 * (i : Int) + 1 + 1 + 1 + 1 = m + 4 * ((i + 1 : Nat) : Int) by omega, show (i : Int) + 1 = ((i + 1 : Nat) : Int) by omega]
    exact this
theorem heldSuiteS_ev (n : Nat) (m : Int) (hm : 0 ≤ m) (hl : m + 4 * n ≤ 9223372036854775800) : Ev (fun k => laws_heldSuiteS.f k (smarks m n) m) (m + 4 * n) := by
  refine ⟨n + 1, fun k hk => ?_⟩
  unfold laws_heldSuiteS.f
  have := heldSuiteS_l0 n m hm hl n k 0 (by omega) (by omega)
  simpa using this
end Go.Proofs.Ytbneeppnhddheaa.Pure
set_option linter.unusedVariables false
set_option linter.unusedSimpArgs false
namespace Go.Proofs.Ytbneeppnhddheaa.Pure
open Go.RowKit Go.Proofs.Ytbneeppnhddheaa.G Go.Proofs.YtbneeppnhddheaaW.PrintWords Go.Proofs.YtbneeppnhddheaaW.PrintLast Go.Proofs.YtbneeppnhddheaaW.PrintMore
def hasB (l : List S25) (x : S25) : Bool := l.any fun y => eqs y x.f0 x.f1 x.f2 x.f3
def CSc (l0 l1 : List S25) : Int := if SSF l0 = 0 then SSF l1 else SSF l0
theorem asked_ev (l0 l1 : List S25) : Ev (fun k => spec_l8Asked.f k l0 l1) (CSc l0 l1) := by
  unfold spec_l8Asked.f CSc
  refine Ev.bind (ssf_spec l0) ?_
  by_cases h : SSF l0 = 0
  · simp only [h, if_true]; refine Ev.bind (ssf_spec l1) ?_; exact Ev.now _
  · simp only [h, if_false]; exact Ev.now _
def CS (l0 l1 : List S25) : Int × List S25 := if CSc l0 l1 = 0 then (if (l0.filter (hasB l1)).length = 0 then (4, []) else (0, l0.filter (hasB l1))) else (CSc l0 l1, [])
theorem CSc_ok {l0 l1 : List S25} (h : CSc l0 l1 = 0) : ((1 ≤ l0.length ∧ l0.length ≤ 10) ∧ ∀ x ∈ l0, OkS x) ∧ ((1 ≤ l1.length ∧ l1.length ≤ 10) ∧ ∀ x ∈ l1, OkS x) := by
  unfold CSc at h
  by_cases h0 : SSF l0 = 0
  · rw [if_pos h0] at h; exact ⟨SSF_ok h0, SSF_ok h⟩
  · rw [if_neg h0] at h; exact absurd h h0
theorem keep_ev (l1 : List S25) (hl : l1.length ≤ 9223372036854775807) : ∀ (l : List S25), Ev (fun k => impl_CommonSuites.keep k l1 l) (l.filter (hasB l1))
  | [] => Ev.now _
  | x :: xs => by
    simp only [impl_CommonSuites.keep]
    refine Ev.bind (has_impl l1 hl x.f0 x.f1 x.f2 x.f3) (Ev.bind (keep_ev l1 hl xs) ?_)
    have e : (if (l1.any fun y => eqs y x.f0 x.f1 x.f2 x.f3) = true then x :: xs.filter (hasB l1) else xs.filter (hasB l1)) = (x :: xs).filter (hasB l1) := by
      show (if hasB l1 x = true then _ else _) = _
      rw [List.filter_cons]
    rw [e]
    exact Ev.now _
theorem cs_impl (l0 l1 : List S25) : Ev (fun k => impl_CommonSuites.f k l0 l1) (CS l0 l1) := by
  unfold impl_CommonSuites.f CS
  refine Ev.bind (ssf_impl l0) (Ev.bind (ssf_impl l1) (Ev.bind (faultOf2' _ _) ?_))
  by_cases h : CSc l0 l1 = 0
  · have h' : (if SSF l0 = 0 then SSF l1 else SSF l0) = 0 := h
    obtain ⟨⟨⟨h1, h2⟩, _⟩, ⟨h3, h4⟩, _⟩ := CSc_ok h
    simp only [h, h', if_true, show 0 < l0.length ∧ l0.length * 32 ≤ 140737488355328 from ⟨by omega, by omega⟩, and_self]
    refine Ev.bind (keep_ev l1 (by omega) l0) ?_
    by_cases hr : (l0.filter (hasB l1)).length = 0
    · simp only [hr, if_true]; exact Ev.now _
    · simp only [hr, if_false]; exact Ev.now _
  · have h' : ¬ (if SSF l0 = 0 then SSF l1 else SSF l0) = 0 := h
    simp only [h, h', if_false]; exact Ev.now _
theorem cs_spec_l0 (l l1 : List S25) (hl : l.length ≤ 10) (hl1 : l1.length ≤ 10) (d : Nat) : ∀ (i : Nat), i + d = l.length →
    Ev (fun k => spec_CommonSuites.l0 k l l1 i 0 ((l.take i).filter (hasB l1))) (if (l.filter (hasB l1)).length = 0 then (4, []) else (0, l.filter (hasB l1))) := by
  induction d with
  | zero =>
    intro i hi
    refine ev_succ ?_
    simp only [spec_CommonSuites.l0, show ¬ (i : Int) < (l.length : Int) by omega, if_false]
    rw [List.take_of_length_le (by omega)]
    by_cases hr : (l.filter (hasB l1)).length = 0
    · simp only [hr, show ((0 : Nat) : Int) = 0 from rfl, if_true]
      rw [List.eq_nil_of_length_eq_zero hr]; exact Ev.now _
    · simp only [hr, show ¬ (((l.filter (hasB l1)).length : Int) = 0) by omega, if_false]; exact Ev.now _
  | succ d ih =>
    intro i hi
    refine ev_succ ?_
    simp only [spec_CommonSuites.l0, show (i : Int) < (l.length : Int) by omega, show 0 ≤ (i : Int) by omega, if_true]
    refine Ev.bind (has_spec l1 (by omega) _ _ _ _) ?_
    have hfl := List.length_filter_le (hasB l1) (l.take i)
    rw [List.length_take] at hfl
    have e : ∀ x : S25, (⟨x.f0, x.f1, x.f2, x.f3⟩ : S25) = x := fun x => rfl
    have ht : (l.take (i + 1)).filter (hasB l1) = (l.take i).filter (hasB l1) ++ (if hasB l1 (rd_T25 l i) = true then [rd_T25 l i] else []) := by
      rw [take_rd l i (by omega), List.filter_append, List.filter_cons, List.filter_nil]
    have := ih (i + 1) (by omega)
    rw [ht] at this
    by_cases hh : (l1.any fun y => eqs y (rd_T25 l (i : Int)).f0 (rd_T25 l (i : Int)).f1 (rd_T25 l (i : Int)).f2 (rd_T25 l (i : Int)).f3) = true
    · have hh' : hasB l1 (rd_T25 l (i : Int)) = true := hh
      rw [if_pos hh'] at this
      simp only [if_pos hh, show ((l.take i).filter (hasB l1)).length < 4398046511104 by omega, if_true]
      rw [w64' (by omega) (by omega)]
      simpa using this
    · have hh' : ¬ hasB l1 (rd_T25 l (i : Int)) = true := hh
      rw [if_neg hh', List.append_nil] at this
      simp only [if_neg hh]
      rw [w64' (by omega) (by omega)]
      simpa using this
theorem cs_spec (l0 l1 : List S25) : Ev (fun k => spec_CommonSuites.f k l0 l1) (CS l0 l1) := by
  unfold spec_CommonSuites.f CS
  refine Ev.bind (asked_ev l0 l1) ?_
  by_cases h : CSc l0 l1 = 0
  · obtain ⟨⟨⟨h1, h2⟩, _⟩, ⟨h3, h4⟩, _⟩ := CSc_ok h
    simp only [h, if_true]
    have := cs_spec_l0 l0 l1 h2 h4 l0.length 0 (by omega)
    simpa using this
  · simp only [h, if_false]; exact Ev.now _
theorem CS_length (l0 l1 : List S25) : (CS l0 l1).2.length ≤ l0.length := by
  have := List.length_filter_le (hasB l1) l0
  unfold CS
  split
  · split
    · simp
    · exact this
  · simp
end Go.Proofs.Ytbneeppnhddheaa.Pure
namespace Go.Proofs.Ytbneeppnhddheaa.Pure
open Go.RowKit Go.Proofs.Ytbneeppnhddheaa.G Go.Proofs.YtbneeppnhddheaaW.PrintWords Go.Proofs.YtbneeppnhddheaaW.PrintLast
theorem eqSuitesResult_ev (c : Int) (l : List S25) (hl : l.length ≤ 9223372036854775807) : Ev (fun k => laws_eqSuitesResult.f k c l c l) true := by
  simp only [laws_eqSuitesResult.f, if_true]
  refine Ev.bind (eqSuiteS_ev l hl) ?_
  simp only [if_true]; exact Ev.now _
theorem markSuitesResult_ev (c : Int) (l : List S25) (m : Int) (hm : 0 ≤ m) (hl : m + 4 * l.length ≤ 9223372036854775800) : Ev (fun k => laws_markSuitesResult.f k c l m) (m + 4 * l.length, smarks m l.length) := by
  simp only [laws_markSuitesResult.f]
  refine Ev.bind (markSuiteS_ev l m hm hl) ?_
  exact Ev.now _
theorem heldSuitesResult_ev (c : Int) (n : Nat) (m : Int) (hm : 0 ≤ m) (hl : m + 4 * n ≤ 9223372036854775800) : Ev (fun k => laws_heldSuitesResult.f k c (smarks m n) m) (m + 4 * n) := by
  simp only [laws_heldSuitesResult.f]
  refine Ev.bind (heldSuiteS_ev n m hm hl) ?_
  simp only [show ¬ (m + 4 * (n : Int) < 0) by omega, if_false]; exact Ev.now _
theorem FnExactCommonSuites : laws_FnExactCommonSuites.Pure := by
  intro l l1 hm _ hm1 _
  have hl : l.length ≤ 9223372036854775807 := by unfold maxLen at hm; exact hm
  have hl1 : l1.length ≤ 9223372036854775807 := by unfold maxLen at hm1; exact hm1
  refine Ev.rounds ?_
  unfold laws_FnExactCommonSuites.f laws_szSuiteS.f
  rw [w64' (n := 1048576 - (l.length : Int)) (by omega) (by omega)]
  by_cases hbig : 1048576 - (l.length : Int) < 0
  · simp only [hbig, if_true, Option.bind_some, show (-1 : Int) < 0 by omega]; exact Ev.now _
  simp only [hbig, if_false, Option.bind_some]
  rw [w64' (n := 1048576 - (l.length : Int) - (l1.length : Int)) (by omega) (by omega)]
  by_cases hbig1 : 1048576 - (l.length : Int) - (l1.length : Int) < 0
  · simp only [hbig1, if_true, Option.bind_some, show (-1 : Int) < 0 by omega]; exact Ev.now _
  simp only [hbig1, if_false, Option.bind_some]
  have hc := toSuiteS_ev l (by omega)
  have hc1 := toSuiteS_ev l1 (by omega)
  have h1 := cs_spec (l.map toS) (l1.map toS)
  have h2 := cs_impl (l.map toS) (l1.map toS)
  have hn := CS_length (l.map toS) (l1.map toS)
  rw [List.length_map] at hn
  refine Ev.bind hc (Ev.bind hc1 (Ev.bind h1 (Ev.bind hc (Ev.bind hc1 (Ev.bind h2 ?_)))))
  refine Ev.bind (eqSuitesResult_ev _ _ (by omega)) ?_
  simp only [if_true]
  refine Ev.bind hc (Ev.bind (eqSuiteS_ev _ (by simp; omega)) ?_)
  simp only [if_true]
  refine Ev.bind hc1 (Ev.bind (eqSuiteS_ev _ (by simp; omega)) ?_)
  simp only [if_true]
  refine Ev.bind (markSuiteS_ev _ 1 (by omega) (by simp; omega)) (Ev.bind (markSuiteS_ev _ _ (by simp; omega) (by simp; omega)) ?_)
  simp only [List.length_map, show ¬ (1 + 4 * (l.length : Int) + 4 * (l1.length : Int) < 0) by omega, if_false]
  refine Ev.bind (eqSuitesResult_ev _ _ (by omega)) ?_
  refine ev_succ ?_
  simp only [laws_FnExactCommonSuites.j0, Bool.not_true, Bool.false_eq_true, if_false]
  refine Ev.bind (markSuitesResult_ev _ _ 1 (by omega) (by omega)) (Ev.bind (heldSuitesResult_ev _ _ 1 (by omega) (by omega)) ?_)
  simp only [show ¬ (1 + 4 * ((CS (l.map toS) (l1.map toS)).2.length : Int) < 0) by omega, if_false, if_true]
  refine Ev.bind hc (Ev.bind hc1 (Ev.bind h2 (Ev.bind (eqSuitesResult_ev _ _ (by omega)) ?_)))
  simp only [if_true]
  refine Ev.bind (heldSuitesResult_ev _ _ 1 (by omega) (by omega)) ?_
  simp only [show ¬ (1 + 4 * ((CS (l.map toS) (l1.map toS)).2.length : Int) < 0) by omega, if_false, if_true]
  exact Ev.now _
end Go.Proofs.Ytbneeppnhddheaa.Pure
namespace Go.Proofs.Ytbneeppnhddheaa.fnExactCommonSuites
open Go.ChangeShapes Go.WideShapes Go.ChangeAt
open Go.RowKit Go.Proofs.Ytbneeppnhddheaa.G Go.Proofs.YtbneeppnhddheaaW.PrintWords Go.Proofs.YtbneeppnhddheaaW.PrintLast
open Go.ChangeMaps (open_string shut_string)
set_option linter.unusedVariables false
theorem own : ownKnob Try.prog.godebug = none := by kernel_rfl
theorem laidOut : laidOutB Try.prog = true := by kernel_rfl
theorem o2 : Opn.Opens Try.prog 2 (Kd.int .i64) (fun n => (Lit.int .i64 n).wf = true) := Opn.opens_int Try.underlying2 (by kernel_rfl)
theorem o54 : Opn.Opens Try.prog 54 k54 (fun (x : S54) => (fun (x : Int × Int × Int × Int) => (fun n => (Lit.int .i64 n).wf = true) x.1 ∧ (fun (x : Int × Int × Int) => (fun n => (Lit.int .i64 n).wf = true) x.1 ∧ (fun (x : Int × Int) => (fun n => (Lit.int .i64 n).wf = true) x.1 ∧ (fun n => (Lit.int .i64 n).wf = true) x.2) x.2) x.2) (x.f0, x.f1, x.f2, x.f3)) := by
  refine Opn.opens_struct (G := fun (x : Int × Int × Int × Int) => (fun n => (Lit.int .i64 n).wf = true) x.1 ∧ (fun (x : Int × Int × Int) => (fun n => (Lit.int .i64 n).wf = true) x.1 ∧ (fun (x : Int × Int) => (fun n => (Lit.int .i64 n).wf = true) x.1 ∧ (fun n => (Lit.int .i64 n).wf = true) x.2) x.2) x.2) (fun x : S54 => (x.f0, x.f1, x.f2, x.f3)) (fun y => ⟨y.1, y.2.1, y.2.2.1, y.2.2.2⟩) (fun _ => rfl) Try.underlying54 (by kernel_rfl) ?_
  apply Opn.at_cons (T := 2) (G := fun n => (Lit.int .i64 n).wf = true) (G2 := fun (x : Int × Int × Int) => (fun n => (Lit.int .i64 n).wf = true) x.1 ∧ (fun (x : Int × Int) => (fun n => (Lit.int .i64 n).wf = true) x.1 ∧ (fun n => (Lit.int .i64 n).wf = true) x.2) x.2)
  · rfl
  · rfl
  · exact o2
  apply Opn.at_cons (T := 2) (G := fun n => (Lit.int .i64 n).wf = true) (G2 := fun (x : Int × Int) => (fun n => (Lit.int .i64 n).wf = true) x.1 ∧ (fun n => (Lit.int .i64 n).wf = true) x.2)
  · rfl
  · rfl
  · exact o2
  apply Opn.at_cons (T := 2) (G := fun n => (Lit.int .i64 n).wf = true) (G2 := fun n => (Lit.int .i64 n).wf = true)
  · rfl
  · rfl
  · exact o2
  apply Opn.at_last (T := 2)
  · rfl
  · rfl
  · exact o2
set_option maxRecDepth 100000 in
theorem lifted (os : Os) (started : os.Started) (H : Type) (enc : TypeId × Value → H) :
    ReturnsInHanded {} Try.checked os 5 .any (Rows.fnExactCommonSuitesSpec.pre6 enc Try.prog Try.f5 Rows.fnExactCommonSuitesRow.domain false) (Rows.fnExactCommonSuitesSpec.post enc Try.prog Try.f5 false true false false) := by
  refine returnsInHanded_of_change_sized (C := Try.checked) own started (by kernel_rfl) Try.func5
    (ChangeSpec.witness6 (enc := enc) (C := Try.checked) false ⟨#[], #[.slice none 0 0, .slice none 0 0], []⟩ 8 (by kernel_rfl) (by kernel_rfl) (by kernel_rfl) (by kernel_rfl)) ?_
  intro W base args ds gs before hval0 hW hcnd hsz0 _
  have hval : ∀ (j : Nat) t v, Try.f5.params[j]? = some t → args[j]? = some v → Value.okWide Try.prog W .any base t v := hval0
  have hW' := hW
  obtain ⟨p, q, hA0, hV, rfl, hfz, hnd⟩ := hW
  have hA : DataW.TrodAll enc Try.prog W 0 (fun _ => true) true Try.f5.params.toList args.toList ds p := hA0
  rw [Try.params5] at hA hval
  obtain ⟨v0, vs0, d0, ds0, p0, q0, hargs, rfl, rfl, h0, r0⟩ := trodAll_cons hA
  obtain ⟨v1, vs1, d1, ds1, p1, q1, rfl, rfl, rfl, h1, r1⟩ := trodAll_cons r0
  obtain ⟨rfl, rfl, rfl⟩ := trodAll_nil r1
  obtain rfl : args = #[v0, v1] := by cases args; simp_all
  obtain ⟨rfl, rfl⟩ := trodVars_none hV
  obtain ⟨A0, len0, c0, rfl⟩ := okWide_slice Try.underlying22 (hval 0 22 v0 rfl rfl)
  have k0 := h0
  have lt0 : ∀ x ∈ p0, x.block < W.heap.size := by obtain ⟨m, hm⟩ := k0; exact DataW.trod_lt m _ _ _ hm
  obtain ⟨l0, rfl, hr0, hc0, hm0, hg0⟩ := Opn.arg_slice Try.underlying22 (by kernel_rfl) o54 h0
  obtain ⟨A1, len1, c1, rfl⟩ := okWide_slice Try.underlying22 (hval 1 22 v1 rfl rfl)
  have k1 := h1
  have lt1 : ∀ x ∈ p1, x.block < W.heap.size := by obtain ⟨m, hm⟩ := k1; exact DataW.trod_lt m _ _ _ hm
  obtain ⟨l1, rfl, hr1, hc1, hm1, hg1⟩ := Opn.arg_slice Try.underlying22 (by kernel_rfl) o54 h1
  clear hA0 hval0 hsz0
  obtain ⟨k, h⟩ := Pure.FnExactCommonSuites l0 l1 hm0 hg0 hm1 hg1
  refine (laws_FnExactCommonSuites.calls k A0 c0 l0 A1 c1 l1 W hr0 hc0 hr1 hc1 h).mono fun e W' ⟨he, bel0⟩ => ?_
  have bel : Below W.heap.size W W' := bel0
  subst he
  exact ⟨_, rfl, _, _, _, [], _, [], hW', trodAll_mk1 (shut_bool Try.underlying4 _), (trodAll_cons_mk (Below.trod laidOut (by kernel_rfl) (of_decide_eq_true (by kernel_rfl)) k0 bel lt0) (trodAll_cons_mk (Below.trod laidOut (by kernel_rfl) (of_decide_eq_true (by kernel_rfl)) k1 bel lt1) trodAll_mk0)), rfl, bel.frame _, fun h => by cases h⟩
theorem over : Rows.fnExactCommonSuitesRow.holds Try.pinned (OpenSpec.ofChange Rows.fnExactCommonSuitesSpec) :=
  OpenClaim.holds_of_wide 5 Try.f5 rfl rfl rfl rfl rfl rfl rfl ⟨rfl, rfl, rfl, rfl, rfl⟩ rfl rfl rfl rfl rfl (by kernel_rfl) Try.func5 (by kernel_rfl)
    (of_decide_eq_true (by kernel_rfl)) (by unfold Func.isWrapper; first | (rw [if_pos (by decide +kernel)]; kernel_rfl) | (rw [if_neg (by decide +kernel)]; exact ⟨rfl, rfl⟩))
    (fun os started H enc _ => lifted os started H enc)
end Go.Proofs.Ytbneeppnhddheaa.fnExactCommonSuites
namespace Go.Proofs.Ytbneeppnhddheaa
theorem fnExactCommonSuites_holds : Rows.FnExactCommonSuitesSaid := fnExactCommonSuites.over
end Go.Proofs.Ytbneeppnhddheaa
#print axioms Go.Proofs.Ytbneeppnhddheaa.fnExactCommonSuites_holds
