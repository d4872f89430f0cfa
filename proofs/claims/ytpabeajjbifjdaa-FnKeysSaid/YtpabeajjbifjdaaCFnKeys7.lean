/- FnKeys: for every input the law returns true and its arguments read afterwards as they read before. No condition. -/
import Derived.Test.YtpabeajjbifjdaaCFnKeys6
import Derived.ChangeArms
import Derived.Deep.Slices
import Derived.ProofKit
import Derived.OpenShut
import Derived.Test.YtpabeajjbifjdaaRows
import Derived.WalkKit
import Derived.ShutString
import Derived.ChangeOld
import Derived.Below
import Derived.SizedLaws
set_option linter.unusedVariables false
namespace Go.Proofs.Ytpabeajjbifjdaa.Opn
open Go.Proofs.YtpabeajjbifjdaaW.PrintWords
def Opens {α : Type} (P : Program) (t : TypeId) (d : Kd α) (G : α → Prop) : Prop :=
  P.cellsOf t = d.sz ∧ ∀ (H : Type) (enc : TypeId × Value → H) (W : World) (base : Nat) (sp : Nat → Bool) (held : Bool) (fuel : Nat) (cs : List Value) (x : DataW H × List MemPlace),
    DataW.trod enc P W base sp held fuel t cs = some x → ∃ a, d.K W a cs ∧ G a
theorem opens_int {P : Program} {t : TypeId} {k : IntKind} (ht : P.underlying t = some (.int k)) (hc : P.cellsOf t = 1) : Opens P t (Kd.int k) (fun n => (Lit.int k n).wf = true) :=
  ⟨hc, fun H enc W base sp held fuel cs x hx => by
    obtain ⟨n, h, hx, hw⟩ := DataW.trod_int ht hx
    exact ⟨n, h, hw⟩⟩
theorem opens_slice {α : Type} {P : Program} {t e : TypeId} {d : Kd α} {G : α → Prop} (ht : P.underlying t = some (.slice e)) (hc : P.cellsOf t = 1) (he : Opens P e d G) :
    Opens P t (Kd.slice e d) (fun xs => xs.length ≤ maxLen ∧ ∀ x ∈ xs, G x) :=
  ⟨hc, fun H enc W base sp held fuel cs x hx => by
    rcases Go.Deep.open_slice ht hx with ⟨rfl, rfl⟩ | ⟨a, len, cap, m, n, D, Pl, rfl, hb, hl, hm, hmm, rfl, hel⟩
    · refine ⟨[], ⟨none, 0, rfl, Nat.le_refl _, rfl, by simp, ?_⟩, by simp, by simp⟩
      intro h; exact absurd h (by simp)
    · have hle : len ≤ m := by rw [hmm]; split <;> omega
      have key : ∀ i, i < len → ∃ p : α, ∃ c : List Value, c.length = d.sz ∧ d.K W p c ∧ G p ∧ ∀ j u, c[j]? = some u → W.cell? (a.add (i * d.sz + j)) = some u := by
        intro i hi
        obtain ⟨c, h1, h2⟩ := hel i (by omega)
        obtain ⟨p, h3, h4⟩ := he.2 H enc W base sp held n c _ h2
        obtain ⟨_, h5, h6⟩ := World.cells?_some h1
        rw [he.1] at h5 h6
        refine ⟨p, c, h5, h3, h4, fun j u hj => ?_⟩
        have hjl : j < d.sz := by
          have := (List.getElem?_eq_some_iff.1 hj).1
          omega
        rw [← Go.Deep.add_add, h6 j hjl, hj]
      have ex : ∃ ps : List α, ps.length = len ∧ ∀ i p, ps[i]? = some p → ∃ c : List Value, c.length = d.sz ∧ d.K W p c ∧ G p ∧ ∀ j u, c[j]? = some u → W.cell? (a.add (i * d.sz + j)) = some u := by
        clear hel hmm hle hl hm hx
        induction len with
        | zero => exact ⟨[], rfl, fun i p h => by simp at h⟩
        | succ k ih =>
          obtain ⟨ps, h1, h2⟩ := ih (fun i hi => key i (by omega))
          obtain ⟨p, hp⟩ := key k (by omega)
          refine ⟨ps ++ [p], by simp [h1], fun i q h => ?_⟩
          by_cases hi : i < ps.length
          · rw [List.getElem?_append_left hi] at h
            exact h2 i q h
          · rw [List.getElem?_append_right (by omega)] at h
            have hi0 : i - ps.length = 0 := by
              have := (List.getElem?_eq_some_iff.1 h).1
              simp at this
              omega
            rw [hi0] at h
            simp at h
            subst h
            have : i = k := by omega
            subst this
            exact hp
      obtain ⟨ps, h1, h2⟩ := ex
      subst h1
      refine ⟨ps, ⟨some a, cap, rfl, hl, rfl, by simp only [maxLen] at hm; omega, fun _ => ⟨a, rfl, fun j p hj => ?_⟩⟩, by omega, fun x hx' => ?_⟩
      · obtain ⟨c, g1, g2, g3, g4⟩ := h2 j p hj
        exact ⟨c, g1, g2, g4⟩
      · obtain ⟨i, hi⟩ := List.getElem?_of_mem hx'
        obtain ⟨c, g1, g2, g3, g4⟩ := h2 i x hi
        exact g3⟩
def OpensAt {α : Type} (P : Program) (fs : List Field) (off : Nat) (d : Kd α) (G : α → Prop) : Prop :=
  ∀ (H : Type) (enc : TypeId × Value → H) (W : World) (base : Nat) (sp : Nat → Bool) (held : Bool) (n : Nat) (cs : List Value),
    cs.length = off + d.sz → (∀ f ∈ fs, ∃ y, DataW.trod enc P W base sp held n f.type ((cs.drop f.offset).take (P.cellsOf f.type)) = some y) → ∃ a, d.K W a (cs.drop off) ∧ G a
theorem at_last {α : Type} {P : Program} {f : Field} {off : Nat} {T : TypeId} {d : Kd α} {G : α → Prop} (hf : f.offset = off) (hT : f.type = T) (h : Opens P T d G) : OpensAt P [f] off d G :=
  fun H enc W base sp held n cs hl hfs => by
    subst hT
    obtain ⟨y, hy⟩ := hfs f (List.mem_singleton.2 rfl)
    rw [hf, h.1, List.take_of_length_le (by rw [List.length_drop]; omega)] at hy
    exact h.2 H enc W base sp held n _ _ hy
theorem at_cons {α β : Type} {P : Program} {f : Field} {fs : List Field} {off : Nat} {T : TypeId} {d : Kd α} {d2 : Kd β} {G : α → Prop} {G2 : β → Prop} (hf : f.offset = off) (hT : f.type = T) (h : Opens P T d G) (h2 : OpensAt P fs (off + d.sz) d2 G2) :
    OpensAt P (f :: fs) off (Kd.pair d d2) (fun x => G x.1 ∧ G2 x.2) :=
  fun H enc W base sp held n cs hl hfs => by
    subst hT
    obtain ⟨y, hy⟩ := hfs f (List.mem_cons_self)
    have hl' : cs.length = off + (d.sz + d2.sz) := hl
    rw [hf, h.1] at hy
    obtain ⟨a, k1, g1⟩ := h.2 H enc W base sp held n _ _ hy
    obtain ⟨b, k2, g2⟩ := h2 H enc W base sp held n cs (by omega) (fun f' hf' => hfs f' (List.mem_cons_of_mem _ hf'))
    refine ⟨(a, b), ⟨_, _, ?_, k1, k2⟩, g1, g2⟩
    rw [← List.drop_drop, List.take_append_drop]
theorem arg_slice {α : Type} {P : Program} {W : World} {t e : TypeId} {d : Kd α} {G : α → Prop} {H : Type} {enc : TypeId × Value → H} {base : Nat} {sp : Nat → Bool} {held : Bool} {A : Option Addr} {n c : Nat} {x : DataW H} {ps : List MemPlace}
    (ht : P.underlying t = some (.slice e)) (hc : P.cellsOf t = 1) (he : Opens P e d G) (h : DataW.Trod enc P W base sp held t (.slice A n c) x ps) :
    ∃ xs : List α, n = xs.length ∧ d.C W A xs.length xs ∧ xs.length ≤ c ∧ xs.length ≤ maxLen ∧ ∀ a ∈ xs, G a := by
  obtain ⟨fuel, hf⟩ := h
  obtain ⟨xs, ⟨A', c', h1, h2, h3⟩, h4, h5⟩ := (opens_slice ht hc he).2 H enc W base sp held fuel _ _ hf
  simp [Value.cells] at h1
  obtain ⟨rfl, rfl, rfl⟩ := h1
  exact ⟨xs, rfl, h3, h2, h4, h5⟩
end Go.Proofs.Ytpabeajjbifjdaa.Opn
namespace Go.Proofs.Ytpabeajjbifjdaa.Pure
open Go.RowKit Go.Proofs.Ytpabeajjbifjdaa.G Go.Proofs.YtpabeajjbifjdaaW.PrintWords Go.Proofs.YtpabeajjbifjdaaW.PrintLast
def laws_FnKeys.Pure : Prop := ∀ (l0 : List Int), l0.length ≤ maxLen → (∀ x ∈ l0, (fun n => (Lit.int .u8 n).wf = true) x) → ∃ k, laws_FnKeys.f k l0 = some true
end Go.Proofs.Ytpabeajjbifjdaa.Pure
set_option linter.unusedVariables false
set_option linter.unusedSimpArgs false
namespace Go.Proofs.Ytpabeajjbifjdaa.Pure
open Go.RowKit Go.Proofs.Ytpabeajjbifjdaa.G Go.Proofs.YtpabeajjbifjdaaW.PrintWords Go.Proofs.YtpabeajjbifjdaaW.PrintLast Go.Proofs.YtpabeajjbifjdaaW.PrintMore
theorem ev_succ {α : Type} {g : Nat → Option α} {r : α} (h : Ev (fun k => g (k + 1)) r) : Ev g r := by
  obtain ⟨K, hK⟩ := h
  refine ⟨K + 1, fun k hk => ?_⟩
  obtain ⟨m, rfl⟩ : ∃ m, k = m + 1 := ⟨k - 1, by omega⟩
  exact hK m (by omega)
theorem w64' {n : Int} (h0 : -9223372036854775808 ≤ n) (h1 : n ≤ 9223372036854775807) : wrap64 n = n := by unfold wrap64; omega
theorem byte_wf {l : List Int} (h : ∀ x ∈ l, (Lit.int .u8 x).wf = true) : ∀ x ∈ l, 0 ≤ x ∧ x ≤ 255 := fun x hx => by
  have := h x hx
  simpa [Lit.wf, IntKind.min, IntKind.max, IntKind.signed, IntKind.bits] using this
theorem in_specT (a b c : Int) : spec_l1In.f a b c = some (decide (b ≤ a ∧ a ≤ c)) := by
  unfold spec_l1In.f; split
  · congr 1; simp; omega
  · congr 1; simp; omega
theorem kids_ev (a : Int) : Ev (fun k => spec_l5Kids.f k a) (if a = 3 ∨ a = 4 ∨ a = 5 ∨ a = 7 then 2 else if a = 6 then 1 else 0) := by
  refine ⟨1, fun k hk => ?_⟩
  obtain ⟨m, rfl⟩ : ∃ m, k = m + 1 := ⟨k - 1, by omega⟩
  unfold spec_l5Kids.f
  by_cases h3 : a = 3
  · simp [spec_l5Kids.j0, h3]
  · by_cases h4 : a = 4
    · simp [spec_l5Kids.j0, h4]
    · by_cases h5 : a = 5
      · simp [spec_l5Kids.j0, h5]
      · by_cases h7 : a = 7
        · simp [spec_l5Kids.j0, h7]
        · by_cases h6 : a = 6
          · simp [spec_l5Kids.j0, h6]
          · simp [spec_l5Kids.j0, h3, h4, h5, h6, h7]
theorem notIn_iff (l : List S36) (x : Int) : notIn l x = false ↔ (0 ≤ x ∧ x < (l.length : Int)) := by
  unfold notIn; simp; omega
theorem term_ev (a0 a1 a2 a3 : Int) (l : List S36) (hl : l.length ≤ 9223372036854775807) : Ev (fun k => spec_l5Term.f k l a0 a1 a2 a3) (tfault a0 a1 a2 a3 l) := by
  have hw : wrap64 ((l.length : Int) - 1) = (l.length : Int) - 1 := w64' (by omega) (by omega)
  unfold spec_l5Term.f
  simp only [in_specT, Option.bind_some, decide_eq_true_eq]
  unfold tfault
  by_cases hop : 1 ≤ a0 ∧ a0 ≤ 7
  rotate_left
  · simp only [if_neg hop]; exact Ev.now _
  simp only [if_pos hop]
  refine Ev.bind (kids_ev a0) ?_
  -- what stands behind the form's test
  have j2 : ∀ (n : Int) (t : Bool), (t = (a0 == 6 || a0 == 7)) → (a0 = 6 ∨ a0 = 7 → notIn l a1 = false ∧ (n > 1 → notIn l a2 = false)) → Ev (fun k => spec_l5Term.j2 k l n t a0 a1 a2 a3) (if a0 = 6 ∨ a0 = 7 then (if notFresh l a1 = true then 1 else if n > 1 then (if notFresh l a2 = true ∨ a1 > a2 then 1 else 0) else 0) else 0) := by
    intro n t ht hin
    refine ev_succ ?_
    simp only [spec_l5Term.j2]
    by_cases h67 : a0 = 6 ∨ a0 = 7
    · obtain ⟨i1, i2⟩ := hin h67
      rw [notIn_iff] at i1
      have ht' : t = true := by rw [ht]; rcases h67 with h | h <;> simp [h]
      simp only [ht', if_true, if_pos h67, i1.1, i1.2]
      by_cases hf : (rd_T36 l a1).f0 = 2
      · have hf' : notFresh l a1 = false := by unfold notFresh; simp [hf]
        simp only [hf, hf', if_true, Bool.false_eq_true, if_false]
        by_cases hn : n > 1
        · have i2' := i2 hn
          rw [notIn_iff] at i2'
          simp only [hn, if_true, i2'.1, i2'.2]
          by_cases hg : (rd_T36 l a2).f0 = 2
          · have hg' : notFresh l a2 = false := by unfold notFresh; simp [hg]
            simp only [hg, hg', if_true, Bool.false_eq_true, false_or]
            by_cases hgt : a1 > a2
            · simp only [hgt, if_true]; exact Ev.now _
            · simp only [hgt, if_false]; exact Ev.now _
          · have hg' : notFresh l a2 = true := by unfold notFresh; simpa using hg
            simp only [hg, hg', if_false, true_or, if_true]; exact Ev.now _
        · simp only [hn, if_false]; exact Ev.now _
      · have hf' : notFresh l a1 = true := by unfold notFresh; simpa using hf
        simp only [hf, hf', if_false, if_true]; exact Ev.now _
    · have ht' : t = false := by rw [ht]; simp only [not_or] at h67; simp [h67]
      simp only [ht', if_neg h67, Bool.false_eq_true, if_false]; exact Ev.now _
  have j1 : ∀ (n : Int) (t : Bool), (a0 = 6 ∨ a0 = 7 → t = false → notIn l a1 = false ∧ (n > 1 → notIn l a2 = false)) → Ev (fun k => spec_l5Term.j1 k l n t a0 a1 a2 a3) (if t = true then 3 else (if a0 = 6 ∨ a0 = 7 then (if notFresh l a1 = true then 1 else if n > 1 then (if notFresh l a2 = true ∨ a1 > a2 then 1 else 0) else 0) else 0)) := by
    intro n t hin
    refine ev_succ ?_
    simp only [spec_l5Term.j1]
    cases t with
    | true => simp only [if_true]; exact Ev.now _
    | false =>
      simp only [Bool.false_eq_true, if_false]
      by_cases h6 : a0 = 6
      · simp only [if_pos h6]; exact j2 n true (by simp [h6]) (fun h => hin h rfl)
      · simp only [if_neg h6]; exact j2 n (a0 == 7) (by simp [h6]) (fun h => hin h rfl)
  have dn : ∀ x : Int, (!decide (0 ≤ x ∧ x ≤ (l.length : Int) - 1)) = notIn l x := fun x => rfl
  have dt : ∀ x : Int, (0 ≤ x ∧ x ≤ (l.length : Int) - 1) ↔ notIn l x = false := fun x => by rw [notIn_iff]; omega
  by_cases h12 : a0 = 1 ∨ a0 = 2
  · -- names
    have hk : ¬ (a0 = 3 ∨ a0 = 4 ∨ a0 = 5 ∨ a0 = 7) := by omega
    have hk6 : ¬ a0 = 6 := by omega
    have h67 : ¬ (a0 = 6 ∨ a0 = 7) := by omega
    simp only [if_neg hk, if_neg hk6, if_pos h12, show ¬ (0 : Int) > 0 by omega, if_false, show (0 : Int) < 1 by omega, show (0 : Int) < 2 by omega, if_true]
    by_cases ha : a1 = 0
    · simp only [ha, if_true, true_and]
      refine ev_succ ?_
      simp only [spec_l5Term.j0]
      by_cases hb : a2 = 0
      · simp only [hb, bne_self_eq_false, Bool.false_eq_true, if_false, if_true, in_specT, Option.bind_some, decide_eq_true_eq, show ¬ (0 : Int) > 0 by omega, show ¬ (0 : Int) > 1 by omega]
        by_cases hn : 0 ≤ a3 ∧ a3 ≤ 9999
        · simp only [hn, and_self, if_true]
          have := j1 0 false (fun h => absurd h h67)
          simp only [Bool.false_eq_true, if_false, if_neg h67, ha, hb] at this
          exact this
        · simp only [if_neg hn]
          have := j1 0 true (fun h => absurd h h67)
          simp only [if_true, ha, hb] at this
          exact this
      · have hb' : (a2 != 0) = true := by simpa using hb
        simp only [hb', if_true, hb, if_false]; exact Ev.now _
    · simp only [ha, if_false, false_and]
      refine ev_succ ?_
      simp only [spec_l5Term.j0, if_true]; exact Ev.now _
  · by_cases h6 : a0 = 6
    · have hk : ¬ (a0 = 3 ∨ a0 = 4 ∨ a0 = 5 ∨ a0 = 7) := by omega
      simp only [if_neg hk, if_pos h6, if_neg h12, show (1 : Int) > 0 by omega, if_true, show ¬ (1 : Int) < 1 by omega, if_false, show (1 : Int) < 2 by omega]
      by_cases hn : a3 = 0
      · simp only [hn, if_true, and_true]
        refine ev_succ ?_
        simp only [spec_l5Term.j0]
        by_cases hb : a2 = 0
        · simp only [hb, bne_self_eq_false, Bool.false_eq_true, if_false, if_true, in_specT, Option.bind_some, decide_eq_true_eq, show (1 : Int) > 0 by omega, show ¬ (1 : Int) > 1 by omega, show (0 : Int) ≤ 0 ∧ (0 : Int) ≤ 9999 by omega, and_self, hw, List.any_cons, List.any_nil, Bool.or_false]
          cases hi : notIn l a1 with
          | false =>
            simp only [if_pos ((dt a1).2 hi), Bool.false_eq_true, if_false]
            have := j1 1 false (fun h _ => ⟨hi, fun h => absurd h (by omega)⟩)
            simp only [Bool.false_eq_true, if_false, h6, true_or, if_true, show ¬ (1 : Int) > 1 by omega, hb, hn] at this
            rw [h6]
            exact this
          | true =>
            simp only [if_neg (show ¬ (0 ≤ a1 ∧ a1 ≤ (l.length : Int) - 1) from fun h => by rw [(dt a1).1 h] at hi; cases hi), if_true]
            have := j1 1 true (fun _ h => by cases h)
            simp only [if_true, hb, hn] at this
            exact this
        · have hb' : (a2 != 0) = true := by simpa using hb
          simp only [hb', if_true, hb, if_false]; exact Ev.now _
      · simp only [hn, if_false, and_false]
        refine ev_succ ?_
        simp only [spec_l5Term.j0, if_true]; exact Ev.now _
    · have hk : a0 = 3 ∨ a0 = 4 ∨ a0 = 5 ∨ a0 = 7 := by omega
      simp only [if_pos hk, if_neg h6, if_neg h12, show (2 : Int) > 0 by omega, if_true, show ¬ (2 : Int) < 1 by omega, if_false, show ¬ (2 : Int) < 2 by omega]
      by_cases hn : a3 = 0
      · simp only [hn, if_true]
        refine ev_succ ?_
        simp only [spec_l5Term.j0, Bool.false_eq_true, if_false, if_true, in_specT, Option.bind_some, decide_eq_true_eq, show (2 : Int) > 0 by omega, show (2 : Int) > 1 by omega, show (0 : Int) ≤ 0 ∧ (0 : Int) ≤ 9999 by omega, and_self, hw, dn, List.any_cons, List.any_nil, Bool.or_false]
        cases hi : notIn l a1 with
        | true =>
          simp only [if_neg (show ¬ (0 ≤ a1 ∧ a1 ≤ (l.length : Int) - 1) from fun h => by rw [(dt a1).1 h] at hi; cases hi), Bool.true_or, if_true]
          have := j1 2 true (fun _ h => by cases h)
          simp only [if_true, hn] at this
          exact this
        | false =>
          simp only [if_pos ((dt a1).2 hi), Bool.false_or]
          have := j1 2 (notIn l a2) (fun _ h => ⟨hi, fun _ => h⟩)
          simp only [show (2 : Int) > 1 by omega, if_true, h6, false_or, hn] at this
          have e : (if notIn l a2 = true then (3 : Int) else if a0 = 7 then (if notFresh l a1 = true then 1 else if notFresh l a2 = true ∨ a1 > a2 then 1 else 0) else 0) = (if notIn l a2 = true then 3 else if a0 = 7 then (if (notFresh l a1 || notFresh l a2) = true ∨ a1 > a2 then 1 else 0) else 0) := by
            by_cases q0 : notIn l a2 = true
            · rw [if_pos q0, if_pos q0]
            · rw [if_neg q0, if_neg q0]
              by_cases q7 : a0 = 7
              · rw [if_pos q7, if_pos q7]
                cases notFresh l a1 <;> cases notFresh l a2 <;> simp
              · rw [if_neg q7, if_neg q7]
          rw [e] at this
          exact this
      · simp only [hn, if_false]
        refine ev_succ ?_
        simp only [spec_l5Term.j0, if_true]; exact Ev.now _
theorem drop_rdT (l : List S36) (i : Nat) (h : i < l.length) : l.drop i = rd_T36 l (i : Int) :: l.drop (i + 1) := by
  rw [List.drop_eq_getElem_cons h]
  simp [rd_T36, List.getD, List.getElem?_eq_getElem h]
theorem take_rdT (l : List S36) (i : Nat) (h : i < l.length) : l.take (i + 1) = l.take i ++ [rd_T36 l (i : Int)] := by
  rw [List.take_succ_eq_append_getElem h]
  simp [rd_T36, List.getD, List.getElem?_eq_getElem h]
def tidx (l : List S36) (x : S36) (i : Nat) : Int :=
  match (l.drop i).findIdx? fun y => eq4 x y with
  | some j => ((i + j : Nat) : Int)
  | none => -1
theorem find_l0 (l : List S36) (hl : l.length ≤ 9223372036854775807) (x : S36) (d : Nat) : ∀ (k i : Nat), i + d = l.length → d < k → spec_l5Find.l0 k l i x.f0 x.f1 x.f2 x.f3 = some (tidx l x i) := by
  induction d with
  | zero =>
    intro k i hi hk
    obtain ⟨k, rfl⟩ : ∃ m, k = m + 1 := ⟨k - 1, by omega⟩
    simp only [spec_l5Find.l0]; rw [if_neg (by omega)]; unfold tidx; rw [List.drop_of_length_le (by omega)]; rfl
  | succ d ih =>
    intro k i hi hk
    obtain ⟨k, rfl⟩ : ∃ m, k = m + 1 := ⟨k - 1, by omega⟩
    simp only [spec_l5Find.l0]
    rw [if_pos (by omega), if_pos (by omega), w64' (by omega) (by omega)]
    have e := ih k (i + 1) (by omega) (by omega)
    have e' : spec_l5Find.l0 k l ((i : Int) + 1) x.f0 x.f1 x.f2 x.f3 = some (tidx l x (i + 1)) := by simpa using e
    rw [e']
    have sw : (((rd_T36 l i).f0) == x.f0 && (((rd_T36 l i).f1) == x.f1 && (((rd_T36 l i).f2) == x.f2 && (((rd_T36 l i).f3) == x.f3)))) = eq4 x (rd_T36 l i) := by
      unfold eq4; rw [BEq.comm (b := x.f0), BEq.comm (b := x.f1), BEq.comm (b := x.f2), BEq.comm (b := x.f3)]
    rw [sw]
    unfold tidx
    rw [drop_rdT l i (by omega), List.findIdx?_cons]
    cases h : eq4 x (rd_T36 l i)
    · simp only [Bool.false_eq_true, if_false]
      cases (l.drop (i + 1)).findIdx? fun y => eq4 x y with
      | none => rfl
      | some j => simp; omega
    · simp
theorem find_ev (l : List S36) (hl : l.length ≤ 9223372036854775807) (x : S36) : Ev (fun k => spec_l5Find.f k l x.f0 x.f1 x.f2 x.f3) (tidx l x 0) := by
  refine ⟨l.length + 1, fun k hk => ?_⟩
  have := find_l0 l hl x l.length k 0 (by omega) (by omega)
  simpa [spec_l5Find.f] using this
theorem tidx_nonneg (l : List S36) (x : S36) : tidx l x 0 ≥ 0 ↔ l.any (eq4 x) = true := by
  unfold tidx
  rw [List.drop_zero]
  cases h : l.findIdx? fun y => eq4 x y with
  | none =>
    rw [List.findIdx?_eq_none_iff] at h
    constructor
    · intro h'; simp at h'
    · intro h'
      obtain ⟨y, hy, hq⟩ := List.any_eq_true.1 h'
      have := h y hy
      rw [hq] at this; cases this
  | some j =>
    rw [List.findIdx?_eq_some_iff_getElem] at h
    obtain ⟨hj, h3, _⟩ := h
    constructor
    · intro _; exact List.any_eq_true.2 ⟨_, List.getElem_mem hj, h3⟩
    · intro _; simp only [Nat.zero_add]; omega
def TF (l : List S36) : Int := if 400 < l.length then 2 else TFs [] l
theorem tf_spec_l0 (l : List S36) (hl : l.length ≤ 400) (d : Nat) : ∀ (i : Nat), i + d = l.length → Ev (fun k => spec_TermsFault.l0 k l i) (TFs (l.take i) (l.drop i)) := by
  induction d with
  | zero =>
    intro i hi
    refine ev_succ ?_
    simp only [spec_TermsFault.l0, show ¬ (i : Int) < (l.length : Int) by omega, if_false]
    rw [List.drop_of_length_le (by omega)]; exact Ev.now _
  | succ d ih =>
    intro i hi
    refine ev_succ ?_
    simp only [spec_TermsFault.l0, show (i : Int) < (l.length : Int) by omega, show 0 ≤ (i : Int) by omega, show (i : Int) ≤ (l.length : Int) by omega, if_true, Int.toNat_natCast]
    rw [drop_rdT l i (by omega)]
    generalize hx : rd_T36 l (i : Int) = x
    simp only [TFs]
    refine Ev.bind (term_ev _ _ _ _ _ (by rw [List.length_take]; omega)) ?_
    by_cases h0 : tfault x.f0 x.f1 x.f2 x.f3 (l.take i) = 0
    · simp only [h0, if_true]
      refine Ev.bind (find_ev _ (by rw [List.length_take]; omega) x) ?_
      by_cases hh : (l.take i).any (eq4 x) = true
      · simp only [if_pos hh, if_pos ((tidx_nonneg _ _).2 hh)]; exact Ev.now _
      · simp only [if_neg hh, if_neg (fun h => hh ((tidx_nonneg _ _).1 h))]
        rw [w64' (by omega) (by omega), ← hx, ← take_rdT l i (by omega)]
        have := ih (i + 1) (by omega)
        simpa using this
    · simp only [h0, if_false]; exact Ev.now _
theorem tf_spec (l : List S36) : Ev (fun k => spec_TermsFault.f k l) (TF l) := by
  unfold spec_TermsFault.f TF
  by_cases h : 400 < l.length
  · simp only [show (l.length : Int) > 400 by omega, h, if_true]; exact Ev.now _
  · simp only [show ¬ (l.length : Int) > 400 by omega, h, if_false]
    have := tf_spec_l0 l (by omega) l.length 0 (by omega)
    simpa using this
theorem tf_impl {l : List S36} (h : l.all wf4 = true) : impl_TermsFault.f l = some (TF l) := by
  unfold impl_TermsFault.f TF
  rw [if_pos h]
theorem TFs_ok : ∀ (l pre : List S36), TFs pre l = 0 → ∀ i : Nat, i < l.length → tfault (rd_T36 l i).f0 (rd_T36 l i).f1 (rd_T36 l i).f2 (rd_T36 l i).f3 (pre ++ l.take i) = 0
  | [], _, _, i, hi => absurd hi (Nat.not_lt_zero _)
  | x :: r, pre, h, i, hi => by
    simp only [TFs] at h
    by_cases h0 : tfault x.f0 x.f1 x.f2 x.f3 pre = 0
    · rw [if_pos h0] at h
      by_cases hh : pre.any (eq4 x) = true
      · rw [if_pos hh] at h; cases h
      · rw [if_neg hh] at h
        match i, hi with
        | 0, _ => simpa [rd_T36] using h0
        | i + 1, hi =>
          have := TFs_ok r _ h i (by simpa using hi)
          have e : rd_T36 (x :: r) ((i + 1 : Nat) : Int) = rd_T36 r (i : Int) := by simp [rd_T36, List.getD, show ((i : Int) + 1).toNat = i + 1 by omega]
          rw [e, List.take_succ_cons]
          simpa using this
    · rw [if_neg h0] at h; exact absurd h h0
def PF (l : List S36) (ps : List Int) : Int := if TF l = 0 then (if ps.any (notIn l) = true then 3 else 0) else TF l
theorem pf_impl {l : List S36} (h : l.all wf4 = true) (ps : List Int) : impl_placesFault.f l ps = some (PF l ps) := by
  unfold impl_placesFault.f PF
  rw [tf_impl h]
  simp only [Option.bind_some]
  split
  · split <;> rfl
  · rfl
theorem at_ev (l : List S36) (hl : l.length ≤ 9223372036854775807) (a : Int) : spec_l5At.f l a = some (!notIn l a) := by
  unfold spec_l5At.f
  rw [in_specT, w64' (n := (l.length : Int) - 1) (by omega) (by omega)]
  unfold notIn
  simp
theorem asked9_l0 (l : List S36) (hl : l.length ≤ 9223372036854775807) (ps : List Int) (hp : ps.length ≤ 9223372036854775807) (d : Nat) : ∀ (k i : Nat), i + d = ps.length → d < k → spec_l9Asked.l0 k l ps i = some (if (ps.drop i).any (notIn l) = true then 3 else 0) := by
  induction d with
  | zero =>
    intro k i hi hk
    obtain ⟨k, rfl⟩ : ∃ m, k = m + 1 := ⟨k - 1, by omega⟩
    simp only [spec_l9Asked.l0]; rw [if_neg (by omega), List.drop_of_length_le (by omega)]; rfl
  | succ d ih =>
    intro k i hi hk
    obtain ⟨k, rfl⟩ : ∃ m, k = m + 1 := ⟨k - 1, by omega⟩
    simp only [spec_l9Asked.l0]
    rw [if_pos (by omega), if_pos (by omega), w64' (by omega) (by omega), at_ev l hl]
    have e := ih k (i + 1) (by omega) (by omega)
    have e' : spec_l9Asked.l0 k l ps ((i : Int) + 1) = some (if (ps.drop (i + 1)).any (notIn l) = true then 3 else 0) := by simpa using e
    rw [e']
    have hd : ps.drop i = rd ps (i : Int) :: ps.drop (i + 1) := by
      rw [List.drop_eq_getElem_cons (by omega)]
      simp [rd, List.getD, List.getElem?_eq_getElem (show i < ps.length by omega)]
    rw [hd, List.any_cons]
    cases notIn l (rd ps (i : Int)) <;> simp
theorem asked9_ev (l : List S36) (hl : l.length ≤ 9223372036854775807) (ps : List Int) (hp : ps.length ≤ 9223372036854775807) : Ev (fun k => spec_l9Asked.f k l ps) (PF l ps) := by
  unfold spec_l9Asked.f PF
  refine Ev.bind (tf_spec l) ?_
  by_cases h : TF l = 0
  · simp only [h, if_true]
    refine ⟨ps.length + 1, fun k hk => ?_⟩
    have := asked9_l0 l hl ps hp ps.length k 0 (by omega) (by omega)
    simpa using this
  · simp only [h, if_false]; exact Ev.now _
theorem PF_ok {l : List S36} {ps : List Int} (h : PF l ps = 0) : TF l = 0 ∧ ∀ x ∈ ps, 0 ≤ x ∧ x < (l.length : Int) := by
  unfold PF at h
  by_cases h0 : TF l = 0
  · rw [if_pos h0] at h
    refine ⟨h0, fun x hx => (notIn_iff l x).1 ?_⟩
    split at h
    · cases h
    · rename_i hn
      cases hq : notIn l x
      · rfl
      · exact absurd (List.any_eq_true.2 ⟨x, hx, hq⟩) hn
  · rw [if_neg h0] at h; exact absurd h h0
theorem tindex_l0 (l : List S36) (hl : l.length ≤ 9223372036854775807) (x : S36) (d : Nat) : ∀ (k i : Nat), i + d = l.length → d < k → impl_Term_94.l0 k l (l.length : Int) i x.f0 x.f1 x.f2 x.f3 = some (tidx l x i) := by
  induction d with
  | zero =>
    intro k i hi hk
    obtain ⟨k, rfl⟩ : ∃ m, k = m + 1 := ⟨k - 1, by omega⟩
    simp only [impl_Term_94.l0]; rw [if_neg (by omega)]; unfold tidx; rw [List.drop_of_length_le (by omega)]; rfl
  | succ d ih =>
    intro k i hi hk
    obtain ⟨k, rfl⟩ : ∃ m, k = m + 1 := ⟨k - 1, by omega⟩
    simp only [impl_Term_94.l0]
    rw [if_pos (by omega), if_pos (by omega), if_pos (by omega), w64' (by omega) (by omega)]
    have e := ih k (i + 1) (by omega) (by omega)
    have e' : impl_Term_94.l0 k l (l.length : Int) ((i : Int) + 1) x.f0 x.f1 x.f2 x.f3 = some (tidx l x (i + 1)) := by simpa using e
    rw [e']
    have sw : (x.f0 == (rd_T36 l i).f0 && (x.f1 == (rd_T36 l i).f1 && (x.f2 == (rd_T36 l i).f2 && (x.f3 == (rd_T36 l i).f3)))) = eq4 x (rd_T36 l i) := rfl
    rw [sw]
    unfold tidx
    rw [drop_rdT l i (by omega), List.findIdx?_cons]
    cases h : eq4 x (rd_T36 l i)
    · simp only [Bool.false_eq_true, if_false]
      cases (l.drop (i + 1)).findIdx? fun y => eq4 x y with
      | none => rfl
      | some j => simp; omega
    · simp
theorem tindex_ev (l : List S36) (hl : l.length ≤ 9223372036854775807) (x : S36) : Ev (fun k => impl_Term_94.f k l x.f0 x.f1 x.f2 x.f3) (tidx l x 0) := by
  refine ⟨l.length + 1, fun k hk => ?_⟩
  have h := tindex_l0 l hl x l.length k 0 (by omega) (by omega)
  have h' : impl_Term_94.l0 k l (l.length : Int) 0 x.f0 x.f1 x.f2 x.f3 = some (tidx l x 0) := by simpa using h
  exact h'
theorem TF_len {l : List S36} (h : TF l = 0) : l.length ≤ 400 := by
  unfold TF at h
  by_cases hb : 400 < l.length
  · rw [if_pos hb] at h; cases h
  · omega
def PT (l : List S36) (t : S36) : Int × Int × List S36 := if tfault t.f0 t.f1 t.f2 t.f3 l = 0 then (if 0 ≤ tidx l t 0 then (0, tidx l t 0, l) else if 400 ≤ l.length then (2, 0, []) else (0, (l.length : Int), l ++ [t])) else (tfault t.f0 t.f1 t.f2 t.f3 l, 0, [])
theorem told_put (l : List S36) (t : S36) : toldP (putP l false t (tidx l t 0)) = (if 0 ≤ tidx l t 0 then (0, tidx l t 0, l) else if 400 ≤ l.length then (2, 0, []) else (0, (l.length : Int), l ++ [t])) := by
  unfold toldP putP
  by_cases h0 : 0 ≤ tidx l t 0
  · simp only [if_pos h0]; rfl
  · simp only [if_neg h0]
    by_cases h1 : 400 ≤ l.length
    · simp only [if_pos h1]; rfl
    · simp only [if_neg h1]; rfl
theorem copy_ev (l : List S36) (hl : l.length ≤ 400) : spec_l5Copy.f l = some l := by
  unfold spec_l5Copy.f
  simp only [Option.bind_some, List.length_nil, List.nil_append]
  rw [if_pos (by omega)]
theorem put_spec (l : List S36) (hl : l.length ≤ 400) (t : S36) : Ev (fun k => spec_l5Put.f k l t.f0 t.f1 t.f2 t.f3) (PT l t) := by
  unfold spec_l5Put.f PT
  refine Ev.bind (term_ev _ _ _ _ l (by omega)) ?_
  by_cases h : tfault t.f0 t.f1 t.f2 t.f3 l = 0
  · simp only [h, if_true]
    refine Ev.bind (find_ev l (by omega) t) ?_
    by_cases h0 : 0 ≤ tidx l t 0
    · simp only [h0, if_true, show tidx l t 0 ≥ 0 from h0, copy_ev l hl, Option.bind_some]; exact Ev.now _
    · simp only [h0, if_false, show ¬ tidx l t 0 ≥ 0 from h0]
      by_cases h1 : 400 ≤ l.length
      · simp only [h1, if_true, show (l.length : Int) ≥ 400 by omega]; exact Ev.now _
      · simp only [h1, if_false, show ¬ (l.length : Int) ≥ 400 by omega, copy_ev l hl, Option.bind_some, List.length_cons, List.length_nil, show l.length + (0 + 1) < 4398046511104 by omega, if_true]; exact Ev.now _
  · simp only [h, if_false]; exact Ev.now _
def PTm (l : List S36) (t : S36) : Int × Int × List S36 := if TF l = 0 then PT l t else (TF l, 0, [])
theorem putTerm_spec (l : List S36) (t : S36) : Ev (fun k => spec_PutTerm.f k l t.f0 t.f1 t.f2 t.f3) (PTm l t) := by
  unfold spec_PutTerm.f PTm
  refine Ev.bind (tf_spec l) ?_
  by_cases h : TF l = 0
  · simp only [h, if_true]; refine Ev.bind (put_spec l (TF_len h) t) ?_; exact Ev.now _
  · simp only [h, if_false]; exact Ev.now _
theorem putTerm_impl (l : List S36) (hw : l.all wf4 = true) (t : S36) : Ev (fun k => impl_PutTerm.f k l t.f0 t.f1 t.f2 t.f3) (PTm l t) := by
  unfold impl_PutTerm.f PTm
  simp only [tf_impl hw, Option.bind_some]
  by_cases h : TF l = 0
  · simp only [h, if_true, impl_Term_fault.f, Option.bind_some]
    unfold PT
    by_cases hf : tfault t.f0 t.f1 t.f2 t.f3 l = 0
    · simp only [hf, if_true]
      refine Ev.bind (tindex_ev l (by have := TF_len h; omega) t) ?_
      have e : (⟨t.f0, t.f1, t.f2, t.f3⟩ : S36) = t := rfl
      rw [e, told_put]
      exact Ev.now _
    · simp only [hf, if_false]; exact Ev.now _
  · simp only [h, if_false]; exact Ev.now _
theorem PT_len (l : List S36) (t : S36) (hl : l.length ≤ 400) : (PT l t).2.2.length ≤ 400 := by
  unfold PT
  split
  · split
    · exact hl
    · split
      · simp
      · simp; omega
  · simp
theorem back_rev (zs : List Int) : (backTo zs zs.length).map Prod.snd = zs.reverse := by
  apply List.ext_getElem
  · simp [backTo]
  · intro i h1 h2
    have hi : i < zs.length := by simpa [backTo] using h1
    simp [backTo, List.getElem_reverse, List.getElem?_eq_getElem (show zs.length - 1 - i < zs.length by omega)]
theorem tidx_lt (l : List S36) (x : S36) (h : 0 ≤ tidx l x 0) : tidx l x 0 < (l.length : Int) := by
  unfold tidx at h ⊢
  rw [List.drop_zero] at h ⊢
  cases e : l.findIdx? fun y => eq4 x y with
  | none => rw [e] at h; simp at h
  | some j =>
    rw [List.findIdx?_eq_some_iff_getElem] at e
    obtain ⟨hj, _⟩ := e
    simp only [Nat.zero_add]
    omega
theorem putT_eq (l : List S36) (full : Bool) (t : S36) : putT l full t = putP l full t (tidx l t 0) := rfl
def p9 (m : List S36 × Int) (t : S36) : Int × List S36 × Int :=
  if m.2 = 0 then (if (PT m.1 t).1 = 0 then ((PT m.1 t).2.1, (PT m.1 t).2.2, 0) else (0, m.1, (PT m.1 t).1)) else (0, m)
def Sim (m : List S36 × Int) (s : List S36 × Bool) : Prop := m.1.length ≤ 400 ∧ s.1.length ≤ 400 ∧ ((m.2 = 0 ∧ s.2 = false ∧ m.1 = s.1) ∨ (m.2 = 2 ∧ s.2 = true))
def Ext (m m' : List S36 × Int) : Prop := (∃ r, m'.1 = m.1 ++ r) ∧ (m'.2 = 0 → m.2 = 0)
def Pl (m : List S36 × Int) (p : Int) : Prop := m.2 = 0 → 0 ≤ p ∧ p < (m.1.length : Int)
def Same (m : List S36 × Int) (a : Int × List S36 × Int) (b : Int × List S36 × Bool) : Prop := Sim a.2 b.2 ∧ Ext m a.2 ∧ (a.2.2 = 0 → a.1 = b.1) ∧ Pl a.2 a.1
theorem Ext.refl (m : List S36 × Int) : Ext m m := ⟨⟨[], by simp⟩, id⟩
theorem Ext.trans {a b c : List S36 × Int} (h : Ext a b) (h2 : Ext b c) : Ext a c := by
  obtain ⟨⟨r, hr⟩, h⟩ := h
  obtain ⟨⟨q, hq⟩, h2⟩ := h2
  exact ⟨⟨r ++ q, by rw [hq, hr, List.append_assoc]⟩, fun e => h (h2 e)⟩
theorem Pl.ext {m m' : List S36 × Int} {p : Int} (h : Pl m p) (he : Ext m m') : Pl m' p := by
  intro e
  obtain ⟨⟨r, hr⟩, h2⟩ := he
  have := h (h2 e)
  rw [hr, List.length_append]
  omega
theorem PT_ext (l : List S36) (t : S36) (h : (PT l t).1 = 0) : (∃ r, (PT l t).2.2 = l ++ r) ∧ 0 ≤ (PT l t).2.1 ∧ (PT l t).2.1 < ((PT l t).2.2.length : Int) := by
  unfold PT at h ⊢
  by_cases hf : tfault t.f0 t.f1 t.f2 t.f3 l = 0
  · simp only [if_pos hf] at h ⊢
    by_cases h0 : 0 ≤ tidx l t 0
    · simp only [if_pos h0] at h ⊢
      exact ⟨⟨[], by simp⟩, h0, tidx_lt l t h0⟩
    · simp only [if_neg h0] at h ⊢
      by_cases h4 : 400 ≤ l.length
      · simp only [if_pos h4] at h; cases h
      · simp only [if_neg h4] at h ⊢
        exact ⟨⟨[t], rfl⟩, by omega, by simp <;> omega⟩
  · simp only [if_neg hf] at h; exact absurd h hf
theorem p9_ext (m : List S36 × Int) (t : S36) : Ext m (p9 m t).2 := by
  unfold p9
  by_cases h0 : m.2 = 0
  · rw [if_pos h0]
    by_cases h1 : (PT m.1 t).1 = 0
    · rw [if_pos h1]; exact ⟨(PT_ext _ _ h1).1, fun _ => h0⟩
    · rw [if_neg h1]; exact ⟨⟨[], by simp⟩, fun _ => h0⟩
  · rw [if_neg h0]; exact Ext.refl m
theorem p9_pl (m : List S36 × Int) (t : S36) : Pl (p9 m t).2 (p9 m t).1 := by
  unfold p9
  by_cases h0 : m.2 = 0
  · rw [if_pos h0]
    by_cases h1 : (PT m.1 t).1 = 0
    · rw [if_pos h1]; exact fun _ => (PT_ext _ _ h1).2
    · rw [if_neg h1]; exact fun e => absurd e h1
  · rw [if_neg h0]; exact fun e => absurd e h0
theorem p9_len (m : List S36 × Int) (t : S36) (h : m.1.length ≤ 400) : (p9 m t).2.1.length ≤ 400 := by
  unfold p9
  by_cases h0 : m.2 = 0
  · rw [if_pos h0]
    by_cases h1 : (PT m.1 t).1 = 0
    · rw [if_pos h1]; exact PT_len _ _ h
    · rw [if_neg h1]; exact h
  · rw [if_neg h0]; exact h
theorem putT_full (l : List S36) (t : S36) : (putT l true t).2.2 = true := by
  rw [putT_eq]
  unfold putP
  split
  · rfl
  · split <;> rfl
theorem same_put {m : List S36 × Int} {s : List S36 × Bool} {t t' : S36} (h : Sim m s) (ht : m.2 = 0 → t = t' ∧ tfault t.f0 t.f1 t.f2 t.f3 m.1 = 0) : Same m (p9 m t) (putT s.1 s.2 t') := by
  refine ⟨⟨p9_len m t h.1, putT_len h.2.1, ?_⟩, p9_ext m t, ?_, p9_pl m t⟩
  · obtain ⟨h1, h2, ⟨c0, c1, c2⟩ | ⟨c0, c1⟩⟩ := h
    · obtain ⟨rfl, hf⟩ := ht c0
      have e := told_put m.1 t
      unfold p9
      rw [if_pos c0, c1, ← c2, putT_eq]
      unfold PT
      rw [if_pos hf]
      unfold putP
      by_cases h0 : 0 ≤ tidx m.1 t 0
      · simp only [if_pos h0]; left; simp
      · simp only [if_neg h0]
        by_cases h4 : 400 ≤ m.1.length
        · simp only [if_pos h4]; right; simp
        · simp only [if_neg h4, Bool.false_eq_true, if_false, if_true]; left; simp
    · right
      unfold p9
      rw [if_neg (show ¬ m.2 = 0 by omega), c1]
      exact ⟨c0, putT_full _ _⟩
  · obtain ⟨h1, h2, ⟨c0, c1, c2⟩ | ⟨c0, c1⟩⟩ := h
    · obtain ⟨rfl, hf⟩ := ht c0
      intro hz
      unfold p9 at hz ⊢
      rw [if_pos c0] at hz ⊢
      rw [c1, ← c2, putT_eq]
      unfold PT at hz ⊢
      rw [if_pos hf] at hz ⊢
      unfold putP
      by_cases h0 : 0 ≤ tidx m.1 t 0
      · simp only [if_pos h0]; simp
      · simp only [if_neg h0] at hz ⊢
        by_cases h4 : 400 ≤ m.1.length
        · simp only [if_pos h4] at hz; cases hz
        · simp only [if_neg h4, Bool.false_eq_true, if_false, if_true]
    · intro hz
      unfold p9 at hz
      rw [if_neg (show ¬ m.2 = 0 by omega)] at hz
      have hz2 : m.2 = 0 := hz
      omega
theorem fault_two {l : List S36} {op a b : Int} (ho : op = 3 ∨ op = 4 ∨ op = 5) (ha : 0 ≤ a ∧ a < (l.length : Int)) (hb : 0 ≤ b ∧ b < (l.length : Int)) : tfault op a b 0 l = 0 := by
  unfold tfault
  rw [if_pos (by omega), if_neg (by omega), if_neg (by omega), if_pos rfl]
  have n1 : notIn l a = false := (notIn_iff l a).2 ha
  have n2 : notIn l b = false := (notIn_iff l b).2 hb
  simp [n1, n2]
  omega
theorem fault_name {l : List S36} {n : Int} (h0 : 0 ≤ n) (h1 : n ≤ 9999) : tfault 1 0 0 n l = 0 := by
  unfold tfault
  rw [if_pos (by omega), if_pos (by omega), if_pos ⟨rfl, rfl⟩, if_pos ⟨h0, h1⟩]
theorem same_two {m : List S36 × Int} {s : List S36 × Bool} {op a b a' b' : Int} (ho : op = 3 ∨ op = 4 ∨ op = 5) (h : Sim m s) (ha : m.2 = 0 → a = a') (hb : m.2 = 0 → b = b') (pa : Pl m a) (pb : Pl m b) : Same m (p9 m ⟨op, a, b, 0⟩) (putT s.1 s.2 ⟨op, a', b', 0⟩) :=
  same_put h (fun e => ⟨by rw [ha e, hb e], fault_two ho (pa e) (pb e)⟩)
theorem same_name {m : List S36 × Int} {s : List S36 × Bool} {n : Int} (h : Sim m s) (h0 : 0 ≤ n) (h1 : n ≤ 9999) : Same m (p9 m ⟨1, 0, 0, n⟩) (putT s.1 s.2 ⟨1, 0, 0, n⟩) :=
  same_put h (fun _ => ⟨rfl, fault_name h0 h1⟩)
def list9 (m : List S36 × Int) (xs : List Int) : Int × List S36 × Int := ((xs.take (xs.length - 1)).reverse).foldl (fun st x => p9 st.2 ⟨3, x, st.1, 0⟩) (xs[xs.length - 1]?.getD 0, m)
theorem listP_rev (l : List S36) (full : Bool) (xs : List Int) (h : xs ≠ []) : listP l full xs = ((xs.take (xs.length - 1)).reverse).foldl pairT (xs[xs.length - 1]?.getD 0, l, full) := by
  unfold listP
  rw [if_neg (fun e => h (List.length_eq_zero_iff.1 e))]
  have := back_rev (xs.take (xs.length - 1))
  rw [show (xs.take (xs.length - 1)).length = xs.length - 1 by simp] at this
  rw [this]
theorem same_fold : ∀ (ys ys' : List Int) (st : Int × List S36 × Int) (st' : Int × List S36 × Bool), ys.length = ys'.length → Sim st.2 st'.2 → (st.2.2 = 0 → st.1 = st'.1 ∧ ys = ys') → Pl st.2 st.1 → (∀ y ∈ ys, Pl st.2 y) →
    Same st.2 (ys.foldl (fun st x => p9 st.2 ⟨3, x, st.1, 0⟩) st) (ys'.foldl pairT st')
  | [], [], st, st', _, h, he, hp, _ => ⟨h, Ext.refl _, fun e => (he e).1, hp⟩
  | [], _ :: _, _, _, hl, _, _, _, _ => by simp at hl
  | _ :: _, [], _, _, hl, _, _, _, _ => by simp at hl
  | y :: ys, y' :: ys', st, st', hl, h, he, hp, ha => by
    have h1 : Same st.2 (p9 st.2 ⟨3, y, st.1, 0⟩) (pairT st' y') := same_two (.inl rfl) h (fun e => by have := (he e).2; injection this) (fun e => (he e).1) (ha y (by simp)) hp
    obtain ⟨s1, s2, s3, s4⟩ := h1
    have h2 := same_fold ys ys' _ _ (by simpa using hl) s1 (fun e => ⟨s3 e, by have := (he (s2.2 e)).2; injection this⟩) s4 (fun z hz => (ha z (List.mem_cons_of_mem _ hz)).ext s2)
    exact ⟨h2.1, s2.trans h2.2.1, h2.2.2⟩
theorem same_list {m : List S36 × Int} {s : List S36 × Bool} {xs xs' : List Int} (h : Sim m s) (hl : xs.length = xs'.length) (h0 : xs ≠ []) (he : m.2 = 0 → xs = xs') (hp : ∀ x ∈ xs, Pl m x) : Same m (list9 m xs) (listP s.1 s.2 xs') := by
  have h0' : xs' ≠ [] := fun e => h0 (by rw [e] at hl; exact List.length_eq_zero_iff.1 hl)
  rw [listP_rev _ _ _ h0']
  unfold list9
  have hlp : 0 < xs.length := List.length_pos_iff.2 h0
  refine same_fold _ _ (_, m) (_, s.1, s.2) (by simp; omega) h (fun e => by rw [he e]; exact ⟨rfl, rfl⟩) ?_ (fun y hy => hp y (List.mem_of_mem_take (List.mem_reverse.1 hy)))
  exact hp _ (by rw [List.getElem?_eq_getElem (by omega)]; exact List.getElem_mem _)
def names9 (m : List S36 × Int) (ns : List Int) : List Int × List S36 × Int := ns.foldl (fun st n => (st.1 ++ [(p9 st.2 ⟨1, 0, 0, n⟩).1], (p9 st.2 ⟨1, 0, 0, n⟩).2)) ([], m)
theorem same_names_fold : ∀ (ns : List Int) (st : List Int × List S36 × Int) (st' : List Int × List S36 × Bool), (∀ n ∈ ns, 0 ≤ n ∧ n ≤ 9999) → st.1.length = st'.1.length → Sim st.2 st'.2 → (st.2.2 = 0 → st.1 = st'.1) → (∀ y ∈ st.1, Pl st.2 y) →
    Sim (ns.foldl (fun st n => (st.1 ++ [(p9 st.2 ⟨1, 0, 0, n⟩).1], (p9 st.2 ⟨1, 0, 0, n⟩).2)) st).2 (ns.foldl nameP st').2 ∧ Ext st.2 (ns.foldl (fun st n => (st.1 ++ [(p9 st.2 ⟨1, 0, 0, n⟩).1], (p9 st.2 ⟨1, 0, 0, n⟩).2)) st).2 ∧ (ns.foldl (fun st n => (st.1 ++ [(p9 st.2 ⟨1, 0, 0, n⟩).1], (p9 st.2 ⟨1, 0, 0, n⟩).2)) st).1.length = (ns.foldl nameP st').1.length ∧ ((ns.foldl (fun st n => (st.1 ++ [(p9 st.2 ⟨1, 0, 0, n⟩).1], (p9 st.2 ⟨1, 0, 0, n⟩).2)) st).2.2 = 0 → (ns.foldl (fun st n => (st.1 ++ [(p9 st.2 ⟨1, 0, 0, n⟩).1], (p9 st.2 ⟨1, 0, 0, n⟩).2)) st).1 = (ns.foldl nameP st').1) ∧ (∀ y ∈ (ns.foldl (fun st n => (st.1 ++ [(p9 st.2 ⟨1, 0, 0, n⟩).1], (p9 st.2 ⟨1, 0, 0, n⟩).2)) st).1, Pl (ns.foldl (fun st n => (st.1 ++ [(p9 st.2 ⟨1, 0, 0, n⟩).1], (p9 st.2 ⟨1, 0, 0, n⟩).2)) st).2 y) ∧ (ns.foldl (fun st n => (st.1 ++ [(p9 st.2 ⟨1, 0, 0, n⟩).1], (p9 st.2 ⟨1, 0, 0, n⟩).2)) st).1.length = st.1.length + ns.length
  | [], st, st', _, hl, h, he, hp => ⟨h, Ext.refl _, hl, he, hp, rfl⟩
  | n :: ns, st, st', hn, hl, h, he, hp => by
    obtain ⟨s1, s2, s3, s4⟩ := same_name (n := n) h (hn n (by simp)).1 (hn n (by simp)).2
    have h2 := same_names_fold ns (st.1 ++ [(p9 st.2 ⟨1, 0, 0, n⟩).1], (p9 st.2 ⟨1, 0, 0, n⟩).2) (nameP st' n) (fun x hx => hn x (List.mem_cons_of_mem _ hx)) (by simp [nameP, hl]) s1
      (fun e => by show st.1 ++ [(p9 st.2 ⟨1, 0, 0, n⟩).1] = st'.1 ++ [(putT st'.2.1 st'.2.2 ⟨1, 0, 0, n⟩).1]; rw [he (s2.2 e), s3 e])
      (fun y hy => by
        rcases List.mem_append.1 hy with hy | hy
        · exact (hp y hy).ext s2
        · rw [List.mem_singleton.1 hy]; exact s4)
    obtain ⟨q1, q2, q3, q4, q5, q6⟩ := h2
    refine ⟨q1, s2.trans q2, q3, q4, q5, ?_⟩
    rw [List.foldl_cons, q6]
    simp; omega
theorem same_names {m : List S36 × Int} {s : List S36 × Bool} {ns : List Int} (h : Sim m s) (h0 : ns ≠ []) (hn : ∀ n ∈ ns, 0 ≤ n ∧ n ≤ 9999) : Same m (list9 (names9 m ns).2 (names9 m ns).1) (namesT s.1 s.2 ns) := by
  obtain ⟨q1, q2, q3, q4, q5, q6⟩ := same_names_fold ns ([], m) ([], s.1, s.2) hn rfl h (fun _ => rfl) (fun y hy => by simp at hy)
  have := same_list (m := (names9 m ns).2) (s := (namesL s.1 s.2 ns).2) (xs := (names9 m ns).1) (xs' := (namesL s.1 s.2 ns).1) q1 q3 (fun e => by
    have e2 : (names9 m ns).1.length = 0 + ns.length := q6
    rw [e] at e2
    exact h0 (List.length_eq_zero_iff.1 (by simpa using e2.symm))) q4 q5
  exact ⟨this.1, q2.trans this.2.1, this.2.2⟩
theorem rd_app {l r : List S36} {x : Int} (h : 0 ≤ x ∧ x < (l.length : Int)) : rd_T36 (l ++ r) x = rd_T36 l x := by
  unfold rd_T36
  simp only [List.getD]
  rw [List.getElem?_append_left (by omega)]
theorem notIn_app {l r : List S36} {x : Int} (h : notIn l x = false) : notIn (l ++ r) x = false := by
  rw [notIn_iff] at h ⊢
  rw [List.length_append]; omega
theorem notFresh_app {l r : List S36} {x : Int} (h : notIn l x = false) : notFresh (l ++ r) x = notFresh l x := by
  unfold notFresh
  rw [rd_app ((notIn_iff l x).1 h)]
theorem tfault_mono {a b c d : Int} {l r : List S36} (h : tfault a b c d l = 0) : tfault a b c d (l ++ r) = 0 := by
  unfold tfault at h ⊢
  by_cases h1 : 1 ≤ a ∧ a ≤ 7
  · rw [if_pos h1] at h ⊢
    by_cases h2 : a = 1 ∨ a = 2
    · rw [if_pos h2] at h ⊢; exact h
    · rw [if_neg h2] at h ⊢
      by_cases h3 : a = 6
      · rw [if_pos h3] at h ⊢
        by_cases h4 : c = 0 ∧ d = 0
        · rw [if_pos h4] at h ⊢
          by_cases h5 : ([b] : List Int).any (notIn l) = true
          · rw [if_pos h5] at h; cases h
          · rw [if_neg h5] at h
            have n : notIn l b = false := by simpa using h5
            have e : ([b] : List Int).any (notIn (l ++ r)) = false := by simp [notIn_app n]
            have e2 : ([b] : List Int).any (notFresh (l ++ r)) = ([b] : List Int).any (notFresh l) := by simp [notFresh_app n]
            rw [e, e2, if_neg (by decide)]
            exact h
        · rw [if_neg h4] at h; cases h
      · rw [if_neg h3] at h ⊢
        by_cases h4 : d = 0
        · rw [if_pos h4] at h ⊢
          by_cases h5 : ([b, c] : List Int).any (notIn l) = true
          · rw [if_pos h5] at h; cases h
          · rw [if_neg h5] at h
            have n : notIn l b = false ∧ notIn l c = false := by simpa using h5
            have e : ([b, c] : List Int).any (notIn (l ++ r)) = false := by simp [notIn_app n.1, notIn_app n.2]
            have e2 : ([b, c] : List Int).any (notFresh (l ++ r)) = ([b, c] : List Int).any (notFresh l) := by simp [notFresh_app n.1, notFresh_app n.2]
            rw [e, e2, if_neg (by decide)]
            exact h
        · rw [if_neg h4] at h; cases h
  · rw [if_neg h1] at h; cases h
theorem TFs_snoc (t : S36) : ∀ (l pre : List S36), TFs pre l = 0 → tfault t.f0 t.f1 t.f2 t.f3 (pre ++ l) = 0 → (pre ++ l).any (eq4 t) = false → TFs pre (l ++ [t]) = 0
  | [], pre, _, hf, ha => by
    rw [List.append_nil] at hf ha
    simp only [List.nil_append, TFs]
    rw [if_pos hf, ha, if_neg (by decide)]
  | x :: r, pre, h, hf, ha => by
    rw [List.cons_append]
    unfold TFs at h ⊢
    by_cases hx : tfault x.f0 x.f1 x.f2 x.f3 pre = 0
    · rw [if_pos hx] at h ⊢
      by_cases hy : pre.any (eq4 x) = true
      · rw [if_pos hy] at h; cases h
      · rw [if_neg hy] at h ⊢
        exact TFs_snoc t r (pre ++ [x]) h (by rw [List.append_assoc]; exact hf) (by rw [List.append_assoc]; exact ha)
    · rw [if_neg hx] at h; exact absurd h hx
theorem TF_snoc {l : List S36} {t : S36} (h : TF l = 0) (hl : l.length < 400) (hf : tfault t.f0 t.f1 t.f2 t.f3 l = 0) (hi : ¬ 0 ≤ tidx l t 0) : TF (l ++ [t]) = 0 := by
  unfold TF at h ⊢
  rw [if_neg (by omega)] at h
  rw [if_neg (by simp; omega)]
  refine TFs_snoc t l [] h hf ?_
  cases hq : l.any (eq4 t) with
  | false => exact hq
  | true => exact absurd ((tidx_nonneg l t).2 hq) hi
theorem tidx_rd {l : List S36} {t : S36} (h : 0 ≤ tidx l t 0) : rd_T36 l (tidx l t 0) = t := by
  unfold tidx at h ⊢
  rw [List.drop_zero] at h ⊢
  cases e : l.findIdx? fun y => eq4 t y with
  | none => rw [e] at h; simp at h
  | some j =>
    rw [List.findIdx?_eq_some_iff_getElem] at e
    obtain ⟨hj, he, _⟩ := e
    have := eq4_iff.1 he
    simp only [Nat.zero_add]
    rw [this]
    simp [rd_T36, List.getD, List.getElem?_eq_getElem hj]
theorem tidx_snoc {l : List S36} {t : S36} (h : ¬ 0 ≤ tidx l t 0) : tidx (l ++ [t]) t 0 = (l.length : Int) := by
  unfold tidx at h ⊢
  rw [List.drop_zero] at h ⊢
  have ht : eq4 t t = true := eq4_iff.2 rfl
  cases e : l.findIdx? fun y => eq4 t y with
  | some j => rw [e] at h; simp at h <;> omega
  | none => simp [List.findIdx?_append, e, List.findIdx?_cons, ht]
theorem PT_good {l : List S36} {t : S36} (h : TF l = 0) (h0 : (PT l t).1 = 0) : TF (PT l t).2.2 = 0 ∧ (∃ q, (PT l t).2.2 = l ++ q) ∧ (0 ≤ (PT l t).2.1 ∧ (PT l t).2.1 < ((PT l t).2.2.length : Int)) ∧ rd_T36 (PT l t).2.2 (PT l t).2.1 = t ∧ PT (PT l t).2.2 t = PT l t := by
  have hl := TF_len h
  by_cases hf : tfault t.f0 t.f1 t.f2 t.f3 l = 0
  · by_cases hi : 0 ≤ tidx l t 0
    · have e : PT l t = (0, tidx l t 0, l) := by unfold PT; rw [if_pos hf, if_pos hi]
      rw [e]
      exact ⟨h, ⟨[], by simp⟩, ⟨hi, tidx_lt l t hi⟩, tidx_rd hi, e⟩
    · by_cases h4 : 400 ≤ l.length
      · unfold PT at h0; rw [if_pos hf, if_neg hi, if_pos h4] at h0; cases h0
      · have e : PT l t = (0, (l.length : Int), l ++ [t]) := by unfold PT; rw [if_pos hf, if_neg hi, if_neg h4]
        rw [e]
        refine ⟨TF_snoc h (by omega) hf hi, ⟨[t], rfl⟩, ⟨Int.natCast_nonneg _, by simp <;> omega⟩, ?_, ?_⟩
        · simp [rd_T36, List.getD]
        · have e2 := tidx_snoc hi
          show PT (l ++ [t]) t = _
          unfold PT
          rw [if_pos (tfault_mono hf), e2, if_pos (by omega)]
  · unfold PT at h0; rw [if_neg hf] at h0; exact absurd h0 hf
theorem l9put_ev (m : List S36 × Int) (hl : m.1.length ≤ 400) (t : S36) : Ev (fun k => spec_l9Put.f k m.1 m.2 t.f0 t.f1 t.f2 t.f3) (p9 m t) := by
  unfold spec_l9Put.f p9
  by_cases h : m.2 = 0
  · simp only [h, if_true]
    refine Ev.bind (put_spec m.1 hl t) ?_
    by_cases h1 : (PT m.1 t).1 = 0
    · simp only [h1, if_true]; exact Ev.now _
    · simp only [h1, if_false]; exact Ev.now _
  · simp only [h, if_false]; exact Ev.now _
theorem l9two_ev (m : List S36 × Int) (hl : m.1.length ≤ 400) (o a b : Int) : Ev (fun k => spec_l9Two.f k m.1 m.2 o a b) (p9 m ⟨o, a, b, 0⟩) := l9put_ev m hl ⟨o, a, b, 0⟩
theorem l9name_ev (m : List S36 × Int) (hl : m.1.length ≤ 400) (n : Int) : Ev (fun k => spec_l9Name.f k m.1 m.2 n) (p9 m ⟨1, 0, 0, n⟩) := l9put_ev m hl ⟨1, 0, 0, n⟩
theorem l9fold_ev : ∀ (ys : List Int) (st : Int × List S36 × Int), st.2.1.length ≤ 400 → Ev (fun k => l9Fold k ys st) (ys.foldl (fun st x => p9 st.2 ⟨3, x, st.1, 0⟩) st)
  | [], st, _ => Ev.now _
  | y :: ys, st, h => by
    simp only [l9Fold, List.foldl_cons]
    exact Ev.bind (l9two_ev st.2 h 3 y st.1) (l9fold_ev ys _ (p9_len _ _ h))
theorem l9list_ev (m : List S36 × Int) (hl : m.1.length ≤ 400) (xs : List Int) (h0 : xs ≠ []) : Ev (fun k => spec_l9List.f k m.1 m.2 xs) (list9 m xs) := by
  unfold spec_l9List.f list9
  have h1 : ¬ xs.length = 0 := fun e => h0 (List.length_eq_zero_iff.1 e)
  simp only [h1, if_false]
  have e : rd xs ((xs.length - 1 : Nat) : Int) = xs[xs.length - 1]?.getD 0 := by simp [rd, List.getD]
  rw [e]
  exact l9fold_ev _ _ hl
theorem l9namesF_ev : ∀ (ns : List Int) (st : List Int × List S36 × Int), st.2.1.length ≤ 400 → Ev (fun k => l9NamesF k ns st) (ns.foldl (fun st n => (st.1 ++ [(p9 st.2 ⟨1, 0, 0, n⟩).1], (p9 st.2 ⟨1, 0, 0, n⟩).2)) st)
  | [], st, _ => Ev.now _
  | n :: ns, st, h => by
    simp only [l9NamesF, List.foldl_cons]
    exact Ev.bind (l9name_ev st.2 h n) (l9namesF_ev ns _ (p9_len _ _ h))
theorem names9_len : ∀ (ns : List Int) (st : List Int × List S36 × Int), st.2.1.length ≤ 400 → (ns.foldl (fun st n => (st.1 ++ [(p9 st.2 ⟨1, 0, 0, n⟩).1], (p9 st.2 ⟨1, 0, 0, n⟩).2)) st).2.1.length ≤ 400 ∧ (ns.foldl (fun st n => (st.1 ++ [(p9 st.2 ⟨1, 0, 0, n⟩).1], (p9 st.2 ⟨1, 0, 0, n⟩).2)) st).1.length = st.1.length + ns.length
  | [], st, h => ⟨h, by simp⟩
  | n :: ns, st, h => by
    have := names9_len ns (st.1 ++ [(p9 st.2 ⟨1, 0, 0, n⟩).1], (p9 st.2 ⟨1, 0, 0, n⟩).2) (p9_len _ _ h)
    rw [List.foldl_cons]
    refine ⟨this.1, ?_⟩
    rw [this.2]
    simp
    omega
theorem l9names_ev (m : List S36 × Int) (hl : m.1.length ≤ 400) (ns : List Int) (h0 : ns ≠ []) (hn : ns.length ≤ 1000000000) : Ev (fun k => spec_l9Names.f k m.1 m.2 ns) (list9 (names9 m ns).2 (names9 m ns).1) := by
  unfold spec_l9Names.f
  simp only [hn, if_true]
  refine Ev.bind (l9namesF_ev ns ([], m) hl) ?_
  have := names9_len ns ([], m) hl
  refine l9list_ev (names9 m ns).2 this.1 (names9 m ns).1 (fun e => ?_)
  have e2 : (names9 m ns).1.length = 0 + ns.length := this.2
  rw [e] at e2
  exact h0 (List.length_eq_zero_iff.1 (by simpa using e2.symm))
def Val (m : List S36 × Int) (p p' : Int) : Prop := Pl m p ∧ (m.2 = 0 → p = p')
theorem Val.ext {m m' : List S36 × Int} {p p' : Int} (h : Val m p p') (he : Ext m m') : Val m' p p' := ⟨h.1.ext he, fun e => h.2 (he.2 e)⟩
theorem Same.val {m : List S36 × Int} {a : Int × List S36 × Int} {b : Int × List S36 × Bool} (h : Same m a b) : Val a.2 a.1 b.1 := ⟨h.2.2.2, h.2.2.1⟩
theorem Same.len {m : List S36 × Int} {a : Int × List S36 × Int} {b : Int × List S36 × Bool} (h : Same m a b) : a.2.1.length ≤ 400 := h.1.1
theorem two_same {m : List S36 × Int} {s : List S36 × Bool} {o a a' b b' : Int} (ho : o = 3 ∨ o = 4 ∨ o = 5) (h : Sim m s) (va : Val m a a') (vb : Val m b b') : Ev (fun k => spec_l9Two.f k m.1 m.2 o a b) (p9 m ⟨o, a, b, 0⟩) ∧ Same m (p9 m ⟨o, a, b, 0⟩) (putT s.1 s.2 ⟨o, a', b', 0⟩) :=
  ⟨l9two_ev m h.1 o a b, same_two ho h va.2 vb.2 va.1 vb.1⟩
theorem names_same {m : List S36 × Int} {s : List S36 × Bool} {ns : List Int} (h : Sim m s) (h0 : ns ≠ []) (hm : ns.length ≤ 1000000000) (hn : ∀ n ∈ ns, 0 ≤ n ∧ n ≤ 9999) : Ev (fun k => spec_l9Names.f k m.1 m.2 ns) (list9 (names9 m ns).2 (names9 m ns).1) ∧ Same m (list9 (names9 m ns).2 (names9 m ns).1) (namesT s.1 s.2 ns) :=
  ⟨l9names_ev m h.1 ns h0 hm, same_names h h0 hn⟩
theorem val_same {m : List S36 × Int} {p : Int} (h : 0 ≤ p ∧ p < (m.1.length : Int)) : Val m p p := ⟨fun _ => h, fun _ => rfl⟩
def badN (n : Int) : Bool := !decide (0 ≤ n ∧ n ≤ 9999)
theorem badN_iff {n : Int} : badN n = false ↔ 0 ≤ n ∧ n ≤ 9999 := by unfold badN; simp
theorem isName_ev (n : Int) : impl_isName.f n = some (!badN n) := by
  unfold impl_isName.f impl_in.f badN
  split
  · simp; omega
  · simp; omega
theorem word_ev (n : Int) : spec_l9Word.f n = some (!badN n) := by
  unfold spec_l9Word.f badN
  rw [in_specT]
  simp
def NF (l : List S36) (ns ps : List Int) : Int := if PF l ps = 0 then (if ns.any badN = true then 3 else 0) else PF l ps
theorem nf_l0 (ns : List Int) (hn : ns.length ≤ 1000000000) (d : Nat) : ∀ (c : Int) (i : Nat), i + d = ns.length → Ev (fun k => impl_namesFault.l0 k c ns (ns.length : Int) i) (if c = 0 then (if (ns.drop i).any badN = true then 3 else 0) else c) := by
  induction d with
  | zero =>
    intro c i hi
    refine ev_succ ?_
    simp only [impl_namesFault.l0, show ¬ (i : Int) < (ns.length : Int) by omega, if_false]
    rw [List.drop_of_length_le (by omega)]
    by_cases h : c = 0
    · simp only [h, if_true, List.any_nil, Bool.false_eq_true, if_false]; exact Ev.now _
    · simp only [h, if_false]; exact Ev.now _
  | succ d ih =>
    intro c i hi
    refine ev_succ ?_
    have hd : ns.drop i = rd ns (i : Int) :: ns.drop (i + 1) := by
      rw [List.drop_eq_getElem_cons (by omega)]
      simp [rd, List.getD, List.getElem?_eq_getElem (show i < ns.length by omega)]
    have hw : wrap64 ((i : Int) + 1) = ((i + 1 : Nat) : Int) := by unfold wrap64; omega
    simp only [impl_namesFault.l0, show (i : Int) < (ns.length : Int) by omega, show 0 ≤ (i : Int) by omega, if_true, hw, isName_ev, Option.bind_some]
    rw [hd, List.any_cons]
    by_cases h : c = 0
    · simp only [h, if_true]
      cases hb : badN (rd ns (i : Int)) with
      | true =>
        simp only [Bool.not_true, Bool.false_eq_true, if_false, Bool.true_or, if_true]
        have := ih 3 (i + 1) (by omega)
        simpa using this
      | false =>
        simp only [Bool.not_false, if_true, Bool.false_or]
        have := ih 0 (i + 1) (by omega)
        simpa using this
    · simp only [h, if_false]
      have := ih c (i + 1) (by omega)
      simpa only [h, if_false] using this
theorem nf_ev {l : List S36} (hw : l.all wf4 = true) (ns ps : List Int) (hn : ns.length ≤ 1000000000) : Ev (fun k => impl_namesFault.f k l ns ps) (NF l ns ps) := by
  unfold impl_namesFault.f NF
  simp only [pf_impl hw, Option.bind_some]
  have := nf_l0 ns hn ns.length (PF l ps) 0 (by omega)
  simpa using this
theorem PF_sim {l : List S36} {ps : List Int} (h : PF l ps = 0) : l.length ≤ 400 ∧ Sim (l, 0) (l, false) ∧ ∀ p ∈ ps, Val (l, 0) p p := by
  obtain ⟨h1, h2⟩ := PF_ok h
  have := TF_len h1
  exact ⟨this, ⟨this, this, .inl ⟨rfl, rfl, rfl⟩⟩, fun p hp => val_same (h2 p hp)⟩
theorem TF_half {l : List S36} (h : TF l = 0) (a : Int) (h0 : 0 ≤ a) (h1 : a < (l.length : Int)) (h6 : (rd_T36 l a).f0 = 6) : (0 ≤ (rd_T36 l a).f1 ∧ (rd_T36 l a).f1 < (l.length : Int)) ∧ (rd_T36 l (rd_T36 l a).f1).f0 = 2 := by
  unfold TF at h
  by_cases hb : 400 < l.length
  · rw [if_pos hb] at h; cases h
  rw [if_neg hb] at h
  obtain ⟨i, rfl⟩ := Int.eq_ofNat_of_zero_le h0
  have ht := TFs_ok l [] h i (by omega)
  rw [List.nil_append] at ht
  have hd : l = l.take i ++ l.drop i := (List.take_append_drop i l).symm
  generalize rd_T36 l (i : Int) = x at ht h6 ⊢
  unfold tfault at ht
  rw [if_pos (by omega), if_neg (by omega), if_pos h6] at ht
  have hlen : (l.take i).length = i := by rw [List.length_take]; omega
  split at ht
  · split at ht
    · cases ht
    · rename_i hn
      split at ht
      · cases ht
      · rename_i hf
        have n1 : notIn (l.take i) x.f1 = false := by simpa using hn
        have f1 : notFresh (l.take i) x.f1 = false := by simpa using hf
        have e1 := (notIn_iff _ _).1 n1
        have f2 := notFresh_app (r := l.drop i) n1
        rw [← hd] at f2
        rw [f1] at f2
        rw [hlen] at e1
        refine ⟨by omega, ?_⟩
        unfold notFresh at f2
        simpa using f2
  · cases ht
theorem fault_both {l : List S36} {a b : Int} (ha : 0 ≤ a ∧ a < (l.length : Int)) (hb : 0 ≤ b ∧ b < (l.length : Int)) (fa : (rd_T36 l a).f0 = 2) (fb : (rd_T36 l b).f0 = 2) (h : a ≤ b) : tfault 7 a b 0 l = 0 := by
  have n1 : notIn l a = false := (notIn_iff l a).2 ha
  have n2 : notIn l b = false := (notIn_iff l b).2 hb
  have f1 : notFresh l a = false := by unfold notFresh; simp [fa]
  have f2 : notFresh l b = false := by unfold notFresh; simp [fb]
  unfold tfault
  rw [if_pos (by omega), if_neg (by omega), if_neg (by omega), if_pos rfl]
  simp [n1, n2, f1, f2]
  omega
theorem putT_rd {l : List S36} {full : Bool} {t : S36} : ∃ r, (putT l full t).2.1 = l ++ r := by
  unfold putT putP
  split
  · exact ⟨[], by simp⟩
  · split
    · exact ⟨[], by simp⟩
    · split
      · exact ⟨[], by simp⟩
      · exact ⟨[t], rfl⟩
theorem keys_part {m : List S36 × Int} {s : List S36 × Bool} {c x y sd sd' : Int} (h : Sim m s) (v : Val m sd sd') (hc : 0 ≤ c ∧ c ≤ 9999) (hx : 0 ≤ x ∧ x ≤ 9999) (hy : 0 ≤ y ∧ y ≤ 9999) : ∃ a1 a2, Ev (fun k => spec_l9Names.f k m.1 m.2 [c, x, y]) a1 ∧ Ev (fun k => spec_l9Two.f k a1.2.1 a1.2.2 4 sd a1.1) a2 ∧ Same m a2 (putT (namesT s.1 s.2 [c, x, y]).2.1 (namesT s.1 s.2 [c, x, y]).2.2 ⟨4, sd', (namesT s.1 s.2 [c, x, y]).1, 0⟩) := by
  obtain ⟨e1, s1⟩ := names_same (ns := [c, x, y]) h (by simp) (by simp) (fun n hn => by
    simp only [List.mem_cons, List.not_mem_nil, or_false] at hn
    rcases hn with rfl | rfl | rfl
    · exact hc
    · exact hx
    · exact hy)
  generalize list9 (names9 m [c, x, y]).2 (names9 m [c, x, y]).1 = A1 at e1 s1
  generalize namesT s.1 s.2 [c, x, y] = B1 at s1 ⊢
  obtain ⟨e3, s3⟩ := two_same (o := 4) (.inr (.inl rfl)) s1.1 (v.ext s1.2.1) s1.val
  exact ⟨A1, _, e1, e3, s3.1, s1.2.1.trans s3.2.1, s3.2.2.1, s3.2.2.2⟩
theorem min_ev (a b : Int) : spec_l1Min.f a b = some (if b < a then b else a) := by
  unfold spec_l1Min.f
  by_cases h : a < b
  · rw [if_pos h, if_neg (show ¬ b < a by omega)]
  · rw [if_neg h]
    by_cases h2 : b < a
    · rw [if_pos h2]
    · rw [if_neg h2, show a = b by omega]
theorem max_ev (a b : Int) : spec_l1Max.f a b = some (if a < b then b else a) := by
  unfold spec_l1Max.f
  by_cases h : a > b
  · rw [if_pos h, if_neg (show ¬ a < b by omega)]
  · rw [if_neg h]
    by_cases h2 : a < b
    · rw [if_pos h2]
    · rw [if_neg h2, show a = b by omega]
theorem keys_same {l : List S36} (hT : TF l = 0) {ni nr own half x y : Int} (v1 : Val (l, 0) ni ni) (v2 : Val (l, 0) nr nr) (ho : 0 ≤ own ∧ own < (l.length : Int)) (hh : 0 ≤ half ∧ half < (l.length : Int)) (fo : (rd_T36 l own).f0 = 2) (fh : (rd_T36 l half).f0 = 6) (hx : 0 ≤ x ∧ x ≤ 9999) (hy : 0 ≤ y ∧ y ≤ 9999) :
    ∃ k1 k2 k3 k4 : Int, ∃ a : List S36 × Int, ∃ b : Int × Int × Int × Int × List S36 × Bool, Ev (fun k => spec_l9Keys.f k l 0 ni nr own half x y) (k1, k2, k3, k4, a) ∧ keysT l false ni nr own half x y = some b ∧ Sim a b.2.2.2.2 ∧ (a.2 = 0 → k1 = b.1 ∧ k2 = b.2.1 ∧ k3 = b.2.2.1 ∧ k4 = b.2.2.2.1) := by
  have hl := TF_len hT
  have h : Sim (l, 0) (l, false) := ⟨hl, hl, .inl ⟨rfl, rfl, rfl⟩⟩
  obtain ⟨hp, fp⟩ := TF_half hT half hh.1 hh.2 fh
  obtain ⟨e1, s1⟩ := two_same (o := 3) (.inl rfl) h v1 v2
  have hB1 := @putT_rd l false ⟨3, ni, nr, 0⟩
  generalize hA : p9 (l, 0) ⟨3, ni, nr, 0⟩ = A1 at e1 s1
  unfold keysT
  dsimp only
  generalize putT l false ⟨3, ni, nr, 0⟩ = B1 at s1 hB1 ⊢
  obtain ⟨r1, hr1⟩ := s1.2.1.1
  obtain ⟨r2, hr2⟩ := hB1
  have hr1' : A1.2.1 = l ++ r1 := hr1
  have gA : 0 ≤ half ∧ half < (A1.2.1.length : Int) := by rw [hr1', List.length_append]; omega
  have gB : 0 ≤ half ∧ half < (B1.2.1.length : Int) := by rw [hr2, List.length_append]; omega
  have xA : rd_T36 A1.2.1 half = rd_T36 l half := by rw [hr1', rd_app hh]
  have xB : rd_T36 B1.2.1 half = rd_T36 l half := by rw [hr2, rd_app hh]
  rw [xB, if_pos gB]
  obtain ⟨p, hpe⟩ : ∃ p, p = (rd_T36 l half).f1 := ⟨_, rfl⟩
  rw [← hpe] at hp fp ⊢
  have hf : tfault 7 (if p < own then p else own) (if own < p then p else own) 0 A1.2.1 = 0 := by
    have q1 : 0 ≤ own ∧ own < (A1.2.1.length : Int) := by rw [hr1', List.length_append]; omega
    have q2 : 0 ≤ p ∧ p < (A1.2.1.length : Int) := by rw [hr1', List.length_append]; omega
    have q3 : (rd_T36 A1.2.1 own).f0 = 2 := by rw [hr1', rd_app ho]; exact fo
    have q4 : (rd_T36 A1.2.1 p).f0 = 2 := by rw [hr1', rd_app hp]; exact fp
    by_cases h1 : p < own
    · rw [if_pos h1, if_neg (show ¬ own < p by omega)]; exact fault_both q2 q1 q4 q3 (by omega)
    · rw [if_neg h1]
      by_cases h2 : own < p
      · rw [if_pos h2]; exact fault_both q1 q2 q3 q4 (by omega)
      · rw [if_neg h2]; exact fault_both q1 q1 q3 q3 (by omega)
  have e2 : Ev (fun k => spec_l9Two.f k A1.2.1 A1.2.2 7 (if p < own then p else own) (if own < p then p else own)) (p9 A1.2 ⟨7, if p < own then p else own, if own < p then p else own, 0⟩) := l9two_ev A1.2 s1.1.1 7 _ _
  have s2 := same_put (t := ⟨7, if p < own then p else own, if own < p then p else own, 0⟩) (t' := ⟨7, if p < own then p else own, if own < p then p else own, 0⟩) s1.1 (fun _ => ⟨rfl, hf⟩)
  generalize p9 A1.2 ⟨7, if p < own then p else own, if own < p then p else own, 0⟩ = A2 at e2 s2
  generalize putT B1.2.1 B1.2.2 ⟨7, if p < own then p else own, if own < p then p else own, 0⟩ = B2 at s2 ⊢
  obtain ⟨e3, s3⟩ := two_same (o := 4) (.inr (.inl rfl)) s2.1 (s1.val.ext s2.2.1) s2.val
  generalize p9 A2.2 ⟨4, A1.1, A2.1, 0⟩ = A3 at e3 s3
  generalize putT B2.2.1 B2.2.2 ⟨4, B1.1, B2.1, 0⟩ = B3 at s3 ⊢
  obtain ⟨A4, A5, e4, e5, s5⟩ := keys_part (c := 1) s3.1 s3.val (by omega) hx hy
  generalize namesT B3.2.1 B3.2.2 [1, x, y] = N1 at s5 ⊢
  generalize putT N1.2.1 N1.2.2 ⟨4, B3.1, N1.1, 0⟩ = B5 at s5 ⊢
  obtain ⟨A6, A7, e6, e7, s7⟩ := keys_part (c := 2) s5.1 (s3.val.ext s5.2.1) (by omega) hx hy
  generalize namesT B5.2.1 B5.2.2 [2, x, y] = N2 at s7 ⊢
  generalize putT N2.2.1 N2.2.2 ⟨4, B3.1, N2.1, 0⟩ = B7 at s7 ⊢
  obtain ⟨A8, A9, e8, e9, s9⟩ := keys_part (c := 3) s7.1 ((s3.val.ext s5.2.1).ext s7.2.1) (by omega) hx hy
  generalize namesT B7.2.1 B7.2.2 [3, x, y] = N3 at s9 ⊢
  generalize putT N3.2.1 N3.2.2 ⟨4, B3.1, N3.1, 0⟩ = B9 at s9 ⊢
  refine ⟨A3.1, A5.1, A7.1, A9.1, A9.2, _, ?_, rfl, s9.1, fun c0 => ⟨(((s3.val.ext s5.2.1).ext s7.2.1).ext s9.2.1).2 c0, ((s5.val.ext s7.2.1).ext s9.2.1).2 c0, (s7.val.ext s9.2.1).2 c0, s9.val.2 c0⟩⟩
  unfold spec_l9Keys.f
  refine Ev.bind e1 ?_
  simp only [gA, and_self, if_true, Option.bind_some, xA, ← hpe, min_ev, max_ev]
  exact Ev.bind e2 (Ev.bind e3 (Ev.bind e4 (Ev.bind e5 (Ev.bind e6 (Ev.bind e7 (Ev.bind e8 (Ev.bind e9 (Ev.now _))))))))
theorem makeKeys_ev {l : List S36} (hw : l.all wf4 = true) (hl : l.length ≤ 9223372036854775807) (ni nr own half x y : Int) : ∃ r : Int × Int × Int × Int × Int × List S36, Ev (fun k => spec_MakeKeys.f k l ni nr own half x y) r ∧ Ev (fun k => impl_MakeKeys.f k l ni nr own half x y) r ∧ r.2.2.2.2.2.length ≤ 400 := by
  have ha := asked9_ev l hl [ni, nr, own, half] (by simp)
  have hn := nf_ev hw [x, y] [ni, nr, own, half] (by simp)
  unfold spec_MakeKeys.f impl_MakeKeys.f
  unfold NF at hn
  by_cases h0 : PF l [ni, nr, own, half] = 0
  rotate_left
  · refine ⟨(PF l [ni, nr, own, half], 0, 0, 0, 0, []), Ev.bind ha ?_, Ev.bind hn ?_, by simp⟩
    · simp only [h0, if_false]; exact Ev.now _
    · simp only [h0, if_false]; exact Ev.now _
  obtain ⟨h4, hsim, hv⟩ := PF_sim h0
  obtain ⟨hT, hin⟩ := PF_ok h0
  rw [if_pos h0] at hn
  rw [h0] at ha
  cases hb : badN x with
  | true =>
    refine ⟨(3, 0, 0, 0, 0, []), Ev.bind ha ?_, Ev.bind hn ?_, by simp⟩
    · simp only [if_true, word_ev, hb, Option.bind_some, Bool.not_true, Bool.false_eq_true, if_false]; exact Ev.now _
    · simp only [List.any_cons, hb, Bool.true_or, if_true, show ¬ (3 : Int) = 0 by omega, if_false]; exact Ev.now _
  | false =>
  cases hb2 : badN y with
  | true =>
    refine ⟨(3, 0, 0, 0, 0, []), Ev.bind ha ?_, Ev.bind hn ?_, by simp⟩
    · simp only [if_true, word_ev, hb, hb2, Option.bind_some, Bool.not_true, Bool.not_false, Bool.false_eq_true, if_false]; exact Ev.now _
    · simp only [List.any_cons, hb, hb2, Bool.true_or, Bool.or_true, if_true, show ¬ (3 : Int) = 0 by omega, if_false]; exact Ev.now _
  | false =>
    have hx := badN_iff.1 hb
    have hy := badN_iff.1 hb2
    have ho := hin own (by simp)
    have hh := hin half (by simp)
    have hc : Ev (fun k => impl_namesFault.f k l [x, y] [ni, nr, own, half]) 0 := by simpa [hb, hb2] using hn
    have g1 : (0 ≤ own ∧ own < (l.length : Int)) ∧ (0 ≤ half ∧ half < (l.length : Int)) := ⟨ho, hh⟩
    have g2 : l.length ≤ 400 ∧ (0 ≤ own ∧ own < (l.length : Int)) ∧ (0 ≤ half ∧ half < (l.length : Int)) := ⟨h4, ho, hh⟩
    by_cases fo : (rd_T36 l own).f0 = 2
    rotate_left
    · refine ⟨(1, 0, 0, 0, 0, []), Ev.bind ha ?_, Ev.bind hc ?_, by simp⟩
      · simp only [if_true, word_ev, hb, hb2, Option.bind_some, Bool.not_false, if_pos g1, fo, if_false]; exact Ev.now _
      · simp only [if_true, if_pos g2, fo, if_false]; exact Ev.now _
    by_cases fh : (rd_T36 l half).f0 = 6
    rotate_left
    · refine ⟨(1, 0, 0, 0, 0, []), Ev.bind ha ?_, Ev.bind hc ?_, by simp⟩
      · simp only [if_true, word_ev, hb, hb2, Option.bind_some, Bool.not_false, if_pos g1, fo, fh, if_false]; exact Ev.now _
      · simp only [if_true, if_pos g2, fo, fh, if_false]; exact Ev.now _
    obtain ⟨k1, k2, k3, k4, a, b, e1, e2, s, hk⟩ := keys_same hT (hv ni (by simp)) (hv nr (by simp)) ho hh fo fh hx hy
    obtain ⟨l1, l2, ⟨c0, c1, c2⟩ | ⟨c0, c1⟩⟩ := s
    · obtain ⟨q1, q2, q3, q4⟩ := hk c0
      refine ⟨(0, k1, k2, k3, k4, a.1), Ev.bind ha ?_, Ev.bind hc ?_, l1⟩
      · simp only [if_true, word_ev, hb, hb2, Option.bind_some, Bool.not_false, if_pos g1, fo, fh, copy_ev l h4]
        refine Ev.bind e1 ?_
        simp only [c0, if_true]; exact Ev.now _
      · simp only [if_true, if_pos g2, fo, fh, e2, Option.bind_some, c1, Bool.false_eq_true, if_false, q1, q2, q3, q4, c2]; exact Ev.now _
    · refine ⟨(2, 0, 0, 0, 0, []), Ev.bind ha ?_, Ev.bind hc ?_, by simp⟩
      · simp only [if_true, word_ev, hb, hb2, Option.bind_some, Bool.not_false, if_pos g1, fo, fh, copy_ev l h4]
        refine Ev.bind e1 ?_
        simp only [c0, show ¬ (2 : Int) = 0 by omega, if_false]; exact Ev.now _
      · simp only [if_true, if_pos g2, fo, fh, e2, Option.bind_some, c1]; exact Ev.now _
theorem w64d {n : Int} (h0 : 0 ≤ n) (h1 : n ≤ 9223372036854775807) : wrap64 n = n := by unfold wrap64; omega
theorem rd_byte {l : List Int} (hb : ∀ x ∈ l, 0 ≤ x ∧ x ≤ 255) (i : Int) : 0 ≤ rd l i ∧ rd l i ≤ 255 := by
  unfold rd
  simp only [List.getD]
  cases h : l[i.toNat]? with
  | none => simp
  | some x => simpa using hb x (List.mem_of_getElem? h)
theorem next_ok (l : List Int) (hb : ∀ x ∈ l, 0 ≤ x ∧ x ≤ 255) (hl : l.length ≤ 1048576) (s a : Int) (s0 : 0 ≤ s) (s1 : s ≤ 1000000000000) (ha : 1 ≤ a) : ∃ r, spec_l1Next.f l s a = some (r, s + 1) ∧ 0 ≤ r ∧ r < a := by
  unfold spec_l1Next.f
  have e1 : wrap64 (s + 1) = s + 1 := w64d (by omega) (by omega)
  have e2 : wrap64 (s + 1 - 1) = s := by rw [w64d (by omega) (by omega)]; omega
  rw [if_neg (by omega), e1, e2]
  by_cases h0 : (l.length : Int) = 0
  · rw [if_pos h0, if_neg (by omega), w64d (by omega) (by omega)]
    exact ⟨_, rfl, Int.tmod_nonneg _ (by omega), Int.tmod_lt_of_pos _ (by omega)⟩
  rw [if_neg h0]
  have m0 := Int.tmod_nonneg (l.length : Int) (show 0 ≤ s by omega)
  have m1 := Int.tmod_lt_of_pos s (show 0 < (l.length : Int) by omega)
  have d0 : 0 ≤ s.tdiv (l.length : Int) := Int.tdiv_nonneg s0 (by omega)
  have d1 : s.tdiv (l.length : Int) ≤ s := by
    rw [Int.tdiv_eq_ediv_of_nonneg s0]; exact Int.ediv_le_self _ s0
  have r0 := rd_byte hb (s.tmod (l.length : Int))
  generalize rd l (s.tmod (l.length : Int)) = x at r0 ⊢
  rw [if_pos m0, if_pos m1]
  have f1 : wrap64 x = x := w64d r0.1 (by omega)
  have f2 : wrap64 (s.tdiv (l.length : Int)) = s.tdiv (l.length : Int) := w64d d0 (by omega)
  generalize s.tdiv (l.length : Int) = q at d0 d1 f2 ⊢
  have f3 : wrap64 (q * 37) = q * 37 := w64d (by omega) (by omega)
  have f4 : wrap64 (x + q * 37) = x + q * 37 := w64d (by omega) (by omega)
  rw [f1, f2, f3, f4]
  by_cases h2 : a > 200
  · rw [if_pos h2]
    try simp only [e1]
    have g0 : 0 ≤ (wrap64 (s + 1)).tmod (l.length : Int) := Int.tmod_nonneg _ (by rw [e1]; omega)
    have g1 : (wrap64 (s + 1)).tmod (l.length : Int) < (l.length : Int) := Int.tmod_lt_of_pos _ (by omega)
    have y0 := rd_byte hb ((wrap64 (s + 1)).tmod (l.length : Int))
    rw [e1] at g0 g1 y0
    generalize rd l ((s + 1).tmod (l.length : Int)) = y at y0 ⊢
    rw [if_pos g0, if_pos g1, if_neg (by omega)]
    have f5 : wrap64 y = y := w64d y0.1 (by omega)
    have f6 : wrap64 (y * 13) = y * 13 := w64d (by omega) (by omega)
    have f7 : wrap64 ((x + q * 37) * 251) = (x + q * 37) * 251 := w64d (by omega) (by omega)
    have f8 : wrap64 ((x + q * 37) * 251 + y * 13) = (x + q * 37) * 251 + y * 13 := w64d (by omega) (by omega)
    have f9 : wrap64 ((x + q * 37) * 251 + y * 13 + s) = (x + q * 37) * 251 + y * 13 + s := w64d (by omega) (by omega)
    rw [f5, f6, f7, f8, f9]
    exact ⟨_, rfl, Int.tmod_nonneg _ (by omega), Int.tmod_lt_of_pos _ (by omega)⟩
  · rw [if_neg h2, if_neg (by omega)]
    exact ⟨_, rfl, Int.tmod_nonneg _ (by omega), Int.tmod_lt_of_pos _ (by omega)⟩
theorem pick_ok (l : List Int) (hb : ∀ x ∈ l, 0 ≤ x ∧ x ≤ 255) (hl : l.length ≤ 1048576) (s : Int) (L : List Int) (s0 : 0 ≤ s) (s1 : s ≤ 1000000000000) (hL : 1 ≤ L.length) : ∃ x, x ∈ L ∧ spec_l1Pick.f l s L = some (x, s + 1) := by
  obtain ⟨r, h, r0, r1⟩ := next_ok l hb hl s (L.length : Int) s0 s1 (by omega)
  obtain ⟨n, rfl⟩ := Int.eq_ofNat_of_zero_le r0
  have hn : n < L.length := by omega
  refine ⟨L[n], List.getElem_mem hn, ?_⟩
  unfold spec_l1Pick.f
  rw [h]; simp only [Option.bind_some]
  rw [if_pos r0, if_pos r1]
  have : rd L (n : Int) = L[n] := by simp [rd, List.getD, List.getElem?_eq_getElem hn]
  rw [this]
theorem max_ok (x y : Int) : spec_l1Max.f x y = some (max x y) := by
  unfold spec_l1Max.f; split <;> congr 1 <;> omega
theorem min_ok (x y : Int) : spec_l1Min.f x y = some (min x y) := by
  unfold spec_l1Min.f; split <;> congr 1 <;> omega
def sm (a : Int) : Prop := -1 ≤ a ∧ a ≤ 4611686018427387904
theorem sm_wf {a : Int} (h : sm a) : (Lit.int .i64 a).wf = true := by
  unfold sm at h
  have : -9223372036854775808 ≤ a ∧ a ≤ 9223372036854775807 := by omega
  simpa [Lit.wf, IntKind.min, IntKind.max, IntKind.signed, IntKind.bits] using this
def B4 (x : S36) : Prop := sm x.f0 ∧ sm x.f1 ∧ sm x.f2 ∧ sm x.f3
def BL (l : List S36) : Prop := ∀ x ∈ l, B4 x
theorem B4_wf {x : S36} (h : B4 x) : wf4 x = true := by
  obtain ⟨h0, h1, h2, h3⟩ := h
  unfold wf4
  simp [sm_wf h0, sm_wf h1, sm_wf h2, sm_wf h3]
theorem BL_wf {l : List S36} (h : BL l) : l.all wf4 = true := by
  rw [List.all_eq_true]; exact fun x hx => B4_wf (h x hx)
theorem B4_z : B4 z36 := by unfold B4 sm z36; simp
theorem BL_rd {l : List S36} (h : BL l) (i : Int) : B4 (rd_T36 l i) := by
  unfold rd_T36
  simp only [List.getD]
  cases e : l[i.toNat]? with
  | none => exact B4_z
  | some x => exact h x (List.mem_of_getElem? e)
theorem BL_set {l : List S36} (h : BL l) (i : Nat) {x : S36} (hx : B4 x) : BL (l.set i x) := by
  intro y hy
  rcases List.mem_or_eq_of_mem_set hy with hy | rfl
  · exact h y hy
  · exact hx
theorem BL_app {l : List S36} (h : BL l) {x : S36} (hx : B4 x) : BL (l ++ [x]) := by
  intro y hy
  rcases List.mem_append.1 hy with hy | hy
  · exact h y hy
  · rw [List.mem_singleton.1 hy]; exact hx
theorem BL_nil : BL [] := fun x hx => by simp at hx
theorem PT_B {l : List S36} (h : BL l) {t : S36} (ht : B4 t) : BL (PT l t).2.2 := by
  unfold PT
  split
  · split
    · exact h
    · split
      · exact BL_nil
      · exact BL_app h ht
  · exact BL_nil
theorem chance_ok (l : List Int) (hb : ∀ x ∈ l, 0 ≤ x ∧ x ≤ 255) (hl : l.length ≤ 1048576) (s a : Int) (s0 : 0 ≤ s) (s1 : s ≤ 1000000000000) (ha : 1 ≤ a) : ∃ b, spec_l1Chance.f l s a = some (b, s + 1) := by
  obtain ⟨r, h, _⟩ := next_ok l hb hl s a s0 s1 ha
  unfold spec_l1Chance.f
  rw [h]
  exact ⟨_, rfl⟩
theorem both_ev (l : List S36) (hl : l.length ≤ 400) (a b : Int) : Ev (fun k => spec_l5Both.f k l a b) (PT l ⟨7, min a b, max a b, 0⟩) := by
  unfold spec_l5Both.f
  simp only [min_ok, max_ok, Option.bind_some]
  refine Ev.bind (put_spec l hl ⟨7, min a b, max a b, 0⟩) ?_
  exact Ev.now _
theorem grow_j1 {L : List S36} (hL : BL L) (h4 : L.length ≤ 400) {t : S36} (ht : B4 t) : ∃ r, BL r ∧ r.length ≤ 400 ∧ ∀ (x1 s : Int) (c : List Int) (X), Ev (fun k => spec_l5Grow.l0 k (wrap64 (x1 - 1)) r c s) X → Ev (fun k => spec_l5Grow.j1 k x1 L c s t.f0 t.f1 t.f2 t.f3) X := by
  have hp := put_spec L h4 t
  by_cases h7 : t.f0 = 7
  · have hq := both_ev L h4 t.f1 t.f2
    have hB : B4 ⟨7, min t.f1 t.f2, max t.f1 t.f2, 0⟩ := by
      obtain ⟨_, h1, h2, _⟩ := ht
      unfold B4 sm at *
      simp only
      omega
    by_cases h0 : (PT L ⟨7, min t.f1 t.f2, max t.f1 t.f2, 0⟩).1 = 0
    · refine ⟨_, PT_B hL hB, PT_len L _ h4, fun x1 s c X hX => ev_succ ?_⟩
      simp only [spec_l5Grow.j1]
      refine Ev.bind hp ?_
      simp only [h7, if_true]
      refine Ev.bind hq ?_
      simp only [h0, if_true]
      exact hX
    · refine ⟨L, hL, h4, fun x1 s c X hX => ev_succ ?_⟩
      simp only [spec_l5Grow.j1]
      refine Ev.bind hp ?_
      simp only [h7, if_true]
      refine Ev.bind hq ?_
      simp only [h0, if_false]
      exact hX
  · by_cases h0 : (PT L t).1 = 0
    · refine ⟨_, PT_B hL ht, PT_len L _ h4, fun x1 s c X hX => ev_succ ?_⟩
      simp only [spec_l5Grow.j1]
      refine Ev.bind hp ?_
      simp only [h7, if_false, h0, if_true]
      exact hX
    · refine ⟨L, hL, h4, fun x1 s c X hX => ev_succ ?_⟩
      simp only [spec_l5Grow.j1]
      refine Ev.bind hp ?_
      simp only [h7, if_false, h0]
      exact hX
theorem grow_l0 (c : List Int) (hb : ∀ x ∈ c, 0 ≤ x ∧ x ≤ 255) (hl : c.length ≤ 1048576) : ∀ (n : Nat) (L : List S36) (s : Int), BL L → L.length ≤ 400 → 0 ≤ s → s + 4 * n ≤ 1000000000 →
    ∃ r s', Ev (fun k => spec_l5Grow.l0 k n L c s) (r, s') ∧ BL r ∧ r.length ≤ 400 ∧ s ≤ s' ∧ s' ≤ s + 4 * n
  | 0, L, s, hL, h4, s0, s1 => ⟨L, s, ev_succ (by simp only [spec_l5Grow.l0, show ¬ ((0 : Nat) : Int) > 0 by omega, if_false]; exact Ev.now _), hL, h4, by omega, by omega⟩
  | n + 1, L, s, hL, h4, s0, s1 => by
    have hw : wrap64 (((n + 1 : Nat) : Int) - 1) = n := by rw [w64' (by omega) (by omega)]; omega
    obtain ⟨op, hop, e1⟩ := pick_ok c hb hl s [1, 2, 3, 4, 5, 6, 7, 3, 5] s0 (by omega) (by simp)
    obtain ⟨a, e2, a0, a1⟩ := next_ok c hb hl (s + 1) (max 1 (L.length : Int)) (by omega) (by omega) (by omega)
    obtain ⟨b, e3, b0, b1⟩ := next_ok c hb hl (s + 1 + 1) (max 1 (L.length : Int)) (by omega) (by omega) (by omega)
    obtain ⟨q, e4, q0, q1⟩ := next_ok c hb hl (s + 1 + 1 + 1) 6 (by omega) (by omega) (by omega)
    have o1 : 1 ≤ op ∧ op ≤ 7 := by simp at hop; omega
    have step : ∀ (t : S36) (sq : Int), B4 t → s ≤ sq → sq ≤ s + 4 → ∃ r s', Ev (fun k => spec_l5Grow.j1 k ((n + 1 : Nat) : Int) L c sq t.f0 t.f1 t.f2 t.f3) (r, s') ∧ BL r ∧ r.length ≤ 400 ∧ s ≤ s' ∧ s' ≤ s + 4 * ((n + 1 : Nat) : Int) := by
      intro t sq ht h1 h2
      obtain ⟨r, r1, r2, r3⟩ := grow_j1 hL h4 ht
      obtain ⟨r', s', k1, k2, k3, k4, k5⟩ := grow_l0 c hb hl n r sq r1 r2 (by omega) (by omega)
      refine ⟨r', s', r3 _ _ _ _ ?_, k2, k3, by omega, by omega⟩
      rw [hw]; exact k1
    have hk := kids_ev op
    by_cases c0 : op = 3 ∨ op = 4 ∨ op = 5 ∨ op = 7
    · obtain ⟨r, s', k1, k2⟩ := step ⟨op, a, b, 0⟩ (s + 1 + 1 + 1) (by unfold B4 sm; simp only; omega) (by omega) (by omega)
      refine ⟨r, s', ev_succ ?_, k2⟩
      simp only [spec_l5Grow.l0, show ((n + 1 : Nat) : Int) > 0 by omega, if_true, max_ok, Option.bind_some, e1, e2, e3]
      rw [if_pos c0] at hk
      refine Ev.bind hk ?_
      simp only [show ¬ (2 : Int) = 0 by omega, show ¬ (2 : Int) = 1 by omega, if_false]
      exact k1
    · by_cases c6 : op = 6
      · obtain ⟨r, s', k1, k2⟩ := step ⟨op, a, 0, 0⟩ (s + 1 + 1 + 1) (by unfold B4 sm; simp only; omega) (by omega) (by omega)
        refine ⟨r, s', ev_succ ?_, k2⟩
        simp only [spec_l5Grow.l0, show ((n + 1 : Nat) : Int) > 0 by omega, if_true, max_ok, Option.bind_some, e1, e2, e3]
        rw [if_neg c0, if_pos c6] at hk
        refine Ev.bind hk ?_
        simp only [show ¬ (1 : Int) = 0 by omega, if_false, if_true]
        exact k1
      · obtain ⟨r, s', k1, k2⟩ := step ⟨op, 0, 0, q⟩ (s + 1 + 1 + 1 + 1) (by unfold B4 sm; simp only; omega) (by omega) (by omega)
        refine ⟨r, s', ev_succ ?_, k2⟩
        simp only [spec_l5Grow.l0, show ((n + 1 : Nat) : Int) > 0 by omega, if_true, max_ok, Option.bind_some, e1, e2, e3]
        rw [if_neg c0, if_neg c6] at hk
        refine Ev.bind hk ?_
        simp only [if_true, e4, Option.bind_some]
        exact k1
theorem bent_ok (c : List Int) (hb : ∀ x ∈ c, 0 ≤ x ∧ x ≤ 255) (hl : c.length ≤ 1048576) (s : Int) (s0 : 0 ≤ s) (s1 : s ≤ 1000000) : ∃ r s', Ev (fun k => spec_l5Bent.f k c s) (r, s') ∧ BL r ∧ r.length ≤ 401 ∧ s ≤ s' ∧ s' ≤ s + 1000 := by
  obtain ⟨m, hm, e0⟩ := pick_ok c hb hl s [6, 14, 25, 40, 1] s0 (by omega) (by simp)
  have m1 : 1 ≤ m ∧ m ≤ 40 := by simp at hm; omega
  obtain ⟨n, rfl⟩ := Int.eq_ofNat_of_zero_le (show 0 ≤ m by omega)
  obtain ⟨L, z, g1, g2, g3, g4, g5⟩ := grow_l0 c hb hl n [] (s + 1) BL_nil (by simp) (by omega) (by omega)
  have g1' : Ev (fun k => spec_l5Grow.f k c (s + 1) n) (L, z) := g1
  by_cases h0 : (L.length : Int) = 0
  · refine ⟨L, z, ?_, g2, by omega, by omega, by omega⟩
    unfold spec_l5Bent.f
    simp only [e0, Option.bind_some]
    refine Ev.bind g1' ?_
    simp only [h0, if_true]; exact Ev.now _
  obtain ⟨i, e1, i0, i1⟩ := next_ok c hb hl z (L.length : Int) (by omega) (by omega) (by omega)
  obtain ⟨w, e2, w0, w1⟩ := next_ok c hb hl (z + 1) 24 (by omega) (by omega) (by omega)
  have hR := BL_rd g2 i
  unfold spec_l5Bent.f
  simp only [e0, Option.bind_some]
  have main : ∃ r s', Ev (fun k => (if w = 0 then ((spec_l1Next.f c (z + 1 + 1) 7).bind fun bt189 => ((spec_l1Pick.f c bt189.2 (([0, 8, wrap64 (1 + bt189.1)] : List Int))).bind fun bt194 => (if 0 ≤ i then (if i < (L.length : Int) then (some ((L.set (i : Int).toNat (⟨bt194.1, (rd_T36 L i).f1, (rd_T36 L i).f2, (rd_T36 L i).f3⟩ : S36)), bt194.2)) else (none)) else (none)))) else (if w = 1 then ((spec_l1Pick.f c (z + 1 + 1) (([(-1), i, 0, 4611686018427387904] : List Int))).bind fun bt200 => (if 0 ≤ i then (if i < (L.length : Int) then (some ((L.set (i : Int).toNat (⟨(rd_T36 L i).f0, bt200.1, (rd_T36 L i).f2, (rd_T36 L i).f3⟩ : S36)), bt200.2)) else (none)) else (none))) else (if w = 2 then ((spec_l1Pick.f c (z + 1 + 1) (([(-1), i, 1] : List Int))).bind fun bt206 => (if 0 ≤ i then (if i < (L.length : Int) then (some ((L.set (i : Int).toNat (⟨(rd_T36 L i).f0, (rd_T36 L i).f1, bt206.1, (rd_T36 L i).f3⟩ : S36)), bt206.2)) else (none)) else (none))) else (if w = 3 then ((spec_l1Pick.f c (z + 1 + 1) (([(-1), 10000, 1] : List Int))).bind fun bt212 => (if 0 ≤ i then (if i < (L.length : Int) then (some ((L.set (i : Int).toNat (⟨(rd_T36 L i).f0, (rd_T36 L i).f1, (rd_T36 L i).f2, bt212.1⟩ : S36)), bt212.2)) else (none)) else (none))) else (if w = 4 then (if 0 ≤ i then (if i < (L.length : Int) then (if L.length < 4398046511104 then (some ((L ++ [(⟨(rd_T36 L i).f0, (rd_T36 L i).f1, (rd_T36 L i).f2, (rd_T36 L i).f3⟩ : S36)]), (z + 1 + 1))) else (none)) else (none)) else (none)) else (if w = 5 then (if 401 ≤ 8796093022208 then (some ((List.replicate 401 z36), (z + 1 + 1))) else (none)) else (some (L, (z + 1 + 1))))))))) : Nat → Option (List S36 × Int)) (r, s') ∧ BL r ∧ r.length ≤ 401 ∧ s ≤ s' ∧ s' ≤ s + 1000 := by
    obtain ⟨h0, h1, h2, h3⟩ := hR
    by_cases c0 : w = 0
    · obtain ⟨u, e3, u0, u1⟩ := next_ok c hb hl (z + 1 + 1) 7 (by omega) (by omega) (by omega)
      obtain ⟨v, hv, e4⟩ := pick_ok c hb hl (z + 1 + 1 + 1) [0, 8, wrap64 (1 + u)] (by omega) (by omega) (by simp)
      rw [w64' (by omega) (by omega)] at hv
      have hv' : sm v := by simp at hv; unfold sm; omega
      refine ⟨L.set i.toNat ⟨v, (rd_T36 L i).f1, (rd_T36 L i).f2, (rd_T36 L i).f3⟩, z + 1 + 1 + 1 + 1, ?_, BL_set g2 _ ⟨hv', h1, h2, h3⟩, by simp; omega, by omega, by omega⟩
      simp only [c0, if_true, e3, e4, Option.bind_some, i0, i1]; exact Ev.now _
    by_cases c1 : w = 1
    · obtain ⟨v, hv, e4⟩ := pick_ok c hb hl (z + 1 + 1) [(-1), i, 0, 4611686018427387904] (by omega) (by omega) (by simp)
      have hv' : sm v := by simp at hv; unfold sm; omega
      refine ⟨L.set i.toNat ⟨(rd_T36 L i).f0, v, (rd_T36 L i).f2, (rd_T36 L i).f3⟩, z + 1 + 1 + 1, ?_, BL_set g2 _ ⟨h0, hv', h2, h3⟩, by simp; omega, by omega, by omega⟩
      simp only [c0, c1, if_false, if_true, e4, Option.bind_some, i0, i1]; exact Ev.now _
    by_cases c2 : w = 2
    · obtain ⟨v, hv, e4⟩ := pick_ok c hb hl (z + 1 + 1) [(-1), i, 1] (by omega) (by omega) (by simp)
      have hv' : sm v := by simp at hv; unfold sm; omega
      refine ⟨L.set i.toNat ⟨(rd_T36 L i).f0, (rd_T36 L i).f1, v, (rd_T36 L i).f3⟩, z + 1 + 1 + 1, ?_, BL_set g2 _ ⟨h0, h1, hv', h3⟩, by simp; omega, by omega, by omega⟩
      simp only [c0, c1, c2, if_false, if_true, e4, Option.bind_some, i0, i1]; exact Ev.now _
    by_cases c3 : w = 3
    · obtain ⟨v, hv, e4⟩ := pick_ok c hb hl (z + 1 + 1) [(-1), 10000, 1] (by omega) (by omega) (by simp)
      have hv' : sm v := by simp at hv; unfold sm; omega
      refine ⟨L.set i.toNat ⟨(rd_T36 L i).f0, (rd_T36 L i).f1, (rd_T36 L i).f2, v⟩, z + 1 + 1 + 1, ?_, BL_set g2 _ ⟨h0, h1, h2, hv'⟩, by simp; omega, by omega, by omega⟩
      simp only [c0, c1, c2, c3, if_false, if_true, e4, Option.bind_some, i0, i1]; exact Ev.now _
    by_cases c4 : w = 4
    · refine ⟨L ++ [⟨(rd_T36 L i).f0, (rd_T36 L i).f1, (rd_T36 L i).f2, (rd_T36 L i).f3⟩], z + 1 + 1, ?_, BL_app g2 ⟨h0, h1, h2, h3⟩, by simp; omega, by omega, by omega⟩
      simp only [c0, c1, c2, c3, c4, if_false, if_true, i0, i1, show L.length < 4398046511104 by omega]; exact Ev.now _
    by_cases c5 : w = 5
    · refine ⟨List.replicate 401 z36, z + 1 + 1, ?_, fun x hx => by rw [List.eq_of_mem_replicate hx]; exact B4_z, by rw [List.length_replicate]; exact Nat.le_refl _, by omega, by omega⟩
      simp only [c0, c1, c2, c3, c4, c5, if_false, if_true, show 401 ≤ 8796093022208 by omega]; exact Ev.now _
    refine ⟨L, z + 1 + 1, ?_, g2, by omega, by omega, by omega⟩
    simp only [c0, c1, c2, c3, c4, c5, if_false]; exact Ev.now _
  obtain ⟨r, s', k1, k2⟩ := main
  refine ⟨r, s', Ev.bind g1' ?_, k2⟩
  simp only [h0, if_false, e1, e2, Option.bind_some]
  exact k1
theorem place_ok (c : List Int) (hb : ∀ x ∈ c, 0 ≤ x ∧ x ≤ 255) (hl : c.length ≤ 1048576) (L : List S36) (hL : L.length ≤ 401) (s : Int) (s0 : 0 ≤ s) (s1 : s ≤ 1000000000) : ∃ p, spec_l5Place.f c s L = some (p, s + 1 + 1 + 1) ∧ -1 ≤ p ∧ p ≤ (L.length : Int) := by
  obtain ⟨a, e1, a0, a1⟩ := next_ok c hb hl s (max 1 (L.length : Int)) (by omega) (by omega) (by omega)
  obtain ⟨b, e2, b0, b1⟩ := next_ok c hb hl (s + 1) (max 1 (L.length : Int)) (by omega) (by omega) (by omega)
  obtain ⟨v, hv, e3⟩ := pick_ok c hb hl (s + 1 + 1) [wrap64 ((L.length : Int) - 1), a, b, wrap64 ((L.length : Int) - 1), (L.length : Int), (-1)] (by omega) (by omega) (by simp)
  have hw : wrap64 ((L.length : Int) - 1) = (L.length : Int) - 1 := by unfold wrap64; omega
  refine ⟨v, ?_, ?_⟩
  · unfold spec_l5Place.f
    simp only [max_ok, Option.bind_some, e1, e2, e3]
  · rw [hw] at hv
    simp at hv; omega
theorem tidx_app {l r : List S36} {t : S36} (h : 0 ≤ tidx l t 0) : tidx (l ++ r) t 0 = tidx l t 0 := by
  unfold tidx at h ⊢
  rw [List.drop_zero] at h ⊢
  rw [List.drop_zero, List.findIdx?_append]
  cases e : l.findIdx? fun y => eq4 t y with
  | none => rw [e] at h; simp at h
  | some j => simp
theorem putT_B {l : List S36} {full : Bool} {t : S36} (h : BL l) (ht : B4 t) : BL (putT l full t).2.1 := by
  unfold putT putP
  split
  · exact h
  · split
    · exact h
    · split
      · exact h
      · exact BL_app h ht
theorem put_step {l : List S36} (g : TF l = 0) (b : BL l) {t : S36} (bt : B4 t) (ht : tfault t.f0 t.f1 t.f2 t.f3 l = 0) {q : Int × List S36 × Bool} (h : putT l false t = q) (hf : q.2.2 = false) :
    TF q.2.1 = 0 ∧ BL q.2.1 ∧ (∃ r, q.2.1 = l ++ r) ∧ (0 ≤ q.1 ∧ q.1 < (q.2.1.length : Int)) ∧ rd_T36 q.2.1 q.1 = t ∧ ∀ r, putT (q.2.1 ++ r) false t = (q.1, q.2.1 ++ r, false) := by
  have hb := putT_B (full := false) b bt
  have hr := @putT_rd l false t
  rw [h] at hb hr
  have e := told_put l t
  rw [← putT_eq, h] at e
  have e2 : toldP q = PT l t := by
    rw [e]
    unfold PT
    simp only [ht, if_true]
  have e3 : toldP q = (0, q.1, q.2.1) := by
    unfold toldP
    rw [if_neg (by rw [hf]; decide)]
  rw [e3] at e2
  have g2 := PT_good g (t := t) (by rw [← e2])
  rw [← e2] at g2
  obtain ⟨g3, _, g5, g6, _⟩ := g2
  refine ⟨g3, hb, hr, g5, g6, fun r => ?_⟩
  have hi : tidx q.2.1 t 0 = q.1 := by
    rw [putT_eq] at h
    unfold putP at h
    by_cases c0 : 0 ≤ tidx l t 0
    · rw [if_pos c0] at h
      rw [← h]
    · rw [if_neg c0] at h
      by_cases c4 : 400 ≤ l.length
      · rw [if_pos c4] at h; rw [← h] at hf; cases hf
      · rw [if_neg c4, if_neg (by decide)] at h
        rw [← h]
        exact tidx_snoc c0
  have ha : tidx (q.2.1 ++ r) t 0 = q.1 := by rw [tidx_app (by rw [hi]; exact g5.1), hi]
  rw [putT_eq, ha]
  unfold putP
  rw [if_pos g5.1]
theorem not_full {a : Int × List S36 × Bool} {t : S36} (h : (putT a.2.1 a.2.2 t).2.2 = false) : a.2.2 = false := by
  cases e : a.2.2 with
  | false => rfl
  | true => rw [e, putT_full] at h; cases h
theorem listP3 (l : List S36) (full : Bool) (a b c : Int) : listP l full [a, b, c] = putT (putT l full ⟨3, b, c, 0⟩).2.1 (putT l full ⟨3, b, c, 0⟩).2.2 ⟨3, a, (putT l full ⟨3, b, c, 0⟩).1, 0⟩ := rfl
theorem B4_of {a b c d : Int} (ha : 0 ≤ a ∧ a ≤ 1000000) (hb : 0 ≤ b ∧ b ≤ 1000000) (hc : 0 ≤ c ∧ c ≤ 1000000) (hd : 0 ≤ d ∧ d ≤ 1000000) : B4 ⟨a, b, c, d⟩ := by
  unfold B4 sm
  simp only
  omega
def Parts (F : List S36) (at_ sh fi no ke n : Int) : Prop := ∃ p L M q m : Int, rd_T36 F at_ = ⟨4, p, L, 0⟩ ∧ rd_T36 F L = ⟨3, fi, M, 0⟩ ∧ rd_T36 F M = ⟨3, no, q, 0⟩ ∧ rd_T36 F q = ⟨4, ke, m, 0⟩ ∧ rd_T36 F m = ⟨1, 0, 0, n⟩ ∧ (0 ≤ at_ ∧ at_ < (F.length : Int)) ∧ (0 ≤ L ∧ L < (F.length : Int)) ∧ (0 ≤ M ∧ M < (F.length : Int)) ∧ (0 ≤ q ∧ q < (F.length : Int)) ∧ (0 ≤ m ∧ m < (F.length : Int))
theorem Parts.app {F r : List S36} {at_ sh fi no ke n : Int} (h : Parts F at_ sh fi no ke n) : Parts (F ++ r) at_ sh fi no ke n := by
  obtain ⟨p, L, M, q, m, h1, h2, h3, h4, h5, b1, b2, b3, b4, b5⟩ := h
  refine ⟨p, L, M, q, m, ?_, ?_, ?_, ?_, ?_, ?_, ?_, ?_, ?_, ?_⟩
  · rw [rd_app b1]; exact h1
  · rw [rd_app b2]; exact h2
  · rw [rd_app b3]; exact h3
  · rw [rd_app b4]; exact h4
  · rw [rd_app b5]; exact h5
  all_goals rw [List.length_append]; omega
theorem Parts.same {F : List S36} {at_ sh fi no ke n sh' fi' no' ke' n' : Int} (h : Parts F at_ sh fi no ke n) (k : Parts F at_ sh' fi' no' ke' n') : fi = fi' ∧ no = no' ∧ n = n' := by
  obtain ⟨p, L, M, q, m, h1, h2, h3, h4, h5, _⟩ := h
  obtain ⟨p', L', M', q', m', k1, k2, k3, k4, k5, _⟩ := k
  rw [h1] at k1
  injection k1 with _ _ e _
  subst e
  rw [h2] at k2
  injection k2 with _ e1 e _
  subst e
  rw [h3] at k3
  injection k3 with _ e2 e _
  subst e
  rw [h4] at k4
  injection k4 with _ _ e _
  subst e
  rw [h5] at k5
  injection k5 with _ _ _ e3
  exact ⟨e1, e2, e3⟩
theorem l9op_l0 (c : List Int) (hb : ∀ x ∈ c, 0 ≤ x ∧ x ≤ 255) (hl : c.length ≤ 1048576) (L : List S36) (hL : L.length ≤ 401) (o : Int) : ∀ (d : Nat) (s : Int), d ≤ L.length → 0 ≤ s → s + d ≤ 200000000 → ∃ p s', Ev (fun k => spec_l9Op.l0 k L o ((d : Int) - 1) c s) (p, s') ∧ s ≤ s' ∧ s' ≤ s + d + 3
  | 0, s, _, s0, s1 => by
    obtain ⟨p, e, _, _⟩ := place_ok c hb hl L hL s s0 (by omega)
    refine ⟨p, s + 1 + 1 + 1, ev_succ ?_, by omega, by omega⟩
    simp only [spec_l9Op.l0, show ¬ (((0 : Nat) : Int) - 1 ≥ 0) by decide, if_false, e, Option.bind_some]; exact Ev.now _
  | d + 1, s, hd, s0, s1 => by
    have h1 : ((d + 1 : Nat) : Int) - 1 = (d : Int) := by omega
    have hw : wrap64 ((d : Int) - 1) = (d : Int) - 1 := by unfold wrap64; omega
    rw [h1]
    by_cases ho : (rd_T36 L (d : Int)).f0 = o
    · obtain ⟨bb, e⟩ := chance_ok c hb hl s 3 (by omega) (by omega) (by omega)
      cases bb with
      | true =>
        obtain ⟨p, s', k1, k2, k3⟩ := l9op_l0 c hb hl L hL o d (s + 1) (by omega) (by omega) (by omega)
        refine ⟨p, s', ev_succ ?_, by omega, by omega⟩
        simp only [spec_l9Op.l0, show (d : Int) ≥ 0 by omega, show 0 ≤ (d : Int) by omega, show (d : Int) < (L.length : Int) by omega, if_true, ho, e, Option.bind_some, hw]
        exact k1
      | false =>
        refine ⟨(d : Int), s + 1, ev_succ ?_, by omega, by omega⟩
        simp only [spec_l9Op.l0, show (d : Int) ≥ 0 by omega, show 0 ≤ (d : Int) by omega, show (d : Int) < (L.length : Int) by omega, if_true, ho, e, Option.bind_some, Bool.false_eq_true, if_false]; exact Ev.now _
    · obtain ⟨p, s', k1, k2, k3⟩ := l9op_l0 c hb hl L hL o d s (by omega) s0 (by omega)
      refine ⟨p, s', ev_succ ?_, by omega, by omega⟩
      simp only [spec_l9Op.l0, show (d : Int) ≥ 0 by omega, show 0 ≤ (d : Int) by omega, show (d : Int) < (L.length : Int) by omega, if_true, ho, if_false, hw]
      exact k1
theorem l9op_ok (c : List Int) (hb : ∀ x ∈ c, 0 ≤ x ∧ x ≤ 255) (hl : c.length ≤ 1048576) (L : List S36) (hL : L.length ≤ 401) (o s : Int) (s0 : 0 ≤ s) (s1 : s ≤ 100000000) : ∃ p s', Ev (fun k => spec_l9Op.f k c s L o) (p, s') ∧ s ≤ s' ∧ s' ≤ s + 404 := by
  obtain ⟨p, s', k1, k2, k3⟩ := l9op_l0 c hb hl L hL o L.length s (by omega) s0 (by omega)
  refine ⟨p, s', ?_, k2, by omega⟩
  unfold spec_l9Op.f
  rw [show wrap64 ((L.length : Int) - 1) = (L.length : Int) - 1 by unfold wrap64; omega]
  exact k1
def Again (F : List S36) (t : S36) (p : Int) : Prop := ∀ r, putT (F ++ r) false t = (p, F ++ r, false)
theorem Again.app {F : List S36} {t : S36} {p : Int} (h : Again F t p) (s : List S36) : Again (F ++ s) t p := fun r => by
  rw [List.append_assoc]
  exact h (s ++ r)
theorem namesT3 (l : List S36) (full : Bool) (a b c : Int) : namesT l full [a, b, c] = listP (putT (putT (putT l full ⟨1, 0, 0, a⟩).2.1 (putT l full ⟨1, 0, 0, a⟩).2.2 ⟨1, 0, 0, b⟩).2.1 (putT (putT l full ⟨1, 0, 0, a⟩).2.1 (putT l full ⟨1, 0, 0, a⟩).2.2 ⟨1, 0, 0, b⟩).2.2 ⟨1, 0, 0, c⟩).2.1 (putT (putT (putT l full ⟨1, 0, 0, a⟩).2.1 (putT l full ⟨1, 0, 0, a⟩).2.2 ⟨1, 0, 0, b⟩).2.1 (putT (putT l full ⟨1, 0, 0, a⟩).2.1 (putT l full ⟨1, 0, 0, a⟩).2.2 ⟨1, 0, 0, b⟩).2.2 ⟨1, 0, 0, c⟩).2.2 [(putT l full ⟨1, 0, 0, a⟩).1, (putT (putT l full ⟨1, 0, 0, a⟩).2.1 (putT l full ⟨1, 0, 0, a⟩).2.2 ⟨1, 0, 0, b⟩).1, (putT (putT (putT l full ⟨1, 0, 0, a⟩).2.1 (putT l full ⟨1, 0, 0, a⟩).2.2 ⟨1, 0, 0, b⟩).2.1 (putT (putT l full ⟨1, 0, 0, a⟩).2.1 (putT l full ⟨1, 0, 0, a⟩).2.2 ⟨1, 0, 0, b⟩).2.2 ⟨1, 0, 0, c⟩).1] := rfl
def partT (l : List S36) (full : Bool) (c x y sd : Int) : Int × List S36 × Bool := putT (namesT l full [c, x, y]).2.1 (namesT l full [c, x, y]).2.2 ⟨4, sd, (namesT l full [c, x, y]).1, 0⟩
def IsKey (F : List S36) (p sd c : Int) : Prop := ∃ L a M : Int, rd_T36 F p = ⟨4, sd, L, 0⟩ ∧ rd_T36 F L = ⟨3, a, M, 0⟩ ∧ rd_T36 F a = ⟨1, 0, 0, c⟩ ∧ (0 ≤ p ∧ p < (F.length : Int)) ∧ (0 ≤ L ∧ L < (F.length : Int)) ∧ (0 ≤ a ∧ a < (F.length : Int))
theorem IsKey.app {F : List S36} {p sd c : Int} (h : IsKey F p sd c) (r : List S36) : IsKey (F ++ r) p sd c := by
  obtain ⟨L, a, M, h1, h2, h3, h4, h5, h6⟩ := h
  refine ⟨L, a, M, ?_, ?_, ?_, ?_, ?_, ?_⟩
  · rw [rd_app h4]; exact h1
  · rw [rd_app h5]; exact h2
  · rw [rd_app h6]; exact h3
  all_goals (rw [List.length_append]; omega)
theorem IsKey.same {F : List S36} {p sd sd' c c' : Int} (h : IsKey F p sd c) (k : IsKey F p sd' c') : c = c' := by
  obtain ⟨L, a, M, h1, h2, h3, _⟩ := h
  obtain ⟨L', a', M', k1, k2, k3, _⟩ := k
  rw [h1] at k1
  have e1 : L = L' := by injection k1
  subst e1
  rw [h2] at k2
  have e2 : a = a' := by injection k2
  subst e2
  rw [h3] at k3
  injection k3
theorem part_chain {l : List S36} {full : Bool} (hfl : full = false) (g : TF l = 0) (b : BL l) {c x y sd : Int} (hs : 0 ≤ sd ∧ sd < (l.length : Int)) (hc : 0 ≤ c ∧ c ≤ 9999) (hx : 0 ≤ x ∧ x ≤ 9999) (hy : 0 ≤ y ∧ y ≤ 9999) {q : Int × List S36 × Bool} (h : partT l full c x y sd = q) (hf : q.2.2 = false) :
    TF q.2.1 = 0 ∧ BL q.2.1 ∧ (∃ r, q.2.1 = l ++ r) ∧ (0 ≤ q.1 ∧ q.1 < (q.2.1.length : Int)) ∧ IsKey q.2.1 q.1 sd c ∧ ∀ r, partT (q.2.1 ++ r) false c x y sd = (q.1, q.2.1 ++ r, false) := by
  subst hfl
  unfold partT at h
  rw [namesT3, listP3] at h
  generalize e1 : putT l false ⟨1, 0, 0, c⟩ = B1 at h
  generalize e2 : putT B1.2.1 B1.2.2 ⟨1, 0, 0, x⟩ = B2 at h
  generalize e3 : putT B2.2.1 B2.2.2 ⟨1, 0, 0, y⟩ = B3 at h
  generalize e4 : putT B3.2.1 B3.2.2 ⟨3, B2.1, B3.1, 0⟩ = B4_ at h
  generalize e5 : putT B4_.2.1 B4_.2.2 ⟨3, B1.1, B4_.1, 0⟩ = B5 at h
  have f5 : B5.2.2 = false := not_full (by rw [h]; exact hf)
  have f4 : B4_.2.2 = false := not_full (by rw [e5]; exact f5)
  have f3 : B3.2.2 = false := not_full (by rw [e4]; exact f4)
  have f2 : B2.2.2 = false := not_full (by rw [e3]; exact f3)
  have f1 : B1.2.2 = false := not_full (by rw [e2]; exact f2)
  rw [f1] at e2
  rw [f2] at e3
  rw [f3] at e4
  rw [f4] at e5
  rw [f5] at h
  have hl := TF_len g
  have z : tfault 1 0 0 c l = 0 := fault_name hc.1 hc.2
  have bt : B4 ⟨1, 0, 0, c⟩ := B4_of (by omega) (by omega) (by omega) (by omega)
  obtain ⟨g1, b1, ⟨r1, x1⟩, p1, d1, a1⟩ := put_step (t := ⟨1, 0, 0, c⟩) g b bt z e1 f1
  clear z bt
  have l1 := TF_len g1
  have n1 : (l.length : Int) ≤ B1.2.1.length := by rw [x1, List.length_append]; omega
  have z : tfault 1 0 0 x B1.2.1 = 0 := fault_name hx.1 hx.2
  have bt : B4 ⟨1, 0, 0, x⟩ := B4_of (by omega) (by omega) (by omega) (by omega)
  obtain ⟨g2, b2, ⟨r2, x2⟩, p2, d2, a2⟩ := put_step (t := ⟨1, 0, 0, x⟩) g1 b1 bt z e2 f2
  clear z bt
  have l2 := TF_len g2
  have n2 : (B1.2.1.length : Int) ≤ B2.2.1.length := by rw [x2, List.length_append]; omega
  have z : tfault 1 0 0 y B2.2.1 = 0 := fault_name hy.1 hy.2
  have bt : B4 ⟨1, 0, 0, y⟩ := B4_of (by omega) (by omega) (by omega) (by omega)
  obtain ⟨g3, b3, ⟨r3, x3⟩, p3, d3, a3⟩ := put_step (t := ⟨1, 0, 0, y⟩) g2 b2 bt z e3 f3
  clear z bt
  have l3 := TF_len g3
  have n3 : (B2.2.1.length : Int) ≤ B3.2.1.length := by rw [x3, List.length_append]; omega
  have z : tfault 3 B2.1 B3.1 0 B3.2.1 = 0 := fault_two (.inl rfl) (by omega) p3
  have bt : B4 ⟨3, B2.1, B3.1, 0⟩ := B4_of (by omega) (by omega) (by omega) (by omega)
  obtain ⟨g4, b4, ⟨r4, x4⟩, p4, d4, a4⟩ := put_step (t := ⟨3, B2.1, B3.1, 0⟩) g3 b3 bt z e4 f4
  clear z bt
  have l4 := TF_len g4
  have n4 : (B3.2.1.length : Int) ≤ B4_.2.1.length := by rw [x4, List.length_append]; omega
  have z : tfault 3 B1.1 B4_.1 0 B4_.2.1 = 0 := fault_two (.inl rfl) (by omega) p4
  have bt : B4 ⟨3, B1.1, B4_.1, 0⟩ := B4_of (by omega) (by omega) (by omega) (by omega)
  obtain ⟨g5, b5, ⟨r5, x5⟩, p5, d5, a5⟩ := put_step (t := ⟨3, B1.1, B4_.1, 0⟩) g4 b4 bt z e5 f5
  clear z bt
  have l5 := TF_len g5
  have n5 : (B4_.2.1.length : Int) ≤ B5.2.1.length := by rw [x5, List.length_append]; omega
  have z : tfault 4 sd B5.1 0 B5.2.1 = 0 := fault_two (.inr (.inl rfl)) (by omega) p5
  have bt : B4 ⟨4, sd, B5.1, 0⟩ := B4_of (by omega) (by omega) (by omega) (by omega)
  obtain ⟨g6, b6, ⟨r6, x6⟩, p6, d6, a6⟩ := put_step (t := ⟨4, sd, B5.1, 0⟩) g5 b5 bt z h hf
  clear z bt
  have n6 : (B5.2.1.length : Int) ≤ q.2.1.length := by rw [x6, List.length_append]; omega
  have y5 : q.2.1 = B5.2.1 ++ r6 := x6
  have y4 : q.2.1 = B4_.2.1 ++ (r5 ++ r6) := by rw [x6, x5, List.append_assoc]
  have y3 : q.2.1 = B3.2.1 ++ (r4 ++ (r5 ++ r6)) := by rw [y4, x4, List.append_assoc]
  have y2 : q.2.1 = B2.2.1 ++ (r3 ++ (r4 ++ (r5 ++ r6))) := by rw [y3, x3, List.append_assoc]
  have y1 : q.2.1 = B1.2.1 ++ (r2 ++ (r3 ++ (r4 ++ (r5 ++ r6)))) := by rw [y2, x2, List.append_assoc]
  have y0 : q.2.1 = l ++ (r1 ++ (r2 ++ (r3 ++ (r4 ++ (r5 ++ r6))))) := by rw [y1, x1, List.append_assoc]
  refine ⟨g6, b6, ⟨_, y0⟩, p6, ⟨B5.1, B1.1, B4_.1, d6, ?_, ?_, p6, by omega, by omega⟩, fun r => ?_⟩
  · rw [y5, rd_app p5]; exact d5
  · rw [y1, rd_app p1]; exact d1
  have q1 := a1 (r2 ++ (r3 ++ (r4 ++ (r5 ++ r6))) ++ r)
  have q2 := a2 (r3 ++ (r4 ++ (r5 ++ r6)) ++ r)
  have q3 := a3 (r4 ++ (r5 ++ r6) ++ r)
  have q4 := a4 (r5 ++ r6 ++ r)
  have q5 := a5 (r6 ++ r)
  have q6 := a6 r
  rw [← List.append_assoc, ← y1] at q1
  rw [← List.append_assoc, ← y2] at q2
  rw [← List.append_assoc, ← y3] at q3
  rw [← List.append_assoc, ← y4] at q4
  rw [← List.append_assoc, ← y5] at q5
  unfold partT
  rw [namesT3, listP3, q1]
  dsimp only
  rw [q2]
  dsimp only
  rw [q3]
  dsimp only
  rw [q4]
  dsimp only
  rw [q5]
  dsimp only
  rw [q6]
def keysF (l : List S36) (full : Bool) (ni nr m M x y : Int) : Int × Int × Int × Int × List S36 × Bool :=
  let r1 := putT l full ⟨3, ni, nr, 0⟩
  let r2 := putT r1.2.1 r1.2.2 ⟨7, m, M, 0⟩
  let r3 := putT r2.2.1 r2.2.2 ⟨4, r1.1, r2.1, 0⟩
  let r5 := partT r3.2.1 r3.2.2 1 x y r3.1
  let r7 := partT r5.2.1 r5.2.2 2 x y r3.1
  let r9 := partT r7.2.1 r7.2.2 3 x y r3.1
  (r3.1, r5.1, r7.1, r9.1, r9.2)
theorem keysT_F (l : List S36) (full : Bool) (ni nr own half x y : Int) {B : Int × List S36 × Bool} (hB : putT l full ⟨3, ni, nr, 0⟩ = B) {o : Int} (ho : (rd_T36 B.2.1 half).f1 = o) : keysT l full ni nr own half x y = if 0 ≤ half ∧ half < (B.2.1.length : Int) then some (keysF l full ni nr (if o < own then o else own) (if own < o then o else own) x y) else none := by
  unfold keysT keysF partT
  dsimp only
  rw [hB, ho]
theorem part_full {l : List S36} {full : Bool} {c x y sd : Int} (h : (partT l full c x y sd).2.2 = false) : full = false := by
  unfold partT at h
  rw [namesT3, listP3] at h
  generalize e1 : putT l full ⟨1, 0, 0, c⟩ = B1 at h
  generalize e2 : putT B1.2.1 B1.2.2 ⟨1, 0, 0, x⟩ = B2 at h
  generalize e3 : putT B2.2.1 B2.2.2 ⟨1, 0, 0, y⟩ = B3 at h
  generalize e4 : putT B3.2.1 B3.2.2 ⟨3, B2.1, B3.1, 0⟩ = B4_ at h
  generalize e5 : putT B4_.2.1 B4_.2.2 ⟨3, B1.1, B4_.1, 0⟩ = B5 at h
  have f5 : B5.2.2 = false := not_full h
  have f4 : B4_.2.2 = false := not_full (by rw [e5]; exact f5)
  have f3 : B3.2.2 = false := not_full (by rw [e4]; exact f4)
  have f2 : B2.2.2 = false := not_full (by rw [e3]; exact f3)
  have f1 : B1.2.2 = false := not_full (by rw [e2]; exact f2)
  cases full with
  | false => rfl
  | true => rw [← e1, putT_full] at f1; cases f1
theorem keysF_chain {l : List S36} (g : TF l = 0) (b : BL l) {ni nr m M x y : Int} (h1 : 0 ≤ ni ∧ ni < (l.length : Int)) (h2 : 0 ≤ nr ∧ nr < (l.length : Int)) (hm : 0 ≤ m ∧ m < (l.length : Int)) (hM : 0 ≤ M ∧ M < (l.length : Int)) (fm : (rd_T36 l m).f0 = 2) (fM : (rd_T36 l M).f0 = 2) (hle : m ≤ M) (hx : 0 ≤ x ∧ x ≤ 9999) (hy : 0 ≤ y ∧ y ≤ 9999) {q : Int × Int × Int × Int × List S36 × Bool} (h : keysF l false ni nr m M x y = q) (hf : q.2.2.2.2.2 = false) :
    TF q.2.2.2.2.1 = 0 ∧ BL q.2.2.2.2.1 ∧ (∃ r, q.2.2.2.2.1 = l ++ r) ∧ ((0 ≤ q.1 ∧ q.1 < (q.2.2.2.2.1.length : Int)) ∧ ∃ u v, rd_T36 q.2.2.2.2.1 q.1 = ⟨4, u, v, 0⟩) ∧ IsKey q.2.2.2.2.1 q.2.1 q.1 1 ∧ IsKey q.2.2.2.2.1 q.2.2.1 q.1 2 ∧ IsKey q.2.2.2.2.1 q.2.2.2.1 q.1 3 ∧
      (∃ s, (putT l false ⟨3, ni, nr, 0⟩).2.1 = l ++ s) ∧ (∀ r, putT (q.2.2.2.2.1 ++ r) false ⟨3, ni, nr, 0⟩ = ((putT l false ⟨3, ni, nr, 0⟩).1, q.2.2.2.2.1 ++ r, false)) ∧ ∀ r, keysF (q.2.2.2.2.1 ++ r) false ni nr m M x y = (q.1, q.2.1, q.2.2.1, q.2.2.2.1, q.2.2.2.2.1 ++ r, false) := by
  unfold keysF at h
  dsimp only at h
  generalize e1 : putT l false ⟨3, ni, nr, 0⟩ = B1 at h ⊢
  generalize e2 : putT B1.2.1 B1.2.2 ⟨7, m, M, 0⟩ = B2 at h
  generalize e3 : putT B2.2.1 B2.2.2 ⟨4, B1.1, B2.1, 0⟩ = B3 at h
  generalize e5 : partT B3.2.1 B3.2.2 1 x y B3.1 = B5 at h
  generalize e7 : partT B5.2.1 B5.2.2 2 x y B3.1 = B7 at h
  generalize e9 : partT B7.2.1 B7.2.2 3 x y B3.1 = B9 at h
  subst h
  dsimp only at hf ⊢
  have f7 : B7.2.2 = false := part_full (by rw [e9]; exact hf)
  have f5 : B5.2.2 = false := part_full (by rw [e7]; exact f7)
  have f3 : B3.2.2 = false := part_full (by rw [e5]; exact f5)
  have f2 : B2.2.2 = false := not_full (by rw [e3]; exact f3)
  have f1 : B1.2.2 = false := not_full (by rw [e2]; exact f2)
  rw [f1] at e2
  rw [f2] at e3
  have hl := TF_len g
  have z : tfault 3 ni nr 0 l = 0 := fault_two (.inl rfl) h1 h2
  have bt : B4 ⟨3, ni, nr, 0⟩ := B4_of (by omega) (by omega) (by omega) (by omega)
  obtain ⟨g1, b1, ⟨r1, x1⟩, p1, d1, a1⟩ := put_step (t := ⟨3, ni, nr, 0⟩) g b bt z e1 f1
  clear z bt
  have l1 := TF_len g1
  have n1 : (l.length : Int) ≤ B1.2.1.length := by rw [x1, List.length_append]; omega
  have z : tfault 7 m M 0 B1.2.1 = 0 := fault_both (by omega) (by omega) (by rw [x1, rd_app hm]; exact fm) (by rw [x1, rd_app hM]; exact fM) hle
  have bt : B4 ⟨7, m, M, 0⟩ := B4_of (by omega) (by omega) (by omega) (by omega)
  obtain ⟨g2, b2, ⟨r2, x2⟩, p2, d2, a2⟩ := put_step (t := ⟨7, m, M, 0⟩) g1 b1 bt z e2 f2
  clear z bt
  have l2 := TF_len g2
  have n2 : (B1.2.1.length : Int) ≤ B2.2.1.length := by rw [x2, List.length_append]; omega
  have z : tfault 4 B1.1 B2.1 0 B2.2.1 = 0 := fault_two (.inr (.inl rfl)) (by omega) p2
  have bt : B4 ⟨4, B1.1, B2.1, 0⟩ := B4_of (by omega) (by omega) (by omega) (by omega)
  obtain ⟨g3, b3, ⟨r3, x3⟩, p3, d3, a3⟩ := put_step (t := ⟨4, B1.1, B2.1, 0⟩) g2 b2 bt z e3 f3
  clear z bt
  have l3 := TF_len g3
  have n3 : (B2.2.1.length : Int) ≤ B3.2.1.length := by rw [x3, List.length_append]; omega
  obtain ⟨g5, b5, ⟨r5, x5⟩, p5, k5, a5⟩ := part_chain f3 g3 b3 p3 (show (0 : Int) ≤ 1 ∧ (1 : Int) ≤ 9999 by omega) hx hy e5 f5
  have n5 : (B3.2.1.length : Int) ≤ B5.2.1.length := by rw [x5, List.length_append]; omega
  obtain ⟨g7, b7, ⟨r7, x7⟩, p7, k7, a7⟩ := part_chain f5 g5 b5 (show 0 ≤ B3.1 ∧ B3.1 < (B5.2.1.length : Int) by omega) (show (0 : Int) ≤ 2 ∧ (2 : Int) ≤ 9999 by omega) hx hy e7 f7
  have n7 : (B5.2.1.length : Int) ≤ B7.2.1.length := by rw [x7, List.length_append]; omega
  obtain ⟨g9, b9, ⟨r9, x9⟩, p9, k9, a9⟩ := part_chain f7 g7 b7 (show 0 ≤ B3.1 ∧ B3.1 < (B7.2.1.length : Int) by omega) (show (0 : Int) ≤ 3 ∧ (3 : Int) ≤ 9999 by omega) hx hy e9 hf
  have n9 : (B7.2.1.length : Int) ≤ B9.2.1.length := by rw [x9, List.length_append]; omega
  have y7 : B9.2.1 = B7.2.1 ++ r9 := x9
  have y5 : B9.2.1 = B5.2.1 ++ (r7 ++ r9) := by rw [x9, x7, List.append_assoc]
  have y3 : B9.2.1 = B3.2.1 ++ (r5 ++ (r7 ++ r9)) := by rw [y5, x5, List.append_assoc]
  have y2 : B9.2.1 = B2.2.1 ++ (r3 ++ (r5 ++ (r7 ++ r9))) := by rw [y3, x3, List.append_assoc]
  have y1 : B9.2.1 = B1.2.1 ++ (r2 ++ (r3 ++ (r5 ++ (r7 ++ r9)))) := by rw [y2, x2, List.append_assoc]
  have y0 : B9.2.1 = l ++ (r1 ++ (r2 ++ (r3 ++ (r5 ++ (r7 ++ r9))))) := by rw [y1, x1, List.append_assoc]
  have q1 := fun r => a1 (r2 ++ (r3 ++ (r5 ++ (r7 ++ r9))) ++ r)
  have q2 := fun r => a2 (r3 ++ (r5 ++ (r7 ++ r9)) ++ r)
  have q3 := fun r => a3 (r5 ++ (r7 ++ r9) ++ r)
  have q5 := fun r => a5 (r7 ++ r9 ++ r)
  have q7 := fun r => a7 (r9 ++ r)
  simp only [← List.append_assoc] at q1 q2 q3 q5 q7 y1 y2 y3 y5
  rw [← y1] at q1
  rw [← y2] at q2
  rw [← y3] at q3
  rw [← y5] at q5
  rw [← y7] at q7
  refine ⟨g9, b9, ⟨_, y0⟩, ⟨by omega, B1.1, B2.1, ?_⟩, ?_, ?_, k9, ⟨r1, x1⟩, q1, fun r => ?_⟩
  · rw [y3, List.append_assoc, List.append_assoc, rd_app p3]; exact d3
  · rw [y5, List.append_assoc]; exact k5.app _
  · rw [y7]; exact k7.app _
  unfold keysF
  dsimp only
  rw [q1]
  dsimp only
  rw [q2]
  dsimp only
  rw [q3]
  dsimp only
  rw [q5]
  dsimp only
  rw [q7]
  dsimp only
  rw [a9]
def kid (t : S36) : List Int := if t.f0 = 1 ∨ t.f0 = 2 then [] else if t.f0 = 6 then [t.f1] else [t.f1, t.f2]
def sets (b : List Bool) (ks : List Int) : List Bool := ks.foldl (fun b x => b.set x.toNat true) b
def dn (L : List S36) : Nat → List Bool → List Bool
  | 0, b => b
  | n + 1, b => dn L n (if b.getD n false = true then sets b (kid (rd_T36 L (n : Int))) else b)
theorem rd_take {L : List S36} {i : Nat} {a : Int} (h0 : 0 ≤ a) (h1 : a < (i : Int)) : rd_T36 (L.take i) a = rd_T36 L a := by
  unfold rd_T36
  have : a.toNat < i := by omega
  simp [List.getD, List.getElem?_take, this]
theorem node_ok {L : List S36} (h : TF L = 0) (i : Nat) (hi : i < L.length) :
    ((rd_T36 L i).f0 = 1 ∨ (rd_T36 L i).f0 = 2) ∧ (rd_T36 L i).f1 = 0 ∧ (rd_T36 L i).f2 = 0 ∧ (0 ≤ (rd_T36 L i).f3 ∧ (rd_T36 L i).f3 ≤ 9999) ∨
    (rd_T36 L i).f0 = 6 ∧ (rd_T36 L i).f2 = 0 ∧ (rd_T36 L i).f3 = 0 ∧ (0 ≤ (rd_T36 L i).f1 ∧ (rd_T36 L i).f1 < i) ∧ (rd_T36 L (rd_T36 L i).f1).f0 = 2 ∨
    ((rd_T36 L i).f0 = 3 ∨ (rd_T36 L i).f0 = 4 ∨ (rd_T36 L i).f0 = 5 ∨ (rd_T36 L i).f0 = 7) ∧ (rd_T36 L i).f3 = 0 ∧ (0 ≤ (rd_T36 L i).f1 ∧ (rd_T36 L i).f1 < i) ∧ (0 ≤ (rd_T36 L i).f2 ∧ (rd_T36 L i).f2 < i) ∧ ((rd_T36 L i).f0 = 7 → (rd_T36 L (rd_T36 L i).f1).f0 = 2 ∧ (rd_T36 L (rd_T36 L i).f2).f0 = 2 ∧ (rd_T36 L i).f1 ≤ (rd_T36 L i).f2) := by
  have hl := TF_len h
  unfold TF at h
  rw [if_neg (by omega)] at h
  have ht := TFs_ok L [] h i hi
  rw [List.nil_append] at ht
  generalize rd_T36 L (i : Int) = x at ht ⊢
  have hlen : (L.take i).length = i := by rw [List.length_take]; omega
  unfold tfault at ht
  split at ht
  rotate_left
  · cases ht
  rename_i hop
  split at ht
  · rename_i h12
    split at ht
    · rename_i hz
      split at ht
      · rename_i hn
        exact .inl ⟨h12, hz.1, hz.2, hn⟩
      · cases ht
    · cases ht
  rename_i h12
  split at ht
  · rename_i h6
    split at ht
    · rename_i hz
      split at ht
      · cases ht
      · rename_i hin
        split at ht
        · cases ht
        · rename_i hf
          simp only [List.any_cons, List.any_nil, Bool.or_false, Bool.not_eq_true] at hin hf
          have e1 := (notIn_iff _ _).1 hin
          rw [hlen] at e1
          unfold notFresh at hf
          rw [rd_take e1.1 e1.2] at hf
          exact .inr (.inl ⟨h6, hz.1, hz.2, e1, by simpa using hf⟩)
    · cases ht
  rename_i h6
  split at ht
  · rename_i hz
    split at ht
    · cases ht
    · rename_i hin
      simp only [List.any_cons, List.any_nil, Bool.or_false, Bool.or_eq_true, not_or, Bool.not_eq_true] at hin
      have e1 := (notIn_iff _ _).1 hin.1
      have e2 := (notIn_iff _ _).1 hin.2
      rw [hlen] at e1 e2
      refine .inr (.inr ⟨by omega, hz, e1, e2, fun h7 => ?_⟩)
      rw [if_pos h7] at ht
      split at ht
      · cases ht
      · rename_i hf
        simp only [List.any_cons, List.any_nil, Bool.or_false, Bool.or_eq_true, not_or, Bool.not_eq_true] at hf
        unfold notFresh at hf
        rw [rd_take e1.1 e1.2, rd_take e2.1 e2.2] at hf
        exact ⟨by simpa using hf.1.1, by simpa using hf.1.2, by omega⟩
  · cases ht
end Go.Proofs.Ytpabeajjbifjdaa.Pure
set_option linter.unusedVariables false
namespace Go.Proofs.Ytpabeajjbifjdaa.Pure
open Go.RowKit Go.Proofs.Ytpabeajjbifjdaa.G Go.Proofs.YtpabeajjbifjdaaW.PrintWords
def idxFrom : Int → List Bool → List Int
  | _, [] => []
  | s, b :: bs => if b = true then s :: idxFrom (s + 1) bs else idxFrom (s + 1) bs
end Go.Proofs.Ytpabeajjbifjdaa.Pure
set_option linter.unusedVariables false
set_option linter.unusedSimpArgs false
namespace Go.Proofs.Ytpabeajjbifjdaa.Pure
open Go.RowKit Go.Proofs.Ytpabeajjbifjdaa.G Go.Proofs.YtpabeajjbifjdaaW.PrintWords Go.Proofs.YtpabeajjbifjdaaW.PrintLast
def bit (F : List Bool) (i : Nat) : Bool := F.getD i false
def Le (F G : List Bool) : Prop := ∀ i, bit F i = true → bit G i = true
theorem Le.refl (F : List Bool) : Le F F := fun _ h => h
theorem Le.trans {F G H : List Bool} (h : Le F G) (k : Le G H) : Le F H := fun i hi => k i (h i hi)
theorem bit_set (F : List Bool) (i j : Nat) (h : i < F.length) (b : Bool) : bit (F.set i b) j = if i = j then b else bit F j := by
  unfold bit
  simp only [List.getD, List.getElem?_set]
  by_cases e : i = j
  · subst e; rw [if_pos rfl, if_pos rfl, if_pos h]; rfl
  · rw [if_neg e, if_neg e]
theorem le_set (F : List Bool) (i : Nat) (h : i < F.length) : Le F (F.set i true) := fun j hj => by
  rw [bit_set F i j h]
  split
  · rfl
  · exact hj
theorem bit_lt {F : List Bool} {i : Nat} (h : bit F i = true) : i < F.length := by
  unfold bit at h
  by_cases hi : i < F.length
  · exact hi
  · simp [List.getD, List.getElem?_eq_none (show F.length ≤ i by omega)] at h
theorem bits_ext {F G : List Bool} (hl : F.length = G.length) (h : ∀ i, i < F.length → bit F i = bit G i) : F = G := by
  apply List.ext_getElem hl
  intro i h1 h2
  have := h i h1
  simpa [bit, List.getD, h1, h2] using this
theorem le_anti {F G : List Bool} (hl : F.length = G.length) (h : Le F G) (k : Le G F) : F = G := by
  refine bits_ext hl (fun i _ => ?_)
  cases hF : bit F i <;> cases hG : bit G i
  · rfl
  · rw [k i hG] at hF; cases hF
  · rw [h i hF] at hG; cases hG
  · rfl
theorem le_cons {a b : Bool} {F G : List Bool} (h : Le (a :: F) (b :: G)) : (a = true → b = true) ∧ Le F G :=
  ⟨fun ha => by have := h 0; simp only [bit, List.getD_cons_zero] at this; exact this ha, fun i hi => by have := h (i + 1); simp only [bit, List.getD_cons_succ] at this; exact this hi⟩
theorem le_count : ∀ (F G : List Bool), F.length = G.length → Le F G → F.count true ≤ G.count true ∧ (F.count true = G.count true → F = G)
  | [], [], _, _ => ⟨Nat.le_refl _, fun _ => rfl⟩
  | [], _ :: _, h, _ => by simp at h
  | _ :: _, [], h, _ => by simp at h
  | a :: F, b :: G, hl, h => by
    obtain ⟨h1, h2⟩ := le_cons h
    obtain ⟨h3, h4⟩ := le_count F G (by simpa using hl) h2
    cases a <;> cases b <;> simp only [List.count_cons] <;> simp
    · exact ⟨h3, fun e => h4 e⟩
    · exact ⟨by omega, fun e => by omega⟩
    · exact absurd (h1 rfl) (by simp)
    · exact ⟨h3, fun e => h4 e⟩
theorem idx_count : ∀ (F : List Bool) (s : Int), (idxFrom s F).length = F.count true
  | [], s => rfl
  | b :: bs, s => by
    unfold idxFrom
    cases b <;> simp [idx_count bs (s + 1)]
theorem idx_mem : ∀ (F : List Bool) (s : Int) (y : Int), y ∈ idxFrom s F ↔ (s ≤ y ∧ bit F (y - s).toNat = true)
  | [], s, y => by simp [idxFrom, bit]
  | b :: bs, s, y => by
    have ih := idx_mem bs (s + 1) y
    have e : s + 1 ≤ y → bit (b :: bs) (y - s).toNat = bit bs (y - (s + 1)).toNat := fun h => by
      rw [show (y - s).toNat = (y - (s + 1)).toNat + 1 by omega]
      simp [bit]
    have e0 : bit (b :: bs) (s - s).toNat = b := by simp [bit]
    unfold idxFrom
    split
    · rename_i hb
      rw [List.mem_cons, ih]
      constructor
      · rintro (rfl | ⟨h1, h2⟩)
        · exact ⟨by omega, by rw [e0]; exact hb⟩
        · exact ⟨by omega, by rw [e h1]; exact h2⟩
      · rintro ⟨h1, h2⟩
        by_cases hy : y = s
        · exact .inl hy
        · exact .inr ⟨by omega, by rw [← e (by omega)]; exact h2⟩
    · rename_i hb
      rw [ih]
      constructor
      · rintro ⟨h1, h2⟩
        exact ⟨by omega, by rw [e h1]; exact h2⟩
      · rintro ⟨h1, h2⟩
        by_cases hy : y = s
        · subst hy; rw [e0] at h2; exact absurd h2 hb
        · exact ⟨by omega, by rw [← e (by omega)]; exact h2⟩
theorem idx0_mem (F : List Bool) (y : Int) : y ∈ idxFrom 0 F ↔ (0 ≤ y ∧ bit F y.toNat = true) := by have := idx_mem F 0 y; rwa [show y - 0 = y by omega] at this
theorem idx_fold : ∀ (F : List Bool) (pre : List Bool), (idxFrom (pre.length : Int) F).foldl (fun G x => G.set x.toNat true) (pre ++ List.replicate F.length false) = pre ++ F
  | [], pre => by simp [idxFrom]
  | b :: bs, pre => by
    have ih := idx_fold bs (pre ++ [b])
    rw [List.length_append, List.append_assoc, List.append_assoc] at ih
    rw [show ((pre.length + [b].length : Nat) : Int) = (pre.length : Int) + 1 by simp] at ih
    unfold idxFrom
    cases b with
    | true =>
      rw [if_pos rfl, List.foldl_cons]
      have : (pre ++ List.replicate (true :: bs).length false).set ((pre.length : Int)).toNat true = pre ++ ([true] ++ List.replicate bs.length false) := by
        rw [List.length_cons, List.replicate_succ, Int.toNat_natCast]; simp
      rw [this]; exact ih
    | false =>
      rw [if_neg (by decide)]
      exact ih
theorem idx_fold0 (F : List Bool) : (idxFrom 0 F).foldl (fun G x => G.set x.toNat true) (List.replicate F.length false) = F := idx_fold F []
theorem rd_dropI (l : List Int) (i : Nat) (h : i < l.length) : l.drop i = rd l (i : Int) :: l.drop (i + 1) := by
  rw [List.drop_eq_getElem_cons h]
  simp [rd, List.getD, List.getElem?_eq_getElem h]
theorem ob_bit (F : List Bool) (x : Int) : ob F x = bit F x.toNat := rfl
theorem mkHs_iff (L : List S36) (F : List Bool) (x : Int) : ∀ m, mkHs L F m x = true ↔ ∃ i, i < m ∧ (rd_T36 L (i : Int)).f0 = 6 ∧ bit F i = true ∧ (rd_T36 L (i : Int)).f1 = x
  | 0 => by simp [mkHs]
  | m + 1 => by
    have ih := mkHs_iff L F x m
    unfold mkHs
    by_cases hc : (rd_T36 L (m : Int)).f0 = 6 ∧ F.getD m false = true
    · rw [if_pos hc]
      unfold bput
      by_cases hx : x = (rd_T36 L (m : Int)).f1
      · rw [if_pos hx]
        exact ⟨fun _ => ⟨m, by omega, hc.1, hc.2, hx.symm⟩, fun _ => rfl⟩
      · rw [if_neg hx, ih]
        constructor
        · rintro ⟨i, h1, h2⟩; exact ⟨i, by omega, h2⟩
        · rintro ⟨i, h1, h2, h3, h4⟩
          by_cases hi : i = m
          · subst hi; exact absurd h4.symm hx
          · exact ⟨i, by omega, h2, h3, h4⟩
    · rw [if_neg hc, ih]
      constructor
      · rintro ⟨i, h1, h2⟩; exact ⟨i, by omega, h2⟩
      · rintro ⟨i, h1, h2, h3, h4⟩
        by_cases hi : i = m
        · subst hi; exact absurd ⟨h2, h3⟩ hc
        · exact ⟨i, by omega, h2, h3, h4⟩
def wayV (C : List Bool) (H : Int → Bool) (t : S36) : Bool := if t.f0 = 1 then true else if t.f0 = 3 ∨ t.f0 = 4 ∨ t.f0 = 5 then (ob C t.f1 && ob C t.f2) else if t.f0 = 6 then ob C t.f1 else if t.f0 = 7 then ((ob C t.f1 && (ob C t.f2 || H t.f2)) || (ob C t.f2 && H t.f1)) else false
theorem mkO_keep (L : List S36) (F : List Bool) (H : Int → Bool) (j : Nat) : ∀ d, j + 1 + d ≤ L.length → bit (mkO L F H (j + 1 + d)) j = bit (mkO L F H (j + 1)) j
  | 0, _ => rfl
  | d + 1, hd => by
    rw [show j + 1 + (d + 1) = (j + 1 + d) + 1 by omega, mkO, bit_set _ _ _ (by rw [mkO_length]; omega), if_neg (by omega)]
    exact mkO_keep L F H j d (by omega)
theorem mkO_new (L : List S36) (F : List Bool) (H : Int → Bool) (j : Nat) : ∀ i, i ≤ j → i ≤ L.length → bit (mkO L F H i) j = false
  | 0, _, _ => by
    unfold mkO bit
    by_cases hj : j < L.length
    · simp [List.getD, hj]
    · simp [List.getD, List.getElem?_eq_none (show (List.replicate L.length false).length ≤ j by simp; omega)]
  | i + 1, h, hl => by
    rw [mkO, bit_set _ _ _ (by rw [mkO_length]; omega), if_neg (by omega)]
    exact mkO_new L F H j i (by omega) (by omega)
theorem opC_at {L : List S36} (h : TF L = 0) (F : List Bool) (i : Nat) (hi : i < L.length) : bit (opC L F) i = (wayV (opC L F) (mkHs L F L.length) (rd_T36 L (i : Int)) || bit F i) := by
  obtain ⟨H, hH⟩ : ∃ H, H = mkHs L F L.length := ⟨_, rfl⟩
  unfold opC
  rw [← hH]
  have key : ∀ x : Int, 0 ≤ x → x < (i : Int) → ob (mkO L F H i) x = ob (mkO L F H L.length) x := fun x h0 h1 => by
    rw [ob_bit, ob_bit]
    have e1 := mkO_keep L F H x.toNat (i - (x.toNat + 1)) (by omega)
    have e2 := mkO_keep L F H x.toNat (L.length - (x.toNat + 1)) (by omega)
    rw [show x.toNat + 1 + (i - (x.toNat + 1)) = i by omega] at e1
    rw [show x.toNat + 1 + (L.length - (x.toNat + 1)) = L.length by omega] at e2
    rw [e1, e2]
  have e3 := mkO_keep L F H i (L.length - (i + 1)) (by omega)
  rw [show i + 1 + (L.length - (i + 1)) = L.length by omega] at e3
  rw [e3, mkO, bit_set _ _ _ (by rw [mkO_length]; exact hi), if_pos rfl]
  congr 1
  have hn := node_ok h i hi
  have hnew := mkO_new L F H i i (Nat.le_refl _) (by omega)
  unfold mkB wayV
  generalize rd_T36 L (i : Int) = t at hn ⊢
  dsimp only
  rcases hn with ⟨h12, _⟩ | ⟨h6, _, _, ⟨a0, a1⟩, _⟩ | ⟨h3, _, ⟨a0, a1⟩, ⟨b0, b1⟩, _⟩
  · by_cases h1 : t.f0 = 1
    · rw [if_pos h1, if_pos h1]
    · rw [if_neg h1, if_neg (by omega), if_neg (by omega), if_neg (by omega), if_neg h1, if_neg (by omega), if_neg (by omega), if_neg (by omega)]
      exact hnew
  · rw [if_neg (by omega), if_neg (by omega), if_pos h6, if_neg (by omega), if_neg (by omega), if_pos h6, key _ a0 a1]
  · by_cases h7 : t.f0 = 7
    · rw [if_neg (by omega), if_neg (by omega), if_neg (by omega), if_pos h7, if_neg (by omega), if_neg (by omega), if_neg (by omega), if_pos h7, key _ a0 a1, key _ b0 b1]
    · rw [if_neg (by omega), if_pos (by omega), if_neg (by omega), if_pos (by omega), key _ a0 a1, key _ b0 b1]
theorem wayV_mono {L : List S36} {C D : List Bool} {H K : Int → Bool} {t : S36} (h1 : ob C t.f1 = true → ob D t.f1 = true) (h2 : ob C t.f2 = true → ob D t.f2 = true) (hH : ∀ x, H x = true → K x = true) (h : wayV C H t = true) : wayV D K t = true := by
  unfold wayV at h ⊢
  split
  · rfl
  · rename_i n1
    rw [if_neg n1] at h
    split
    · rename_i p3
      rw [if_pos p3] at h
      simp only [Bool.and_eq_true] at h ⊢
      exact ⟨h1 h.1, h2 h.2⟩
    · rename_i n3
      rw [if_neg n3] at h
      split
      · rename_i p6
        rw [if_pos p6] at h
        exact h1 h
      · rename_i n6
        rw [if_neg n6] at h
        split
        · rename_i p7
          rw [if_pos p7] at h
          simp only [Bool.or_eq_true, Bool.and_eq_true] at h ⊢
          rcases h with ⟨a, b | b⟩ | ⟨a, b⟩
          · exact .inl ⟨h1 a, .inl (h2 b)⟩
          · exact .inl ⟨h1 a, .inr (hH _ b)⟩
          · exact .inr ⟨h2 a, hH _ b⟩
        · rename_i n7
          rw [if_neg n7] at h
          exact h
theorem opC_mono {L : List S36} (h : TF L = 0) {F G : List Bool} (hl : Le F G) : Le (opC L F) (opC L G) := by
  have hH : ∀ x, mkHs L F L.length x = true → mkHs L G L.length x = true := fun x hx => by
    obtain ⟨i, a, b, c, d⟩ := (mkHs_iff L F x L.length).1 hx
    exact (mkHs_iff L G x L.length).2 ⟨i, a, b, hl i c, d⟩
  intro i
  induction i using Nat.strongRecOn with
  | _ i ih =>
    intro hi
    have hlt : i < L.length := by have := bit_lt hi; rwa [opC_length] at this
    rw [opC_at h F i hlt, Bool.or_eq_true] at hi
    rw [opC_at h G i hlt, Bool.or_eq_true]
    rcases hi with hi | hi
    · refine .inl ?_
      have hn := node_ok h i hlt
      generalize rd_T36 L (i : Int) = t at hn hi ⊢
      have kid : ∀ x : Int, 0 ≤ x → x < (i : Int) → ob (opC L F) x = true → ob (opC L G) x = true := fun x h0 h1 hx => ih x.toNat (by omega) hx
      rcases hn with ⟨h12, e1, e2, _⟩ | ⟨h6, e2, _, ⟨a0, a1⟩, _⟩ | ⟨h3, _, ⟨a0, a1⟩, ⟨b0, b1⟩, _⟩
      · unfold wayV at hi ⊢
        by_cases h1 : t.f0 = 1
        · rw [if_pos h1]
        · rw [if_neg h1, if_neg (by omega), if_neg (by omega), if_neg (by omega)] at hi; cases hi
      · unfold wayV at hi ⊢
        rw [if_neg (by omega), if_neg (by omega), if_pos h6] at hi ⊢
        exact kid _ a0 a1 hi
      · exact wayV_mono (L := L) (kid _ a0 a1) (kid _ b0 b1) hH hi
    · exact .inr (hl i hi)
def Clo (L : List S36) (D : List Bool) : Prop := ∀ i, i < L.length → bit D i = true → ((rd_T36 L (i : Int)).f0 = 3 → bit D (rd_T36 L (i : Int)).f1.toNat = true ∧ bit D (rd_T36 L (i : Int)).f2.toNat = true) ∧ ((rd_T36 L (i : Int)).f0 = 5 → ob (opC L D) (rd_T36 L (i : Int)).f1 = true → bit D (rd_T36 L (i : Int)).f2.toNat = true)
structure Rnd (L : List S36) (f : List Bool → List Bool) : Prop where
  len : ∀ F, F.length = L.length → (f F).length = L.length
  ge : ∀ F, F.length = L.length → Le F (f F)
  le : ∀ F D, F.length = L.length → D.length = L.length → Clo L D → Le F D → Le (f F) D
  clo : ∀ F, F.length = L.length → f F = F → Clo L F
inductive Reach (f : List Bool → List Bool) : List Bool → List Bool → Prop
  | stop {F : List Bool} : f F = F → Reach f F F
  | go {F X : List Bool} : f F ≠ F → Reach f (f F) X → Reach f F X
theorem reach_ex {L : List S36} {f : List Bool → List Bool} (hf : Rnd L f) : ∀ (m : Nat) (F : List Bool), F.length = L.length → L.length - F.count true ≤ m → ∃ X, Reach f F X
  | m, F, hF, hm => by
    by_cases e : f F = F
    · exact ⟨F, .stop e⟩
    · obtain ⟨c1, c2⟩ := le_count F (f F) (by rw [hf.len F hF, hF]) (hf.ge F hF)
      have c3 : F.count true ≠ (f F).count true := fun h => e (c2 h).symm
      have c4 : (f F).count true ≤ (f F).length := List.count_le_length
      rw [hf.len F hF] at c4
      cases m with
      | zero => omega
      | succ m =>
        obtain ⟨X, hX⟩ := reach_ex hf m (f F) (hf.len F hF) (by omega)
        exact ⟨X, .go e hX⟩
theorem Reach.props {L : List S36} {f : List Bool → List Bool} (hf : Rnd L f) {F X : List Bool} (h : Reach f F X) : F.length = L.length → X.length = L.length ∧ Le F X ∧ Clo L X ∧ ∀ D, D.length = L.length → Clo L D → Le F D → Le X D := by
  induction h with
  | stop e => exact fun hF => ⟨hF, Le.refl _, hf.clo _ hF e, fun D _ _ h => h⟩
  | go e _ ih =>
    intro hF
    obtain ⟨h1, h2, h3, h4⟩ := ih (hf.len _ hF)
    exact ⟨h1, (hf.ge _ hF).trans h2, h3, fun D hD hc hl => h4 D hD hc (hf.le _ D hF hD hc hl)⟩
theorem opT_ge {L : List S36} (h : TF L = 0) (C F : List Bool) (hF : F.length = L.length) (i : Nat) (hi : i < L.length) : Le F (opT C F i (rd_T36 L (i : Int))) := by
  have hn := node_ok h i hi
  generalize rd_T36 L (i : Int) = t at hn ⊢
  unfold opT
  split
  · split
    · rename_i h3
      have : (0 ≤ t.f1 ∧ t.f1 < (i : Int)) ∧ 0 ≤ t.f2 ∧ t.f2 < (i : Int) := by omega
      exact (le_set F _ (by omega)).trans (le_set _ _ (by rw [List.length_set]; omega))
    · split
      · rename_i h5
        have : (0 ≤ t.f1 ∧ t.f1 < (i : Int)) ∧ 0 ≤ t.f2 ∧ t.f2 < (i : Int) := by omega
        exact le_set F _ (by omega)
      · exact Le.refl _
  · exact Le.refl _
theorem opT_le {L : List S36} (h : TF L = 0) {C F D : List Bool} (hF : F.length = L.length) (hc : Clo L D) (hC : Le C (opC L D)) (hl : Le F D) (i : Nat) (hi : i < L.length) : Le (opT C F i (rd_T36 L (i : Int))) D := by
  have hn := node_ok h i hi
  have hci := hc i hi
  generalize rd_T36 L (i : Int) = t at hn hci ⊢
  unfold opT
  split
  · rename_i hb
    obtain ⟨k3, k5⟩ := hci (hl i hb)
    split
    · rename_i h3
      obtain ⟨a, b⟩ := k3 h3
      have : (0 ≤ t.f1 ∧ t.f1 < (i : Int)) ∧ 0 ≤ t.f2 ∧ t.f2 < (i : Int) := by omega
      intro j hj
      rw [bit_set _ _ _ (by rw [List.length_set]; omega)] at hj
      split at hj
      · rename_i e; rw [← e]; exact b
      · rw [bit_set _ _ _ (by omega)] at hj
        split at hj
        · rename_i e; rw [← e]; exact a
        · exact hl j hj
    · split
      · rename_i h5
        have : (0 ≤ t.f1 ∧ t.f1 < (i : Int)) ∧ 0 ≤ t.f2 ∧ t.f2 < (i : Int) := by omega
        have b := k5 h5.1 (hC _ h5.2)
        intro j hj
        rw [bit_set _ _ _ (by omega)] at hj
        split at hj
        · rename_i e; rw [← e]; exact b
        · exact hl j hj
      · exact hl
  · exact hl
theorem opT_clo {L : List S36} (h : TF L = 0) {C F : List Bool} (hF : F.length = L.length) (i : Nat) (hi : i < L.length) (he : opT C F i (rd_T36 L (i : Int)) = F) (hb : bit F i = true) : ((rd_T36 L (i : Int)).f0 = 3 → bit F (rd_T36 L (i : Int)).f1.toNat = true ∧ bit F (rd_T36 L (i : Int)).f2.toNat = true) ∧ ((rd_T36 L (i : Int)).f0 = 5 → ob C (rd_T36 L (i : Int)).f1 = true → bit F (rd_T36 L (i : Int)).f2.toNat = true) := by
  have hn := node_ok h i hi
  generalize rd_T36 L (i : Int) = t at hn he ⊢
  unfold opT at he
  rw [if_pos (show F.getD i false = true from hb)] at he
  constructor
  · intro h3
    rw [if_pos h3] at he
    have : (0 ≤ t.f1 ∧ t.f1 < (i : Int)) ∧ 0 ≤ t.f2 ∧ t.f2 < (i : Int) := by omega
    constructor
    · rw [← he, bit_set _ _ _ (by rw [List.length_set]; omega)]
      split
      · rfl
      · rw [bit_set _ _ _ (by omega), if_pos rfl]
    · rw [← he, bit_set _ _ _ (by rw [List.length_set]; omega), if_pos rfl]
  · intro h5 hk
    rw [if_neg (by omega), if_pos ⟨h5, hk⟩] at he
    have : (0 ≤ t.f1 ∧ t.f1 < (i : Int)) ∧ 0 ≤ t.f2 ∧ t.f2 < (i : Int) := by omega
    rw [← he, bit_set _ _ _ (by omega), if_pos rfl]
theorem fold_ge {L : List S36} (h : TF L = 0) (C : List Bool) : ∀ (ps : List Nat) (F : List Bool), F.length = L.length → (∀ p ∈ ps, p < L.length) → Le F (ps.foldl (fun F p => opT C F p (rd_T36 L (p : Int))) F)
  | [], F, _, _ => Le.refl _
  | p :: ps, F, hF, hp => (opT_ge h C F hF p (hp p List.mem_cons_self)).trans (fold_ge h C ps _ (by rw [opT_length]; exact hF) (fun q hq => hp q (List.mem_cons_of_mem _ hq)))
theorem fold_le {L : List S36} (h : TF L = 0) {C D : List Bool} (hc : Clo L D) (hC : Le C (opC L D)) : ∀ (ps : List Nat) (F : List Bool), F.length = L.length → (∀ p ∈ ps, p < L.length) → Le F D → Le (ps.foldl (fun F p => opT C F p (rd_T36 L (p : Int))) F) D
  | [], F, _, _, hl => hl
  | p :: ps, F, hF, hp, hl => fold_le h hc hC ps _ (by rw [opT_length]; exact hF) (fun q hq => hp q (List.mem_cons_of_mem _ hq)) (opT_le h hF hc hC hl p (hp p List.mem_cons_self))
theorem fold_len {L : List S36} (C : List Bool) : ∀ (ps : List Nat) (F : List Bool), (ps.foldl (fun F p => opT C F p (rd_T36 L (p : Int))) F).length = F.length
  | [], F => rfl
  | p :: ps, F => by rw [List.foldl_cons, fold_len C ps, opT_length]
theorem fold_fix {L : List S36} (h : TF L = 0) (C : List Bool) : ∀ (ps : List Nat) (F : List Bool), F.length = L.length → (∀ p ∈ ps, p < L.length) → ps.foldl (fun F p => opT C F p (rd_T36 L (p : Int))) F = F → ∀ p ∈ ps, opT C F p (rd_T36 L (p : Int)) = F
  | [], F, _, _, _, p, hp => by cases hp
  | q :: ps, F, hF, hp, he, p, hm => by
    rw [List.foldl_cons] at he
    have g1 := opT_ge h C F hF q (hp q List.mem_cons_self)
    have l1 : (opT C F q (rd_T36 L (q : Int))).length = L.length := by rw [opT_length]; exact hF
    have g2 := fold_ge h C ps _ l1 (fun q hq => hp q (List.mem_cons_of_mem _ hq))
    rw [he] at g2
    have e1 : opT C F q (rd_T36 L (q : Int)) = F := le_anti (by rw [opT_length]) g2 g1
    rcases List.mem_cons.1 hm with rfl | hm
    · exact e1
    · rw [e1] at he
      exact fold_fix h C ps F hF (fun q hq => hp q (List.mem_cons_of_mem _ hq)) he p hm
theorem rnd_of {L : List S36} (h : TF L = 0) (ps : List Bool → List Nat) (h1 : ∀ F, F.length = L.length → ∀ p ∈ ps F, p < L.length) (h2 : ∀ F, F.length = L.length → ∀ i, bit F i = true → i ∈ ps F) : Rnd L (fun F => (ps F).foldl (fun G p => opT (opC L F) G p (rd_T36 L (p : Int))) F) where
  len F hF := by rw [fold_len]; exact hF
  ge F hF := fold_ge h _ _ F hF (h1 F hF)
  le F D hF hD hc hl := fold_le h hc (opC_mono h hl) _ F hF (h1 F hF) hl
  clo F hF he := fun i hi hb => opT_clo h hF i hi (fold_fix h _ _ F hF (h1 F hF) he i (h2 F hF i hb)) hb
def psI (L : List S36) : List Nat := (List.range L.length).map fun j => L.length - 1 - j
def rdI (L : List S36) (F : List Bool) : List Bool := (psI L).foldl (fun G p => opT (opC L F) G p (rd_T36 L (p : Int))) F
theorem rdI_eq (L : List S36) (F : List Bool) : opRnd L F = rdI L F := by
  unfold opRnd rdI psI
  rw [List.foldl_map]
  rfl
theorem rndI {L : List S36} (h : TF L = 0) : Rnd L (rdI L) := rnd_of h (fun _ => psI L) (fun F hF p hp => by
  unfold psI at hp
  obtain ⟨j, hj, rfl⟩ := List.mem_map.1 hp
  have := List.mem_range.1 hj
  omega) (fun F hF i hi => by
  have := bit_lt hi
  exact List.mem_map.2 ⟨L.length - 1 - i, List.mem_range.2 (by omega), by omega⟩)
theorem opL_ev {L : List S36} {F X : List Bool} (hr : Reach (rdI L) F X) : Ev (fun k => opL L k F) X := by
  induction hr with
  | stop e =>
    refine ev_succ ?_
    simp only [opL, rdI_eq, e, if_true]
    exact Ev.now _
  | @go F X e _ ih =>
    refine ev_succ ?_
    simp only [opL, rdI_eq, if_neg (show ¬ F = rdI L F from fun h => e h.symm)]
    exact ih
theorem idx_len (F : List Bool) : (idxFrom 0 F).length ≤ F.length := by rw [idx_count]; exact List.count_le_length
theorem flags_fold (L : List S36) (l : List Int) (hl : l.length ≤ 400) (hm : ∀ x ∈ l, 0 ≤ x ∧ x < (L.length : Int)) (d : Nat) : ∀ (i : Nat) (F : List Bool), i + d = l.length → F.length = L.length → Ev (fun k => impl_flags.l0 k F l (l.length : Int) i) ((l.drop i).foldl (fun G x => G.set x.toNat true) F) := by
  induction d with
  | zero =>
    intro i F hi hF
    refine ev_succ ?_
    rw [List.drop_eq_nil_of_le (by omega)]
    simp only [impl_flags.l0, show ¬ (i : Int) < (l.length : Int) by omega, if_false]; exact Ev.now _
  | succ d ih =>
    intro i F hi hF
    refine ev_succ ?_
    rw [rd_dropI l i (by omega), List.foldl_cons]
    obtain ⟨h0, h1⟩ := hm (rd l (i : Int)) (by
      have : rd l (i : Int) = l[i]'(by omega) := by simp [rd, List.getD, List.getElem?_eq_getElem (show i < l.length by omega)]
      rw [this]; exact List.getElem_mem _)
    simp only [impl_flags.l0, show (i : Int) < (l.length : Int) by omega, show 0 ≤ (i : Int) by omega, if_true, if_pos h0, show rd l (i : Int) < (F.length : Int) by omega, show wrap64 ((i : Int) + 1) = ((i + 1 : Nat) : Int) by rw [w64' (by omega) (by omega)]; omega]
    exact ih (i + 1) _ (by omega) (by simpa using hF)
theorem flags_idx (L : List S36) (hL : L.length ≤ 400) (F : List Bool) (hF : F.length = L.length) : Ev (fun k => impl_flags.f k L (idxFrom 0 F)) F := by
  have hi := idx_len F
  unfold impl_flags.f
  simp only [show 0 ≤ (L.length : Int) by omega, if_true, Int.toNat_natCast, show L.length ≤ 281474976710656 by omega]
  have := flags_fold L (idxFrom 0 F) (by omega) (fun x hx => by
    obtain ⟨h0, h1⟩ := (idx0_mem F x).1 hx
    have := bit_lt h1
    omega) (idxFrom 0 F).length 0 (List.replicate L.length false) (by omega) List.length_replicate
  rw [List.drop_zero, ← hF, idx_fold0] at this
  rwa [← hF]
theorem mkOk_of {L : List S36} (h : TF L = 0) : mkOk L = true := by
  unfold mkOk
  refine List.all_eq_true.2 (fun i hi => ?_)
  have hi := List.mem_range.1 hi
  have hn := node_ok h i hi
  generalize rd_T36 L (i : Int) = t at hn ⊢
  unfold mkIn
  simp only [Bool.or_eq_true, Bool.and_eq_true, decide_eq_true_eq]
  omega
theorem opened_ev {L : List S36} (h : TF L = 0) {F X : List Bool} (hF : F.length = L.length) (hX : Ev (fun k => opL L k F) X) : Ev (fun k => impl_opened.f k L (idxFrom 0 F)) X := by
  have hL := TF_len h
  unfold impl_opened.f
  refine Ev.bind (flags_idx L hL F hF) ?_
  simp only [if_pos (show F.length = L.length ∧ mkOk L = true ∧ L.length ≤ 400 from ⟨hF, mkOk_of h, hL⟩)]
  exact hX
theorem makeable_some {L : List S36} (h : TF L = 0) (X : List Bool) (hX : X.length = L.length) : impl_makeable.f L X = some (opC L X) := by
  unfold impl_makeable.f
  rw [if_pos ⟨hX, mkOk_of h, TF_len h⟩]
  rfl
theorem rd_drop (F : List Bool) (i : Nat) (h : i < F.length) : F.drop i = rdOf false F (i : Int) :: F.drop (i + 1) := by
  rw [List.drop_eq_getElem_cons h]
  simp [rdOf, List.getD, List.getElem?_eq_getElem h]
theorem risen_l0 (F : List Bool) (hF : F.length ≤ 100000) (d : Nat) : ∀ (i : Nat) (out : List Int), i + d = F.length → out.length ≤ i → Ev (fun k => impl_risen.l0 k out F (F.length : Int) i) (out ++ idxFrom i (F.drop i)) := by
  induction d with
  | zero =>
    intro i out hi ho
    refine ev_succ ?_
    have e : F.drop i = [] := List.drop_eq_nil_of_le (by omega)
    simp only [impl_risen.l0, show ¬ (i : Int) < (F.length : Int) by omega, if_false, e, idxFrom, List.append_nil]; exact Ev.now _
  | succ d ih =>
    intro i out hi ho
    refine ev_succ ?_
    rw [rd_drop F i (by omega)]
    simp only [impl_risen.l0, show (i : Int) < (F.length : Int) by omega, show 0 ≤ (i : Int) by omega, if_true, show out.length < 17592186044416 by omega, show wrap64 ((i : Int) + 1) = ((i + 1 : Nat) : Int) by rw [w64' (by omega) (by omega)]; omega]
    rw [idxFrom, show (i : Int) + 1 = ((i + 1 : Nat) : Int) by push_cast; rfl]
    by_cases h : rdOf false F (i : Int) = true
    · simp only [if_pos h]
      have := ih (i + 1) (out ++ [(i : Int)]) (by omega) (by simp; omega)
      rwa [List.append_assoc] at this
    · simp only [if_neg h]; exact ih (i + 1) out (by omega) (by omega)
theorem risen_ev (F : List Bool) (hF : F.length ≤ 100000) : Ev (fun k => impl_risen.f k F) (idxFrom 0 F) := by
  have := risen_l0 F hF F.length 0 [] (by omega) (Nat.le_refl _)
  show Ev (fun k => impl_risen.l0 k [] F (F.length : Int) 0) (idxFrom 0 F)
  simpa using this
end Go.Proofs.Ytpabeajjbifjdaa.Pure
set_option linter.unusedVariables false
set_option linter.unusedSimpArgs false
namespace Go.Proofs.Ytpabeajjbifjdaa.Pure
open Go.RowKit Go.Proofs.Ytpabeajjbifjdaa.G Go.Proofs.YtpabeajjbifjdaaW.PrintWords Go.Proofs.YtpabeajjbifjdaaW.PrintLast Go.Proofs.YtpabeajjbifjdaaW.PrintMore
theorem draw_keys (c : List Int) (hb : ∀ x ∈ c, 0 ≤ x ∧ x ≤ 255) (hl : c.length ≤ 1048576) : ∃ (L : List S36) (a1 a2 a3 a4 a5 a6 : Int), BL L ∧ L.length ≤ 401 ∧ Ev (fun k => spec_DrawMakeKeys.f k c) (L, a1, a2, a3, a4, a5, a6) := by
  obtain ⟨L, s, e0, hL, h4, s0, s1⟩ := bent_ok c hb hl 0 (by omega) (by omega)
  obtain ⟨a, s2, e1, q0, q1⟩ := l9op_ok c hb hl L h4 2 s (by omega) (by omega)
  obtain ⟨b, s3, e2, q2, q3⟩ := l9op_ok c hb hl L h4 6 s2 (by omega) (by omega)
  obtain ⟨x, e3, x0, x1⟩ := next_ok c hb hl s3 (max 1 (L.length : Int)) (by omega) (by omega) (by omega)
  obtain ⟨y, e4, y0, y1⟩ := next_ok c hb hl (s3 + 1) (max 1 (L.length : Int)) (by omega) (by omega) (by omega)
  obtain ⟨v, hv, e5⟩ := pick_ok c hb hl (s3 + 1 + 1) [100, 5, 9999, 10000] (by omega) (by omega) (by simp)
  obtain ⟨u, hu, e6⟩ := pick_ok c hb hl (s3 + 1 + 1 + 1) [200, 0, 7, -1] (by omega) (by omega) (by simp)
  refine ⟨L, x, y, a, b, v, u, hL, h4, ?_⟩
  unfold spec_DrawMakeKeys.f spec_l1Source.f
  simp only [Option.bind_some]
  refine Ev.bind e0 ?_
  simp only [max_ok, Option.bind_some]
  refine Ev.bind e1 (Ev.bind e2 ?_)
  simp only [e3, e4, e5, e6, Option.bind_some]; exact Ev.now _
theorem idx_off : ∀ (F : List Bool) (s : Int), (∀ j, bit F j = false) → idxFrom s F = []
  | [], s, _ => rfl
  | b :: bs, s, h => by
    have hb : b = false := h 0
    subst hb
    unfold idxFrom
    rw [if_neg (by decide)]
    exact idx_off bs (s + 1) (fun j => h (j + 1))
theorem idx_snoc : ∀ (F : List Bool) (s : Int) (i : Nat), i < F.length → (∀ j, i ≤ j → bit F j = false) → idxFrom s (F.set i true) = idxFrom s F ++ [s + i]
  | [], s, i, hi, _ => by simp at hi
  | b :: bs, s, 0, _, h => by
    have hb : b = false := h 0 (Nat.le_refl _)
    subst hb
    have e := idx_off bs (s + 1) (fun j => h (j + 1) (by omega))
    show idxFrom s (true :: bs) = idxFrom s (false :: bs) ++ [s + 0]
    unfold idxFrom
    rw [if_pos rfl, if_neg (by decide), e]
    simp
  | b :: bs, s, i + 1, hi, h => by
    have ih := idx_snoc bs (s + 1) i (by simpa using hi) (fun j hj => h (j + 1) (by omega))
    show idxFrom s (b :: bs.set i true) = idxFrom s (b :: bs) ++ [s + ((i + 1 : Nat) : Int)]
    rw [show s + ((i + 1 : Nat) : Int) = s + 1 + (i : Int) by push_cast; omega]
    unfold idxFrom
    cases b with
    | true => rw [if_pos rfl, if_pos rfl, ih]; rfl
    | false => rw [if_neg (by decide), if_neg (by decide), ih]
theorem bit_rep (n j : Nat) : bit (List.replicate n false) j = false := by
  unfold bit
  by_cases h : j < n
  · simp [List.getD, h]
  · simp [List.getD, List.getElem?_eq_none (show (List.replicate n false).length ≤ j by simp; omega)]
theorem set_known (n : Nat) (a b : Int) (ha : 0 ≤ a ∧ a < (n : Int)) (hb : 0 ≤ b ∧ b < (n : Int)) : ∃ F : List Bool, F.length = n ∧ idxFrom 0 F = if b > a then [a] ++ [b] else [a] := by
  have h1 := idx_snoc (List.replicate n false) 0 a.toNat (by simp; omega) (fun j _ => bit_rep n j)
  rw [idx_off _ 0 (bit_rep n), List.nil_append, show (0 : Int) + (a.toNat : Int) = a by omega] at h1
  by_cases h : b > a
  · refine ⟨((List.replicate n false).set a.toNat true).set b.toNat true, by simp, ?_⟩
    rw [if_pos h, idx_snoc _ 0 b.toNat (by simp; omega) (fun j hj => by rw [bit_set _ _ _ (by simp; omega), if_neg (by omega)]; exact bit_rep n j), h1, show (0 : Int) + (b.toNat : Int) = b by omega]
  · exact ⟨(List.replicate n false).set a.toNat true, by simp, by rw [if_neg h]; exact h1⟩
theorem place_ev {L : List S36} (hL : L.length ≤ 400) (a : Int) : impl_isPlace.f L a = some (decide (0 ≤ a ∧ a < (L.length : Int))) := by
  unfold impl_isPlace.f
  rw [impl_in_eq, w64' (by omega) (by omega)]
  exact congrArg some (decide_eq_decide.mpr (by omega))
theorem kn_l0 (L : List S36) (hL : L.length ≤ 400) (l : List Int) (hl : l.length ≤ 400) (hr : ∀ i : Nat, i < l.length → 0 ≤ rd l (i : Int) ∧ rd l (i : Int) < (L.length : Int)) (hs : ∀ i : Nat, 0 < i → i < l.length → rd l ((i - 1 : Nat) : Int) < rd l (i : Int)) (d : Nat) : ∀ (i : Nat), i + d = l.length → Ev (fun k => impl_KnownFault.l0 k L l l (l.length : Int) i) 0 := by
  induction d with
  | zero =>
    intro i hi
    refine ev_succ ?_
    simp only [impl_KnownFault.l0, show ¬ (i : Int) < (l.length : Int) by omega, if_false]; exact Ev.now _
  | succ d ih =>
    intro i hi
    refine ev_succ ?_
    have h1 := hr i (by omega)
    simp only [impl_KnownFault.l0, show (i : Int) < (l.length : Int) by omega, show 0 ≤ (i : Int) by omega, if_true, place_ev hL, Option.bind_some, decide_eq_true h1, show wrap64 ((i : Int) + 1) = ((i + 1 : Nat) : Int) by rw [w64' (by omega) (by omega)]; omega]
    by_cases h0 : (i : Int) > 0
    · have h2 := hs i (by omega) (by omega)
      simp only [if_pos h0, show wrap64 ((i : Int) - 1) = ((i - 1 : Nat) : Int) by rw [w64' (by omega) (by omega)]; omega, show 0 ≤ ((i - 1 : Nat) : Int) by omega, if_true, show ((i - 1 : Nat) : Int) < (l.length : Int) by omega, show ¬ rd l ((i - 1 : Nat) : Int) ≥ rd l (i : Int) by omega, if_false]
      exact ih (i + 1) (by omega)
    · simp only [if_neg h0]
      exact ih (i + 1) (by omega)
theorem known_ok {L : List S36} (hw : L.all wf4 = true) (h : TF L = 0) (a b : Int) (ha : 0 ≤ a ∧ a < (L.length : Int)) (hb : 0 ≤ b ∧ b < (L.length : Int)) : Ev (fun k => impl_KnownFault.f k L (if b > a then [a] ++ [b] else [a])) 0 := by
  have hL := TF_len h
  unfold impl_KnownFault.f
  simp only [tf_impl hw, h, Option.bind_some, if_true]
  by_cases hc : b > a
  · simp only [if_pos hc, show ¬ ((([a] ++ [b] : List Int).length : Nat) : Int) > 400 by simp, if_false]
    refine kn_l0 L hL _ (by simp) (fun i hi => ?_) (fun i h0 hi => ?_) 2 0 (by simp)
    · have : i = 0 ∨ i = 1 := by simp at hi; omega
      rcases this with rfl | rfl
      · exact ha
      · exact hb
    · have : i = 1 := by simp at hi; omega
      subst this
      exact hc
  · simp only [if_neg hc, show ¬ ((([a] : List Int).length : Nat) : Int) > 400 by simp, if_false]
    refine kn_l0 L hL _ (by simp) (fun i hi => ?_) (fun i h0 hi => ?_) 1 0 (by simp)
    · have : i = 0 := by simp at hi; omega
      subst this
      exact ha
    · simp at hi; omega
def hasF (l : List Int) (x : Int) : Nat → Nat → Bool
  | _, 0 => false
  | i, d + 1 => if rd l (i : Int) = x then true else hasF l x (i + 1) d
theorem has_l0 (l : List Int) (x : Int) (hl : l.length ≤ 400) (d : Nat) : ∀ (i : Nat), i + d = l.length → Ev (fun k => laws_lwHas.l0 k l x i) (hasF l x i d) := by
  induction d with
  | zero =>
    intro i hi
    refine ev_succ ?_
    simp only [laws_lwHas.l0, show ¬ (i : Int) < (l.length : Int) by omega, if_false]; exact Ev.now _
  | succ d ih =>
    intro i hi
    refine ev_succ ?_
    rw [hasF]
    simp only [laws_lwHas.l0, show (i : Int) < (l.length : Int) by omega, show 0 ≤ (i : Int) by omega, if_true, show wrap64 ((i : Int) + 1) = ((i + 1 : Nat) : Int) by rw [w64' (by omega) (by omega)]; omega]
    by_cases h : rd l (i : Int) = x
    · simp only [if_pos h]; exact Ev.now _
    · simp only [if_neg h]; exact ih (i + 1) (by omega)
theorem hasF_mem (l : List Int) (x : Int) (d : Nat) : ∀ (i : Nat), i + d = l.length → x ∈ l.drop i → hasF l x i d = true := by
  induction d with
  | zero => intro i hi h; rw [List.drop_eq_nil_of_le (by omega)] at h; cases h
  | succ d ih =>
    intro i hi h
    rw [rd_dropI l i (by omega)] at h
    rw [hasF]
    split
    · rfl
    · rename_i hn
      rcases List.mem_cons.1 h with e | h
      · exact absurd e.symm hn
      · exact ih (i + 1) (by omega) h
theorem key_told {T : List S36} (hw : T.all wf4 = true) (h : TF T = 0) {a b : Int} (ha : 0 ≤ a ∧ a < (T.length : Int)) (hb : 0 ≤ b ∧ b < (T.length : Int)) {key sd c : Int} (hk : IsKey T key sd c) (hsd : 0 ≤ sd ∧ sd < (T.length : Int)) {kn : List Int} (hkn : kn = if b > a then [a] ++ [b] else [a]) :
    ∃ p : Int → Bool, (∀ x : Int, Ev (fun k => impl_Derives.f k T kn x) (p x)) ∧ Ev (fun k => impl_IsSecret.f k T kn key) (!p key) ∧ (p key = true → p sd = true ∨ ∃ l : List Int, Ev (fun k => impl_OpenAll.f k T kn) (0, l) ∧ Ev (fun k => laws_lwHas.f k l key) true) := by
  have hL := TF_len h
  have hf := known_ok hw h a b ha hb
  obtain ⟨F, hF, hi⟩ := set_known T.length a b ha hb
  rw [← hkn] at hf hi
  obtain ⟨X, hX⟩ := reach_ex (rndI h) T.length F hF (Nat.sub_le _ _)
  obtain ⟨x1, _, _, _⟩ := hX.props (rndI h) hF
  have ho := opened_ev h hF (opL_ev hX)
  rw [hi] at ho
  have hd : ∀ x : Int, Ev (fun k => impl_Derives.f k T kn x) (if 0 ≤ x ∧ x < (T.length : Int) then bit (opC T X) x.toNat else false) := fun x => by
    unfold impl_Derives.f
    refine Ev.bind hf ?_
    simp only [if_true, place_ev hL, Option.bind_some]
    by_cases hp : 0 ≤ x ∧ x < (T.length : Int)
    · simp only [decide_eq_true hp, if_true, if_pos hp]
      refine Ev.bind ho ?_
      simp only [makeable_some h X x1, Option.bind_some, if_pos hp.1, show x < ((opC T X).length : Int) by rw [opC_length]; omega, if_true]
      exact Ev.now _
    · simp only [decide_eq_false hp, Bool.false_eq_true, if_false, if_neg hp]; exact Ev.now _
  obtain ⟨L, u, M, k1, k2, k3, k4, k5, k6⟩ := hk
  refine ⟨fun x => if 0 ≤ x ∧ x < (T.length : Int) then bit (opC T X) x.toNat else false, hd, ?_, fun hp => ?_⟩
  · unfold impl_IsSecret.f
    refine Ev.bind hf ?_
    simp only [if_true, place_ev hL, Option.bind_some, decide_eq_true k4]
    exact Ev.bind (hd key) (Ev.now _)
  · simp only [if_pos k4] at hp
    simp only [if_pos hsd]
    rw [opC_at h X key.toNat (by omega), Bool.or_eq_true, show ((key.toNat : Nat) : Int) = key by omega, k1] at hp
    rcases hp with hp | hp
    · refine .inl ?_
      unfold wayV at hp
      dsimp only at hp
      rw [if_neg (show ¬ (4 : Int) = 1 by omega), if_pos (show (4 : Int) = 3 ∨ (4 : Int) = 4 ∨ (4 : Int) = 5 by omega), Bool.and_eq_true] at hp
      exact hp.1
    · refine .inr ⟨idxFrom 0 X, ?_, ?_⟩
      · unfold impl_OpenAll.f
        refine Ev.bind hf ?_
        simp only [if_true]
        exact Ev.bind ho (Ev.bind (risen_ev X (by omega)) (Ev.now _))
      · have hl := idx_len X
        have e := has_l0 (idxFrom 0 X) key (by omega) (idxFrom 0 X).length 0 (by omega)
        rw [hasF_mem (idxFrom 0 X) key (idxFrom 0 X).length 0 (by omega) (by rw [List.drop_zero]; exact (idx0_mem X key).2 ⟨k4.1, hp⟩)] at e
        exact e
theorem keys_told {l : List S36} (hw : l.all wf4 = true) {ni nr own half x y : Int} {r : Int × Int × Int × Int × Int × List S36} (hI : Ev (fun k => impl_MakeKeys.f k l ni nr own half x y) r) (h0 : r.1 = 0) :
    PF l [ni, nr, own, half] = 0 ∧ (0 ≤ x ∧ x ≤ 9999) ∧ (0 ≤ y ∧ y ≤ 9999) ∧ (rd_T36 l own).f0 = 2 ∧ (rd_T36 l half).f0 = 6 ∧ ∃ q, keysT l false ni nr own half x y = some q ∧ q.2.2.2.2.2 = false ∧ r = (0, q.1, q.2.1, q.2.2.1, q.2.2.2.1, q.2.2.2.2.1) := by
  obtain ⟨K1, h1⟩ := hI
  obtain ⟨K2, h2⟩ := nf_ev hw [x, y] [ni, nr, own, half] (by simp)
  have e := h1 (max K1 K2) (by omega)
  have e2 : impl_namesFault.f (max K1 K2) l [x, y] [ni, nr, own, half] = some (NF l [x, y] [ni, nr, own, half]) := h2 (max K1 K2) (by omega)
  simp only [impl_MakeKeys.f] at e
  rw [e2, Option.bind_some] at e
  by_cases hn : NF l [x, y] [ni, nr, own, half] = 0
  rotate_left
  · rw [if_neg hn] at e
    injection e with e
    rw [← e] at h0
    exact absurd h0 hn
  rw [if_pos hn] at e
  unfold NF at hn
  by_cases hp : PF l [ni, nr, own, half] = 0
  rotate_left
  · rw [if_neg hp] at hn; exact absurd hn hp
  rw [if_pos hp] at hn
  have hb : badN x = false ∧ badN y = false := by
    cases hx : badN x <;> cases hy : badN y <;> simp [hx, hy] at hn <;> exact ⟨rfl, rfl⟩
  split at e
  rotate_left
  · cases e
  split at e
  rotate_left
  · injection e with e; rw [← e] at h0; cases h0
  rename_i fo
  split at e
  rotate_left
  · injection e with e; rw [← e] at h0; cases h0
  rename_i fh
  obtain ⟨q, hq, e⟩ := Option.bind_eq_some_iff.mp e
  split at e
  · injection e with e; rw [← e] at h0; cases h0
  rename_i hf
  injection e with e
  exact ⟨hp, badN_iff.1 hb.1, badN_iff.1 hb.2, fo, fh, q, hq, by simpa using hf, e.symm⟩
theorem keys_run {l : List S36} (hw : l.all wf4 = true) {ni nr own half x y : Int} (hp : PF l [ni, nr, own, half] = 0) (hx : 0 ≤ x ∧ x ≤ 9999) (hy : 0 ≤ y ∧ y ≤ 9999) (fo : (rd_T36 l own).f0 = 2) (fh : (rd_T36 l half).f0 = 6) {a b c d : Int} {m : List S36} (hq : keysT l false ni nr own half x y = some (a, b, c, d, m, false)) :
    Ev (fun k => impl_MakeKeys.f k l ni nr own half x y) (0, a, b, c, d, m) := by
  obtain ⟨h4, _, _⟩ := PF_sim hp
  obtain ⟨_, hin⟩ := PF_ok hp
  have ho := hin own (by simp)
  have hh := hin half (by simp)
  have hn := nf_ev hw [x, y] [ni, nr, own, half] (by simp)
  have e : NF l [x, y] [ni, nr, own, half] = 0 := by
    unfold NF
    rw [if_pos hp]
    simp [badN_iff.2 hx, badN_iff.2 hy]
  rw [e] at hn
  unfold impl_MakeKeys.f
  refine Ev.bind hn ?_
  simp only [if_true, if_pos (show l.length ≤ 400 ∧ (0 ≤ own ∧ own < (l.length : Int)) ∧ (0 ≤ half ∧ half < (l.length : Int)) from ⟨h4, ho, hh⟩), fo, fh, hq, Option.bind_some, Bool.false_eq_true, if_false]
  exact Ev.now _
theorem pf_of {l : List S36} (h : TF l = 0) {a b c d : Int} (h1 : 0 ≤ a ∧ a < (l.length : Int)) (h2 : 0 ≤ b ∧ b < (l.length : Int)) (h3 : 0 ≤ c ∧ c < (l.length : Int)) (h4 : 0 ≤ d ∧ d < (l.length : Int)) : PF l [a, b, c, d] = 0 := by
  have n1 := (notIn_iff l a).2 h1
  have n2 := (notIn_iff l b).2 h2
  have n3 := (notIn_iff l c).2 h3
  have n4 := (notIn_iff l d).2 h4
  unfold PF
  rw [if_pos h, if_neg (by simp [n1, n2, n3, n4])]
theorem FnKeys : laws_FnKeys.Pure := by
  intro c hm hw
  refine Ev.rounds ?_
  have hb := byte_wf hw
  unfold laws_FnKeys.f laws_lwBig.f
  simp only [Option.bind_some, decide_eq_true_eq]
  by_cases hbig : (c.length : Int) > 1048576
  · simp only [hbig, if_true]; exact Ev.now _
  simp only [hbig, if_false]
  obtain ⟨L, ni, nr, own, half, x, y, hL, h4, hd⟩ := draw_keys c hb (by omega)
  refine Ev.bind hd ?_
  obtain ⟨r, r1, r2, r3⟩ := makeKeys_ev (BL_wf hL) (by omega) ni nr own half x y
  refine Ev.bind r2 ?_
  by_cases h0 : r.1 = 0
  rotate_left
  · simp only [h0, if_false]
    refine Ev.bind r1 ?_
    simp only [beq_self_eq_true]; exact Ev.now _
  obtain ⟨hp, hx, hy, fo, fh, q, hq, hf, hr⟩ := keys_told (BL_wf hL) r2 h0
  clear r1 r2 r3 h0
  subst hr
  obtain ⟨hT, hin⟩ := PF_ok hp
  have i1 := hin ni (by simp)
  have i2 := hin nr (by simp)
  have i3 := hin own (by simp)
  have i4 := hin half (by simp)
  obtain ⟨hot, fot⟩ := TF_half hT half i4.1 i4.2 fh
  obtain ⟨oth, hoth⟩ : ∃ o, o = (rd_T36 L half).f1 := ⟨_, rfl⟩
  rw [← hoth] at hot fot
  obtain ⟨s0, hs0⟩ := @putT_rd L false ⟨3, ni, nr, 0⟩
  rw [keysT_F L false ni nr own half x y rfl (o := oth) (by rw [hs0, rd_app i4]; exact hoth.symm), if_pos (by rw [hs0, List.length_append]; omega)] at hq
  injection hq with hq
  -- both secrets, in order
  obtain ⟨m, hm1⟩ : ∃ m, m = (if oth < own then oth else own) := ⟨_, rfl⟩
  obtain ⟨M, hM1⟩ : ∃ M, M = (if own < oth then oth else own) := ⟨_, rfl⟩
  rw [← hm1, ← hM1] at hq
  have sw1 : (if own < oth then own else oth) = m := by rw [hm1]; split <;> split <;> omega
  have sw2 : (if oth < own then own else oth) = M := by rw [hM1]; split <;> split <;> omega
  have hmM : (m = own ∨ m = oth) ∧ (M = own ∨ M = oth) ∧ m ≤ M := by rw [hm1, hM1]; split <;> split <;> omega
  have im : 0 ≤ m ∧ m < (L.length : Int) := by rcases hmM.1 with e | e <;> rw [e] <;> assumption
  have iM : 0 ≤ M ∧ M < (L.length : Int) := by rcases hmM.2.1 with e | e <;> rw [e] <;> assumption
  have fm : (rd_T36 L m).f0 = 2 := by rcases hmM.1 with e | e <;> rw [e] <;> assumption
  have fM : (rd_T36 L M).f0 = 2 := by rcases hmM.2.1 with e | e <;> rw [e] <;> assumption
  obtain ⟨g, b, ⟨rx, hF⟩, ⟨ps, u, v, hs⟩, k1, k2, k3, _, ag1, ag⟩ := keysF_chain hT hL i1 i2 im iM fm fM hmM.2.2 hx hy hq hf
  obtain ⟨sd, dn, ou, bk, F, fl⟩ := q
  dsimp only at hf g b hF ps hs k1 k2 k3 ag1 ag ⊢
  clear hq hm1 hM1
  have hFl : (L.length : Int) ≤ F.length := by rw [hF, List.length_append]; omega
  simp only [if_true]
  have p1 := putTerm_impl F (BL_wf b) ⟨6, own, 0, 0⟩
  have p2 := putTerm_spec F ⟨6, own, 0, 0⟩
  refine Ev.bind p1 ?_
  by_cases hc : (PTm F ⟨6, own, 0, 0⟩).1 = 0
  rotate_left
  · simp only [hc, if_false]
    refine Ev.bind p2 ?_
    simp only [beq_self_eq_true]; exact Ev.now _
  simp only [hc, if_true]
  clear p1 p2
  unfold PTm at hc ⊢
  rw [if_pos g] at hc ⊢
  obtain ⟨gT, ⟨rt, hTt⟩, pT, dT, _⟩ := PT_good g hc
  have bT : BL (PT F ⟨6, own, 0, 0⟩).2.2 := PT_B b (by have := TF_len g; exact B4_of (by omega) (by omega) (by omega) (by omega))
  generalize PT F ⟨6, own, 0, 0⟩ = H at gT hTt pT dT bT hc ⊢
  obtain ⟨hcode, hat, T⟩ := H
  dsimp only at gT hTt pT dT bT hc ⊢
  subst hc
  have hTl : (F.length : Int) ≤ T.length := by rw [hTt, List.length_append]; omega
  have rdT : ∀ z, 0 ≤ z → z < (L.length : Int) → rd_T36 T z = rd_T36 L z := fun z z0 z1 => by rw [hTt, rd_app (by omega), hF, rd_app ⟨z0, z1⟩]
  have hk : keysT T false ni nr oth hat x y = some (sd, dn, ou, bk, T, false) := by
    rw [keysT_F T false ni nr oth hat x y (B := ((putT L false ⟨3, ni, nr, 0⟩).1, T, false)) (by rw [hTt]; exact ag1 rt) (o := own) (by dsimp only; rw [dT])]
    dsimp only
    rw [if_pos pT, sw1, sw2, hTt, ag rt]
  have ho := keys_run (BL_wf bT) (pf_of gT (a := ni) (b := nr) (c := oth) (d := hat) (by omega) (by omega) (by omega) pT) hx hy (by rw [rdT oth hot.1 hot.2]; exact fot) (by rw [dT]) hk
  simp only [if_pos i4.1, if_pos i4.2, ← hoth]
  refine Ev.bind ho ?_
  simp only [Option.bind_some]
  obtain ⟨kn, hkn⟩ : ∃ kn : List Int, kn = if nr > ni then [ni] ++ [nr] else [ni] := ⟨_, rfl⟩
  obtain ⟨p, pd, psec, pk⟩ := key_told (BL_wf bT) gT (a := ni) (b := nr) (by omega) (by omega) (key := ou) (sd := sd) (c := 2) (by rw [hTt]; exact k2.app rt) (by omega) hkn
  have sd_dn : ¬ sd = dn := fun e => by
    obtain ⟨L1, _, _, h1, _⟩ := k1
    rw [← e, hs] at h1
    have e1 : u = sd := by injection h1
    have hn := node_ok g sd.toNat (by omega)
    rw [show ((sd.toNat : Nat) : Int) = sd by omega, hs] at hn
    dsimp only at hn
    omega
  have ou_bk : ¬ ou = bk := fun e => by
    rw [← e] at k3
    have := k2.same k3
    omega
  have hj1 : ∀ safe : Bool, Ev (fun k => laws_FnKeys.j1 k kn safe 0 sd dn ou bk F 0 hat T 0 sd dn ou bk T) true := fun safe => by
    refine ev_succ ?_
    simp only [laws_FnKeys.j1, tf_impl (BL_wf b), g, Option.bind_some, if_true, beq_self_eq_true, Bool.and_self, sd_dn, ou_bk, if_false]
    cases safe with
    | false => simp only [Bool.false_eq_true, if_false]; exact Ev.now _
    | true =>
      simp only [if_true]
      refine Ev.bind psec ?_
      cases hpo : p ou with
      | false => simp only [Bool.not_false, if_true]; exact Ev.now _
      | true =>
        simp only [Bool.not_true, Bool.false_eq_true, if_false]
        refine Ev.bind (pd sd) ?_
        rcases pk hpo with hps | ⟨l, e1, e2⟩
        · simp only [hps, if_true]; exact Ev.now _
        · by_cases hps : p sd = true
          · simp only [hps, if_true]; exact Ev.now _
          · simp only [hps, if_false]
            exact Ev.bind e1 (Ev.bind e2 (Ev.now _))
  have hj0 : Ev (fun k => laws_FnKeys.j0 k L own half kn 0 sd dn ou bk F 0 hat T 0 sd dn ou bk T) true := by
    refine ev_succ ?_
    simp only [laws_FnKeys.j0]
    refine Ev.bind (pd own) ?_
    cases p own with
    | true => simp only [if_true]; exact hj1 _
    | false =>
      simp only [Bool.false_eq_true, if_false, if_pos i4.1, if_pos i4.2, ← hoth]
      exact Ev.bind (pd oth) (hj1 _)
  by_cases hgt : nr > ni
  · rw [if_pos hgt] at hkn
    subst hkn
    simp only [if_pos hgt, show ([ni] : List Int).length < 17592186044416 by simp, if_true]
    exact hj0
  · rw [if_neg hgt] at hkn
    subst hkn
    simp only [if_neg hgt]
    exact hj0
end Go.Proofs.Ytpabeajjbifjdaa.Pure
namespace Go.Proofs.Ytpabeajjbifjdaa.fnKeys
open Go.ChangeShapes Go.WideShapes Go.ChangeAt
open Go.RowKit Go.Proofs.Ytpabeajjbifjdaa.G Go.Proofs.YtpabeajjbifjdaaW.PrintWords Go.Proofs.YtpabeajjbifjdaaW.PrintLast
open Go.ChangeMaps (open_string shut_string)
set_option linter.unusedVariables false
theorem own : ownKnob Try.prog.godebug = none := by kernel_rfl
theorem laidOut : laidOutB Try.prog = true := by kernel_rfl
def A2 {α β : Type} (G : α → Prop) (H : β → Prop) : α × β → Prop := fun x => G x.1 ∧ H x.2
def gs {α : Type} (G : α → Prop) : List α → Prop := fun xs => xs.length ≤ maxLen ∧ ∀ x ∈ xs, G x
theorem A2c {α β : Type} {P : Program} {f : Field} {fs : List Field} {off : Nat} {T : TypeId} {d : Kd α} {d2 : Kd β} {G : α → Prop} {G2 : β → Prop} (h : Opn.Opens P T d G) (h2 : Opn.OpensAt P fs (off + d.sz) d2 G2) (hf : f.offset = off := by rfl) (hT : f.type = T := by rfl) : Opn.OpensAt P (f :: fs) off (Kd.pair d d2) (A2 G G2) := Opn.at_cons hf hT h h2
theorem A2l {α : Type} {P : Program} {f : Field} {off : Nat} {T : TypeId} {d : Kd α} {G : α → Prop} (h : Opn.Opens P T d G) (hf : f.offset = off := by rfl) (hT : f.type = T := by rfl) : Opn.OpensAt P [f] off d G := Opn.at_last hf hT h
def gi_u8 (n : Int) : Prop := (Lit.int .u8 n).wf = true
theorem o5 : Opn.Opens Try.prog 5 (Kd.int .u8) gi_u8 := Opn.opens_int Try.underlying5 (by kernel_rfl)
set_option maxRecDepth 100000 in
theorem lifted (os : Os) (started : os.Started) (H : Type) (enc : TypeId × Value → H) :
    ReturnsInHanded {} Try.checked os 3 .any (Rows.fnKeysSpec.pre6 enc Try.prog Try.f3 Rows.fnKeysRow.domain false) (Rows.fnKeysSpec.post enc Try.prog Try.f3 false true false false) := by
  refine returnsInHanded_of_change_sized (C := Try.checked) own started (by kernel_rfl) Try.func3
    (ChangeSpec.witness6 (enc := enc) (C := Try.checked) false ⟨#[], #[.slice none 0 0], []⟩ 8 (by kernel_rfl) (by kernel_rfl) (by kernel_rfl) (by kernel_rfl)) ?_
  intro W base args ds gs before hval0 hW hcnd hsz0 _
  have hval : ∀ (j : Nat) t v, Try.f3.params[j]? = some t → args[j]? = some v → Value.okWide Try.prog W .any base t v := hval0
  have hW' := hW
  obtain ⟨p, q, hA0, hV, rfl, hfz, hnd⟩ := hW
  have hA : DataW.TrodAll enc Try.prog W 0 (fun _ => true) true Try.f3.params.toList args.toList ds p := hA0
  rw [Try.params3] at hA hval
  obtain ⟨v0, vs0, d0, ds0, p0, q0, hargs, rfl, rfl, h0, r0⟩ := trodAll_cons hA
  obtain ⟨rfl, rfl, rfl⟩ := trodAll_nil r0
  obtain rfl : args = #[v0] := by cases args; simp_all
  obtain ⟨rfl, rfl⟩ := trodVars_none hV
  obtain ⟨A0, len0, c0, rfl⟩ := okWide_slice Try.underlying22 (hval 0 22 v0 rfl rfl)
  have k0 := h0
  have lt0 : ∀ x ∈ p0, x.block < W.heap.size := by obtain ⟨m, hm⟩ := k0; exact DataW.trod_lt m _ _ _ hm
  obtain ⟨l0, rfl, hr0, hc0, hm0, hg0⟩ := Opn.arg_slice Try.underlying22 (by kernel_rfl) o5 h0
  clear hA0 hval0 hsz0
  obtain ⟨k, h⟩ := Pure.FnKeys l0 hm0 hg0
  refine (laws_FnKeys.calls k A0 c0 l0 W hr0 hc0 h).mono fun e W' ⟨he, bel0⟩ => ?_
  have bel : Below W.heap.size W W' := bel0
  subst he
  exact ⟨_, rfl, _, _, _, [], _, [], hW', trodAll_mk1 (shut_bool Try.underlying4 _), (trodAll_cons_mk (Below.trod laidOut (by kernel_rfl) (of_decide_eq_true (by kernel_rfl)) k0 bel lt0) trodAll_mk0), rfl, bel.frame _, fun h => by cases h⟩
theorem over : Rows.fnKeysRow.holds Try.pinned (OpenSpec.ofChange Rows.fnKeysSpec) :=
  OpenClaim.holds_of_wide 3 Try.f3 rfl rfl rfl rfl rfl rfl rfl ⟨rfl, rfl, rfl, rfl, rfl⟩ rfl rfl rfl rfl rfl (by kernel_rfl) Try.func3 (by kernel_rfl)
    (of_decide_eq_true (by kernel_rfl)) (by unfold Func.isWrapper; first | (rw [if_pos (by decide +kernel)]; kernel_rfl) | (rw [if_neg (by decide +kernel)]; exact ⟨rfl, rfl⟩))
    (fun os started H enc _ => lifted os started H enc)
end Go.Proofs.Ytpabeajjbifjdaa.fnKeys
namespace Go.Proofs.Ytpabeajjbifjdaa
theorem fnKeys_holds : Rows.FnKeysSaid := fnKeys.over
end Go.Proofs.Ytpabeajjbifjdaa
#print axioms Go.Proofs.Ytpabeajjbifjdaa.fnKeys_holds
