/- FnProofs: for every input the law returns true and its arguments read afterwards as they read before. No condition. -/
import Derived.Test.YtomaeijhljpgdaaCFnProofs4
import Derived.ChangeArms
import Derived.Deep.Slices
import Derived.ProofKit
import Derived.OpenShut
import Derived.Test.YtomaeijhljpgdaaRows
import Derived.WalkKit
import Derived.ShutString
import Derived.ChangeOld
import Derived.Below
import Derived.SizedLaws
set_option linter.unusedVariables false
namespace Go.Proofs.Ytomaeijhljpgdaa.Opn
open Go.Proofs.YtomaeijhljpgdaaW.PrintWords
def Opens {α : Type} (P : Program) (t : TypeId) (d : Kd α) (G : α → Prop) : Prop :=
  P.cellsOf t = d.sz ∧ ∀ (H : Type) (enc : TypeId × Value → H) (W : World) (base : Nat) (sp : Nat → Bool) (held : Bool) (fuel : Nat) (cs : List Value) (x : DataW H × List MemPlace),
    DataW.trod enc P W base sp held fuel t cs = some x → ∃ a, d.K W a cs ∧ G a
theorem opens_int {P : Program} {t : TypeId} {k : IntKind} (ht : P.underlying t = some (.int k)) (hc : P.cellsOf t = 1) : Opens P t (Kd.int k) (fun n => (Lit.int k n).wf = true) :=
  ⟨hc, fun H enc W base sp held fuel cs x hx => by
    obtain ⟨n, h, hx, hw⟩ := DataW.trod_int ht hx
    exact ⟨n, h, hw⟩⟩
theorem opens_slice {α : Type} {P : Program} {t e : TypeId} {d : Kd α} {G : α → Prop} (ht : P.underlying t = some (.slice e)) (hc : P.cellsOf t = 1) (he : Opens P e d G) :
    Opens P t (Kd.slice e d) (fun xs => xs.length ≤ maxLen ∧ ∀ x ∈ xs, G x) :=
  ⟨hc, fun H enc W base sp held fuel cs x hx => by
    rcases Go.Deep.open_slice ht hx with ⟨rfl, rfl⟩ | ⟨a, len, cap, m, n, D, Pl, rfl, hb, hl, hm, hmm, rfl, hel⟩
    · refine ⟨[], ⟨none, 0, rfl, Nat.le_refl _, rfl, by simp, ?_⟩, by simp, by simp⟩
      intro h; exact absurd h (by simp)
    · have hle : len ≤ m := by rw [hmm]; split <;> omega
      have key : ∀ i, i < len → ∃ p : α, ∃ c : List Value, c.length = d.sz ∧ d.K W p c ∧ G p ∧ ∀ j u, c[j]? = some u → W.cell? (a.add (i * d.sz + j)) = some u := by
        intro i hi
        obtain ⟨c, h1, h2⟩ := hel i (by omega)
        obtain ⟨p, h3, h4⟩ := he.2 H enc W base sp held n c _ h2
        obtain ⟨_, h5, h6⟩ := World.cells?_some h1
        rw [he.1] at h5 h6
        refine ⟨p, c, h5, h3, h4, fun j u hj => ?_⟩
        have hjl : j < d.sz := by
          have := (List.getElem?_eq_some_iff.1 hj).1
          omega
        rw [← Go.Deep.add_add, h6 j hjl, hj]
      have ex : ∃ ps : List α, ps.length = len ∧ ∀ i p, ps[i]? = some p → ∃ c : List Value, c.length = d.sz ∧ d.K W p c ∧ G p ∧ ∀ j u, c[j]? = some u → W.cell? (a.add (i * d.sz + j)) = some u := by
        clear hel hmm hle hl hm hx
        induction len with
        | zero => exact ⟨[], rfl, fun i p h => by simp at h⟩
        | succ k ih =>
          obtain ⟨ps, h1, h2⟩ := ih (fun i hi => key i (by omega))
          obtain ⟨p, hp⟩ := key k (by omega)
          refine ⟨ps ++ [p], by simp [h1], fun i q h => ?_⟩
          by_cases hi : i < ps.length
          · rw [List.getElem?_append_left hi] at h
            exact h2 i q h
          · rw [List.getElem?_append_right (by omega)] at h
            have hi0 : i - ps.length = 0 := by
              have := (List.getElem?_eq_some_iff.1 h).1
              simp at this
              omega
            rw [hi0] at h
            simp at h
            subst h
            have : i = k := by omega
            subst this
            exact hp
      obtain ⟨ps, h1, h2⟩ := ex
      subst h1
      refine ⟨ps, ⟨some a, cap, rfl, hl, rfl, by simp only [maxLen] at hm; omega, fun _ => ⟨a, rfl, fun j p hj => ?_⟩⟩, by omega, fun x hx' => ?_⟩
      · obtain ⟨c, g1, g2, g3, g4⟩ := h2 j p hj
        exact ⟨c, g1, g2, g4⟩
      · obtain ⟨i, hi⟩ := List.getElem?_of_mem hx'
        obtain ⟨c, g1, g2, g3, g4⟩ := h2 i x hi
        exact g3⟩
theorem arg_slice {α : Type} {P : Program} {W : World} {t e : TypeId} {d : Kd α} {G : α → Prop} {H : Type} {enc : TypeId × Value → H} {base : Nat} {sp : Nat → Bool} {held : Bool} {A : Option Addr} {n c : Nat} {x : DataW H} {ps : List MemPlace}
    (ht : P.underlying t = some (.slice e)) (hc : P.cellsOf t = 1) (he : Opens P e d G) (h : DataW.Trod enc P W base sp held t (.slice A n c) x ps) :
    ∃ xs : List α, n = xs.length ∧ d.C W A xs.length xs ∧ xs.length ≤ c ∧ xs.length ≤ maxLen ∧ ∀ a ∈ xs, G a := by
  obtain ⟨fuel, hf⟩ := h
  obtain ⟨xs, ⟨A', c', h1, h2, h3⟩, h4, h5⟩ := (opens_slice ht hc he).2 H enc W base sp held fuel _ _ hf
  simp [Value.cells] at h1
  obtain ⟨rfl, rfl, rfl⟩ := h1
  exact ⟨xs, rfl, h3, h2, h4, h5⟩
end Go.Proofs.Ytomaeijhljpgdaa.Opn
namespace Go.Proofs.Ytomaeijhljpgdaa.Pure
open Go.RowKit Go.Proofs.Ytomaeijhljpgdaa.G Go.Proofs.YtomaeijhljpgdaaW.PrintWords Go.Proofs.YtomaeijhljpgdaaW.PrintLast
def laws_FnProofs.Pure : Prop := ∀ (l0 : List Int), l0.length ≤ maxLen → (∀ x ∈ l0, (fun n => (Lit.int .u8 n).wf = true) x) → ∃ k, laws_FnProofs.f k l0 = some true
end Go.Proofs.Ytomaeijhljpgdaa.Pure
set_option linter.unusedVariables false
set_option linter.unusedSimpArgs false
namespace Go.Proofs.Ytomaeijhljpgdaa.Pure
open Go.RowKit Go.Proofs.Ytomaeijhljpgdaa.G Go.Proofs.YtomaeijhljpgdaaW.PrintWords Go.Proofs.YtomaeijhljpgdaaW.PrintLast Go.Proofs.YtomaeijhljpgdaaW.PrintMore
theorem ev_succ {α : Type} {g : Nat → Option α} {r : α} (h : Ev (fun k => g (k + 1)) r) : Ev g r := by
  obtain ⟨K, hK⟩ := h
  refine ⟨K + 1, fun k hk => ?_⟩
  obtain ⟨m, rfl⟩ : ∃ m, k = m + 1 := ⟨k - 1, by omega⟩
  exact hK m (by omega)
theorem w64' {n : Int} (h0 : -9223372036854775808 ≤ n) (h1 : n ≤ 9223372036854775807) : wrap64 n = n := by unfold wrap64; omega
theorem byte_wf {l : List Int} (h : ∀ x ∈ l, (Lit.int .u8 x).wf = true) : ∀ x ∈ l, 0 ≤ x ∧ x ≤ 255 := fun x hx => by
  have := h x hx
  simpa [Lit.wf, IntKind.min, IntKind.max, IntKind.signed, IntKind.bits] using this
end Go.Proofs.Ytomaeijhljpgdaa.Pure
set_option linter.unusedVariables false
set_option linter.unusedSimpArgs false
namespace Go.Proofs.Ytomaeijhljpgdaa.Pure
open Go.RowKit Go.Proofs.Ytomaeijhljpgdaa.G Go.Proofs.YtomaeijhljpgdaaW.PrintWords Go.Proofs.YtomaeijhljpgdaaW.PrintLast Go.Proofs.YtomaeijhljpgdaaW.PrintMore
theorem in_specT (a b c : Int) : spec_l1In.f a b c = some (decide (b ≤ a ∧ a ≤ c)) := by
  unfold spec_l1In.f; split
  · congr 1; simp; omega
  · congr 1; simp; omega
theorem kids_ev (a : Int) : Ev (fun k => spec_l5Kids.f k a) (if a = 3 ∨ a = 4 ∨ a = 5 ∨ a = 7 then 2 else if a = 6 then 1 else 0) := by
  refine ⟨1, fun k hk => ?_⟩
  obtain ⟨m, rfl⟩ : ∃ m, k = m + 1 := ⟨k - 1, by omega⟩
  unfold spec_l5Kids.f
  by_cases h3 : a = 3
  · simp [spec_l5Kids.j0, h3]
  · by_cases h4 : a = 4
    · simp [spec_l5Kids.j0, h4]
    · by_cases h5 : a = 5
      · simp [spec_l5Kids.j0, h5]
      · by_cases h7 : a = 7
        · simp [spec_l5Kids.j0, h7]
        · by_cases h6 : a = 6
          · simp [spec_l5Kids.j0, h6]
          · simp [spec_l5Kids.j0, h3, h4, h5, h6, h7]
theorem notIn_iff (l : List S26) (x : Int) : notIn l x = false ↔ (0 ≤ x ∧ x < (l.length : Int)) := by
  unfold notIn; simp; omega
theorem term_ev (a0 a1 a2 a3 : Int) (l : List S26) (hl : l.length ≤ 9223372036854775807) : Ev (fun k => spec_l5Term.f k l a0 a1 a2 a3) (tfault a0 a1 a2 a3 l) := by
  have hw : wrap64 ((l.length : Int) - 1) = (l.length : Int) - 1 := w64' (by omega) (by omega)
  unfold spec_l5Term.f
  simp only [in_specT, Option.bind_some, decide_eq_true_eq]
  unfold tfault
  by_cases hop : 1 ≤ a0 ∧ a0 ≤ 7
  rotate_left
  · simp only [if_neg hop]; exact Ev.now _
  simp only [if_pos hop]
  refine Ev.bind (kids_ev a0) ?_
  -- what stands behind the form's test
  have j2 : ∀ (n : Int) (t : Bool), (t = (a0 == 6 || a0 == 7)) → (a0 = 6 ∨ a0 = 7 → notIn l a1 = false ∧ (n > 1 → notIn l a2 = false)) → Ev (fun k => spec_l5Term.j2 k l n t a0 a1 a2 a3) (if a0 = 6 ∨ a0 = 7 then (if notFresh l a1 = true then 1 else if n > 1 then (if notFresh l a2 = true ∨ a1 > a2 then 1 else 0) else 0) else 0) := by
    intro n t ht hin
    refine ev_succ ?_
    simp only [spec_l5Term.j2]
    by_cases h67 : a0 = 6 ∨ a0 = 7
    · obtain ⟨i1, i2⟩ := hin h67
      rw [notIn_iff] at i1
      have ht' : t = true := by rw [ht]; rcases h67 with h | h <;> simp [h]
      simp only [ht', if_true, if_pos h67, i1.1, i1.2]
      by_cases hf : (rd_T26 l a1).f0 = 2
      · have hf' : notFresh l a1 = false := by unfold notFresh; simp [hf]
        simp only [hf, hf', if_true, Bool.false_eq_true, if_false]
        by_cases hn : n > 1
        · have i2' := i2 hn
          rw [notIn_iff] at i2'
          simp only [hn, if_true, i2'.1, i2'.2]
          by_cases hg : (rd_T26 l a2).f0 = 2
          · have hg' : notFresh l a2 = false := by unfold notFresh; simp [hg]
            simp only [hg, hg', if_true, Bool.false_eq_true, false_or]
            by_cases hgt : a1 > a2
            · simp only [hgt, if_true]; exact Ev.now _
            · simp only [hgt, if_false]; exact Ev.now _
          · have hg' : notFresh l a2 = true := by unfold notFresh; simpa using hg
            simp only [hg, hg', if_false, true_or, if_true]; exact Ev.now _
        · simp only [hn, if_false]; exact Ev.now _
      · have hf' : notFresh l a1 = true := by unfold notFresh; simpa using hf
        simp only [hf, hf', if_false, if_true]; exact Ev.now _
    · have ht' : t = false := by rw [ht]; simp only [not_or] at h67; simp [h67]
      simp only [ht', if_neg h67, Bool.false_eq_true, if_false]; exact Ev.now _
  have j1 : ∀ (n : Int) (t : Bool), (a0 = 6 ∨ a0 = 7 → t = false → notIn l a1 = false ∧ (n > 1 → notIn l a2 = false)) → Ev (fun k => spec_l5Term.j1 k l n t a0 a1 a2 a3) (if t = true then 3 else (if a0 = 6 ∨ a0 = 7 then (if notFresh l a1 = true then 1 else if n > 1 then (if notFresh l a2 = true ∨ a1 > a2 then 1 else 0) else 0) else 0)) := by
    intro n t hin
    refine ev_succ ?_
    simp only [spec_l5Term.j1]
    cases t with
    | true => simp only [if_true]; exact Ev.now _
    | false =>
      simp only [Bool.false_eq_true, if_false]
      by_cases h6 : a0 = 6
      · simp only [if_pos h6]; exact j2 n true (by simp [h6]) (fun h => hin h rfl)
      · simp only [if_neg h6]; exact j2 n (a0 == 7) (by simp [h6]) (fun h => hin h rfl)
  have dn : ∀ x : Int, (!decide (0 ≤ x ∧ x ≤ (l.length : Int) - 1)) = notIn l x := fun x => rfl
  have dt : ∀ x : Int, (0 ≤ x ∧ x ≤ (l.length : Int) - 1) ↔ notIn l x = false := fun x => by rw [notIn_iff]; omega
  by_cases h12 : a0 = 1 ∨ a0 = 2
  · -- names
    have hk : ¬ (a0 = 3 ∨ a0 = 4 ∨ a0 = 5 ∨ a0 = 7) := by omega
    have hk6 : ¬ a0 = 6 := by omega
    have h67 : ¬ (a0 = 6 ∨ a0 = 7) := by omega
    simp only [if_neg hk, if_neg hk6, if_pos h12, show ¬ (0 : Int) > 0 by omega, if_false, show (0 : Int) < 1 by omega, show (0 : Int) < 2 by omega, if_true]
    by_cases ha : a1 = 0
    · simp only [ha, if_true, true_and]
      refine ev_succ ?_
      simp only [spec_l5Term.j0]
      by_cases hb : a2 = 0
      · simp only [hb, bne_self_eq_false, Bool.false_eq_true, if_false, if_true, in_specT, Option.bind_some, decide_eq_true_eq, show ¬ (0 : Int) > 0 by omega, show ¬ (0 : Int) > 1 by omega]
        by_cases hn : 0 ≤ a3 ∧ a3 ≤ 9999
        · simp only [hn, and_self, if_true]
          have := j1 0 false (fun h => absurd h h67)
          simp only [Bool.false_eq_true, if_false, if_neg h67, ha, hb] at this
          exact this
        · simp only [if_neg hn]
          have := j1 0 true (fun h => absurd h h67)
          simp only [if_true, ha, hb] at this
          exact this
      · have hb' : (a2 != 0) = true := by simpa using hb
        simp only [hb', if_true, hb, if_false]; exact Ev.now _
    · simp only [ha, if_false, false_and]
      refine ev_succ ?_
      simp only [spec_l5Term.j0, if_true]; exact Ev.now _
  · by_cases h6 : a0 = 6
    · have hk : ¬ (a0 = 3 ∨ a0 = 4 ∨ a0 = 5 ∨ a0 = 7) := by omega
      simp only [if_neg hk, if_pos h6, if_neg h12, show (1 : Int) > 0 by omega, if_true, show ¬ (1 : Int) < 1 by omega, if_false, show (1 : Int) < 2 by omega]
      by_cases hn : a3 = 0
      · simp only [hn, if_true, and_true]
        refine ev_succ ?_
        simp only [spec_l5Term.j0]
        by_cases hb : a2 = 0
        · simp only [hb, bne_self_eq_false, Bool.false_eq_true, if_false, if_true, in_specT, Option.bind_some, decide_eq_true_eq, show (1 : Int) > 0 by omega, show ¬ (1 : Int) > 1 by omega, show (0 : Int) ≤ 0 ∧ (0 : Int) ≤ 9999 by omega, and_self, hw, List.any_cons, List.any_nil, Bool.or_false]
          cases hi : notIn l a1 with
          | false =>
            simp only [if_pos ((dt a1).2 hi), Bool.false_eq_true, if_false]
            have := j1 1 false (fun h _ => ⟨hi, fun h => absurd h (by omega)⟩)
            simp only [Bool.false_eq_true, if_false, h6, true_or, if_true, show ¬ (1 : Int) > 1 by omega, hb, hn] at this
            rw [h6]
            exact this
          | true =>
            simp only [if_neg (show ¬ (0 ≤ a1 ∧ a1 ≤ (l.length : Int) - 1) from fun h => by rw [(dt a1).1 h] at hi; cases hi), if_true]
            have := j1 1 true (fun _ h => by cases h)
            simp only [if_true, hb, hn] at this
            exact this
        · have hb' : (a2 != 0) = true := by simpa using hb
          simp only [hb', if_true, hb, if_false]; exact Ev.now _
      · simp only [hn, if_false, and_false]
        refine ev_succ ?_
        simp only [spec_l5Term.j0, if_true]; exact Ev.now _
    · have hk : a0 = 3 ∨ a0 = 4 ∨ a0 = 5 ∨ a0 = 7 := by omega
      simp only [if_pos hk, if_neg h6, if_neg h12, show (2 : Int) > 0 by omega, if_true, show ¬ (2 : Int) < 1 by omega, if_false, show ¬ (2 : Int) < 2 by omega]
      by_cases hn : a3 = 0
      · simp only [hn, if_true]
        refine ev_succ ?_
        simp only [spec_l5Term.j0, Bool.false_eq_true, if_false, if_true, in_specT, Option.bind_some, decide_eq_true_eq, show (2 : Int) > 0 by omega, show (2 : Int) > 1 by omega, show (0 : Int) ≤ 0 ∧ (0 : Int) ≤ 9999 by omega, and_self, hw, dn, List.any_cons, List.any_nil, Bool.or_false]
        cases hi : notIn l a1 with
        | true =>
          simp only [if_neg (show ¬ (0 ≤ a1 ∧ a1 ≤ (l.length : Int) - 1) from fun h => by rw [(dt a1).1 h] at hi; cases hi), Bool.true_or, if_true]
          have := j1 2 true (fun _ h => by cases h)
          simp only [if_true, hn] at this
          exact this
        | false =>
          simp only [if_pos ((dt a1).2 hi), Bool.false_or]
          have := j1 2 (notIn l a2) (fun _ h => ⟨hi, fun _ => h⟩)
          simp only [show (2 : Int) > 1 by omega, if_true, h6, false_or, hn] at this
          have e : (if notIn l a2 = true then (3 : Int) else if a0 = 7 then (if notFresh l a1 = true then 1 else if notFresh l a2 = true ∨ a1 > a2 then 1 else 0) else 0) = (if notIn l a2 = true then 3 else if a0 = 7 then (if (notFresh l a1 || notFresh l a2) = true ∨ a1 > a2 then 1 else 0) else 0) := by
            by_cases q0 : notIn l a2 = true
            · rw [if_pos q0, if_pos q0]
            · rw [if_neg q0, if_neg q0]
              by_cases q7 : a0 = 7
              · rw [if_pos q7, if_pos q7]
                cases notFresh l a1 <;> cases notFresh l a2 <;> simp
              · rw [if_neg q7, if_neg q7]
          rw [e] at this
          exact this
      · simp only [hn, if_false]
        refine ev_succ ?_
        simp only [spec_l5Term.j0, if_true]; exact Ev.now _
theorem drop_rdT (l : List S26) (i : Nat) (h : i < l.length) : l.drop i = rd_T26 l (i : Int) :: l.drop (i + 1) := by
  rw [List.drop_eq_getElem_cons h]
  simp [rd_T26, List.getD, List.getElem?_eq_getElem h]
theorem take_rdT (l : List S26) (i : Nat) (h : i < l.length) : l.take (i + 1) = l.take i ++ [rd_T26 l (i : Int)] := by
  rw [List.take_succ_eq_append_getElem h]
  simp [rd_T26, List.getD, List.getElem?_eq_getElem h]
def tidx (l : List S26) (x : S26) (i : Nat) : Int :=
  match (l.drop i).findIdx? fun y => eq4 x y with
  | some j => ((i + j : Nat) : Int)
  | none => -1
theorem find_l0 (l : List S26) (hl : l.length ≤ 9223372036854775807) (x : S26) (d : Nat) : ∀ (k i : Nat), i + d = l.length → d < k → spec_l5Find.l0 k l i x.f0 x.f1 x.f2 x.f3 = some (tidx l x i) := by
  induction d with
  | zero =>
    intro k i hi hk
    obtain ⟨k, rfl⟩ : ∃ m, k = m + 1 := ⟨k - 1, by omega⟩
    simp only [spec_l5Find.l0]; rw [if_neg (by omega)]; unfold tidx; rw [List.drop_of_length_le (by omega)]; rfl
  | succ d ih =>
    intro k i hi hk
    obtain ⟨k, rfl⟩ : ∃ m, k = m + 1 := ⟨k - 1, by omega⟩
    simp only [spec_l5Find.l0]
    rw [if_pos (by omega), if_pos (by omega), w64' (by omega) (by omega)]
    have e := ih k (i + 1) (by omega) (by omega)
    have e' : spec_l5Find.l0 k l ((i : Int) + 1) x.f0 x.f1 x.f2 x.f3 = some (tidx l x (i + 1)) := by simpa using e
    rw [e']
    have sw : (((rd_T26 l i).f0) == x.f0 && (((rd_T26 l i).f1) == x.f1 && (((rd_T26 l i).f2) == x.f2 && (((rd_T26 l i).f3) == x.f3)))) = eq4 x (rd_T26 l i) := by
      unfold eq4; rw [BEq.comm (b := x.f0), BEq.comm (b := x.f1), BEq.comm (b := x.f2), BEq.comm (b := x.f3)]
    rw [sw]
    unfold tidx
    rw [drop_rdT l i (by omega), List.findIdx?_cons]
    cases h : eq4 x (rd_T26 l i)
    · simp only [Bool.false_eq_true, if_false]
      cases (l.drop (i + 1)).findIdx? fun y => eq4 x y with
      | none => rfl
      | some j => simp; omega
    · simp
theorem find_ev (l : List S26) (hl : l.length ≤ 9223372036854775807) (x : S26) : Ev (fun k => spec_l5Find.f k l x.f0 x.f1 x.f2 x.f3) (tidx l x 0) := by
  refine ⟨l.length + 1, fun k hk => ?_⟩
  have := find_l0 l hl x l.length k 0 (by omega) (by omega)
  simpa [spec_l5Find.f] using this
theorem tidx_nonneg (l : List S26) (x : S26) : tidx l x 0 ≥ 0 ↔ l.any (eq4 x) = true := by
  unfold tidx
  rw [List.drop_zero]
  cases h : l.findIdx? fun y => eq4 x y with
  | none =>
    rw [List.findIdx?_eq_none_iff] at h
    constructor
    · intro h'; simp at h'
    · intro h'
      obtain ⟨y, hy, hq⟩ := List.any_eq_true.1 h'
      have := h y hy
      rw [hq] at this; cases this
  | some j =>
    rw [List.findIdx?_eq_some_iff_getElem] at h
    obtain ⟨hj, h3, _⟩ := h
    constructor
    · intro _; exact List.any_eq_true.2 ⟨_, List.getElem_mem hj, h3⟩
    · intro _; simp only [Nat.zero_add]; omega
def TF (l : List S26) : Int := if 400 < l.length then 2 else TFs [] l
theorem tf_spec_l0 (l : List S26) (hl : l.length ≤ 400) (d : Nat) : ∀ (i : Nat), i + d = l.length → Ev (fun k => spec_TermsFault.l0 k l i) (TFs (l.take i) (l.drop i)) := by
  induction d with
  | zero =>
    intro i hi
    refine ev_succ ?_
    simp only [spec_TermsFault.l0, show ¬ (i : Int) < (l.length : Int) by omega, if_false]
    rw [List.drop_of_length_le (by omega)]; exact Ev.now _
  | succ d ih =>
    intro i hi
    refine ev_succ ?_
    simp only [spec_TermsFault.l0, show (i : Int) < (l.length : Int) by omega, show 0 ≤ (i : Int) by omega, show (i : Int) ≤ (l.length : Int) by omega, if_true, Int.toNat_natCast]
    rw [drop_rdT l i (by omega)]
    generalize hx : rd_T26 l (i : Int) = x
    simp only [TFs]
    refine Ev.bind (term_ev _ _ _ _ _ (by rw [List.length_take]; omega)) ?_
    by_cases h0 : tfault x.f0 x.f1 x.f2 x.f3 (l.take i) = 0
    · simp only [h0, if_true]
      refine Ev.bind (find_ev _ (by rw [List.length_take]; omega) x) ?_
      by_cases hh : (l.take i).any (eq4 x) = true
      · simp only [if_pos hh, if_pos ((tidx_nonneg _ _).2 hh)]; exact Ev.now _
      · simp only [if_neg hh, if_neg (fun h => hh ((tidx_nonneg _ _).1 h))]
        rw [w64' (by omega) (by omega), ← hx, ← take_rdT l i (by omega)]
        have := ih (i + 1) (by omega)
        simpa using this
    · simp only [h0, if_false]; exact Ev.now _
theorem tf_spec (l : List S26) : Ev (fun k => spec_TermsFault.f k l) (TF l) := by
  unfold spec_TermsFault.f TF
  by_cases h : 400 < l.length
  · simp only [show (l.length : Int) > 400 by omega, h, if_true]; exact Ev.now _
  · simp only [show ¬ (l.length : Int) > 400 by omega, h, if_false]
    have := tf_spec_l0 l (by omega) l.length 0 (by omega)
    simpa using this
theorem tf_impl {l : List S26} (h : l.all wf4 = true) : impl_TermsFault.f l = some (TF l) := by
  unfold impl_TermsFault.f TF
  rw [if_pos h]
def PF (l : List S26) (ps : List Int) : Int := if TF l = 0 then (if ps.any (notIn l) = true then 3 else 0) else TF l
theorem pf_impl {l : List S26} (h : l.all wf4 = true) (ps : List Int) : impl_placesFault.f l ps = some (PF l ps) := by
  unfold impl_placesFault.f PF
  rw [tf_impl h]
  simp only [Option.bind_some]
  split
  · split <;> rfl
  · rfl
theorem at_ev (l : List S26) (hl : l.length ≤ 9223372036854775807) (a : Int) : spec_l5At.f l a = some (!notIn l a) := by
  unfold spec_l5At.f
  rw [in_specT, w64' (n := (l.length : Int) - 1) (by omega) (by omega)]
  unfold notIn
  simp
theorem asked9_l0 (l : List S26) (hl : l.length ≤ 9223372036854775807) (ps : List Int) (hp : ps.length ≤ 9223372036854775807) (d : Nat) : ∀ (k i : Nat), i + d = ps.length → d < k → spec_l9Asked.l0 k l ps i = some (if (ps.drop i).any (notIn l) = true then 3 else 0) := by
  induction d with
  | zero =>
    intro k i hi hk
    obtain ⟨k, rfl⟩ : ∃ m, k = m + 1 := ⟨k - 1, by omega⟩
    simp only [spec_l9Asked.l0]; rw [if_neg (by omega), List.drop_of_length_le (by omega)]; rfl
  | succ d ih =>
    intro k i hi hk
    obtain ⟨k, rfl⟩ : ∃ m, k = m + 1 := ⟨k - 1, by omega⟩
    simp only [spec_l9Asked.l0]
    rw [if_pos (by omega), if_pos (by omega), w64' (by omega) (by omega), at_ev l hl]
    have e := ih k (i + 1) (by omega) (by omega)
    have e' : spec_l9Asked.l0 k l ps ((i : Int) + 1) = some (if (ps.drop (i + 1)).any (notIn l) = true then 3 else 0) := by simpa using e
    rw [e']
    have hd : ps.drop i = rd ps (i : Int) :: ps.drop (i + 1) := by
      rw [List.drop_eq_getElem_cons (by omega)]
      simp [rd, List.getD, List.getElem?_eq_getElem (show i < ps.length by omega)]
    rw [hd, List.any_cons]
    cases notIn l (rd ps (i : Int)) <;> simp
theorem asked9_ev (l : List S26) (hl : l.length ≤ 9223372036854775807) (ps : List Int) (hp : ps.length ≤ 9223372036854775807) : Ev (fun k => spec_l9Asked.f k l ps) (PF l ps) := by
  unfold spec_l9Asked.f PF
  refine Ev.bind (tf_spec l) ?_
  by_cases h : TF l = 0
  · simp only [h, if_true]
    refine ⟨ps.length + 1, fun k hk => ?_⟩
    have := asked9_l0 l hl ps hp ps.length k 0 (by omega) (by omega)
    simpa using this
  · simp only [h, if_false]; exact Ev.now _
theorem PF_ok {l : List S26} {ps : List Int} (h : PF l ps = 0) : TF l = 0 ∧ ∀ x ∈ ps, 0 ≤ x ∧ x < (l.length : Int) := by
  unfold PF at h
  by_cases h0 : TF l = 0
  · rw [if_pos h0] at h
    refine ⟨h0, fun x hx => (notIn_iff l x).1 ?_⟩
    split at h
    · cases h
    · rename_i hn
      cases hq : notIn l x
      · rfl
      · exact absurd (List.any_eq_true.2 ⟨x, hx, hq⟩) hn
  · rw [if_neg h0] at h; exact absurd h h0
end Go.Proofs.Ytomaeijhljpgdaa.Pure
set_option linter.unusedVariables false
set_option linter.unusedSimpArgs false
namespace Go.Proofs.Ytomaeijhljpgdaa.Pure
open Go.RowKit Go.Proofs.Ytomaeijhljpgdaa.G Go.Proofs.YtomaeijhljpgdaaW.PrintWords Go.Proofs.YtomaeijhljpgdaaW.PrintLast Go.Proofs.YtomaeijhljpgdaaW.PrintMore
theorem TF_len {l : List S26} (h : TF l = 0) : l.length ≤ 400 := by
  unfold TF at h
  by_cases hb : 400 < l.length
  · rw [if_pos hb] at h; cases h
  · omega
def PT (l : List S26) (t : S26) : Int × Int × List S26 := if tfault t.f0 t.f1 t.f2 t.f3 l = 0 then (if 0 ≤ tidx l t 0 then (0, tidx l t 0, l) else if 400 ≤ l.length then (2, 0, []) else (0, (l.length : Int), l ++ [t])) else (tfault t.f0 t.f1 t.f2 t.f3 l, 0, [])
theorem told_put (l : List S26) (t : S26) : toldP (putP l false t (tidx l t 0)) = (if 0 ≤ tidx l t 0 then (0, tidx l t 0, l) else if 400 ≤ l.length then (2, 0, []) else (0, (l.length : Int), l ++ [t])) := by
  unfold toldP putP
  by_cases h0 : 0 ≤ tidx l t 0
  · simp only [if_pos h0]; rfl
  · simp only [if_neg h0]
    by_cases h1 : 400 ≤ l.length
    · simp only [if_pos h1]; rfl
    · simp only [if_neg h1]; rfl
theorem copy_ev (l : List S26) (hl : l.length ≤ 400) : spec_l5Copy.f l = some l := by
  unfold spec_l5Copy.f
  simp only [Option.bind_some, List.length_nil, List.nil_append]
  rw [if_pos (by omega)]
theorem put_spec (l : List S26) (hl : l.length ≤ 400) (t : S26) : Ev (fun k => spec_l5Put.f k l t.f0 t.f1 t.f2 t.f3) (PT l t) := by
  unfold spec_l5Put.f PT
  refine Ev.bind (term_ev _ _ _ _ l (by omega)) ?_
  by_cases h : tfault t.f0 t.f1 t.f2 t.f3 l = 0
  · simp only [h, if_true]
    refine Ev.bind (find_ev l (by omega) t) ?_
    by_cases h0 : 0 ≤ tidx l t 0
    · simp only [h0, if_true, show tidx l t 0 ≥ 0 from h0, copy_ev l hl, Option.bind_some]; exact Ev.now _
    · simp only [h0, if_false, show ¬ tidx l t 0 ≥ 0 from h0]
      by_cases h1 : 400 ≤ l.length
      · simp only [h1, if_true, show (l.length : Int) ≥ 400 by omega]; exact Ev.now _
      · simp only [h1, if_false, show ¬ (l.length : Int) ≥ 400 by omega, copy_ev l hl, Option.bind_some, List.length_cons, List.length_nil, show l.length + (0 + 1) < 4398046511104 by omega, if_true]; exact Ev.now _
  · simp only [h, if_false]; exact Ev.now _
end Go.Proofs.Ytomaeijhljpgdaa.Pure
set_option linter.unusedVariables false
set_option linter.unusedSimpArgs false
namespace Go.Proofs.Ytomaeijhljpgdaa.Pure
open Go.RowKit Go.Proofs.Ytomaeijhljpgdaa.G Go.Proofs.YtomaeijhljpgdaaW.PrintWords Go.Proofs.YtomaeijhljpgdaaW.PrintLast Go.Proofs.YtomaeijhljpgdaaW.PrintMore
theorem PT_len (l : List S26) (t : S26) (hl : l.length ≤ 400) : (PT l t).2.2.length ≤ 400 := by
  unfold PT
  split
  · split
    · exact hl
    · split
      · simp
      · simp; omega
  · simp
theorem back_rev (zs : List Int) : (backTo zs zs.length).map Prod.snd = zs.reverse := by
  apply List.ext_getElem
  · simp [backTo]
  · intro i h1 h2
    have hi : i < zs.length := by simpa [backTo] using h1
    simp [backTo, List.getElem_reverse, List.getElem?_eq_getElem (show zs.length - 1 - i < zs.length by omega)]
theorem tidx_lt (l : List S26) (x : S26) (h : 0 ≤ tidx l x 0) : tidx l x 0 < (l.length : Int) := by
  unfold tidx at h ⊢
  rw [List.drop_zero] at h ⊢
  cases e : l.findIdx? fun y => eq4 x y with
  | none => rw [e] at h; simp at h
  | some j =>
    rw [List.findIdx?_eq_some_iff_getElem] at e
    obtain ⟨hj, _⟩ := e
    simp only [Nat.zero_add]
    omega
theorem putT_eq (l : List S26) (full : Bool) (t : S26) : putT l full t = putP l full t (tidx l t 0) := rfl
end Go.Proofs.Ytomaeijhljpgdaa.Pure
set_option linter.unusedVariables false
set_option linter.unusedSimpArgs false
namespace Go.Proofs.Ytomaeijhljpgdaa.Pure
open Go.RowKit Go.Proofs.Ytomaeijhljpgdaa.G Go.Proofs.YtomaeijhljpgdaaW.PrintWords Go.Proofs.YtomaeijhljpgdaaW.PrintLast Go.Proofs.YtomaeijhljpgdaaW.PrintMore
def p9 (m : List S26 × Int) (t : S26) : Int × List S26 × Int :=
  if m.2 = 0 then (if (PT m.1 t).1 = 0 then ((PT m.1 t).2.1, (PT m.1 t).2.2, 0) else (0, m.1, (PT m.1 t).1)) else (0, m)
def Sim (m : List S26 × Int) (s : List S26 × Bool) : Prop := m.1.length ≤ 400 ∧ s.1.length ≤ 400 ∧ ((m.2 = 0 ∧ s.2 = false ∧ m.1 = s.1) ∨ (m.2 = 2 ∧ s.2 = true))
def Ext (m m' : List S26 × Int) : Prop := (∃ r, m'.1 = m.1 ++ r) ∧ (m'.2 = 0 → m.2 = 0)
def Pl (m : List S26 × Int) (p : Int) : Prop := m.2 = 0 → 0 ≤ p ∧ p < (m.1.length : Int)
def Same (m : List S26 × Int) (a : Int × List S26 × Int) (b : Int × List S26 × Bool) : Prop := Sim a.2 b.2 ∧ Ext m a.2 ∧ (a.2.2 = 0 → a.1 = b.1) ∧ Pl a.2 a.1
theorem Ext.refl (m : List S26 × Int) : Ext m m := ⟨⟨[], by simp⟩, id⟩
theorem Ext.trans {a b c : List S26 × Int} (h : Ext a b) (h2 : Ext b c) : Ext a c := by
  obtain ⟨⟨r, hr⟩, h⟩ := h
  obtain ⟨⟨q, hq⟩, h2⟩ := h2
  exact ⟨⟨r ++ q, by rw [hq, hr, List.append_assoc]⟩, fun e => h (h2 e)⟩
theorem Pl.ext {m m' : List S26 × Int} {p : Int} (h : Pl m p) (he : Ext m m') : Pl m' p := by
  intro e
  obtain ⟨⟨r, hr⟩, h2⟩ := he
  have := h (h2 e)
  rw [hr, List.length_append]
  omega
theorem PT_ext (l : List S26) (t : S26) (h : (PT l t).1 = 0) : (∃ r, (PT l t).2.2 = l ++ r) ∧ 0 ≤ (PT l t).2.1 ∧ (PT l t).2.1 < ((PT l t).2.2.length : Int) := by
  unfold PT at h ⊢
  by_cases hf : tfault t.f0 t.f1 t.f2 t.f3 l = 0
  · simp only [if_pos hf] at h ⊢
    by_cases h0 : 0 ≤ tidx l t 0
    · simp only [if_pos h0] at h ⊢
      exact ⟨⟨[], by simp⟩, h0, tidx_lt l t h0⟩
    · simp only [if_neg h0] at h ⊢
      by_cases h4 : 400 ≤ l.length
      · simp only [if_pos h4] at h; cases h
      · simp only [if_neg h4] at h ⊢
        exact ⟨⟨[t], rfl⟩, by omega, by simp <;> omega⟩
  · simp only [if_neg hf] at h; exact absurd h hf
theorem p9_ext (m : List S26 × Int) (t : S26) : Ext m (p9 m t).2 := by
  unfold p9
  by_cases h0 : m.2 = 0
  · rw [if_pos h0]
    by_cases h1 : (PT m.1 t).1 = 0
    · rw [if_pos h1]; exact ⟨(PT_ext _ _ h1).1, fun _ => h0⟩
    · rw [if_neg h1]; exact ⟨⟨[], by simp⟩, fun _ => h0⟩
  · rw [if_neg h0]; exact Ext.refl m
theorem p9_pl (m : List S26 × Int) (t : S26) : Pl (p9 m t).2 (p9 m t).1 := by
  unfold p9
  by_cases h0 : m.2 = 0
  · rw [if_pos h0]
    by_cases h1 : (PT m.1 t).1 = 0
    · rw [if_pos h1]; exact fun _ => (PT_ext _ _ h1).2
    · rw [if_neg h1]; exact fun e => absurd e h1
  · rw [if_neg h0]; exact fun e => absurd e h0
theorem p9_len (m : List S26 × Int) (t : S26) (h : m.1.length ≤ 400) : (p9 m t).2.1.length ≤ 400 := by
  unfold p9
  by_cases h0 : m.2 = 0
  · rw [if_pos h0]
    by_cases h1 : (PT m.1 t).1 = 0
    · rw [if_pos h1]; exact PT_len _ _ h
    · rw [if_neg h1]; exact h
  · rw [if_neg h0]; exact h
theorem putT_full (l : List S26) (t : S26) : (putT l true t).2.2 = true := by
  rw [putT_eq]
  unfold putP
  split
  · rfl
  · split <;> rfl
theorem same_put {m : List S26 × Int} {s : List S26 × Bool} {t t' : S26} (h : Sim m s) (ht : m.2 = 0 → t = t' ∧ tfault t.f0 t.f1 t.f2 t.f3 m.1 = 0) : Same m (p9 m t) (putT s.1 s.2 t') := by
  refine ⟨⟨p9_len m t h.1, putT_len h.2.1, ?_⟩, p9_ext m t, ?_, p9_pl m t⟩
  · obtain ⟨h1, h2, ⟨c0, c1, c2⟩ | ⟨c0, c1⟩⟩ := h
    · obtain ⟨rfl, hf⟩ := ht c0
      have e := told_put m.1 t
      unfold p9
      rw [if_pos c0, c1, ← c2, putT_eq]
      unfold PT
      rw [if_pos hf]
      unfold putP
      by_cases h0 : 0 ≤ tidx m.1 t 0
      · simp only [if_pos h0]; left; simp
      · simp only [if_neg h0]
        by_cases h4 : 400 ≤ m.1.length
        · simp only [if_pos h4]; right; simp
        · simp only [if_neg h4, Bool.false_eq_true, if_false, if_true]; left; simp
    · right
      unfold p9
      rw [if_neg (show ¬ m.2 = 0 by omega), c1]
      exact ⟨c0, putT_full _ _⟩
  · obtain ⟨h1, h2, ⟨c0, c1, c2⟩ | ⟨c0, c1⟩⟩ := h
    · obtain ⟨rfl, hf⟩ := ht c0
      intro hz
      unfold p9 at hz ⊢
      rw [if_pos c0] at hz ⊢
      rw [c1, ← c2, putT_eq]
      unfold PT at hz ⊢
      rw [if_pos hf] at hz ⊢
      unfold putP
      by_cases h0 : 0 ≤ tidx m.1 t 0
      · simp only [if_pos h0]; simp
      · simp only [if_neg h0] at hz ⊢
        by_cases h4 : 400 ≤ m.1.length
        · simp only [if_pos h4] at hz; cases hz
        · simp only [if_neg h4, Bool.false_eq_true, if_false, if_true]
    · intro hz
      unfold p9 at hz
      rw [if_neg (show ¬ m.2 = 0 by omega)] at hz
      have hz2 : m.2 = 0 := hz
      omega
theorem fault_two {l : List S26} {op a b : Int} (ho : op = 3 ∨ op = 4 ∨ op = 5) (ha : 0 ≤ a ∧ a < (l.length : Int)) (hb : 0 ≤ b ∧ b < (l.length : Int)) : tfault op a b 0 l = 0 := by
  unfold tfault
  rw [if_pos (by omega), if_neg (by omega), if_neg (by omega), if_pos rfl]
  have n1 : notIn l a = false := (notIn_iff l a).2 ha
  have n2 : notIn l b = false := (notIn_iff l b).2 hb
  simp [n1, n2]
  omega
theorem fault_name {l : List S26} {n : Int} (h0 : 0 ≤ n) (h1 : n ≤ 9999) : tfault 1 0 0 n l = 0 := by
  unfold tfault
  rw [if_pos (by omega), if_pos (by omega), if_pos ⟨rfl, rfl⟩, if_pos ⟨h0, h1⟩]
theorem same_two {m : List S26 × Int} {s : List S26 × Bool} {op a b a' b' : Int} (ho : op = 3 ∨ op = 4 ∨ op = 5) (h : Sim m s) (ha : m.2 = 0 → a = a') (hb : m.2 = 0 → b = b') (pa : Pl m a) (pb : Pl m b) : Same m (p9 m ⟨op, a, b, 0⟩) (putT s.1 s.2 ⟨op, a', b', 0⟩) :=
  same_put h (fun e => ⟨by rw [ha e, hb e], fault_two ho (pa e) (pb e)⟩)
theorem same_name {m : List S26 × Int} {s : List S26 × Bool} {n : Int} (h : Sim m s) (h0 : 0 ≤ n) (h1 : n ≤ 9999) : Same m (p9 m ⟨1, 0, 0, n⟩) (putT s.1 s.2 ⟨1, 0, 0, n⟩) :=
  same_put h (fun _ => ⟨rfl, fault_name h0 h1⟩)
def list9 (m : List S26 × Int) (xs : List Int) : Int × List S26 × Int := ((xs.take (xs.length - 1)).reverse).foldl (fun st x => p9 st.2 ⟨3, x, st.1, 0⟩) (xs[xs.length - 1]?.getD 0, m)
theorem listP_rev (l : List S26) (full : Bool) (xs : List Int) (h : xs ≠ []) : listP l full xs = ((xs.take (xs.length - 1)).reverse).foldl pairT (xs[xs.length - 1]?.getD 0, l, full) := by
  unfold listP
  rw [if_neg (fun e => h (List.length_eq_zero_iff.1 e))]
  have := back_rev (xs.take (xs.length - 1))
  rw [show (xs.take (xs.length - 1)).length = xs.length - 1 by simp] at this
  rw [this]
theorem same_fold : ∀ (ys ys' : List Int) (st : Int × List S26 × Int) (st' : Int × List S26 × Bool), ys.length = ys'.length → Sim st.2 st'.2 → (st.2.2 = 0 → st.1 = st'.1 ∧ ys = ys') → Pl st.2 st.1 → (∀ y ∈ ys, Pl st.2 y) →
    Same st.2 (ys.foldl (fun st x => p9 st.2 ⟨3, x, st.1, 0⟩) st) (ys'.foldl pairT st')
  | [], [], st, st', _, h, he, hp, _ => ⟨h, Ext.refl _, fun e => (he e).1, hp⟩
  | [], _ :: _, _, _, hl, _, _, _, _ => by simp at hl
  | _ :: _, [], _, _, hl, _, _, _, _ => by simp at hl
  | y :: ys, y' :: ys', st, st', hl, h, he, hp, ha => by
    have h1 : Same st.2 (p9 st.2 ⟨3, y, st.1, 0⟩) (pairT st' y') := same_two (.inl rfl) h (fun e => by have := (he e).2; injection this) (fun e => (he e).1) (ha y (by simp)) hp
    obtain ⟨s1, s2, s3, s4⟩ := h1
    have h2 := same_fold ys ys' _ _ (by simpa using hl) s1 (fun e => ⟨s3 e, by have := (he (s2.2 e)).2; injection this⟩) s4 (fun z hz => (ha z (List.mem_cons_of_mem _ hz)).ext s2)
    exact ⟨h2.1, s2.trans h2.2.1, h2.2.2⟩
theorem same_list {m : List S26 × Int} {s : List S26 × Bool} {xs xs' : List Int} (h : Sim m s) (hl : xs.length = xs'.length) (h0 : xs ≠ []) (he : m.2 = 0 → xs = xs') (hp : ∀ x ∈ xs, Pl m x) : Same m (list9 m xs) (listP s.1 s.2 xs') := by
  have h0' : xs' ≠ [] := fun e => h0 (by rw [e] at hl; exact List.length_eq_zero_iff.1 hl)
  rw [listP_rev _ _ _ h0']
  unfold list9
  have hlp : 0 < xs.length := List.length_pos_iff.2 h0
  refine same_fold _ _ (_, m) (_, s.1, s.2) (by simp; omega) h (fun e => by rw [he e]; exact ⟨rfl, rfl⟩) ?_ (fun y hy => hp y (List.mem_of_mem_take (List.mem_reverse.1 hy)))
  exact hp _ (by rw [List.getElem?_eq_getElem (by omega)]; exact List.getElem_mem _)
theorem same_told {m : List S26 × Int} {a : Int × List S26 × Int} {b : Int × List S26 × Bool} (h : Same m a b) : toldP b = if a.2.2 = 0 then (0, a.1, a.2.1) else (a.2.2, 0, []) := by
  obtain ⟨⟨_, _, ⟨c0, c1, c2⟩ | ⟨c0, c1⟩⟩, _, h3, _⟩ := h
  · unfold toldP
    rw [if_pos c0, if_neg (by rw [c1]; decide), h3 c0, c2]
  · unfold toldP
    rw [if_pos c1, if_neg (show ¬ a.2.2 = 0 by omega), c0]
end Go.Proofs.Ytomaeijhljpgdaa.Pure
set_option linter.unusedVariables false
set_option linter.unusedSimpArgs false
namespace Go.Proofs.Ytomaeijhljpgdaa.Pure
open Go.RowKit Go.Proofs.Ytomaeijhljpgdaa.G Go.Proofs.YtomaeijhljpgdaaW.PrintWords Go.Proofs.YtomaeijhljpgdaaW.PrintLast Go.Proofs.YtomaeijhljpgdaaW.PrintMore
theorem rd_app {l r : List S26} {x : Int} (h : 0 ≤ x ∧ x < (l.length : Int)) : rd_T26 (l ++ r) x = rd_T26 l x := by
  unfold rd_T26
  simp only [List.getD]
  rw [List.getElem?_append_left (by omega)]
theorem notIn_app {l r : List S26} {x : Int} (h : notIn l x = false) : notIn (l ++ r) x = false := by
  rw [notIn_iff] at h ⊢
  rw [List.length_append]; omega
theorem notFresh_app {l r : List S26} {x : Int} (h : notIn l x = false) : notFresh (l ++ r) x = notFresh l x := by
  unfold notFresh
  rw [rd_app ((notIn_iff l x).1 h)]
theorem tfault_mono {a b c d : Int} {l r : List S26} (h : tfault a b c d l = 0) : tfault a b c d (l ++ r) = 0 := by
  unfold tfault at h ⊢
  by_cases h1 : 1 ≤ a ∧ a ≤ 7
  · rw [if_pos h1] at h ⊢
    by_cases h2 : a = 1 ∨ a = 2
    · rw [if_pos h2] at h ⊢; exact h
    · rw [if_neg h2] at h ⊢
      by_cases h3 : a = 6
      · rw [if_pos h3] at h ⊢
        by_cases h4 : c = 0 ∧ d = 0
        · rw [if_pos h4] at h ⊢
          by_cases h5 : ([b] : List Int).any (notIn l) = true
          · rw [if_pos h5] at h; cases h
          · rw [if_neg h5] at h
            have n : notIn l b = false := by simpa using h5
            have e : ([b] : List Int).any (notIn (l ++ r)) = false := by simp [notIn_app n]
            have e2 : ([b] : List Int).any (notFresh (l ++ r)) = ([b] : List Int).any (notFresh l) := by simp [notFresh_app n]
            rw [e, e2, if_neg (by decide)]
            exact h
        · rw [if_neg h4] at h; cases h
      · rw [if_neg h3] at h ⊢
        by_cases h4 : d = 0
        · rw [if_pos h4] at h ⊢
          by_cases h5 : ([b, c] : List Int).any (notIn l) = true
          · rw [if_pos h5] at h; cases h
          · rw [if_neg h5] at h
            have n : notIn l b = false ∧ notIn l c = false := by simpa using h5
            have e : ([b, c] : List Int).any (notIn (l ++ r)) = false := by simp [notIn_app n.1, notIn_app n.2]
            have e2 : ([b, c] : List Int).any (notFresh (l ++ r)) = ([b, c] : List Int).any (notFresh l) := by simp [notFresh_app n.1, notFresh_app n.2]
            rw [e, e2, if_neg (by decide)]
            exact h
        · rw [if_neg h4] at h; cases h
  · rw [if_neg h1] at h; cases h
theorem TFs_snoc (t : S26) : ∀ (l pre : List S26), TFs pre l = 0 → tfault t.f0 t.f1 t.f2 t.f3 (pre ++ l) = 0 → (pre ++ l).any (eq4 t) = false → TFs pre (l ++ [t]) = 0
  | [], pre, _, hf, ha => by
    rw [List.append_nil] at hf ha
    simp only [List.nil_append, TFs]
    rw [if_pos hf, ha, if_neg (by decide)]
  | x :: r, pre, h, hf, ha => by
    rw [List.cons_append]
    unfold TFs at h ⊢
    by_cases hx : tfault x.f0 x.f1 x.f2 x.f3 pre = 0
    · rw [if_pos hx] at h ⊢
      by_cases hy : pre.any (eq4 x) = true
      · rw [if_pos hy] at h; cases h
      · rw [if_neg hy] at h ⊢
        exact TFs_snoc t r (pre ++ [x]) h (by rw [List.append_assoc]; exact hf) (by rw [List.append_assoc]; exact ha)
    · rw [if_neg hx] at h; exact absurd h hx
theorem TF_snoc {l : List S26} {t : S26} (h : TF l = 0) (hl : l.length < 400) (hf : tfault t.f0 t.f1 t.f2 t.f3 l = 0) (hi : ¬ 0 ≤ tidx l t 0) : TF (l ++ [t]) = 0 := by
  unfold TF at h ⊢
  rw [if_neg (by omega)] at h
  rw [if_neg (by simp; omega)]
  refine TFs_snoc t l [] h hf ?_
  cases hq : l.any (eq4 t) with
  | false => exact hq
  | true => exact absurd ((tidx_nonneg l t).2 hq) hi
theorem tidx_rd {l : List S26} {t : S26} (h : 0 ≤ tidx l t 0) : rd_T26 l (tidx l t 0) = t := by
  unfold tidx at h ⊢
  rw [List.drop_zero] at h ⊢
  cases e : l.findIdx? fun y => eq4 t y with
  | none => rw [e] at h; simp at h
  | some j =>
    rw [List.findIdx?_eq_some_iff_getElem] at e
    obtain ⟨hj, he, _⟩ := e
    have := eq4_iff.1 he
    simp only [Nat.zero_add]
    rw [this]
    simp [rd_T26, List.getD, List.getElem?_eq_getElem hj]
theorem tidx_snoc {l : List S26} {t : S26} (h : ¬ 0 ≤ tidx l t 0) : tidx (l ++ [t]) t 0 = (l.length : Int) := by
  unfold tidx at h ⊢
  rw [List.drop_zero] at h ⊢
  have ht : eq4 t t = true := eq4_iff.2 rfl
  cases e : l.findIdx? fun y => eq4 t y with
  | some j => rw [e] at h; simp at h <;> omega
  | none => simp [List.findIdx?_append, e, List.findIdx?_cons, ht]
theorem PT_good {l : List S26} {t : S26} (h : TF l = 0) (h0 : (PT l t).1 = 0) : TF (PT l t).2.2 = 0 ∧ (∃ q, (PT l t).2.2 = l ++ q) ∧ (0 ≤ (PT l t).2.1 ∧ (PT l t).2.1 < ((PT l t).2.2.length : Int)) ∧ rd_T26 (PT l t).2.2 (PT l t).2.1 = t ∧ PT (PT l t).2.2 t = PT l t := by
  have hl := TF_len h
  by_cases hf : tfault t.f0 t.f1 t.f2 t.f3 l = 0
  · by_cases hi : 0 ≤ tidx l t 0
    · have e : PT l t = (0, tidx l t 0, l) := by unfold PT; rw [if_pos hf, if_pos hi]
      rw [e]
      exact ⟨h, ⟨[], by simp⟩, ⟨hi, tidx_lt l t hi⟩, tidx_rd hi, e⟩
    · by_cases h4 : 400 ≤ l.length
      · unfold PT at h0; rw [if_pos hf, if_neg hi, if_pos h4] at h0; cases h0
      · have e : PT l t = (0, (l.length : Int), l ++ [t]) := by unfold PT; rw [if_pos hf, if_neg hi, if_neg h4]
        rw [e]
        refine ⟨TF_snoc h (by omega) hf hi, ⟨[t], rfl⟩, ⟨Int.natCast_nonneg _, by simp <;> omega⟩, ?_, ?_⟩
        · simp [rd_T26, List.getD]
        · have e2 := tidx_snoc hi
          show PT (l ++ [t]) t = _
          unfold PT
          rw [if_pos (tfault_mono hf), e2, if_pos (by omega)]
  · unfold PT at h0; rw [if_neg hf] at h0; exact absurd h0 hf
end Go.Proofs.Ytomaeijhljpgdaa.Pure
set_option linter.unusedVariables false
set_option linter.unusedSimpArgs false
namespace Go.Proofs.Ytomaeijhljpgdaa.Pure
open Go.RowKit Go.Proofs.Ytomaeijhljpgdaa.G Go.Proofs.YtomaeijhljpgdaaW.PrintWords Go.Proofs.YtomaeijhljpgdaaW.PrintLast Go.Proofs.YtomaeijhljpgdaaW.PrintMore
theorem l9put_ev (m : List S26 × Int) (hl : m.1.length ≤ 400) (t : S26) : Ev (fun k => spec_l9Put.f k m.1 m.2 t.f0 t.f1 t.f2 t.f3) (p9 m t) := by
  unfold spec_l9Put.f p9
  by_cases h : m.2 = 0
  · simp only [h, if_true]
    refine Ev.bind (put_spec m.1 hl t) ?_
    by_cases h1 : (PT m.1 t).1 = 0
    · simp only [h1, if_true]; exact Ev.now _
    · simp only [h1, if_false]; exact Ev.now _
  · simp only [h, if_false]; exact Ev.now _
theorem l9two_ev (m : List S26 × Int) (hl : m.1.length ≤ 400) (o a b : Int) : Ev (fun k => spec_l9Two.f k m.1 m.2 o a b) (p9 m ⟨o, a, b, 0⟩) := l9put_ev m hl ⟨o, a, b, 0⟩
theorem l9name_ev (m : List S26 × Int) (hl : m.1.length ≤ 400) (n : Int) : Ev (fun k => spec_l9Name.f k m.1 m.2 n) (p9 m ⟨1, 0, 0, n⟩) := l9put_ev m hl ⟨1, 0, 0, n⟩
theorem l9fold_ev : ∀ (ys : List Int) (st : Int × List S26 × Int), st.2.1.length ≤ 400 → Ev (fun k => l9Fold k ys st) (ys.foldl (fun st x => p9 st.2 ⟨3, x, st.1, 0⟩) st)
  | [], st, _ => Ev.now _
  | y :: ys, st, h => by
    simp only [l9Fold, List.foldl_cons]
    exact Ev.bind (l9two_ev st.2 h 3 y st.1) (l9fold_ev ys _ (p9_len _ _ h))
theorem l9list_ev (m : List S26 × Int) (hl : m.1.length ≤ 400) (xs : List Int) (h0 : xs ≠ []) : Ev (fun k => spec_l9List.f k m.1 m.2 xs) (list9 m xs) := by
  unfold spec_l9List.f list9
  have h1 : ¬ xs.length = 0 := fun e => h0 (List.length_eq_zero_iff.1 e)
  simp only [h1, if_false]
  have e : rd xs ((xs.length - 1 : Nat) : Int) = xs[xs.length - 1]?.getD 0 := by simp [rd, List.getD]
  rw [e]
  exact l9fold_ev _ _ hl
def Val (m : List S26 × Int) (p p' : Int) : Prop := Pl m p ∧ (m.2 = 0 → p = p')
theorem Val.ext {m m' : List S26 × Int} {p p' : Int} (h : Val m p p') (he : Ext m m') : Val m' p p' := ⟨h.1.ext he, fun e => h.2 (he.2 e)⟩
theorem Same.val {m : List S26 × Int} {a : Int × List S26 × Int} {b : Int × List S26 × Bool} (h : Same m a b) : Val a.2 a.1 b.1 := ⟨h.2.2.2, h.2.2.1⟩
theorem Same.len {m : List S26 × Int} {a : Int × List S26 × Int} {b : Int × List S26 × Bool} (h : Same m a b) : a.2.1.length ≤ 400 := h.1.1
theorem two_same {m : List S26 × Int} {s : List S26 × Bool} {o a a' b b' : Int} (ho : o = 3 ∨ o = 4 ∨ o = 5) (h : Sim m s) (va : Val m a a') (vb : Val m b b') : Ev (fun k => spec_l9Two.f k m.1 m.2 o a b) (p9 m ⟨o, a, b, 0⟩) ∧ Same m (p9 m ⟨o, a, b, 0⟩) (putT s.1 s.2 ⟨o, a', b', 0⟩) :=
  ⟨l9two_ev m h.1 o a b, same_two ho h va.2 vb.2 va.1 vb.1⟩
theorem name_same {m : List S26 × Int} {s : List S26 × Bool} {n : Int} (h : Sim m s) (h0 : 0 ≤ n) (h1 : n ≤ 9999) : Ev (fun k => spec_l9Name.f k m.1 m.2 n) (p9 m ⟨1, 0, 0, n⟩) ∧ Same m (p9 m ⟨1, 0, 0, n⟩) (putT s.1 s.2 ⟨1, 0, 0, n⟩) :=
  ⟨l9name_ev m h.1 n, same_name h h0 h1⟩
theorem list3_same {m : List S26 × Int} {s : List S26 × Bool} {a a' b b' c c' : Int} (h : Sim m s) (va : Val m a a') (vb : Val m b b') (vc : Val m c c') : Ev (fun k => spec_l9List.f k m.1 m.2 [a, b, c]) (list9 m [a, b, c]) ∧ Same m (list9 m [a, b, c]) (listP s.1 s.2 [a', b', c']) :=
  ⟨l9list_ev m h.1 _ (by simp), same_list h rfl (by simp) (fun e => by rw [va.2 e, vb.2 e, vc.2 e]) (fun x hx => by
    simp only [List.mem_cons, List.not_mem_nil, or_false] at hx
    rcases hx with rfl | rfl | rfl
    · exact va.1
    · exact vb.1
    · exact vc.1)⟩
theorem val_same {m : List S26 × Int} {p : Int} (h : 0 ≤ p ∧ p < (m.1.length : Int)) : Val m p p := ⟨fun _ => h, fun _ => rfl⟩
theorem proof_same {m : List S26 × Int} {s : List S26 × Bool} {sh fi no ke n : Int} (h : Sim m s) (v1 : Val m sh sh) (v2 : Val m fi fi) (v3 : Val m no no) (v4 : Val m ke ke) (h0 : 0 ≤ n) (h1 : n ≤ 9999) : ∃ a, Ev (fun k => spec_l9Proof.f k m.1 m.2 sh fi no ke n) a ∧ Same m a (proofT s.1 s.2 sh fi no ke n) := by
  obtain ⟨e1, s1⟩ := name_same (n := 9) h (by omega) (by omega)
  generalize p9 m ⟨1, 0, 0, 9⟩ = A1 at e1 s1
  unfold proofT
  dsimp only
  generalize putT s.1 s.2 ⟨1, 0, 0, 9⟩ = B1 at s1 ⊢
  obtain ⟨e2, s2⟩ := two_same (o := 4) (.inr (.inl rfl)) s1.1 (v1.ext s1.2.1) s1.val
  generalize p9 A1.2 ⟨4, sh, A1.1, 0⟩ = A2 at e2 s2
  generalize putT B1.2.1 B1.2.2 ⟨4, sh, B1.1, 0⟩ = B2 at s2 ⊢
  obtain ⟨e3, s3⟩ := name_same (n := n) s2.1 h0 h1
  generalize p9 A2.2 ⟨1, 0, 0, n⟩ = A3 at e3 s3
  generalize putT B2.2.1 B2.2.2 ⟨1, 0, 0, n⟩ = B3 at s3 ⊢
  obtain ⟨e4, s4⟩ := two_same (o := 4) (.inr (.inl rfl)) s3.1 (((v4.ext s1.2.1).ext s2.2.1).ext s3.2.1) s3.val
  generalize p9 A3.2 ⟨4, ke, A3.1, 0⟩ = A4 at e4 s4
  generalize putT B3.2.1 B3.2.2 ⟨4, ke, B3.1, 0⟩ = B4_ at s4 ⊢
  have x4 := ((s1.2.1.trans s2.2.1).trans s3.2.1).trans s4.2.1
  obtain ⟨e5, s5⟩ := list3_same s4.1 (v2.ext x4) (v3.ext x4) s4.val
  generalize list9 A4.2 [fi, no, A4.1] = A5 at e5 s5
  generalize listP B4_.2.1 B4_.2.2 [fi, no, B4_.1] = B5 at s5 ⊢
  obtain ⟨e6, s6⟩ := two_same (o := 4) (.inr (.inl rfl)) s5.1 (((s2.val.ext s3.2.1).ext s4.2.1).ext s5.2.1) s5.val
  generalize p9 A5.2 ⟨4, A2.1, A5.1, 0⟩ = A6 at e6 s6
  generalize putT B5.2.1 B5.2.2 ⟨4, B2.1, B5.1, 0⟩ = B6 at s6 ⊢
  refine ⟨A6, ?_, s6.1, (x4.trans s5.2.1).trans s6.2.1, s6.2.2.1, s6.2.2.2⟩
  unfold spec_l9Proof.f
  exact Ev.bind e1 (Ev.bind e2 (Ev.bind e3 (Ev.bind e4 (Ev.bind e5 (Ev.bind e6 (Ev.now _))))))
def badN (n : Int) : Bool := !decide (0 ≤ n ∧ n ≤ 9999)
theorem badN_iff {n : Int} : badN n = false ↔ 0 ≤ n ∧ n ≤ 9999 := by unfold badN; simp
theorem isName_ev (n : Int) : impl_isName.f n = some (!badN n) := by
  unfold impl_isName.f impl_in.f badN
  split
  · simp; omega
  · simp; omega
theorem word_ev (n : Int) : spec_l9Word.f n = some (!badN n) := by
  unfold spec_l9Word.f badN
  rw [in_specT]
  simp
def NF (l : List S26) (ns ps : List Int) : Int := if PF l ps = 0 then (if ns.any badN = true then 3 else 0) else PF l ps
theorem nf_l0 (ns : List Int) (hn : ns.length ≤ 1000000000) (d : Nat) : ∀ (c : Int) (i : Nat), i + d = ns.length → Ev (fun k => impl_namesFault.l0 k c ns (ns.length : Int) i) (if c = 0 then (if (ns.drop i).any badN = true then 3 else 0) else c) := by
  induction d with
  | zero =>
    intro c i hi
    refine ev_succ ?_
    simp only [impl_namesFault.l0, show ¬ (i : Int) < (ns.length : Int) by omega, if_false]
    rw [List.drop_of_length_le (by omega)]
    by_cases h : c = 0
    · simp only [h, if_true, List.any_nil, Bool.false_eq_true, if_false]; exact Ev.now _
    · simp only [h, if_false]; exact Ev.now _
  | succ d ih =>
    intro c i hi
    refine ev_succ ?_
    have hd : ns.drop i = rd ns (i : Int) :: ns.drop (i + 1) := by
      rw [List.drop_eq_getElem_cons (by omega)]
      simp [rd, List.getD, List.getElem?_eq_getElem (show i < ns.length by omega)]
    have hw : wrap64 ((i : Int) + 1) = ((i + 1 : Nat) : Int) := by unfold wrap64; omega
    simp only [impl_namesFault.l0, show (i : Int) < (ns.length : Int) by omega, show 0 ≤ (i : Int) by omega, if_true, hw, isName_ev, Option.bind_some]
    rw [hd, List.any_cons]
    by_cases h : c = 0
    · simp only [h, if_true]
      cases hb : badN (rd ns (i : Int)) with
      | true =>
        simp only [Bool.not_true, Bool.false_eq_true, if_false, Bool.true_or, if_true]
        have := ih 3 (i + 1) (by omega)
        simpa using this
      | false =>
        simp only [Bool.not_false, if_true, Bool.false_or]
        have := ih 0 (i + 1) (by omega)
        simpa using this
    · simp only [h, if_false]
      have := ih c (i + 1) (by omega)
      simpa only [h, if_false] using this
theorem nf_ev {l : List S26} (hw : l.all wf4 = true) (ns ps : List Int) (hn : ns.length ≤ 1000000000) : Ev (fun k => impl_namesFault.f k l ns ps) (NF l ns ps) := by
  unfold impl_namesFault.f NF
  simp only [pf_impl hw, Option.bind_some]
  have := nf_l0 ns hn ns.length (PF l ps) 0 (by omega)
  simpa using this
theorem PF_sim {l : List S26} {ps : List Int} (h : PF l ps = 0) : l.length ≤ 400 ∧ Sim (l, 0) (l, false) ∧ ∀ p ∈ ps, Val (l, 0) p p := by
  obtain ⟨h1, h2⟩ := PF_ok h
  have := TF_len h1
  exact ⟨this, ⟨this, this, .inl ⟨rfl, rfl, rfl⟩⟩, fun p hp => val_same (h2 p hp)⟩
theorem told_ev {m : List S26 × Int} {a : Int × List S26 × Int} {b : Int × List S26 × Bool} (h : Same m a b) : (if a.2.2 = 0 then (some (0, a.1, a.2.1)) else (some (a.2.2, 0, []))) = some (toldP b) := by
  rw [same_told h]
  split <;> rfl
theorem told_len {m : List S26 × Int} {a : Int × List S26 × Int} {b : Int × List S26 × Bool} (h : Same m a b) : (toldP b).2.2.length ≤ 400 := by
  rw [same_told h]
  split
  · exact h.len
  · simp
theorem makeProof_ev {l : List S26} (hw : l.all wf4 = true) (hl : l.length ≤ 9223372036854775807) (sh fi no ke n : Int) : ∃ r : Int × Int × List S26, Ev (fun k => spec_MakeProof.f k l sh fi no ke n) r ∧ Ev (fun k => impl_MakeProof.f k l sh fi no ke n) r ∧ r.2.2.length ≤ 400 ∧ (r.1 = 0 → PF l [sh, fi, no, ke] = 0 ∧ (0 ≤ n ∧ n ≤ 9999) ∧ r = toldP (proofT l false sh fi no ke n)) := by
  have ha := asked9_ev l hl [sh, fi, no, ke] (by simp)
  have hn := nf_ev hw [n] [sh, fi, no, ke] (by simp)
  unfold spec_MakeProof.f impl_MakeProof.f
  unfold NF at hn
  by_cases h0 : PF l [sh, fi, no, ke] = 0
  rotate_left
  · refine ⟨(PF l [sh, fi, no, ke], 0, []), Ev.bind ha ?_, Ev.bind hn ?_, by simp, fun h => absurd h h0⟩
    · simp only [h0, if_false]; exact Ev.now _
    · simp only [h0, if_false]; exact Ev.now _
  obtain ⟨h4, hsim, hv⟩ := PF_sim h0
  rw [if_pos h0] at hn
  rw [h0] at ha
  cases hb : badN n with
  | true =>
    refine ⟨(3, 0, []), Ev.bind ha ?_, Ev.bind hn ?_, by simp, fun h => absurd h (by decide)⟩
    · simp only [if_true, word_ev, hb, Option.bind_some, Bool.not_true, Bool.false_eq_true, if_false]; exact Ev.now _
    · simp only [List.any_cons, hb, Bool.true_or, if_true, show ¬ (3 : Int) = 0 by omega, if_false]; exact Ev.now _
  | false =>
    obtain ⟨n0, n1⟩ := badN_iff.1 hb
    obtain ⟨a, e1, e2⟩ := proof_same (n := n) hsim (hv sh (by simp)) (hv fi (by simp)) (hv no (by simp)) (hv ke (by simp)) n0 n1
    refine ⟨toldP (proofT l false sh fi no ke n), Ev.bind ha ?_, Ev.bind hn ?_, told_len e2, fun _ => ⟨h0, ⟨n0, n1⟩, rfl⟩⟩
    · simp only [if_true, word_ev, hb, Option.bind_some, Bool.not_false, copy_ev l h4]
      refine Ev.bind e1 ?_
      rw [told_ev e2]; exact Ev.now _
    · simp only [List.any_cons, List.any_nil, hb, Bool.or_false, Bool.false_eq_true, if_false, if_true, h4]; exact Ev.now _
theorem putT_rd {l : List S26} {full : Bool} {t : S26} : ∃ r, (putT l full t).2.1 = l ++ r := by
  unfold putT putP
  split
  · exact ⟨[], by simp⟩
  · split
    · exact ⟨[], by simp⟩
    · split
      · exact ⟨[], by simp⟩
      · exact ⟨[t], rfl⟩
end Go.Proofs.Ytomaeijhljpgdaa.Pure
set_option linter.unusedVariables false
set_option linter.unusedSimpArgs false
namespace Go.Proofs.Ytomaeijhljpgdaa.Pure
open Go.RowKit Go.Proofs.Ytomaeijhljpgdaa.G Go.Proofs.YtomaeijhljpgdaaW.PrintWords Go.Proofs.YtomaeijhljpgdaaW.PrintLast Go.Proofs.YtomaeijhljpgdaaW.PrintMore
theorem w64d {n : Int} (h0 : 0 ≤ n) (h1 : n ≤ 9223372036854775807) : wrap64 n = n := by unfold wrap64; omega
theorem rd_byte {l : List Int} (hb : ∀ x ∈ l, 0 ≤ x ∧ x ≤ 255) (i : Int) : 0 ≤ rd l i ∧ rd l i ≤ 255 := by
  unfold rd
  simp only [List.getD]
  cases h : l[i.toNat]? with
  | none => simp
  | some x => simpa using hb x (List.mem_of_getElem? h)
theorem next_ok (l : List Int) (hb : ∀ x ∈ l, 0 ≤ x ∧ x ≤ 255) (hl : l.length ≤ 1048576) (s a : Int) (s0 : 0 ≤ s) (s1 : s ≤ 1000000000000) (ha : 1 ≤ a) : ∃ r, spec_l1Next.f l s a = some (r, s + 1) ∧ 0 ≤ r ∧ r < a := by
  unfold spec_l1Next.f
  have e1 : wrap64 (s + 1) = s + 1 := w64d (by omega) (by omega)
  have e2 : wrap64 (s + 1 - 1) = s := by rw [w64d (by omega) (by omega)]; omega
  rw [if_neg (by omega), e1, e2]
  by_cases h0 : (l.length : Int) = 0
  · rw [if_pos h0, if_neg (by omega), w64d (by omega) (by omega)]
    exact ⟨_, rfl, Int.tmod_nonneg _ (by omega), Int.tmod_lt_of_pos _ (by omega)⟩
  rw [if_neg h0]
  have m0 := Int.tmod_nonneg (l.length : Int) (show 0 ≤ s by omega)
  have m1 := Int.tmod_lt_of_pos s (show 0 < (l.length : Int) by omega)
  have d0 : 0 ≤ s.tdiv (l.length : Int) := Int.tdiv_nonneg s0 (by omega)
  have d1 : s.tdiv (l.length : Int) ≤ s := by
    rw [Int.tdiv_eq_ediv_of_nonneg s0]; exact Int.ediv_le_self _ s0
  have r0 := rd_byte hb (s.tmod (l.length : Int))
  generalize rd l (s.tmod (l.length : Int)) = x at r0 ⊢
  rw [if_pos m0, if_pos m1]
  have f1 : wrap64 x = x := w64d r0.1 (by omega)
  have f2 : wrap64 (s.tdiv (l.length : Int)) = s.tdiv (l.length : Int) := w64d d0 (by omega)
  generalize s.tdiv (l.length : Int) = q at d0 d1 f2 ⊢
  have f3 : wrap64 (q * 37) = q * 37 := w64d (by omega) (by omega)
  have f4 : wrap64 (x + q * 37) = x + q * 37 := w64d (by omega) (by omega)
  rw [f1, f2, f3, f4]
  by_cases h2 : a > 200
  · rw [if_pos h2]
    try simp only [e1]
    have g0 : 0 ≤ (wrap64 (s + 1)).tmod (l.length : Int) := Int.tmod_nonneg _ (by rw [e1]; omega)
    have g1 : (wrap64 (s + 1)).tmod (l.length : Int) < (l.length : Int) := Int.tmod_lt_of_pos _ (by omega)
    have y0 := rd_byte hb ((wrap64 (s + 1)).tmod (l.length : Int))
    rw [e1] at g0 g1 y0
    generalize rd l ((s + 1).tmod (l.length : Int)) = y at y0 ⊢
    rw [if_pos g0, if_pos g1, if_neg (by omega)]
    have f5 : wrap64 y = y := w64d y0.1 (by omega)
    have f6 : wrap64 (y * 13) = y * 13 := w64d (by omega) (by omega)
    have f7 : wrap64 ((x + q * 37) * 251) = (x + q * 37) * 251 := w64d (by omega) (by omega)
    have f8 : wrap64 ((x + q * 37) * 251 + y * 13) = (x + q * 37) * 251 + y * 13 := w64d (by omega) (by omega)
    have f9 : wrap64 ((x + q * 37) * 251 + y * 13 + s) = (x + q * 37) * 251 + y * 13 + s := w64d (by omega) (by omega)
    rw [f5, f6, f7, f8, f9]
    exact ⟨_, rfl, Int.tmod_nonneg _ (by omega), Int.tmod_lt_of_pos _ (by omega)⟩
  · rw [if_neg h2, if_neg (by omega)]
    exact ⟨_, rfl, Int.tmod_nonneg _ (by omega), Int.tmod_lt_of_pos _ (by omega)⟩
theorem pick_ok (l : List Int) (hb : ∀ x ∈ l, 0 ≤ x ∧ x ≤ 255) (hl : l.length ≤ 1048576) (s : Int) (L : List Int) (s0 : 0 ≤ s) (s1 : s ≤ 1000000000000) (hL : 1 ≤ L.length) : ∃ x, x ∈ L ∧ spec_l1Pick.f l s L = some (x, s + 1) := by
  obtain ⟨r, h, r0, r1⟩ := next_ok l hb hl s (L.length : Int) s0 s1 (by omega)
  obtain ⟨n, rfl⟩ := Int.eq_ofNat_of_zero_le r0
  have hn : n < L.length := by omega
  refine ⟨L[n], List.getElem_mem hn, ?_⟩
  unfold spec_l1Pick.f
  rw [h]; simp only [Option.bind_some]
  rw [if_pos r0, if_pos r1]
  have : rd L (n : Int) = L[n] := by simp [rd, List.getD, List.getElem?_eq_getElem hn]
  rw [this]
theorem max_ok (x y : Int) : spec_l1Max.f x y = some (max x y) := by
  unfold spec_l1Max.f; split <;> congr 1 <;> omega
theorem min_ok (x y : Int) : spec_l1Min.f x y = some (min x y) := by
  unfold spec_l1Min.f; split <;> congr 1 <;> omega
end Go.Proofs.Ytomaeijhljpgdaa.Pure
set_option linter.unusedVariables false
set_option linter.unusedSimpArgs false
namespace Go.Proofs.Ytomaeijhljpgdaa.Pure
open Go.RowKit Go.Proofs.Ytomaeijhljpgdaa.G Go.Proofs.YtomaeijhljpgdaaW.PrintWords Go.Proofs.YtomaeijhljpgdaaW.PrintLast Go.Proofs.YtomaeijhljpgdaaW.PrintMore
def sm (a : Int) : Prop := -1 ≤ a ∧ a ≤ 4611686018427387904
theorem sm_wf {a : Int} (h : sm a) : (Lit.int .i64 a).wf = true := by
  unfold sm at h
  have : -9223372036854775808 ≤ a ∧ a ≤ 9223372036854775807 := by omega
  simpa [Lit.wf, IntKind.min, IntKind.max, IntKind.signed, IntKind.bits] using this
def B4 (x : S26) : Prop := sm x.f0 ∧ sm x.f1 ∧ sm x.f2 ∧ sm x.f3
def BL (l : List S26) : Prop := ∀ x ∈ l, B4 x
theorem B4_wf {x : S26} (h : B4 x) : wf4 x = true := by
  obtain ⟨h0, h1, h2, h3⟩ := h
  unfold wf4
  simp [sm_wf h0, sm_wf h1, sm_wf h2, sm_wf h3]
theorem BL_wf {l : List S26} (h : BL l) : l.all wf4 = true := by
  rw [List.all_eq_true]; exact fun x hx => B4_wf (h x hx)
theorem B4_z : B4 z26 := by unfold B4 sm z26; simp
theorem BL_rd {l : List S26} (h : BL l) (i : Int) : B4 (rd_T26 l i) := by
  unfold rd_T26
  simp only [List.getD]
  cases e : l[i.toNat]? with
  | none => exact B4_z
  | some x => exact h x (List.mem_of_getElem? e)
theorem BL_set {l : List S26} (h : BL l) (i : Nat) {x : S26} (hx : B4 x) : BL (l.set i x) := by
  intro y hy
  rcases List.mem_or_eq_of_mem_set hy with hy | rfl
  · exact h y hy
  · exact hx
theorem BL_app {l : List S26} (h : BL l) {x : S26} (hx : B4 x) : BL (l ++ [x]) := by
  intro y hy
  rcases List.mem_append.1 hy with hy | hy
  · exact h y hy
  · rw [List.mem_singleton.1 hy]; exact hx
theorem BL_nil : BL [] := fun x hx => by simp at hx
theorem PT_B {l : List S26} (h : BL l) {t : S26} (ht : B4 t) : BL (PT l t).2.2 := by
  unfold PT
  split
  · split
    · exact h
    · split
      · exact BL_nil
      · exact BL_app h ht
  · exact BL_nil
theorem chance_ok (l : List Int) (hb : ∀ x ∈ l, 0 ≤ x ∧ x ≤ 255) (hl : l.length ≤ 1048576) (s a : Int) (s0 : 0 ≤ s) (s1 : s ≤ 1000000000000) (ha : 1 ≤ a) : ∃ b, spec_l1Chance.f l s a = some (b, s + 1) := by
  obtain ⟨r, h, _⟩ := next_ok l hb hl s a s0 s1 ha
  unfold spec_l1Chance.f
  rw [h]
  exact ⟨_, rfl⟩
theorem both_ev (l : List S26) (hl : l.length ≤ 400) (a b : Int) : Ev (fun k => spec_l5Both.f k l a b) (PT l ⟨7, min a b, max a b, 0⟩) := by
  unfold spec_l5Both.f
  simp only [min_ok, max_ok, Option.bind_some]
  refine Ev.bind (put_spec l hl ⟨7, min a b, max a b, 0⟩) ?_
  exact Ev.now _
theorem grow_j1 {L : List S26} (hL : BL L) (h4 : L.length ≤ 400) {t : S26} (ht : B4 t) : ∃ r, BL r ∧ r.length ≤ 400 ∧ ∀ (x1 s : Int) (c : List Int) (X), Ev (fun k => spec_l5Grow.l0 k (wrap64 (x1 - 1)) r c s) X → Ev (fun k => spec_l5Grow.j1 k x1 L c s t.f0 t.f1 t.f2 t.f3) X := by
  have hp := put_spec L h4 t
  by_cases h7 : t.f0 = 7
  · have hq := both_ev L h4 t.f1 t.f2
    have hB : B4 ⟨7, min t.f1 t.f2, max t.f1 t.f2, 0⟩ := by
      obtain ⟨_, h1, h2, _⟩ := ht
      unfold B4 sm at *
      simp only
      omega
    by_cases h0 : (PT L ⟨7, min t.f1 t.f2, max t.f1 t.f2, 0⟩).1 = 0
    · refine ⟨_, PT_B hL hB, PT_len L _ h4, fun x1 s c X hX => ev_succ ?_⟩
      simp only [spec_l5Grow.j1]
      refine Ev.bind hp ?_
      simp only [h7, if_true]
      refine Ev.bind hq ?_
      simp only [h0, if_true]
      exact hX
    · refine ⟨L, hL, h4, fun x1 s c X hX => ev_succ ?_⟩
      simp only [spec_l5Grow.j1]
      refine Ev.bind hp ?_
      simp only [h7, if_true]
      refine Ev.bind hq ?_
      simp only [h0, if_false]
      exact hX
  · by_cases h0 : (PT L t).1 = 0
    · refine ⟨_, PT_B hL ht, PT_len L _ h4, fun x1 s c X hX => ev_succ ?_⟩
      simp only [spec_l5Grow.j1]
      refine Ev.bind hp ?_
      simp only [h7, if_false, h0, if_true]
      exact hX
    · refine ⟨L, hL, h4, fun x1 s c X hX => ev_succ ?_⟩
      simp only [spec_l5Grow.j1]
      refine Ev.bind hp ?_
      simp only [h7, if_false, h0]
      exact hX
theorem grow_l0 (c : List Int) (hb : ∀ x ∈ c, 0 ≤ x ∧ x ≤ 255) (hl : c.length ≤ 1048576) : ∀ (n : Nat) (L : List S26) (s : Int), BL L → L.length ≤ 400 → 0 ≤ s → s + 4 * n ≤ 1000000000 →
    ∃ r s', Ev (fun k => spec_l5Grow.l0 k n L c s) (r, s') ∧ BL r ∧ r.length ≤ 400 ∧ s ≤ s' ∧ s' ≤ s + 4 * n
  | 0, L, s, hL, h4, s0, s1 => ⟨L, s, ev_succ (by simp only [spec_l5Grow.l0, show ¬ ((0 : Nat) : Int) > 0 by omega, if_false]; exact Ev.now _), hL, h4, by omega, by omega⟩
  | n + 1, L, s, hL, h4, s0, s1 => by
    have hw : wrap64 (((n + 1 : Nat) : Int) - 1) = n := by rw [w64' (by omega) (by omega)]; omega
    obtain ⟨op, hop, e1⟩ := pick_ok c hb hl s [1, 2, 3, 4, 5, 6, 7, 3, 5] s0 (by omega) (by simp)
    obtain ⟨a, e2, a0, a1⟩ := next_ok c hb hl (s + 1) (max 1 (L.length : Int)) (by omega) (by omega) (by omega)
    obtain ⟨b, e3, b0, b1⟩ := next_ok c hb hl (s + 1 + 1) (max 1 (L.length : Int)) (by omega) (by omega) (by omega)
    obtain ⟨q, e4, q0, q1⟩ := next_ok c hb hl (s + 1 + 1 + 1) 6 (by omega) (by omega) (by omega)
    have o1 : 1 ≤ op ∧ op ≤ 7 := by simp at hop; omega
    have step : ∀ (t : S26) (sq : Int), B4 t → s ≤ sq → sq ≤ s + 4 → ∃ r s', Ev (fun k => spec_l5Grow.j1 k ((n + 1 : Nat) : Int) L c sq t.f0 t.f1 t.f2 t.f3) (r, s') ∧ BL r ∧ r.length ≤ 400 ∧ s ≤ s' ∧ s' ≤ s + 4 * ((n + 1 : Nat) : Int) := by
      intro t sq ht h1 h2
      obtain ⟨r, r1, r2, r3⟩ := grow_j1 hL h4 ht
      obtain ⟨r', s', k1, k2, k3, k4, k5⟩ := grow_l0 c hb hl n r sq r1 r2 (by omega) (by omega)
      refine ⟨r', s', r3 _ _ _ _ ?_, k2, k3, by omega, by omega⟩
      rw [hw]; exact k1
    have hk := kids_ev op
    by_cases c0 : op = 3 ∨ op = 4 ∨ op = 5 ∨ op = 7
    · obtain ⟨r, s', k1, k2⟩ := step ⟨op, a, b, 0⟩ (s + 1 + 1 + 1) (by unfold B4 sm; simp only; omega) (by omega) (by omega)
      refine ⟨r, s', ev_succ ?_, k2⟩
      simp only [spec_l5Grow.l0, show ((n + 1 : Nat) : Int) > 0 by omega, if_true, max_ok, Option.bind_some, e1, e2, e3]
      rw [if_pos c0] at hk
      refine Ev.bind hk ?_
      simp only [show ¬ (2 : Int) = 0 by omega, show ¬ (2 : Int) = 1 by omega, if_false]
      exact k1
    · by_cases c6 : op = 6
      · obtain ⟨r, s', k1, k2⟩ := step ⟨op, a, 0, 0⟩ (s + 1 + 1 + 1) (by unfold B4 sm; simp only; omega) (by omega) (by omega)
        refine ⟨r, s', ev_succ ?_, k2⟩
        simp only [spec_l5Grow.l0, show ((n + 1 : Nat) : Int) > 0 by omega, if_true, max_ok, Option.bind_some, e1, e2, e3]
        rw [if_neg c0, if_pos c6] at hk
        refine Ev.bind hk ?_
        simp only [show ¬ (1 : Int) = 0 by omega, if_false, if_true]
        exact k1
      · obtain ⟨r, s', k1, k2⟩ := step ⟨op, 0, 0, q⟩ (s + 1 + 1 + 1 + 1) (by unfold B4 sm; simp only; omega) (by omega) (by omega)
        refine ⟨r, s', ev_succ ?_, k2⟩
        simp only [spec_l5Grow.l0, show ((n + 1 : Nat) : Int) > 0 by omega, if_true, max_ok, Option.bind_some, e1, e2, e3]
        rw [if_neg c0, if_neg c6] at hk
        refine Ev.bind hk ?_
        simp only [if_true, e4, Option.bind_some]
        exact k1
theorem bent_ok (c : List Int) (hb : ∀ x ∈ c, 0 ≤ x ∧ x ≤ 255) (hl : c.length ≤ 1048576) (s : Int) (s0 : 0 ≤ s) (s1 : s ≤ 1000000) : ∃ r s', Ev (fun k => spec_l5Bent.f k c s) (r, s') ∧ BL r ∧ r.length ≤ 401 ∧ s ≤ s' ∧ s' ≤ s + 1000 := by
  obtain ⟨m, hm, e0⟩ := pick_ok c hb hl s [6, 14, 25, 40, 1] s0 (by omega) (by simp)
  have m1 : 1 ≤ m ∧ m ≤ 40 := by simp at hm; omega
  obtain ⟨n, rfl⟩ := Int.eq_ofNat_of_zero_le (show 0 ≤ m by omega)
  obtain ⟨L, z, g1, g2, g3, g4, g5⟩ := grow_l0 c hb hl n [] (s + 1) BL_nil (by simp) (by omega) (by omega)
  have g1' : Ev (fun k => spec_l5Grow.f k c (s + 1) n) (L, z) := g1
  by_cases h0 : (L.length : Int) = 0
  · refine ⟨L, z, ?_, g2, by omega, by omega, by omega⟩
    unfold spec_l5Bent.f
    simp only [e0, Option.bind_some]
    refine Ev.bind g1' ?_
    simp only [h0, if_true]; exact Ev.now _
  obtain ⟨i, e1, i0, i1⟩ := next_ok c hb hl z (L.length : Int) (by omega) (by omega) (by omega)
  obtain ⟨w, e2, w0, w1⟩ := next_ok c hb hl (z + 1) 24 (by omega) (by omega) (by omega)
  have hR := BL_rd g2 i
  unfold spec_l5Bent.f
  simp only [e0, Option.bind_some]
  have main : ∃ r s', Ev (fun k => (if w = 0 then ((spec_l1Next.f c (z + 1 + 1) 7).bind fun bt189 => ((spec_l1Pick.f c bt189.2 (([0, 8, wrap64 (1 + bt189.1)] : List Int))).bind fun bt194 => (if 0 ≤ i then (if i < (L.length : Int) then (some ((L.set (i : Int).toNat (⟨bt194.1, (rd_T26 L i).f1, (rd_T26 L i).f2, (rd_T26 L i).f3⟩ : S26)), bt194.2)) else (none)) else (none)))) else (if w = 1 then ((spec_l1Pick.f c (z + 1 + 1) (([(-1), i, 0, 4611686018427387904] : List Int))).bind fun bt200 => (if 0 ≤ i then (if i < (L.length : Int) then (some ((L.set (i : Int).toNat (⟨(rd_T26 L i).f0, bt200.1, (rd_T26 L i).f2, (rd_T26 L i).f3⟩ : S26)), bt200.2)) else (none)) else (none))) else (if w = 2 then ((spec_l1Pick.f c (z + 1 + 1) (([(-1), i, 1] : List Int))).bind fun bt206 => (if 0 ≤ i then (if i < (L.length : Int) then (some ((L.set (i : Int).toNat (⟨(rd_T26 L i).f0, (rd_T26 L i).f1, bt206.1, (rd_T26 L i).f3⟩ : S26)), bt206.2)) else (none)) else (none))) else (if w = 3 then ((spec_l1Pick.f c (z + 1 + 1) (([(-1), 10000, 1] : List Int))).bind fun bt212 => (if 0 ≤ i then (if i < (L.length : Int) then (some ((L.set (i : Int).toNat (⟨(rd_T26 L i).f0, (rd_T26 L i).f1, (rd_T26 L i).f2, bt212.1⟩ : S26)), bt212.2)) else (none)) else (none))) else (if w = 4 then (if 0 ≤ i then (if i < (L.length : Int) then (if L.length < 4398046511104 then (some ((L ++ [(⟨(rd_T26 L i).f0, (rd_T26 L i).f1, (rd_T26 L i).f2, (rd_T26 L i).f3⟩ : S26)]), (z + 1 + 1))) else (none)) else (none)) else (none)) else (if w = 5 then (if 401 ≤ 8796093022208 then (some ((List.replicate 401 z26), (z + 1 + 1))) else (none)) else (some (L, (z + 1 + 1))))))))) : Nat → Option (List S26 × Int)) (r, s') ∧ BL r ∧ r.length ≤ 401 ∧ s ≤ s' ∧ s' ≤ s + 1000 := by
    obtain ⟨h0, h1, h2, h3⟩ := hR
    by_cases c0 : w = 0
    · obtain ⟨u, e3, u0, u1⟩ := next_ok c hb hl (z + 1 + 1) 7 (by omega) (by omega) (by omega)
      obtain ⟨v, hv, e4⟩ := pick_ok c hb hl (z + 1 + 1 + 1) [0, 8, wrap64 (1 + u)] (by omega) (by omega) (by simp)
      rw [w64' (by omega) (by omega)] at hv
      have hv' : sm v := by simp at hv; unfold sm; omega
      refine ⟨L.set i.toNat ⟨v, (rd_T26 L i).f1, (rd_T26 L i).f2, (rd_T26 L i).f3⟩, z + 1 + 1 + 1 + 1, ?_, BL_set g2 _ ⟨hv', h1, h2, h3⟩, by simp; omega, by omega, by omega⟩
      simp only [c0, if_true, e3, e4, Option.bind_some, i0, i1]; exact Ev.now _
    by_cases c1 : w = 1
    · obtain ⟨v, hv, e4⟩ := pick_ok c hb hl (z + 1 + 1) [(-1), i, 0, 4611686018427387904] (by omega) (by omega) (by simp)
      have hv' : sm v := by simp at hv; unfold sm; omega
      refine ⟨L.set i.toNat ⟨(rd_T26 L i).f0, v, (rd_T26 L i).f2, (rd_T26 L i).f3⟩, z + 1 + 1 + 1, ?_, BL_set g2 _ ⟨h0, hv', h2, h3⟩, by simp; omega, by omega, by omega⟩
      simp only [c0, c1, if_false, if_true, e4, Option.bind_some, i0, i1]; exact Ev.now _
    by_cases c2 : w = 2
    · obtain ⟨v, hv, e4⟩ := pick_ok c hb hl (z + 1 + 1) [(-1), i, 1] (by omega) (by omega) (by simp)
      have hv' : sm v := by simp at hv; unfold sm; omega
      refine ⟨L.set i.toNat ⟨(rd_T26 L i).f0, (rd_T26 L i).f1, v, (rd_T26 L i).f3⟩, z + 1 + 1 + 1, ?_, BL_set g2 _ ⟨h0, h1, hv', h3⟩, by simp; omega, by omega, by omega⟩
      simp only [c0, c1, c2, if_false, if_true, e4, Option.bind_some, i0, i1]; exact Ev.now _
    by_cases c3 : w = 3
    · obtain ⟨v, hv, e4⟩ := pick_ok c hb hl (z + 1 + 1) [(-1), 10000, 1] (by omega) (by omega) (by simp)
      have hv' : sm v := by simp at hv; unfold sm; omega
      refine ⟨L.set i.toNat ⟨(rd_T26 L i).f0, (rd_T26 L i).f1, (rd_T26 L i).f2, v⟩, z + 1 + 1 + 1, ?_, BL_set g2 _ ⟨h0, h1, h2, hv'⟩, by simp; omega, by omega, by omega⟩
      simp only [c0, c1, c2, c3, if_false, if_true, e4, Option.bind_some, i0, i1]; exact Ev.now _
    by_cases c4 : w = 4
    · refine ⟨L ++ [⟨(rd_T26 L i).f0, (rd_T26 L i).f1, (rd_T26 L i).f2, (rd_T26 L i).f3⟩], z + 1 + 1, ?_, BL_app g2 ⟨h0, h1, h2, h3⟩, by simp; omega, by omega, by omega⟩
      simp only [c0, c1, c2, c3, c4, if_false, if_true, i0, i1, show L.length < 4398046511104 by omega]; exact Ev.now _
    by_cases c5 : w = 5
    · refine ⟨List.replicate 401 z26, z + 1 + 1, ?_, fun x hx => by rw [List.eq_of_mem_replicate hx]; exact B4_z, by rw [List.length_replicate]; exact Nat.le_refl _, by omega, by omega⟩
      simp only [c0, c1, c2, c3, c4, c5, if_false, if_true, show 401 ≤ 8796093022208 by omega]; exact Ev.now _
    refine ⟨L, z + 1 + 1, ?_, g2, by omega, by omega, by omega⟩
    simp only [c0, c1, c2, c3, c4, c5, if_false]; exact Ev.now _
  obtain ⟨r, s', k1, k2⟩ := main
  refine ⟨r, s', Ev.bind g1' ?_, k2⟩
  simp only [h0, if_false, e1, e2, Option.bind_some]
  exact k1
theorem place_ok (c : List Int) (hb : ∀ x ∈ c, 0 ≤ x ∧ x ≤ 255) (hl : c.length ≤ 1048576) (L : List S26) (hL : L.length ≤ 401) (s : Int) (s0 : 0 ≤ s) (s1 : s ≤ 1000000000) : ∃ p, spec_l5Place.f c s L = some (p, s + 1 + 1 + 1) ∧ -1 ≤ p ∧ p ≤ (L.length : Int) := by
  obtain ⟨a, e1, a0, a1⟩ := next_ok c hb hl s (max 1 (L.length : Int)) (by omega) (by omega) (by omega)
  obtain ⟨b, e2, b0, b1⟩ := next_ok c hb hl (s + 1) (max 1 (L.length : Int)) (by omega) (by omega) (by omega)
  obtain ⟨v, hv, e3⟩ := pick_ok c hb hl (s + 1 + 1) [wrap64 ((L.length : Int) - 1), a, b, wrap64 ((L.length : Int) - 1), (L.length : Int), (-1)] (by omega) (by omega) (by simp)
  have hw : wrap64 ((L.length : Int) - 1) = (L.length : Int) - 1 := by unfold wrap64; omega
  refine ⟨v, ?_, ?_⟩
  · unfold spec_l5Place.f
    simp only [max_ok, Option.bind_some, e1, e2, e3]
  · rw [hw] at hv
    simp at hv; omega
end Go.Proofs.Ytomaeijhljpgdaa.Pure
set_option linter.unusedVariables false
set_option linter.unusedSimpArgs false
namespace Go.Proofs.Ytomaeijhljpgdaa.Pure
open Go.RowKit Go.Proofs.Ytomaeijhljpgdaa.G Go.Proofs.YtomaeijhljpgdaaW.PrintWords Go.Proofs.YtomaeijhljpgdaaW.PrintLast Go.Proofs.YtomaeijhljpgdaaW.PrintMore
theorem tidx_app {l r : List S26} {t : S26} (h : 0 ≤ tidx l t 0) : tidx (l ++ r) t 0 = tidx l t 0 := by
  unfold tidx at h ⊢
  rw [List.drop_zero] at h ⊢
  rw [List.drop_zero, List.findIdx?_append]
  cases e : l.findIdx? fun y => eq4 t y with
  | none => rw [e] at h; simp at h
  | some j => simp
theorem putT_B {l : List S26} {full : Bool} {t : S26} (h : BL l) (ht : B4 t) : BL (putT l full t).2.1 := by
  unfold putT putP
  split
  · exact h
  · split
    · exact h
    · split
      · exact h
      · exact BL_app h ht
theorem put_step {l : List S26} (g : TF l = 0) (b : BL l) {t : S26} (bt : B4 t) (ht : tfault t.f0 t.f1 t.f2 t.f3 l = 0) {q : Int × List S26 × Bool} (h : putT l false t = q) (hf : q.2.2 = false) :
    TF q.2.1 = 0 ∧ BL q.2.1 ∧ (∃ r, q.2.1 = l ++ r) ∧ (0 ≤ q.1 ∧ q.1 < (q.2.1.length : Int)) ∧ rd_T26 q.2.1 q.1 = t ∧ ∀ r, putT (q.2.1 ++ r) false t = (q.1, q.2.1 ++ r, false) := by
  have hb := putT_B (full := false) b bt
  have hr := @putT_rd l false t
  rw [h] at hb hr
  have e := told_put l t
  rw [← putT_eq, h] at e
  have e2 : toldP q = PT l t := by
    rw [e]
    unfold PT
    simp only [ht, if_true]
  have e3 : toldP q = (0, q.1, q.2.1) := by
    unfold toldP
    rw [if_neg (by rw [hf]; decide)]
  rw [e3] at e2
  have g2 := PT_good g (t := t) (by rw [← e2])
  rw [← e2] at g2
  obtain ⟨g3, _, g5, g6, _⟩ := g2
  refine ⟨g3, hb, hr, g5, g6, fun r => ?_⟩
  have hi : tidx q.2.1 t 0 = q.1 := by
    rw [putT_eq] at h
    unfold putP at h
    by_cases c0 : 0 ≤ tidx l t 0
    · rw [if_pos c0] at h
      rw [← h]
    · rw [if_neg c0] at h
      by_cases c4 : 400 ≤ l.length
      · rw [if_pos c4] at h; rw [← h] at hf; cases hf
      · rw [if_neg c4, if_neg (by decide)] at h
        rw [← h]
        exact tidx_snoc c0
  have ha : tidx (q.2.1 ++ r) t 0 = q.1 := by rw [tidx_app (by rw [hi]; exact g5.1), hi]
  rw [putT_eq, ha]
  unfold putP
  rw [if_pos g5.1]
theorem not_full {a : Int × List S26 × Bool} {t : S26} (h : (putT a.2.1 a.2.2 t).2.2 = false) : a.2.2 = false := by
  cases e : a.2.2 with
  | false => rfl
  | true => rw [e, putT_full] at h; cases h
theorem listP3 (l : List S26) (full : Bool) (a b c : Int) : listP l full [a, b, c] = putT (putT l full ⟨3, b, c, 0⟩).2.1 (putT l full ⟨3, b, c, 0⟩).2.2 ⟨3, a, (putT l full ⟨3, b, c, 0⟩).1, 0⟩ := rfl
theorem B4_of {a b c d : Int} (ha : 0 ≤ a ∧ a ≤ 1000000) (hb : 0 ≤ b ∧ b ≤ 1000000) (hc : 0 ≤ c ∧ c ≤ 1000000) (hd : 0 ≤ d ∧ d ≤ 1000000) : B4 ⟨a, b, c, d⟩ := by
  unfold B4 sm
  simp only
  omega
def Parts (F : List S26) (at_ sh fi no ke n : Int) : Prop := ∃ p L M q m : Int, rd_T26 F at_ = ⟨4, p, L, 0⟩ ∧ rd_T26 F L = ⟨3, fi, M, 0⟩ ∧ rd_T26 F M = ⟨3, no, q, 0⟩ ∧ rd_T26 F q = ⟨4, ke, m, 0⟩ ∧ rd_T26 F m = ⟨1, 0, 0, n⟩ ∧ (0 ≤ at_ ∧ at_ < (F.length : Int)) ∧ (0 ≤ L ∧ L < (F.length : Int)) ∧ (0 ≤ M ∧ M < (F.length : Int)) ∧ (0 ≤ q ∧ q < (F.length : Int)) ∧ (0 ≤ m ∧ m < (F.length : Int))
theorem Parts.app {F r : List S26} {at_ sh fi no ke n : Int} (h : Parts F at_ sh fi no ke n) : Parts (F ++ r) at_ sh fi no ke n := by
  obtain ⟨p, L, M, q, m, h1, h2, h3, h4, h5, b1, b2, b3, b4, b5⟩ := h
  refine ⟨p, L, M, q, m, ?_, ?_, ?_, ?_, ?_, ?_, ?_, ?_, ?_, ?_⟩
  · rw [rd_app b1]; exact h1
  · rw [rd_app b2]; exact h2
  · rw [rd_app b3]; exact h3
  · rw [rd_app b4]; exact h4
  · rw [rd_app b5]; exact h5
  all_goals rw [List.length_append]; omega
theorem Parts.same {F : List S26} {at_ sh fi no ke n sh' fi' no' ke' n' : Int} (h : Parts F at_ sh fi no ke n) (k : Parts F at_ sh' fi' no' ke' n') : fi = fi' ∧ no = no' ∧ n = n' := by
  obtain ⟨p, L, M, q, m, h1, h2, h3, h4, h5, _⟩ := h
  obtain ⟨p', L', M', q', m', k1, k2, k3, k4, k5, _⟩ := k
  rw [h1] at k1
  injection k1 with _ _ e _
  subst e
  rw [h2] at k2
  injection k2 with _ e1 e _
  subst e
  rw [h3] at k3
  injection k3 with _ e2 e _
  subst e
  rw [h4] at k4
  injection k4 with _ _ e _
  subst e
  rw [h5] at k5
  injection k5 with _ _ _ e3
  exact ⟨e1, e2, e3⟩
theorem proof_chain {l : List S26} (g : TF l = 0) (b : BL l) {sh fi no ke n : Int} (h1 : 0 ≤ sh ∧ sh < (l.length : Int)) (h2 : 0 ≤ fi ∧ fi < (l.length : Int)) (h3 : 0 ≤ no ∧ no < (l.length : Int)) (h4 : 0 ≤ ke ∧ ke < (l.length : Int)) (hn : 0 ≤ n ∧ n ≤ 9999) {r : Int × List S26 × Bool} (h : proofT l false sh fi no ke n = r) (hf : r.2.2 = false) :
    TF r.2.1 = 0 ∧ BL r.2.1 ∧ (∃ q, r.2.1 = l ++ q) ∧ Parts r.2.1 r.1 sh fi no ke n ∧ proofT r.2.1 false sh fi no ke n = r := by
  unfold proofT at h
  dsimp only at h
  rw [listP3] at h
  generalize e1 : putT l false ⟨1, 0, 0, 9⟩ = B1 at h
  generalize e2 : putT B1.2.1 B1.2.2 ⟨4, sh, B1.1, 0⟩ = B2 at h
  generalize e3 : putT B2.2.1 B2.2.2 ⟨1, 0, 0, n⟩ = B3 at h
  generalize e4 : putT B3.2.1 B3.2.2 ⟨4, ke, B3.1, 0⟩ = B4_ at h
  generalize e5 : putT B4_.2.1 B4_.2.2 ⟨3, no, B4_.1, 0⟩ = B5 at h
  generalize e6 : putT B5.2.1 B5.2.2 ⟨3, fi, B5.1, 0⟩ = B6 at h
  have e7 : putT B6.2.1 B6.2.2 ⟨4, B2.1, B6.1, 0⟩ = r := by rw [← h]
  have f6 : B6.2.2 = false := not_full (by rw [e7]; exact hf)
  have f5 : B5.2.2 = false := not_full (by rw [e6]; exact f6)
  have f4 : B4_.2.2 = false := not_full (by rw [e5]; exact f5)
  have f3 : B3.2.2 = false := not_full (by rw [e4]; exact f4)
  have f2 : B2.2.2 = false := not_full (by rw [e3]; exact f3)
  have f1 : B1.2.2 = false := not_full (by rw [e2]; exact f2)
  rw [f1] at e2
  rw [f2] at e3
  rw [f3] at e4
  rw [f4] at e5
  rw [f5] at e6
  rw [f6] at e7
  clear h
  have hl := TF_len g
  have z : tfault 1 0 0 9 l = 0 := fault_name (by omega) (by omega)
  have bt : B4 ⟨1, 0, 0, 9⟩ := B4_of (by omega) (by omega) (by omega) (by omega)
  obtain ⟨g1, b1, ⟨r1, x1⟩, p1, d1, a1⟩ := put_step (t := ⟨1, 0, 0, 9⟩) g b bt z e1 f1
  clear z bt
  have l1 := TF_len g1
  have n1 : (l.length : Int) ≤ B1.2.1.length := by rw [x1, List.length_append]; omega
  have z : tfault 4 sh B1.1 0 B1.2.1 = 0 := fault_two (.inr (.inl rfl)) (by omega) p1
  have bt : B4 ⟨4, sh, B1.1, 0⟩ := B4_of (by omega) (by omega) (by omega) (by omega)
  obtain ⟨g2, b2, ⟨r2, x2⟩, p2, d2, a2⟩ := put_step (t := ⟨4, sh, B1.1, 0⟩) g1 b1 bt z e2 f2
  clear z bt
  have l2 := TF_len g2
  have n2 : (B1.2.1.length : Int) ≤ B2.2.1.length := by rw [x2, List.length_append]; omega
  have z : tfault 1 0 0 n B2.2.1 = 0 := fault_name hn.1 hn.2
  have bt : B4 ⟨1, 0, 0, n⟩ := B4_of (by omega) (by omega) (by omega) (by omega)
  obtain ⟨g3, b3, ⟨r3, x3⟩, p3, d3, a3⟩ := put_step (t := ⟨1, 0, 0, n⟩) g2 b2 bt z e3 f3
  clear z bt
  have l3 := TF_len g3
  have n3 : (B2.2.1.length : Int) ≤ B3.2.1.length := by rw [x3, List.length_append]; omega
  have z : tfault 4 ke B3.1 0 B3.2.1 = 0 := fault_two (.inr (.inl rfl)) (by omega) p3
  have bt : B4 ⟨4, ke, B3.1, 0⟩ := B4_of (by omega) (by omega) (by omega) (by omega)
  obtain ⟨g4, b4, ⟨r4, x4⟩, p4, d4, a4⟩ := put_step (t := ⟨4, ke, B3.1, 0⟩) g3 b3 bt z e4 f4
  clear z bt
  have l4 := TF_len g4
  have n4 : (B3.2.1.length : Int) ≤ B4_.2.1.length := by rw [x4, List.length_append]; omega
  have z : tfault 3 no B4_.1 0 B4_.2.1 = 0 := fault_two (.inl rfl) (by omega) p4
  have bt : B4 ⟨3, no, B4_.1, 0⟩ := B4_of (by omega) (by omega) (by omega) (by omega)
  obtain ⟨g5, b5, ⟨r5, x5⟩, p5, d5, a5⟩ := put_step (t := ⟨3, no, B4_.1, 0⟩) g4 b4 bt z e5 f5
  clear z bt
  have l5 := TF_len g5
  have n5 : (B4_.2.1.length : Int) ≤ B5.2.1.length := by rw [x5, List.length_append]; omega
  have z : tfault 3 fi B5.1 0 B5.2.1 = 0 := fault_two (.inl rfl) (by omega) p5
  have bt : B4 ⟨3, fi, B5.1, 0⟩ := B4_of (by omega) (by omega) (by omega) (by omega)
  obtain ⟨g6, b6, ⟨r6, x6⟩, p6, d6, a6⟩ := put_step (t := ⟨3, fi, B5.1, 0⟩) g5 b5 bt z e6 f6
  clear z bt
  have l6 := TF_len g6
  have n6 : (B5.2.1.length : Int) ≤ B6.2.1.length := by rw [x6, List.length_append]; omega
  have z : tfault 4 B2.1 B6.1 0 B6.2.1 = 0 := fault_two (.inr (.inl rfl)) (by omega) p6
  have bt : B4 ⟨4, B2.1, B6.1, 0⟩ := B4_of (by omega) (by omega) (by omega) (by omega)
  obtain ⟨g7, b7, ⟨r7, x7⟩, p7, d7, a7⟩ := put_step (t := ⟨4, B2.1, B6.1, 0⟩) g6 b6 bt z e7 hf
  clear z bt
  have y6 : r.2.1 = B6.2.1 ++ r7 := x7
  have y5 : r.2.1 = B5.2.1 ++ (r6 ++ r7) := by rw [x7, x6, List.append_assoc]
  have y4 : r.2.1 = B4_.2.1 ++ (r5 ++ (r6 ++ r7)) := by rw [y5, x5, List.append_assoc]
  have y3 : r.2.1 = B3.2.1 ++ (r4 ++ (r5 ++ (r6 ++ r7))) := by rw [y4, x4, List.append_assoc]
  have y2 : r.2.1 = B2.2.1 ++ (r3 ++ (r4 ++ (r5 ++ (r6 ++ r7)))) := by rw [y3, x3, List.append_assoc]
  have y1 : r.2.1 = B1.2.1 ++ (r2 ++ (r3 ++ (r4 ++ (r5 ++ (r6 ++ r7))))) := by rw [y2, x2, List.append_assoc]
  have y0 : r.2.1 = l ++ (r1 ++ (r2 ++ (r3 ++ (r4 ++ (r5 ++ (r6 ++ r7)))))) := by rw [y1, x1, List.append_assoc]
  have n7 : (B6.2.1.length : Int) ≤ r.2.1.length := by rw [x7, List.length_append]; omega
  refine ⟨g7, b7, ⟨_, y0⟩, ⟨B2.1, B6.1, B5.1, B4_.1, B3.1, d7, ?_, ?_, ?_, ?_, p7, by omega, by omega, by omega, by omega⟩, ?_⟩
  · rw [y6, rd_app p6]; exact d6
  · rw [y5, rd_app p5]; exact d5
  · rw [y4, rd_app p4]; exact d4
  · rw [y3, rd_app p3]; exact d3
  have q1 := a1 (r2 ++ (r3 ++ (r4 ++ (r5 ++ (r6 ++ r7)))))
  have q2 := a2 (r3 ++ (r4 ++ (r5 ++ (r6 ++ r7))))
  have q3 := a3 (r4 ++ (r5 ++ (r6 ++ r7)))
  have q4 := a4 (r5 ++ (r6 ++ r7))
  have q5 := a5 (r6 ++ r7)
  have q6 := a6 r7
  have q7 := a7 []
  rw [← y1] at q1
  rw [← y2] at q2
  rw [← y3] at q3
  rw [← y4] at q4
  rw [← y5] at q5
  rw [← y6] at q6
  rw [List.append_nil] at q7
  unfold proofT
  dsimp only
  rw [listP3, q1]
  dsimp only
  rw [q2]
  dsimp only
  rw [q3]
  dsimp only
  rw [q4]
  dsimp only
  rw [q5]
  dsimp only
  rw [q6]
  dsimp only
  rw [q7]
  obtain ⟨ra, rb, rc⟩ := r
  have : rc = false := hf
  subst this
  rfl
theorem makeProof_ok {l : List S26} (hw : l.all wf4 = true) {sh fi no ke n : Int} (h0 : PF l [sh, fi, no, ke] = 0) (hn0 : 0 ≤ n ∧ n ≤ 9999) : Ev (fun k => spec_MakeProof.f k l sh fi no ke n) (toldP (proofT l false sh fi no ke n)) ∧ Ev (fun k => impl_MakeProof.f k l sh fi no ke n) (toldP (proofT l false sh fi no ke n)) := by
  obtain ⟨h4, hsim, hv⟩ := PF_sim h0
  have ha := asked9_ev l (by omega) [sh, fi, no, ke] (by simp)
  have hn := nf_ev hw [n] [sh, fi, no, ke] (by simp)
  have hb := badN_iff.2 hn0
  unfold NF at hn
  rw [if_pos h0] at hn
  rw [h0] at ha
  obtain ⟨a, e1, e2⟩ := proof_same (n := n) hsim (hv sh (by simp)) (hv fi (by simp)) (hv no (by simp)) (hv ke (by simp)) hn0.1 hn0.2
  unfold spec_MakeProof.f impl_MakeProof.f
  refine ⟨Ev.bind ha ?_, Ev.bind hn ?_⟩
  · simp only [if_true, word_ev, hb, Option.bind_some, Bool.not_false, copy_ev l h4]
    refine Ev.bind e1 ?_
    rw [told_ev e2]; exact Ev.now _
  · simp only [List.any_cons, List.any_nil, hb, Bool.or_false, Bool.false_eq_true, if_false, if_true, h4]; exact Ev.now _
theorem l9op_l0 (c : List Int) (hb : ∀ x ∈ c, 0 ≤ x ∧ x ≤ 255) (hl : c.length ≤ 1048576) (L : List S26) (hL : L.length ≤ 401) (o : Int) : ∀ (d : Nat) (s : Int), d ≤ L.length → 0 ≤ s → s + d ≤ 200000000 → ∃ p s', Ev (fun k => spec_l9Op.l0 k L o ((d : Int) - 1) c s) (p, s') ∧ s ≤ s' ∧ s' ≤ s + d + 3
  | 0, s, _, s0, s1 => by
    obtain ⟨p, e, _, _⟩ := place_ok c hb hl L hL s s0 (by omega)
    refine ⟨p, s + 1 + 1 + 1, ev_succ ?_, by omega, by omega⟩
    simp only [spec_l9Op.l0, show ¬ (((0 : Nat) : Int) - 1 ≥ 0) by decide, if_false, e, Option.bind_some]; exact Ev.now _
  | d + 1, s, hd, s0, s1 => by
    have h1 : ((d + 1 : Nat) : Int) - 1 = (d : Int) := by omega
    have hw : wrap64 ((d : Int) - 1) = (d : Int) - 1 := by unfold wrap64; omega
    rw [h1]
    by_cases ho : (rd_T26 L (d : Int)).f0 = o
    · obtain ⟨bb, e⟩ := chance_ok c hb hl s 3 (by omega) (by omega) (by omega)
      cases bb with
      | true =>
        obtain ⟨p, s', k1, k2, k3⟩ := l9op_l0 c hb hl L hL o d (s + 1) (by omega) (by omega) (by omega)
        refine ⟨p, s', ev_succ ?_, by omega, by omega⟩
        simp only [spec_l9Op.l0, show (d : Int) ≥ 0 by omega, show 0 ≤ (d : Int) by omega, show (d : Int) < (L.length : Int) by omega, if_true, ho, e, Option.bind_some, hw]
        exact k1
      | false =>
        refine ⟨(d : Int), s + 1, ev_succ ?_, by omega, by omega⟩
        simp only [spec_l9Op.l0, show (d : Int) ≥ 0 by omega, show 0 ≤ (d : Int) by omega, show (d : Int) < (L.length : Int) by omega, if_true, ho, e, Option.bind_some, Bool.false_eq_true, if_false]; exact Ev.now _
    · obtain ⟨p, s', k1, k2, k3⟩ := l9op_l0 c hb hl L hL o d s (by omega) s0 (by omega)
      refine ⟨p, s', ev_succ ?_, by omega, by omega⟩
      simp only [spec_l9Op.l0, show (d : Int) ≥ 0 by omega, show 0 ≤ (d : Int) by omega, show (d : Int) < (L.length : Int) by omega, if_true, ho, if_false, hw]
      exact k1
theorem l9op_ok (c : List Int) (hb : ∀ x ∈ c, 0 ≤ x ∧ x ≤ 255) (hl : c.length ≤ 1048576) (L : List S26) (hL : L.length ≤ 401) (o s : Int) (s0 : 0 ≤ s) (s1 : s ≤ 100000000) : ∃ p s', Ev (fun k => spec_l9Op.f k c s L o) (p, s') ∧ s ≤ s' ∧ s' ≤ s + 404 := by
  obtain ⟨p, s', k1, k2, k3⟩ := l9op_l0 c hb hl L hL o L.length s (by omega) s0 (by omega)
  refine ⟨p, s', ?_, k2, by omega⟩
  unfold spec_l9Op.f
  rw [show wrap64 ((L.length : Int) - 1) = (L.length : Int) - 1 by unfold wrap64; omega]
  exact k1
end Go.Proofs.Ytomaeijhljpgdaa.Pure
set_option linter.unusedVariables false
set_option linter.unusedSimpArgs false
namespace Go.Proofs.Ytomaeijhljpgdaa.Pure
open Go.RowKit Go.Proofs.Ytomaeijhljpgdaa.G Go.Proofs.YtomaeijhljpgdaaW.PrintWords Go.Proofs.YtomaeijhljpgdaaW.PrintLast Go.Proofs.YtomaeijhljpgdaaW.PrintMore
theorem draw_proof (c : List Int) (hb : ∀ x ∈ c, 0 ≤ x ∧ x ≤ 255) (hl : c.length ≤ 1048576) : ∃ (L : List S26) (a1 a2 a3 a4 a5 : Int), BL L ∧ L.length ≤ 401 ∧ Ev (fun k => spec_DrawMakeProof.f k c) (L, a1, a2, a3, a4, a5) := by
  obtain ⟨L, s, e0, hL, h4, s0, s1⟩ := bent_ok c hb hl 0 (by omega) (by omega)
  obtain ⟨a, s2, e1, q0, q1⟩ := l9op_ok c hb hl L h4 2 s (by omega) (by omega)
  obtain ⟨x, e2, x0, x1⟩ := next_ok c hb hl s2 (max 1 (L.length : Int)) (by omega) (by omega) (by omega)
  obtain ⟨y, e3, y0, y1⟩ := next_ok c hb hl (s2 + 1) (max 1 (L.length : Int)) (by omega) (by omega) (by omega)
  obtain ⟨p, e4, p0, p1⟩ := place_ok c hb hl L h4 (s2 + 1 + 1) (by omega) (by omega)
  obtain ⟨v, hv, e5⟩ := pick_ok c hb hl (s2 + 1 + 1 + 1 + 1 + 1) [1, 2, 9999, 10000] (by omega) (by omega) (by simp)
  refine ⟨L, a, x, y, p, v, hL, h4, ?_⟩
  unfold spec_DrawMakeProof.f spec_l1Source.f
  simp only [Option.bind_some]
  refine Ev.bind e0 ?_
  simp only [max_ok, Option.bind_some]
  refine Ev.bind e1 ?_
  simp only [e2, e3, e4, e5, Option.bind_some]; exact Ev.now _
theorem FnProofs : laws_FnProofs.Pure := by
  intro c hm hw
  refine Ev.rounds ?_
  have hb := byte_wf hw
  unfold laws_FnProofs.f laws_lwBig.f
  simp only [Option.bind_some, decide_eq_true_eq]
  by_cases hbig : (c.length : Int) > 1048576
  · simp only [hbig, if_true]; exact Ev.now _
  simp only [hbig, if_false]
  obtain ⟨L, sh, fi, no, ke, n, hL, h4, hd⟩ := draw_proof c hb (by omega)
  refine Ev.bind hd ?_
  obtain ⟨r, r1, r2, r3, r4⟩ := makeProof_ev (BL_wf hL) (by omega) sh fi no ke n
  refine Ev.bind r2 ?_
  by_cases h0 : r.1 = 0
  rotate_left
  · simp only [h0, if_false]
    refine Ev.bind r1 ?_
    simp only [beq_self_eq_true]; exact Ev.now _
  simp only [h0, if_true]
  obtain ⟨hp, hn, hr⟩ := r4 h0
  obtain ⟨hT, hin⟩ := PF_ok hp
  have i1 := hin sh (by simp)
  have i2 := hin fi (by simp)
  have i3 := hin no (by simp)
  have i4 := hin ke (by simp)
  generalize hP : proofT L false sh fi no ke n = P at hr
  have hf : P.2.2 = false := by
    cases e : P.2.2 with
    | false => rfl
    | true =>
      rw [hr] at h0
      unfold toldP at h0
      rw [if_pos e] at h0
      cases h0
  have hr2 : r = (0, P.1, P.2.1) := by
    rw [hr]
    unfold toldP
    rw [if_neg (by rw [hf]; decide)]
  obtain ⟨g, b, ⟨q, hx⟩, pa, ag⟩ := proof_chain hT hL i1 i2 i3 i4 hn hP hf
  have hlen : (L.length : Int) ≤ P.2.1.length := by rw [hx, List.length_append]; omega
  have hpf : ∀ a b : Int, (0 ≤ a ∧ a < (L.length : Int)) → (0 ≤ b ∧ b < (L.length : Int)) → PF P.2.1 [sh, a, b, ke] = 0 := by
    intro a b ha hb2
    have n1 := (notIn_iff P.2.1 sh).2 (by omega)
    have n2 := (notIn_iff P.2.1 a).2 (by omega)
    have n3 := (notIn_iff P.2.1 b).2 (by omega)
    have n4 := (notIn_iff P.2.1 ke).2 (by omega)
    unfold PF
    rw [if_pos g, if_neg (by simp [n1, n2, n3, n4])]
  have hn2 : Int.tmod (wrap64 (n + 1)) 9999 ≠ n ∧ 0 ≤ Int.tmod (wrap64 (n + 1)) 9999 ∧ Int.tmod (wrap64 (n + 1)) 9999 ≤ 9999 := by
    rw [show wrap64 (n + 1) = n + 1 by unfold wrap64; omega, Int.tmod_eq_emod_of_nonneg (by omega)]
    omega
  generalize hn' : Int.tmod (wrap64 (n + 1)) 9999 = n' at hn2
  have w1 := (makeProof_ok (BL_wf b) (hpf fi no i2 i3) hn).2
  have w2 := makeProof_ok (BL_wf b) (hpf fi no i2 i3) (n := n') hn2.2
  have w3 := makeProof_ok (BL_wf b) (hpf no fi i3 i2) hn
  have a1 : toldP (proofT P.2.1 false sh fi no ke n) = (0, P.1, P.2.1) := by
    rw [ag]
    unfold toldP
    rw [if_neg (by rw [hf]; decide)]
  rw [a1] at w1
  have c2 := fun h => proof_chain g b (show 0 ≤ sh ∧ sh < (P.2.1.length : Int) by omega) (show 0 ≤ fi ∧ fi < (P.2.1.length : Int) by omega) (show 0 ≤ no ∧ no < (P.2.1.length : Int) by omega) (show 0 ≤ ke ∧ ke < (P.2.1.length : Int) by omega) hn2.2 (r := proofT P.2.1 false sh fi no ke n') rfl h
  have c3 := fun h => proof_chain g b (show 0 ≤ sh ∧ sh < (P.2.1.length : Int) by omega) (show 0 ≤ no ∧ no < (P.2.1.length : Int) by omega) (show 0 ≤ fi ∧ fi < (P.2.1.length : Int) by omega) (show 0 ≤ ke ∧ ke < (P.2.1.length : Int) by omega) hn (r := proofT P.2.1 false sh no fi ke n) rfl h
  have c4 : fi = no → proofT P.2.1 false sh no fi ke n = P := fun e => by subst e; exact ag
  generalize proofT P.2.1 false sh fi no ke n' = O at w2 c2
  generalize proofT P.2.1 false sh no fi ke n = U at w3 c3 c4
  rw [hr2]
  refine Ev.bind w1 (Ev.bind w2.2 (Ev.bind w3.2 ?_))
  simp only [if_true, bne_self_eq_false]
  refine ev_succ ?_
  simp only [laws_FnProofs.j0, Bool.false_eq_true, if_false]
  have hto : ∀ V : Int × List S26 × Bool, V.2.2 = false → toldP V = (0, V.1, V.2.1) := fun V h => by
    unfold toldP
    rw [if_neg (by rw [h]; decide)]
  have htf : ∀ V : Int × List S26 × Bool, V.2.2 = true → (toldP V).1 = 2 := fun V h => by
    unfold toldP
    rw [if_pos h]
  have hbad : Ev (fun k => laws_FnProofs.j1 k sh fi no ke n true 0 P.1 P.2.1 (toldP O).1 (toldP O).2.1 (toldP O).2.2 (toldP U).1 (toldP U).2.1 (toldP U).2.2) true := by
    refine ev_succ ?_
    simp only [laws_FnProofs.j1, if_true, hn']
    refine Ev.bind w2.1 ?_
    simp only [if_true]
    refine Ev.bind w3.1 ?_
    simp only [beq_self_eq_true]; exact Ev.now _
  cases ho : O.2.2 with
  | true =>
    have e := htf O ho
    simp only [e, show ¬ (2 : Int) = 0 by omega, if_false]
    rw [e] at hbad
    exact hbad
  | false =>
    have e := hto O ho
    cases hu : U.2.2 with
    | true =>
      have e2 := htf U hu
      have e3 : ((toldP U).1 != 0) = true := by rw [e2]; rfl
      have e4 : (toldP O).1 = 0 := by rw [e]
      simp only [e4, if_true, e3]
      rw [e4] at hbad
      exact hbad
    | false =>
      have e2 := hto U hu
      rw [e, e2]
      simp only [if_true, bne_self_eq_false]
      refine ev_succ ?_
      simp only [laws_FnProofs.j1, Bool.false_eq_true, if_false, hn']
      have no1 : (n' == n) = false := by simpa using hn2.1
      obtain ⟨_, _, ⟨x1, hx1⟩, pa1, _⟩ := c2 ho
      obtain ⟨_, _, ⟨x2, hx2⟩, pa2, _⟩ := c3 hu
      have q1 : (O.1 == P.1) = false := by
        rw [beq_eq_false_iff_ne]
        intro e5
        rw [e5, hx1] at pa1
        exact hn2.1 (pa1.same pa.app).2.2
      have q2 : (U.1 == P.1) = (fi == no) := by
        by_cases e6 : fi = no
        · rw [c4 e6, e6]; simp
        · have : (fi == no) = false := by simpa using e6
          rw [this, beq_eq_false_iff_ne]
          intro e5
          rw [e5, hx2] at pa2
          exact e6 (pa2.same pa.app).1.symm
      rw [q1, no1, q2]
      simp only [beq_self_eq_true, if_true]; exact Ev.now _
end Go.Proofs.Ytomaeijhljpgdaa.Pure
namespace Go.Proofs.Ytomaeijhljpgdaa.fnProofs
open Go.ChangeShapes Go.WideShapes Go.ChangeAt
open Go.RowKit Go.Proofs.Ytomaeijhljpgdaa.G Go.Proofs.YtomaeijhljpgdaaW.PrintWords Go.Proofs.YtomaeijhljpgdaaW.PrintLast
open Go.ChangeMaps (open_string shut_string)
set_option linter.unusedVariables false
theorem own : ownKnob Try.prog.godebug = none := by kernel_rfl
theorem laidOut : laidOutB Try.prog = true := by kernel_rfl
theorem o5 : Opn.Opens Try.prog 5 (Kd.int .u8) (fun n => (Lit.int .u8 n).wf = true) := Opn.opens_int Try.underlying5 (by kernel_rfl)
set_option maxRecDepth 100000 in
theorem lifted (os : Os) (started : os.Started) (H : Type) (enc : TypeId × Value → H) :
    ReturnsInHanded {} Try.checked os 9 .any (Rows.fnProofsSpec.pre6 enc Try.prog Try.f9 Rows.fnProofsRow.domain false) (Rows.fnProofsSpec.post enc Try.prog Try.f9 false true false false) := by
  refine returnsInHanded_of_change_sized (C := Try.checked) own started (by kernel_rfl) Try.func9
    (ChangeSpec.witness6 (enc := enc) (C := Try.checked) false ⟨#[], #[.slice none 0 0], []⟩ 8 (by kernel_rfl) (by kernel_rfl) (by kernel_rfl) (by kernel_rfl)) ?_
  intro W base args ds gs before hval0 hW hcnd hsz0 _
  have hval : ∀ (j : Nat) t v, Try.f9.params[j]? = some t → args[j]? = some v → Value.okWide Try.prog W .any base t v := hval0
  have hW' := hW
  obtain ⟨p, q, hA0, hV, rfl, hfz, hnd⟩ := hW
  have hA : DataW.TrodAll enc Try.prog W 0 (fun _ => true) true Try.f9.params.toList args.toList ds p := hA0
  rw [Try.params9] at hA hval
  obtain ⟨v0, vs0, d0, ds0, p0, q0, hargs, rfl, rfl, h0, r0⟩ := trodAll_cons hA
  obtain ⟨rfl, rfl, rfl⟩ := trodAll_nil r0
  obtain rfl : args = #[v0] := by cases args; simp_all
  obtain ⟨rfl, rfl⟩ := trodVars_none hV
  obtain ⟨A0, len0, c0, rfl⟩ := okWide_slice Try.underlying22 (hval 0 22 v0 rfl rfl)
  have k0 := h0
  have lt0 : ∀ x ∈ p0, x.block < W.heap.size := by obtain ⟨m, hm⟩ := k0; exact DataW.trod_lt m _ _ _ hm
  obtain ⟨l0, rfl, hr0, hc0, hm0, hg0⟩ := Opn.arg_slice Try.underlying22 (by kernel_rfl) o5 h0
  clear hA0 hval0 hsz0
  obtain ⟨k, h⟩ := Pure.FnProofs l0 hm0 hg0
  refine (laws_FnProofs.calls k A0 c0 l0 W hr0 hc0 h).mono fun e W' ⟨he, bel0⟩ => ?_
  have bel : Below W.heap.size W W' := bel0
  subst he
  exact ⟨_, rfl, _, _, _, [], _, [], hW', trodAll_mk1 (shut_bool Try.underlying4 _), (trodAll_cons_mk (Below.trod laidOut (by kernel_rfl) (of_decide_eq_true (by kernel_rfl)) k0 bel lt0) trodAll_mk0), rfl, bel.frame _, fun h => by cases h⟩
theorem over : Rows.fnProofsRow.holds Try.pinned (OpenSpec.ofChange Rows.fnProofsSpec) :=
  OpenClaim.holds_of_wide 9 Try.f9 rfl rfl rfl rfl rfl rfl rfl ⟨rfl, rfl, rfl, rfl, rfl⟩ rfl rfl rfl rfl rfl (by kernel_rfl) Try.func9 (by kernel_rfl)
    (of_decide_eq_true (by kernel_rfl)) (by unfold Func.isWrapper; first | (rw [if_pos (by decide +kernel)]; kernel_rfl) | (rw [if_neg (by decide +kernel)]; exact ⟨rfl, rfl⟩))
    (fun os started H enc _ => lifted os started H enc)
end Go.Proofs.Ytomaeijhljpgdaa.fnProofs
namespace Go.Proofs.Ytomaeijhljpgdaa
theorem fnProofs_holds : Rows.FnProofsSaid := fnProofs.over
end Go.Proofs.Ytomaeijhljpgdaa
#print axioms Go.Proofs.Ytomaeijhljpgdaa.fnProofs_holds
