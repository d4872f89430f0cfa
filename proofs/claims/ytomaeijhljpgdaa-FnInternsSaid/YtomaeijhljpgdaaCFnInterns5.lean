/- FnInterns: for every input the law returns true and its arguments read afterwards as they read before. No condition. -/
import Derived.Test.YtomaeijhljpgdaaCFnInterns4
import Derived.RangeFuncNested
import Derived.RangeFuncBound
import Derived.RangeFuncCalls
import Derived.RangeFuncLeaves
import Derived.RangeFuncWrites
import Derived.RangeFuncBox
import Derived.Shelf.Abstract
import Derived.OwnWalkIn
import Derived.TacticsInMore
import Derived.LoopNIn
import Derived.LoopIn
import Derived.ChangeArms
import Derived.Deep.Slices
import Derived.ProofKit
import Derived.OpenShut
import Derived.Test.YtomaeijhljpgdaaRows
import Derived.WalkKit
import Derived.ShutString
import Derived.ChangeOld
import Derived.Below
import Derived.SizedLaws
set_option linter.unusedVariables false
namespace Go.Proofs.Ytomaeijhljpgdaa.Opn
open Go.Proofs.YtomaeijhljpgdaaW.PrintWords
def Opens {α : Type} (P : Program) (t : TypeId) (d : Kd α) (G : α → Prop) : Prop :=
  P.cellsOf t = d.sz ∧ ∀ (H : Type) (enc : TypeId × Value → H) (W : World) (base : Nat) (sp : Nat → Bool) (held : Bool) (fuel : Nat) (cs : List Value) (x : DataW H × List MemPlace),
    DataW.trod enc P W base sp held fuel t cs = some x → ∃ a, d.K W a cs ∧ G a
theorem opens_int {P : Program} {t : TypeId} {k : IntKind} (ht : P.underlying t = some (.int k)) (hc : P.cellsOf t = 1) : Opens P t (Kd.int k) (fun n => (Lit.int k n).wf = true) :=
  ⟨hc, fun H enc W base sp held fuel cs x hx => by
    obtain ⟨n, h, hx, hw⟩ := DataW.trod_int ht hx
    exact ⟨n, h, hw⟩⟩
theorem opens_slice {α : Type} {P : Program} {t e : TypeId} {d : Kd α} {G : α → Prop} (ht : P.underlying t = some (.slice e)) (hc : P.cellsOf t = 1) (he : Opens P e d G) :
    Opens P t (Kd.slice e d) (fun xs => xs.length ≤ maxLen ∧ ∀ x ∈ xs, G x) :=
  ⟨hc, fun H enc W base sp held fuel cs x hx => by
    rcases Go.Deep.open_slice ht hx with ⟨rfl, rfl⟩ | ⟨a, len, cap, m, n, D, Pl, rfl, hb, hl, hm, hmm, rfl, hel⟩
    · refine ⟨[], ⟨none, 0, rfl, Nat.le_refl _, rfl, by simp, ?_⟩, by simp, by simp⟩
      intro h; exact absurd h (by simp)
    · have hle : len ≤ m := by rw [hmm]; split <;> omega
      have key : ∀ i, i < len → ∃ p : α, ∃ c : List Value, c.length = d.sz ∧ d.K W p c ∧ G p ∧ ∀ j u, c[j]? = some u → W.cell? (a.add (i * d.sz + j)) = some u := by
        intro i hi
        obtain ⟨c, h1, h2⟩ := hel i (by omega)
        obtain ⟨p, h3, h4⟩ := he.2 H enc W base sp held n c _ h2
        obtain ⟨_, h5, h6⟩ := World.cells?_some h1
        rw [he.1] at h5 h6
        refine ⟨p, c, h5, h3, h4, fun j u hj => ?_⟩
        have hjl : j < d.sz := by
          have := (List.getElem?_eq_some_iff.1 hj).1
          omega
        rw [← Go.Deep.add_add, h6 j hjl, hj]
      have ex : ∃ ps : List α, ps.length = len ∧ ∀ i p, ps[i]? = some p → ∃ c : List Value, c.length = d.sz ∧ d.K W p c ∧ G p ∧ ∀ j u, c[j]? = some u → W.cell? (a.add (i * d.sz + j)) = some u := by
        clear hel hmm hle hl hm hx
        induction len with
        | zero => exact ⟨[], rfl, fun i p h => by simp at h⟩
        | succ k ih =>
          obtain ⟨ps, h1, h2⟩ := ih (fun i hi => key i (by omega))
          obtain ⟨p, hp⟩ := key k (by omega)
          refine ⟨ps ++ [p], by simp [h1], fun i q h => ?_⟩
          by_cases hi : i < ps.length
          · rw [List.getElem?_append_left hi] at h
            exact h2 i q h
          · rw [List.getElem?_append_right (by omega)] at h
            have hi0 : i - ps.length = 0 := by
              have := (List.getElem?_eq_some_iff.1 h).1
              simp at this
              omega
            rw [hi0] at h
            simp at h
            subst h
            have : i = k := by omega
            subst this
            exact hp
      obtain ⟨ps, h1, h2⟩ := ex
      subst h1
      refine ⟨ps, ⟨some a, cap, rfl, hl, rfl, by simp only [maxLen] at hm; omega, fun _ => ⟨a, rfl, fun j p hj => ?_⟩⟩, by omega, fun x hx' => ?_⟩
      · obtain ⟨c, g1, g2, g3, g4⟩ := h2 j p hj
        exact ⟨c, g1, g2, g4⟩
      · obtain ⟨i, hi⟩ := List.getElem?_of_mem hx'
        obtain ⟨c, g1, g2, g3, g4⟩ := h2 i x hi
        exact g3⟩
theorem arg_slice {α : Type} {P : Program} {W : World} {t e : TypeId} {d : Kd α} {G : α → Prop} {H : Type} {enc : TypeId × Value → H} {base : Nat} {sp : Nat → Bool} {held : Bool} {A : Option Addr} {n c : Nat} {x : DataW H} {ps : List MemPlace}
    (ht : P.underlying t = some (.slice e)) (hc : P.cellsOf t = 1) (he : Opens P e d G) (h : DataW.Trod enc P W base sp held t (.slice A n c) x ps) :
    ∃ xs : List α, n = xs.length ∧ d.C W A xs.length xs ∧ xs.length ≤ c ∧ xs.length ≤ maxLen ∧ ∀ a ∈ xs, G a := by
  obtain ⟨fuel, hf⟩ := h
  obtain ⟨xs, ⟨A', c', h1, h2, h3⟩, h4, h5⟩ := (opens_slice ht hc he).2 H enc W base sp held fuel _ _ hf
  simp [Value.cells] at h1
  obtain ⟨rfl, rfl, rfl⟩ := h1
  exact ⟨xs, rfl, h3, h2, h4, h5⟩
end Go.Proofs.Ytomaeijhljpgdaa.Opn
namespace Go.Proofs.Ytomaeijhljpgdaa.Pure
open Go.RowKit Go.Proofs.Ytomaeijhljpgdaa.G Go.Proofs.YtomaeijhljpgdaaW.PrintWords Go.Proofs.YtomaeijhljpgdaaW.PrintLast
def laws_FnInterns.Pure : Prop := ∀ (l0 : List Int), l0.length ≤ maxLen → (∀ x ∈ l0, (fun n => (Lit.int .u8 n).wf = true) x) → ∃ k, laws_FnInterns.f k l0 = some true
end Go.Proofs.Ytomaeijhljpgdaa.Pure
set_option linter.unusedVariables false
set_option linter.unusedSimpArgs false
namespace Go.Proofs.Ytomaeijhljpgdaa.Pure
open Go.RowKit Go.Proofs.Ytomaeijhljpgdaa.G Go.Proofs.YtomaeijhljpgdaaW.PrintWords Go.Proofs.YtomaeijhljpgdaaW.PrintLast Go.Proofs.YtomaeijhljpgdaaW.PrintMore
theorem w64d {n : Int} (h0 : 0 ≤ n) (h1 : n ≤ 9223372036854775807) : wrap64 n = n := by unfold wrap64; omega
theorem rd_byte {l : List Int} (hb : ∀ x ∈ l, 0 ≤ x ∧ x ≤ 255) (i : Int) : 0 ≤ rd l i ∧ rd l i ≤ 255 := by
  unfold rd
  simp only [List.getD]
  cases h : l[i.toNat]? with
  | none => simp
  | some x => simpa using hb x (List.mem_of_getElem? h)
theorem next_ok (l : List Int) (hb : ∀ x ∈ l, 0 ≤ x ∧ x ≤ 255) (hl : l.length ≤ 1048576) (s a : Int) (s0 : 0 ≤ s) (s1 : s ≤ 1000000000000) (ha : 1 ≤ a) : ∃ r, spec_l1Next.f l s a = some (r, s + 1) ∧ 0 ≤ r ∧ r < a := by
  unfold spec_l1Next.f
  have e1 : wrap64 (s + 1) = s + 1 := w64d (by omega) (by omega)
  have e2 : wrap64 (s + 1 - 1) = s := by rw [w64d (by omega) (by omega)]; omega
  rw [if_neg (by omega), e1, e2]
  by_cases h0 : (l.length : Int) = 0
  · rw [if_pos h0, if_neg (by omega), w64d (by omega) (by omega)]
    exact ⟨_, rfl, Int.tmod_nonneg _ (by omega), Int.tmod_lt_of_pos _ (by omega)⟩
  rw [if_neg h0]
  have m0 := Int.tmod_nonneg (l.length : Int) (show 0 ≤ s by omega)
  have m1 := Int.tmod_lt_of_pos s (show 0 < (l.length : Int) by omega)
  have d0 : 0 ≤ s.tdiv (l.length : Int) := Int.tdiv_nonneg s0 (by omega)
  have d1 : s.tdiv (l.length : Int) ≤ s := by
    rw [Int.tdiv_eq_ediv_of_nonneg s0]; exact Int.ediv_le_self _ s0
  have r0 := rd_byte hb (s.tmod (l.length : Int))
  generalize rd l (s.tmod (l.length : Int)) = x at r0 ⊢
  rw [if_pos m0, if_pos m1]
  have f1 : wrap64 x = x := w64d r0.1 (by omega)
  have f2 : wrap64 (s.tdiv (l.length : Int)) = s.tdiv (l.length : Int) := w64d d0 (by omega)
  generalize s.tdiv (l.length : Int) = q at d0 d1 f2 ⊢
  have f3 : wrap64 (q * 37) = q * 37 := w64d (by omega) (by omega)
  have f4 : wrap64 (x + q * 37) = x + q * 37 := w64d (by omega) (by omega)
  rw [f1, f2, f3, f4]
  by_cases h2 : a > 200
  · rw [if_pos h2]
    try simp only [e1]
    have g0 : 0 ≤ (wrap64 (s + 1)).tmod (l.length : Int) := Int.tmod_nonneg _ (by rw [e1]; omega)
    have g1 : (wrap64 (s + 1)).tmod (l.length : Int) < (l.length : Int) := Int.tmod_lt_of_pos _ (by omega)
    have y0 := rd_byte hb ((wrap64 (s + 1)).tmod (l.length : Int))
    rw [e1] at g0 g1 y0
    generalize rd l ((s + 1).tmod (l.length : Int)) = y at y0 ⊢
    rw [if_pos g0, if_pos g1, if_neg (by omega)]
    have f5 : wrap64 y = y := w64d y0.1 (by omega)
    have f6 : wrap64 (y * 13) = y * 13 := w64d (by omega) (by omega)
    have f7 : wrap64 ((x + q * 37) * 251) = (x + q * 37) * 251 := w64d (by omega) (by omega)
    have f8 : wrap64 ((x + q * 37) * 251 + y * 13) = (x + q * 37) * 251 + y * 13 := w64d (by omega) (by omega)
    have f9 : wrap64 ((x + q * 37) * 251 + y * 13 + s) = (x + q * 37) * 251 + y * 13 + s := w64d (by omega) (by omega)
    rw [f5, f6, f7, f8, f9]
    exact ⟨_, rfl, Int.tmod_nonneg _ (by omega), Int.tmod_lt_of_pos _ (by omega)⟩
  · rw [if_neg h2, if_neg (by omega)]
    exact ⟨_, rfl, Int.tmod_nonneg _ (by omega), Int.tmod_lt_of_pos _ (by omega)⟩
theorem pick_ok (l : List Int) (hb : ∀ x ∈ l, 0 ≤ x ∧ x ≤ 255) (hl : l.length ≤ 1048576) (s : Int) (L : List Int) (s0 : 0 ≤ s) (s1 : s ≤ 1000000000000) (hL : 1 ≤ L.length) : ∃ x, x ∈ L ∧ spec_l1Pick.f l s L = some (x, s + 1) := by
  obtain ⟨r, h, r0, r1⟩ := next_ok l hb hl s (L.length : Int) s0 s1 (by omega)
  obtain ⟨n, rfl⟩ := Int.eq_ofNat_of_zero_le r0
  have hn : n < L.length := by omega
  refine ⟨L[n], List.getElem_mem hn, ?_⟩
  unfold spec_l1Pick.f
  rw [h]; simp only [Option.bind_some]
  rw [if_pos r0, if_pos r1]
  have : rd L (n : Int) = L[n] := by simp [rd, List.getD, List.getElem?_eq_getElem hn]
  rw [this]
theorem max_ok (x y : Int) : spec_l1Max.f x y = some (max x y) := by
  unfold spec_l1Max.f; split <;> congr 1 <;> omega
theorem min_ok (x y : Int) : spec_l1Min.f x y = some (min x y) := by
  unfold spec_l1Min.f; split <;> congr 1 <;> omega
end Go.Proofs.Ytomaeijhljpgdaa.Pure
set_option linter.unusedVariables false
set_option linter.unusedSimpArgs false
namespace Go.Proofs.Ytomaeijhljpgdaa.Pure
open Go.RowKit Go.Proofs.Ytomaeijhljpgdaa.G Go.Proofs.YtomaeijhljpgdaaW.PrintWords Go.Proofs.YtomaeijhljpgdaaW.PrintLast Go.Proofs.YtomaeijhljpgdaaW.PrintMore
theorem ev_succ {α : Type} {g : Nat → Option α} {r : α} (h : Ev (fun k => g (k + 1)) r) : Ev g r := by
  obtain ⟨K, hK⟩ := h
  refine ⟨K + 1, fun k hk => ?_⟩
  obtain ⟨m, rfl⟩ : ∃ m, k = m + 1 := ⟨k - 1, by omega⟩
  exact hK m (by omega)
theorem w64' {n : Int} (h0 : -9223372036854775808 ≤ n) (h1 : n ≤ 9223372036854775807) : wrap64 n = n := by unfold wrap64; omega
theorem byte_wf {l : List Int} (h : ∀ x ∈ l, (Lit.int .u8 x).wf = true) : ∀ x ∈ l, 0 ≤ x ∧ x ≤ 255 := fun x hx => by
  have := h x hx
  simpa [Lit.wf, IntKind.min, IntKind.max, IntKind.signed, IntKind.bits] using this
end Go.Proofs.Ytomaeijhljpgdaa.Pure
set_option linter.unusedVariables false
set_option linter.unusedSimpArgs false
namespace Go.Proofs.Ytomaeijhljpgdaa.Pure
open Go.RowKit Go.Proofs.Ytomaeijhljpgdaa.G Go.Proofs.YtomaeijhljpgdaaW.PrintWords Go.Proofs.YtomaeijhljpgdaaW.PrintLast Go.Proofs.YtomaeijhljpgdaaW.PrintMore
theorem in_specT (a b c : Int) : spec_l1In.f a b c = some (decide (b ≤ a ∧ a ≤ c)) := by
  unfold spec_l1In.f; split
  · congr 1; simp; omega
  · congr 1; simp; omega
theorem kids_ev (a : Int) : Ev (fun k => spec_l5Kids.f k a) (if a = 3 ∨ a = 4 ∨ a = 5 ∨ a = 7 then 2 else if a = 6 then 1 else 0) := by
  refine ⟨1, fun k hk => ?_⟩
  obtain ⟨m, rfl⟩ : ∃ m, k = m + 1 := ⟨k - 1, by omega⟩
  unfold spec_l5Kids.f
  by_cases h3 : a = 3
  · simp [spec_l5Kids.j0, h3]
  · by_cases h4 : a = 4
    · simp [spec_l5Kids.j0, h4]
    · by_cases h5 : a = 5
      · simp [spec_l5Kids.j0, h5]
      · by_cases h7 : a = 7
        · simp [spec_l5Kids.j0, h7]
        · by_cases h6 : a = 6
          · simp [spec_l5Kids.j0, h6]
          · simp [spec_l5Kids.j0, h3, h4, h5, h6, h7]
theorem notIn_iff (l : List S26) (x : Int) : notIn l x = false ↔ (0 ≤ x ∧ x < (l.length : Int)) := by
  unfold notIn; simp; omega
theorem term_ev (a0 a1 a2 a3 : Int) (l : List S26) (hl : l.length ≤ 9223372036854775807) : Ev (fun k => spec_l5Term.f k l a0 a1 a2 a3) (tfault a0 a1 a2 a3 l) := by
  have hw : wrap64 ((l.length : Int) - 1) = (l.length : Int) - 1 := w64' (by omega) (by omega)
  unfold spec_l5Term.f
  simp only [in_specT, Option.bind_some, decide_eq_true_eq]
  unfold tfault
  by_cases hop : 1 ≤ a0 ∧ a0 ≤ 7
  rotate_left
  · simp only [if_neg hop]; exact Ev.now _
  simp only [if_pos hop]
  refine Ev.bind (kids_ev a0) ?_
  -- what stands behind the form's test
  have j2 : ∀ (n : Int) (t : Bool), (t = (a0 == 6 || a0 == 7)) → (a0 = 6 ∨ a0 = 7 → notIn l a1 = false ∧ (n > 1 → notIn l a2 = false)) → Ev (fun k => spec_l5Term.j2 k l n t a0 a1 a2 a3) (if a0 = 6 ∨ a0 = 7 then (if notFresh l a1 = true then 1 else if n > 1 then (if notFresh l a2 = true ∨ a1 > a2 then 1 else 0) else 0) else 0) := by
    intro n t ht hin
    refine ev_succ ?_
    simp only [spec_l5Term.j2]
    by_cases h67 : a0 = 6 ∨ a0 = 7
    · obtain ⟨i1, i2⟩ := hin h67
      rw [notIn_iff] at i1
      have ht' : t = true := by rw [ht]; rcases h67 with h | h <;> simp [h]
      simp only [ht', if_true, if_pos h67, i1.1, i1.2]
      by_cases hf : (rd_T26 l a1).f0 = 2
      · have hf' : notFresh l a1 = false := by unfold notFresh; simp [hf]
        simp only [hf, hf', if_true, Bool.false_eq_true, if_false]
        by_cases hn : n > 1
        · have i2' := i2 hn
          rw [notIn_iff] at i2'
          simp only [hn, if_true, i2'.1, i2'.2]
          by_cases hg : (rd_T26 l a2).f0 = 2
          · have hg' : notFresh l a2 = false := by unfold notFresh; simp [hg]
            simp only [hg, hg', if_true, Bool.false_eq_true, false_or]
            by_cases hgt : a1 > a2
            · simp only [hgt, if_true]; exact Ev.now _
            · simp only [hgt, if_false]; exact Ev.now _
          · have hg' : notFresh l a2 = true := by unfold notFresh; simpa using hg
            simp only [hg, hg', if_false, true_or, if_true]; exact Ev.now _
        · simp only [hn, if_false]; exact Ev.now _
      · have hf' : notFresh l a1 = true := by unfold notFresh; simpa using hf
        simp only [hf, hf', if_false, if_true]; exact Ev.now _
    · have ht' : t = false := by rw [ht]; simp only [not_or] at h67; simp [h67]
      simp only [ht', if_neg h67, Bool.false_eq_true, if_false]; exact Ev.now _
  have j1 : ∀ (n : Int) (t : Bool), (a0 = 6 ∨ a0 = 7 → t = false → notIn l a1 = false ∧ (n > 1 → notIn l a2 = false)) → Ev (fun k => spec_l5Term.j1 k l n t a0 a1 a2 a3) (if t = true then 3 else (if a0 = 6 ∨ a0 = 7 then (if notFresh l a1 = true then 1 else if n > 1 then (if notFresh l a2 = true ∨ a1 > a2 then 1 else 0) else 0) else 0)) := by
    intro n t hin
    refine ev_succ ?_
    simp only [spec_l5Term.j1]
    cases t with
    | true => simp only [if_true]; exact Ev.now _
    | false =>
      simp only [Bool.false_eq_true, if_false]
      by_cases h6 : a0 = 6
      · simp only [if_pos h6]; exact j2 n true (by simp [h6]) (fun h => hin h rfl)
      · simp only [if_neg h6]; exact j2 n (a0 == 7) (by simp [h6]) (fun h => hin h rfl)
  have dn : ∀ x : Int, (!decide (0 ≤ x ∧ x ≤ (l.length : Int) - 1)) = notIn l x := fun x => rfl
  have dt : ∀ x : Int, (0 ≤ x ∧ x ≤ (l.length : Int) - 1) ↔ notIn l x = false := fun x => by rw [notIn_iff]; omega
  by_cases h12 : a0 = 1 ∨ a0 = 2
  · -- names
    have hk : ¬ (a0 = 3 ∨ a0 = 4 ∨ a0 = 5 ∨ a0 = 7) := by omega
    have hk6 : ¬ a0 = 6 := by omega
    have h67 : ¬ (a0 = 6 ∨ a0 = 7) := by omega
    simp only [if_neg hk, if_neg hk6, if_pos h12, show ¬ (0 : Int) > 0 by omega, if_false, show (0 : Int) < 1 by omega, show (0 : Int) < 2 by omega, if_true]
    by_cases ha : a1 = 0
    · simp only [ha, if_true, true_and]
      refine ev_succ ?_
      simp only [spec_l5Term.j0]
      by_cases hb : a2 = 0
      · simp only [hb, bne_self_eq_false, Bool.false_eq_true, if_false, if_true, in_specT, Option.bind_some, decide_eq_true_eq, show ¬ (0 : Int) > 0 by omega, show ¬ (0 : Int) > 1 by omega]
        by_cases hn : 0 ≤ a3 ∧ a3 ≤ 9999
        · simp only [hn, and_self, if_true]
          have := j1 0 false (fun h => absurd h h67)
          simp only [Bool.false_eq_true, if_false, if_neg h67, ha, hb] at this
          exact this
        · simp only [if_neg hn]
          have := j1 0 true (fun h => absurd h h67)
          simp only [if_true, ha, hb] at this
          exact this
      · have hb' : (a2 != 0) = true := by simpa using hb
        simp only [hb', if_true, hb, if_false]; exact Ev.now _
    · simp only [ha, if_false, false_and]
      refine ev_succ ?_
      simp only [spec_l5Term.j0, if_true]; exact Ev.now _
  · by_cases h6 : a0 = 6
    · have hk : ¬ (a0 = 3 ∨ a0 = 4 ∨ a0 = 5 ∨ a0 = 7) := by omega
      simp only [if_neg hk, if_pos h6, if_neg h12, show (1 : Int) > 0 by omega, if_true, show ¬ (1 : Int) < 1 by omega, if_false, show (1 : Int) < 2 by omega]
      by_cases hn : a3 = 0
      · simp only [hn, if_true, and_true]
        refine ev_succ ?_
        simp only [spec_l5Term.j0]
        by_cases hb : a2 = 0
        · simp only [hb, bne_self_eq_false, Bool.false_eq_true, if_false, if_true, in_specT, Option.bind_some, decide_eq_true_eq, show (1 : Int) > 0 by omega, show ¬ (1 : Int) > 1 by omega, show (0 : Int) ≤ 0 ∧ (0 : Int) ≤ 9999 by omega, and_self, hw, List.any_cons, List.any_nil, Bool.or_false]
          cases hi : notIn l a1 with
          | false =>
            simp only [if_pos ((dt a1).2 hi), Bool.false_eq_true, if_false]
            have := j1 1 false (fun h _ => ⟨hi, fun h => absurd h (by omega)⟩)
            simp only [Bool.false_eq_true, if_false, h6, true_or, if_true, show ¬ (1 : Int) > 1 by omega, hb, hn] at this
            rw [h6]
            exact this
          | true =>
            simp only [if_neg (show ¬ (0 ≤ a1 ∧ a1 ≤ (l.length : Int) - 1) from fun h => by rw [(dt a1).1 h] at hi; cases hi), if_true]
            have := j1 1 true (fun _ h => by cases h)
            simp only [if_true, hb, hn] at this
            exact this
        · have hb' : (a2 != 0) = true := by simpa using hb
          simp only [hb', if_true, hb, if_false]; exact Ev.now _
      · simp only [hn, if_false, and_false]
        refine ev_succ ?_
        simp only [spec_l5Term.j0, if_true]; exact Ev.now _
    · have hk : a0 = 3 ∨ a0 = 4 ∨ a0 = 5 ∨ a0 = 7 := by omega
      simp only [if_pos hk, if_neg h6, if_neg h12, show (2 : Int) > 0 by omega, if_true, show ¬ (2 : Int) < 1 by omega, if_false, show ¬ (2 : Int) < 2 by omega]
      by_cases hn : a3 = 0
      · simp only [hn, if_true]
        refine ev_succ ?_
        simp only [spec_l5Term.j0, Bool.false_eq_true, if_false, if_true, in_specT, Option.bind_some, decide_eq_true_eq, show (2 : Int) > 0 by omega, show (2 : Int) > 1 by omega, show (0 : Int) ≤ 0 ∧ (0 : Int) ≤ 9999 by omega, and_self, hw, dn, List.any_cons, List.any_nil, Bool.or_false]
        cases hi : notIn l a1 with
        | true =>
          simp only [if_neg (show ¬ (0 ≤ a1 ∧ a1 ≤ (l.length : Int) - 1) from fun h => by rw [(dt a1).1 h] at hi; cases hi), Bool.true_or, if_true]
          have := j1 2 true (fun _ h => by cases h)
          simp only [if_true, hn] at this
          exact this
        | false =>
          simp only [if_pos ((dt a1).2 hi), Bool.false_or]
          have := j1 2 (notIn l a2) (fun _ h => ⟨hi, fun _ => h⟩)
          simp only [show (2 : Int) > 1 by omega, if_true, h6, false_or, hn] at this
          have e : (if notIn l a2 = true then (3 : Int) else if a0 = 7 then (if notFresh l a1 = true then 1 else if notFresh l a2 = true ∨ a1 > a2 then 1 else 0) else 0) = (if notIn l a2 = true then 3 else if a0 = 7 then (if (notFresh l a1 || notFresh l a2) = true ∨ a1 > a2 then 1 else 0) else 0) := by
            by_cases q0 : notIn l a2 = true
            · rw [if_pos q0, if_pos q0]
            · rw [if_neg q0, if_neg q0]
              by_cases q7 : a0 = 7
              · rw [if_pos q7, if_pos q7]
                cases notFresh l a1 <;> cases notFresh l a2 <;> simp
              · rw [if_neg q7, if_neg q7]
          rw [e] at this
          exact this
      · simp only [hn, if_false]
        refine ev_succ ?_
        simp only [spec_l5Term.j0, if_true]; exact Ev.now _
theorem drop_rdT (l : List S26) (i : Nat) (h : i < l.length) : l.drop i = rd_T26 l (i : Int) :: l.drop (i + 1) := by
  rw [List.drop_eq_getElem_cons h]
  simp [rd_T26, List.getD, List.getElem?_eq_getElem h]
theorem take_rdT (l : List S26) (i : Nat) (h : i < l.length) : l.take (i + 1) = l.take i ++ [rd_T26 l (i : Int)] := by
  rw [List.take_succ_eq_append_getElem h]
  simp [rd_T26, List.getD, List.getElem?_eq_getElem h]
def tidx (l : List S26) (x : S26) (i : Nat) : Int :=
  match (l.drop i).findIdx? fun y => eq4 x y with
  | some j => ((i + j : Nat) : Int)
  | none => -1
theorem find_l0 (l : List S26) (hl : l.length ≤ 9223372036854775807) (x : S26) (d : Nat) : ∀ (k i : Nat), i + d = l.length → d < k → spec_l5Find.l0 k l i x.f0 x.f1 x.f2 x.f3 = some (tidx l x i) := by
  induction d with
  | zero =>
    intro k i hi hk
    obtain ⟨k, rfl⟩ : ∃ m, k = m + 1 := ⟨k - 1, by omega⟩
    simp only [spec_l5Find.l0]; rw [if_neg (by omega)]; unfold tidx; rw [List.drop_of_length_le (by omega)]; rfl
  | succ d ih =>
    intro k i hi hk
    obtain ⟨k, rfl⟩ : ∃ m, k = m + 1 := ⟨k - 1, by omega⟩
    simp only [spec_l5Find.l0]
    rw [if_pos (by omega), if_pos (by omega), w64' (by omega) (by omega)]
    have e := ih k (i + 1) (by omega) (by omega)
    have e' : spec_l5Find.l0 k l ((i : Int) + 1) x.f0 x.f1 x.f2 x.f3 = some (tidx l x (i + 1)) := by simpa using e
    rw [e']
    have sw : (((rd_T26 l i).f0) == x.f0 && (((rd_T26 l i).f1) == x.f1 && (((rd_T26 l i).f2) == x.f2 && (((rd_T26 l i).f3) == x.f3)))) = eq4 x (rd_T26 l i) := by
      unfold eq4; rw [BEq.comm (b := x.f0), BEq.comm (b := x.f1), BEq.comm (b := x.f2), BEq.comm (b := x.f3)]
    rw [sw]
    unfold tidx
    rw [drop_rdT l i (by omega), List.findIdx?_cons]
    cases h : eq4 x (rd_T26 l i)
    · simp only [Bool.false_eq_true, if_false]
      cases (l.drop (i + 1)).findIdx? fun y => eq4 x y with
      | none => rfl
      | some j => simp; omega
    · simp
theorem find_ev (l : List S26) (hl : l.length ≤ 9223372036854775807) (x : S26) : Ev (fun k => spec_l5Find.f k l x.f0 x.f1 x.f2 x.f3) (tidx l x 0) := by
  refine ⟨l.length + 1, fun k hk => ?_⟩
  have := find_l0 l hl x l.length k 0 (by omega) (by omega)
  simpa [spec_l5Find.f] using this
theorem tidx_nonneg (l : List S26) (x : S26) : tidx l x 0 ≥ 0 ↔ l.any (eq4 x) = true := by
  unfold tidx
  rw [List.drop_zero]
  cases h : l.findIdx? fun y => eq4 x y with
  | none =>
    rw [List.findIdx?_eq_none_iff] at h
    constructor
    · intro h'; simp at h'
    · intro h'
      obtain ⟨y, hy, hq⟩ := List.any_eq_true.1 h'
      have := h y hy
      rw [hq] at this; cases this
  | some j =>
    rw [List.findIdx?_eq_some_iff_getElem] at h
    obtain ⟨hj, h3, _⟩ := h
    constructor
    · intro _; exact List.any_eq_true.2 ⟨_, List.getElem_mem hj, h3⟩
    · intro _; simp only [Nat.zero_add]; omega
def TF (l : List S26) : Int := if 400 < l.length then 2 else TFs [] l
theorem tf_spec_l0 (l : List S26) (hl : l.length ≤ 400) (d : Nat) : ∀ (i : Nat), i + d = l.length → Ev (fun k => spec_TermsFault.l0 k l i) (TFs (l.take i) (l.drop i)) := by
  induction d with
  | zero =>
    intro i hi
    refine ev_succ ?_
    simp only [spec_TermsFault.l0, show ¬ (i : Int) < (l.length : Int) by omega, if_false]
    rw [List.drop_of_length_le (by omega)]; exact Ev.now _
  | succ d ih =>
    intro i hi
    refine ev_succ ?_
    simp only [spec_TermsFault.l0, show (i : Int) < (l.length : Int) by omega, show 0 ≤ (i : Int) by omega, show (i : Int) ≤ (l.length : Int) by omega, if_true, Int.toNat_natCast]
    rw [drop_rdT l i (by omega)]
    generalize hx : rd_T26 l (i : Int) = x
    simp only [TFs]
    refine Ev.bind (term_ev _ _ _ _ _ (by rw [List.length_take]; omega)) ?_
    by_cases h0 : tfault x.f0 x.f1 x.f2 x.f3 (l.take i) = 0
    · simp only [h0, if_true]
      refine Ev.bind (find_ev _ (by rw [List.length_take]; omega) x) ?_
      by_cases hh : (l.take i).any (eq4 x) = true
      · simp only [if_pos hh, if_pos ((tidx_nonneg _ _).2 hh)]; exact Ev.now _
      · simp only [if_neg hh, if_neg (fun h => hh ((tidx_nonneg _ _).1 h))]
        rw [w64' (by omega) (by omega), ← hx, ← take_rdT l i (by omega)]
        have := ih (i + 1) (by omega)
        simpa using this
    · simp only [h0, if_false]; exact Ev.now _
theorem tf_spec (l : List S26) : Ev (fun k => spec_TermsFault.f k l) (TF l) := by
  unfold spec_TermsFault.f TF
  by_cases h : 400 < l.length
  · simp only [show (l.length : Int) > 400 by omega, h, if_true]; exact Ev.now _
  · simp only [show ¬ (l.length : Int) > 400 by omega, h, if_false]
    have := tf_spec_l0 l (by omega) l.length 0 (by omega)
    simpa using this
theorem tf_impl {l : List S26} (h : l.all wf4 = true) : impl_TermsFault.f l = some (TF l) := by
  unfold impl_TermsFault.f TF
  rw [if_pos h]
end Go.Proofs.Ytomaeijhljpgdaa.Pure
set_option linter.unusedVariables false
set_option linter.unusedSimpArgs false
namespace Go.Proofs.Ytomaeijhljpgdaa.Pure
open Go.RowKit Go.Proofs.Ytomaeijhljpgdaa.G Go.Proofs.YtomaeijhljpgdaaW.PrintWords Go.Proofs.YtomaeijhljpgdaaW.PrintLast Go.Proofs.YtomaeijhljpgdaaW.PrintMore
theorem tindex_l0 (l : List S26) (hl : l.length ≤ 9223372036854775807) (x : S26) (d : Nat) : ∀ (k i : Nat), i + d = l.length → d < k → impl_Term_91.l0 k l (l.length : Int) i x.f0 x.f1 x.f2 x.f3 = some (tidx l x i) := by
  induction d with
  | zero =>
    intro k i hi hk
    obtain ⟨k, rfl⟩ : ∃ m, k = m + 1 := ⟨k - 1, by omega⟩
    simp only [impl_Term_91.l0]; rw [if_neg (by omega)]; unfold tidx; rw [List.drop_of_length_le (by omega)]; rfl
  | succ d ih =>
    intro k i hi hk
    obtain ⟨k, rfl⟩ : ∃ m, k = m + 1 := ⟨k - 1, by omega⟩
    simp only [impl_Term_91.l0]
    rw [if_pos (by omega), if_pos (by omega), if_pos (by omega), w64' (by omega) (by omega)]
    have e := ih k (i + 1) (by omega) (by omega)
    have e' : impl_Term_91.l0 k l (l.length : Int) ((i : Int) + 1) x.f0 x.f1 x.f2 x.f3 = some (tidx l x (i + 1)) := by simpa using e
    rw [e']
    have sw : (x.f0 == (rd_T26 l i).f0 && (x.f1 == (rd_T26 l i).f1 && (x.f2 == (rd_T26 l i).f2 && (x.f3 == (rd_T26 l i).f3)))) = eq4 x (rd_T26 l i) := rfl
    rw [sw]
    unfold tidx
    rw [drop_rdT l i (by omega), List.findIdx?_cons]
    cases h : eq4 x (rd_T26 l i)
    · simp only [Bool.false_eq_true, if_false]
      cases (l.drop (i + 1)).findIdx? fun y => eq4 x y with
      | none => rfl
      | some j => simp; omega
    · simp
theorem tindex_ev (l : List S26) (hl : l.length ≤ 9223372036854775807) (x : S26) : Ev (fun k => impl_Term_91.f k l x.f0 x.f1 x.f2 x.f3) (tidx l x 0) := by
  refine ⟨l.length + 1, fun k hk => ?_⟩
  have h := tindex_l0 l hl x l.length k 0 (by omega) (by omega)
  have h' : impl_Term_91.l0 k l (l.length : Int) 0 x.f0 x.f1 x.f2 x.f3 = some (tidx l x 0) := by simpa using h
  exact h'
theorem TF_len {l : List S26} (h : TF l = 0) : l.length ≤ 400 := by
  unfold TF at h
  by_cases hb : 400 < l.length
  · rw [if_pos hb] at h; cases h
  · omega
def PT (l : List S26) (t : S26) : Int × Int × List S26 := if tfault t.f0 t.f1 t.f2 t.f3 l = 0 then (if 0 ≤ tidx l t 0 then (0, tidx l t 0, l) else if 400 ≤ l.length then (2, 0, []) else (0, (l.length : Int), l ++ [t])) else (tfault t.f0 t.f1 t.f2 t.f3 l, 0, [])
theorem told_put (l : List S26) (t : S26) : toldP (putP l false t (tidx l t 0)) = (if 0 ≤ tidx l t 0 then (0, tidx l t 0, l) else if 400 ≤ l.length then (2, 0, []) else (0, (l.length : Int), l ++ [t])) := by
  unfold toldP putP
  by_cases h0 : 0 ≤ tidx l t 0
  · simp only [if_pos h0]; rfl
  · simp only [if_neg h0]
    by_cases h1 : 400 ≤ l.length
    · simp only [if_pos h1]; rfl
    · simp only [if_neg h1]; rfl
theorem copy_ev (l : List S26) (hl : l.length ≤ 400) : spec_l5Copy.f l = some l := by
  unfold spec_l5Copy.f
  simp only [Option.bind_some, List.length_nil, List.nil_append]
  rw [if_pos (by omega)]
theorem put_spec (l : List S26) (hl : l.length ≤ 400) (t : S26) : Ev (fun k => spec_l5Put.f k l t.f0 t.f1 t.f2 t.f3) (PT l t) := by
  unfold spec_l5Put.f PT
  refine Ev.bind (term_ev _ _ _ _ l (by omega)) ?_
  by_cases h : tfault t.f0 t.f1 t.f2 t.f3 l = 0
  · simp only [h, if_true]
    refine Ev.bind (find_ev l (by omega) t) ?_
    by_cases h0 : 0 ≤ tidx l t 0
    · simp only [h0, if_true, show tidx l t 0 ≥ 0 from h0, copy_ev l hl, Option.bind_some]; exact Ev.now _
    · simp only [h0, if_false, show ¬ tidx l t 0 ≥ 0 from h0]
      by_cases h1 : 400 ≤ l.length
      · simp only [h1, if_true, show (l.length : Int) ≥ 400 by omega]; exact Ev.now _
      · simp only [h1, if_false, show ¬ (l.length : Int) ≥ 400 by omega, copy_ev l hl, Option.bind_some, List.length_cons, List.length_nil, show l.length + (0 + 1) < 4398046511104 by omega, if_true]; exact Ev.now _
  · simp only [h, if_false]; exact Ev.now _
def PTm (l : List S26) (t : S26) : Int × Int × List S26 := if TF l = 0 then PT l t else (TF l, 0, [])
theorem putTerm_spec (l : List S26) (t : S26) : Ev (fun k => spec_PutTerm.f k l t.f0 t.f1 t.f2 t.f3) (PTm l t) := by
  unfold spec_PutTerm.f PTm
  refine Ev.bind (tf_spec l) ?_
  by_cases h : TF l = 0
  · simp only [h, if_true]; refine Ev.bind (put_spec l (TF_len h) t) ?_; exact Ev.now _
  · simp only [h, if_false]; exact Ev.now _
theorem putTerm_impl (l : List S26) (hw : l.all wf4 = true) (t : S26) : Ev (fun k => impl_PutTerm.f k l t.f0 t.f1 t.f2 t.f3) (PTm l t) := by
  unfold impl_PutTerm.f PTm
  simp only [tf_impl hw, Option.bind_some]
  by_cases h : TF l = 0
  · simp only [h, if_true, impl_Term_fault.f, Option.bind_some]
    unfold PT
    by_cases hf : tfault t.f0 t.f1 t.f2 t.f3 l = 0
    · simp only [hf, if_true]
      refine Ev.bind (tindex_ev l (by have := TF_len h; omega) t) ?_
      have e : (⟨t.f0, t.f1, t.f2, t.f3⟩ : S26) = t := rfl
      rw [e, told_put]
      exact Ev.now _
    · simp only [hf, if_false]; exact Ev.now _
  · simp only [h, if_false]; exact Ev.now _
end Go.Proofs.Ytomaeijhljpgdaa.Pure
set_option linter.unusedVariables false
set_option linter.unusedSimpArgs false
namespace Go.Proofs.Ytomaeijhljpgdaa.Pure
open Go.RowKit Go.Proofs.Ytomaeijhljpgdaa.G Go.Proofs.YtomaeijhljpgdaaW.PrintWords Go.Proofs.YtomaeijhljpgdaaW.PrintLast Go.Proofs.YtomaeijhljpgdaaW.PrintMore
theorem PT_len (l : List S26) (t : S26) (hl : l.length ≤ 400) : (PT l t).2.2.length ≤ 400 := by
  unfold PT
  split
  · split
    · exact hl
    · split
      · simp
      · simp; omega
  · simp
theorem tidx_lt (l : List S26) (x : S26) (h : 0 ≤ tidx l x 0) : tidx l x 0 < (l.length : Int) := by
  unfold tidx at h ⊢
  rw [List.drop_zero] at h ⊢
  cases e : l.findIdx? fun y => eq4 x y with
  | none => rw [e] at h; simp at h
  | some j =>
    rw [List.findIdx?_eq_some_iff_getElem] at e
    obtain ⟨hj, _⟩ := e
    simp only [Nat.zero_add]
    omega
end Go.Proofs.Ytomaeijhljpgdaa.Pure
set_option linter.unusedVariables false
set_option linter.unusedSimpArgs false
namespace Go.Proofs.Ytomaeijhljpgdaa.Pure
open Go.RowKit Go.Proofs.Ytomaeijhljpgdaa.G Go.Proofs.YtomaeijhljpgdaaW.PrintWords Go.Proofs.YtomaeijhljpgdaaW.PrintLast Go.Proofs.YtomaeijhljpgdaaW.PrintMore
def sm (a : Int) : Prop := -1 ≤ a ∧ a ≤ 4611686018427387904
theorem sm_wf {a : Int} (h : sm a) : (Lit.int .i64 a).wf = true := by
  unfold sm at h
  have : -9223372036854775808 ≤ a ∧ a ≤ 9223372036854775807 := by omega
  simpa [Lit.wf, IntKind.min, IntKind.max, IntKind.signed, IntKind.bits] using this
def B4 (x : S26) : Prop := sm x.f0 ∧ sm x.f1 ∧ sm x.f2 ∧ sm x.f3
def BL (l : List S26) : Prop := ∀ x ∈ l, B4 x
theorem B4_wf {x : S26} (h : B4 x) : wf4 x = true := by
  obtain ⟨h0, h1, h2, h3⟩ := h
  unfold wf4
  simp [sm_wf h0, sm_wf h1, sm_wf h2, sm_wf h3]
theorem BL_wf {l : List S26} (h : BL l) : l.all wf4 = true := by
  rw [List.all_eq_true]; exact fun x hx => B4_wf (h x hx)
theorem B4_z : B4 z26 := by unfold B4 sm z26; simp
theorem BL_rd {l : List S26} (h : BL l) (i : Int) : B4 (rd_T26 l i) := by
  unfold rd_T26
  simp only [List.getD]
  cases e : l[i.toNat]? with
  | none => exact B4_z
  | some x => exact h x (List.mem_of_getElem? e)
theorem BL_set {l : List S26} (h : BL l) (i : Nat) {x : S26} (hx : B4 x) : BL (l.set i x) := by
  intro y hy
  rcases List.mem_or_eq_of_mem_set hy with hy | rfl
  · exact h y hy
  · exact hx
theorem BL_app {l : List S26} (h : BL l) {x : S26} (hx : B4 x) : BL (l ++ [x]) := by
  intro y hy
  rcases List.mem_append.1 hy with hy | hy
  · exact h y hy
  · rw [List.mem_singleton.1 hy]; exact hx
theorem BL_nil : BL [] := fun x hx => by simp at hx
theorem PT_B {l : List S26} (h : BL l) {t : S26} (ht : B4 t) : BL (PT l t).2.2 := by
  unfold PT
  split
  · split
    · exact h
    · split
      · exact BL_nil
      · exact BL_app h ht
  · exact BL_nil
theorem chance_ok (l : List Int) (hb : ∀ x ∈ l, 0 ≤ x ∧ x ≤ 255) (hl : l.length ≤ 1048576) (s a : Int) (s0 : 0 ≤ s) (s1 : s ≤ 1000000000000) (ha : 1 ≤ a) : ∃ b, spec_l1Chance.f l s a = some (b, s + 1) := by
  obtain ⟨r, h, _⟩ := next_ok l hb hl s a s0 s1 ha
  unfold spec_l1Chance.f
  rw [h]
  exact ⟨_, rfl⟩
theorem both_ev (l : List S26) (hl : l.length ≤ 400) (a b : Int) : Ev (fun k => spec_l5Both.f k l a b) (PT l ⟨7, min a b, max a b, 0⟩) := by
  unfold spec_l5Both.f
  simp only [min_ok, max_ok, Option.bind_some]
  refine Ev.bind (put_spec l hl ⟨7, min a b, max a b, 0⟩) ?_
  exact Ev.now _
theorem grow_j1 {L : List S26} (hL : BL L) (h4 : L.length ≤ 400) {t : S26} (ht : B4 t) : ∃ r, BL r ∧ r.length ≤ 400 ∧ ∀ (x1 s : Int) (c : List Int) (X), Ev (fun k => spec_l5Grow.l0 k (wrap64 (x1 - 1)) r c s) X → Ev (fun k => spec_l5Grow.j1 k x1 L c s t.f0 t.f1 t.f2 t.f3) X := by
  have hp := put_spec L h4 t
  by_cases h7 : t.f0 = 7
  · have hq := both_ev L h4 t.f1 t.f2
    have hB : B4 ⟨7, min t.f1 t.f2, max t.f1 t.f2, 0⟩ := by
      obtain ⟨_, h1, h2, _⟩ := ht
      unfold B4 sm at *
      simp only
      omega
    by_cases h0 : (PT L ⟨7, min t.f1 t.f2, max t.f1 t.f2, 0⟩).1 = 0
    · refine ⟨_, PT_B hL hB, PT_len L _ h4, fun x1 s c X hX => ev_succ ?_⟩
      simp only [spec_l5Grow.j1]
      refine Ev.bind hp ?_
      simp only [h7, if_true]
      refine Ev.bind hq ?_
      simp only [h0, if_true]
      exact hX
    · refine ⟨L, hL, h4, fun x1 s c X hX => ev_succ ?_⟩
      simp only [spec_l5Grow.j1]
      refine Ev.bind hp ?_
      simp only [h7, if_true]
      refine Ev.bind hq ?_
      simp only [h0, if_false]
      exact hX
  · by_cases h0 : (PT L t).1 = 0
    · refine ⟨_, PT_B hL ht, PT_len L _ h4, fun x1 s c X hX => ev_succ ?_⟩
      simp only [spec_l5Grow.j1]
      refine Ev.bind hp ?_
      simp only [h7, if_false, h0, if_true]
      exact hX
    · refine ⟨L, hL, h4, fun x1 s c X hX => ev_succ ?_⟩
      simp only [spec_l5Grow.j1]
      refine Ev.bind hp ?_
      simp only [h7, if_false, h0]
      exact hX
theorem grow_l0 (c : List Int) (hb : ∀ x ∈ c, 0 ≤ x ∧ x ≤ 255) (hl : c.length ≤ 1048576) : ∀ (n : Nat) (L : List S26) (s : Int), BL L → L.length ≤ 400 → 0 ≤ s → s + 4 * n ≤ 1000000000 →
    ∃ r s', Ev (fun k => spec_l5Grow.l0 k n L c s) (r, s') ∧ BL r ∧ r.length ≤ 400 ∧ s ≤ s' ∧ s' ≤ s + 4 * n
  | 0, L, s, hL, h4, s0, s1 => ⟨L, s, ev_succ (by simp only [spec_l5Grow.l0, show ¬ ((0 : Nat) : Int) > 0 by omega, if_false]; exact Ev.now _), hL, h4, by omega, by omega⟩
  | n + 1, L, s, hL, h4, s0, s1 => by
    have hw : wrap64 (((n + 1 : Nat) : Int) - 1) = n := by rw [w64' (by omega) (by omega)]; omega
    obtain ⟨op, hop, e1⟩ := pick_ok c hb hl s [1, 2, 3, 4, 5, 6, 7, 3, 5] s0 (by omega) (by simp)
    obtain ⟨a, e2, a0, a1⟩ := next_ok c hb hl (s + 1) (max 1 (L.length : Int)) (by omega) (by omega) (by omega)
    obtain ⟨b, e3, b0, b1⟩ := next_ok c hb hl (s + 1 + 1) (max 1 (L.length : Int)) (by omega) (by omega) (by omega)
    obtain ⟨q, e4, q0, q1⟩ := next_ok c hb hl (s + 1 + 1 + 1) 6 (by omega) (by omega) (by omega)
    have o1 : 1 ≤ op ∧ op ≤ 7 := by simp at hop; omega
    have step : ∀ (t : S26) (sq : Int), B4 t → s ≤ sq → sq ≤ s + 4 → ∃ r s', Ev (fun k => spec_l5Grow.j1 k ((n + 1 : Nat) : Int) L c sq t.f0 t.f1 t.f2 t.f3) (r, s') ∧ BL r ∧ r.length ≤ 400 ∧ s ≤ s' ∧ s' ≤ s + 4 * ((n + 1 : Nat) : Int) := by
      intro t sq ht h1 h2
      obtain ⟨r, r1, r2, r3⟩ := grow_j1 hL h4 ht
      obtain ⟨r', s', k1, k2, k3, k4, k5⟩ := grow_l0 c hb hl n r sq r1 r2 (by omega) (by omega)
      refine ⟨r', s', r3 _ _ _ _ ?_, k2, k3, by omega, by omega⟩
      rw [hw]; exact k1
    have hk := kids_ev op
    by_cases c0 : op = 3 ∨ op = 4 ∨ op = 5 ∨ op = 7
    · obtain ⟨r, s', k1, k2⟩ := step ⟨op, a, b, 0⟩ (s + 1 + 1 + 1) (by unfold B4 sm; simp only; omega) (by omega) (by omega)
      refine ⟨r, s', ev_succ ?_, k2⟩
      simp only [spec_l5Grow.l0, show ((n + 1 : Nat) : Int) > 0 by omega, if_true, max_ok, Option.bind_some, e1, e2, e3]
      rw [if_pos c0] at hk
      refine Ev.bind hk ?_
      simp only [show ¬ (2 : Int) = 0 by omega, show ¬ (2 : Int) = 1 by omega, if_false]
      exact k1
    · by_cases c6 : op = 6
      · obtain ⟨r, s', k1, k2⟩ := step ⟨op, a, 0, 0⟩ (s + 1 + 1 + 1) (by unfold B4 sm; simp only; omega) (by omega) (by omega)
        refine ⟨r, s', ev_succ ?_, k2⟩
        simp only [spec_l5Grow.l0, show ((n + 1 : Nat) : Int) > 0 by omega, if_true, max_ok, Option.bind_some, e1, e2, e3]
        rw [if_neg c0, if_pos c6] at hk
        refine Ev.bind hk ?_
        simp only [show ¬ (1 : Int) = 0 by omega, if_false, if_true]
        exact k1
      · obtain ⟨r, s', k1, k2⟩ := step ⟨op, 0, 0, q⟩ (s + 1 + 1 + 1 + 1) (by unfold B4 sm; simp only; omega) (by omega) (by omega)
        refine ⟨r, s', ev_succ ?_, k2⟩
        simp only [spec_l5Grow.l0, show ((n + 1 : Nat) : Int) > 0 by omega, if_true, max_ok, Option.bind_some, e1, e2, e3]
        rw [if_neg c0, if_neg c6] at hk
        refine Ev.bind hk ?_
        simp only [if_true, e4, Option.bind_some]
        exact k1
theorem bent_ok (c : List Int) (hb : ∀ x ∈ c, 0 ≤ x ∧ x ≤ 255) (hl : c.length ≤ 1048576) (s : Int) (s0 : 0 ≤ s) (s1 : s ≤ 1000000) : ∃ r s', Ev (fun k => spec_l5Bent.f k c s) (r, s') ∧ BL r ∧ r.length ≤ 401 ∧ s ≤ s' ∧ s' ≤ s + 1000 := by
  obtain ⟨m, hm, e0⟩ := pick_ok c hb hl s [6, 14, 25, 40, 1] s0 (by omega) (by simp)
  have m1 : 1 ≤ m ∧ m ≤ 40 := by simp at hm; omega
  obtain ⟨n, rfl⟩ := Int.eq_ofNat_of_zero_le (show 0 ≤ m by omega)
  obtain ⟨L, z, g1, g2, g3, g4, g5⟩ := grow_l0 c hb hl n [] (s + 1) BL_nil (by simp) (by omega) (by omega)
  have g1' : Ev (fun k => spec_l5Grow.f k c (s + 1) n) (L, z) := g1
  by_cases h0 : (L.length : Int) = 0
  · refine ⟨L, z, ?_, g2, by omega, by omega, by omega⟩
    unfold spec_l5Bent.f
    simp only [e0, Option.bind_some]
    refine Ev.bind g1' ?_
    simp only [h0, if_true]; exact Ev.now _
  obtain ⟨i, e1, i0, i1⟩ := next_ok c hb hl z (L.length : Int) (by omega) (by omega) (by omega)
  obtain ⟨w, e2, w0, w1⟩ := next_ok c hb hl (z + 1) 24 (by omega) (by omega) (by omega)
  have hR := BL_rd g2 i
  unfold spec_l5Bent.f
  simp only [e0, Option.bind_some]
  have main : ∃ r s', Ev (fun k => (if w = 0 then ((spec_l1Next.f c (z + 1 + 1) 7).bind fun bt189 => ((spec_l1Pick.f c bt189.2 (([0, 8, wrap64 (1 + bt189.1)] : List Int))).bind fun bt194 => (if 0 ≤ i then (if i < (L.length : Int) then (some ((L.set (i : Int).toNat (⟨bt194.1, (rd_T26 L i).f1, (rd_T26 L i).f2, (rd_T26 L i).f3⟩ : S26)), bt194.2)) else (none)) else (none)))) else (if w = 1 then ((spec_l1Pick.f c (z + 1 + 1) (([(-1), i, 0, 4611686018427387904] : List Int))).bind fun bt200 => (if 0 ≤ i then (if i < (L.length : Int) then (some ((L.set (i : Int).toNat (⟨(rd_T26 L i).f0, bt200.1, (rd_T26 L i).f2, (rd_T26 L i).f3⟩ : S26)), bt200.2)) else (none)) else (none))) else (if w = 2 then ((spec_l1Pick.f c (z + 1 + 1) (([(-1), i, 1] : List Int))).bind fun bt206 => (if 0 ≤ i then (if i < (L.length : Int) then (some ((L.set (i : Int).toNat (⟨(rd_T26 L i).f0, (rd_T26 L i).f1, bt206.1, (rd_T26 L i).f3⟩ : S26)), bt206.2)) else (none)) else (none))) else (if w = 3 then ((spec_l1Pick.f c (z + 1 + 1) (([(-1), 10000, 1] : List Int))).bind fun bt212 => (if 0 ≤ i then (if i < (L.length : Int) then (some ((L.set (i : Int).toNat (⟨(rd_T26 L i).f0, (rd_T26 L i).f1, (rd_T26 L i).f2, bt212.1⟩ : S26)), bt212.2)) else (none)) else (none))) else (if w = 4 then (if 0 ≤ i then (if i < (L.length : Int) then (if L.length < 4398046511104 then (some ((L ++ [(⟨(rd_T26 L i).f0, (rd_T26 L i).f1, (rd_T26 L i).f2, (rd_T26 L i).f3⟩ : S26)]), (z + 1 + 1))) else (none)) else (none)) else (none)) else (if w = 5 then (if 401 ≤ 8796093022208 then (some ((List.replicate 401 z26), (z + 1 + 1))) else (none)) else (some (L, (z + 1 + 1))))))))) : Nat → Option (List S26 × Int)) (r, s') ∧ BL r ∧ r.length ≤ 401 ∧ s ≤ s' ∧ s' ≤ s + 1000 := by
    obtain ⟨h0, h1, h2, h3⟩ := hR
    by_cases c0 : w = 0
    · obtain ⟨u, e3, u0, u1⟩ := next_ok c hb hl (z + 1 + 1) 7 (by omega) (by omega) (by omega)
      obtain ⟨v, hv, e4⟩ := pick_ok c hb hl (z + 1 + 1 + 1) [0, 8, wrap64 (1 + u)] (by omega) (by omega) (by simp)
      rw [w64' (by omega) (by omega)] at hv
      have hv' : sm v := by simp at hv; unfold sm; omega
      refine ⟨L.set i.toNat ⟨v, (rd_T26 L i).f1, (rd_T26 L i).f2, (rd_T26 L i).f3⟩, z + 1 + 1 + 1 + 1, ?_, BL_set g2 _ ⟨hv', h1, h2, h3⟩, by simp; omega, by omega, by omega⟩
      simp only [c0, if_true, e3, e4, Option.bind_some, i0, i1]; exact Ev.now _
    by_cases c1 : w = 1
    · obtain ⟨v, hv, e4⟩ := pick_ok c hb hl (z + 1 + 1) [(-1), i, 0, 4611686018427387904] (by omega) (by omega) (by simp)
      have hv' : sm v := by simp at hv; unfold sm; omega
      refine ⟨L.set i.toNat ⟨(rd_T26 L i).f0, v, (rd_T26 L i).f2, (rd_T26 L i).f3⟩, z + 1 + 1 + 1, ?_, BL_set g2 _ ⟨h0, hv', h2, h3⟩, by simp; omega, by omega, by omega⟩
      simp only [c0, c1, if_false, if_true, e4, Option.bind_some, i0, i1]; exact Ev.now _
    by_cases c2 : w = 2
    · obtain ⟨v, hv, e4⟩ := pick_ok c hb hl (z + 1 + 1) [(-1), i, 1] (by omega) (by omega) (by simp)
      have hv' : sm v := by simp at hv; unfold sm; omega
      refine ⟨L.set i.toNat ⟨(rd_T26 L i).f0, (rd_T26 L i).f1, v, (rd_T26 L i).f3⟩, z + 1 + 1 + 1, ?_, BL_set g2 _ ⟨h0, h1, hv', h3⟩, by simp; omega, by omega, by omega⟩
      simp only [c0, c1, c2, if_false, if_true, e4, Option.bind_some, i0, i1]; exact Ev.now _
    by_cases c3 : w = 3
    · obtain ⟨v, hv, e4⟩ := pick_ok c hb hl (z + 1 + 1) [(-1), 10000, 1] (by omega) (by omega) (by simp)
      have hv' : sm v := by simp at hv; unfold sm; omega
      refine ⟨L.set i.toNat ⟨(rd_T26 L i).f0, (rd_T26 L i).f1, (rd_T26 L i).f2, v⟩, z + 1 + 1 + 1, ?_, BL_set g2 _ ⟨h0, h1, h2, hv'⟩, by simp; omega, by omega, by omega⟩
      simp only [c0, c1, c2, c3, if_false, if_true, e4, Option.bind_some, i0, i1]; exact Ev.now _
    by_cases c4 : w = 4
    · refine ⟨L ++ [⟨(rd_T26 L i).f0, (rd_T26 L i).f1, (rd_T26 L i).f2, (rd_T26 L i).f3⟩], z + 1 + 1, ?_, BL_app g2 ⟨h0, h1, h2, h3⟩, by simp; omega, by omega, by omega⟩
      simp only [c0, c1, c2, c3, c4, if_false, if_true, i0, i1, show L.length < 4398046511104 by omega]; exact Ev.now _
    by_cases c5 : w = 5
    · refine ⟨List.replicate 401 z26, z + 1 + 1, ?_, fun x hx => by rw [List.eq_of_mem_replicate hx]; exact B4_z, by rw [List.length_replicate]; exact Nat.le_refl _, by omega, by omega⟩
      simp only [c0, c1, c2, c3, c4, c5, if_false, if_true, show 401 ≤ 8796093022208 by omega]; exact Ev.now _
    refine ⟨L, z + 1 + 1, ?_, g2, by omega, by omega, by omega⟩
    simp only [c0, c1, c2, c3, c4, c5, if_false]; exact Ev.now _
  obtain ⟨r, s', k1, k2⟩ := main
  refine ⟨r, s', Ev.bind g1' ?_, k2⟩
  simp only [h0, if_false, e1, e2, Option.bind_some]
  exact k1
end Go.Proofs.Ytomaeijhljpgdaa.Pure
set_option linter.unusedVariables false
set_option linter.unusedSimpArgs false
namespace Go.Proofs.Ytomaeijhljpgdaa.Pure
open Go.RowKit Go.Proofs.Ytomaeijhljpgdaa.G Go.Proofs.YtomaeijhljpgdaaW.PrintWords Go.Proofs.YtomaeijhljpgdaaW.PrintLast Go.Proofs.YtomaeijhljpgdaaW.PrintMore
theorem rd_app {l r : List S26} {x : Int} (h : 0 ≤ x ∧ x < (l.length : Int)) : rd_T26 (l ++ r) x = rd_T26 l x := by
  unfold rd_T26
  simp only [List.getD]
  rw [List.getElem?_append_left (by omega)]
theorem notIn_app {l r : List S26} {x : Int} (h : notIn l x = false) : notIn (l ++ r) x = false := by
  rw [notIn_iff] at h ⊢
  rw [List.length_append]; omega
theorem notFresh_app {l r : List S26} {x : Int} (h : notIn l x = false) : notFresh (l ++ r) x = notFresh l x := by
  unfold notFresh
  rw [rd_app ((notIn_iff l x).1 h)]
theorem tfault_mono {a b c d : Int} {l r : List S26} (h : tfault a b c d l = 0) : tfault a b c d (l ++ r) = 0 := by
  unfold tfault at h ⊢
  by_cases h1 : 1 ≤ a ∧ a ≤ 7
  · rw [if_pos h1] at h ⊢
    by_cases h2 : a = 1 ∨ a = 2
    · rw [if_pos h2] at h ⊢; exact h
    · rw [if_neg h2] at h ⊢
      by_cases h3 : a = 6
      · rw [if_pos h3] at h ⊢
        by_cases h4 : c = 0 ∧ d = 0
        · rw [if_pos h4] at h ⊢
          by_cases h5 : ([b] : List Int).any (notIn l) = true
          · rw [if_pos h5] at h; cases h
          · rw [if_neg h5] at h
            have n : notIn l b = false := by simpa using h5
            have e : ([b] : List Int).any (notIn (l ++ r)) = false := by simp [notIn_app n]
            have e2 : ([b] : List Int).any (notFresh (l ++ r)) = ([b] : List Int).any (notFresh l) := by simp [notFresh_app n]
            rw [e, e2, if_neg (by decide)]
            exact h
        · rw [if_neg h4] at h; cases h
      · rw [if_neg h3] at h ⊢
        by_cases h4 : d = 0
        · rw [if_pos h4] at h ⊢
          by_cases h5 : ([b, c] : List Int).any (notIn l) = true
          · rw [if_pos h5] at h; cases h
          · rw [if_neg h5] at h
            have n : notIn l b = false ∧ notIn l c = false := by simpa using h5
            have e : ([b, c] : List Int).any (notIn (l ++ r)) = false := by simp [notIn_app n.1, notIn_app n.2]
            have e2 : ([b, c] : List Int).any (notFresh (l ++ r)) = ([b, c] : List Int).any (notFresh l) := by simp [notFresh_app n.1, notFresh_app n.2]
            rw [e, e2, if_neg (by decide)]
            exact h
        · rw [if_neg h4] at h; cases h
  · rw [if_neg h1] at h; cases h
theorem TFs_snoc (t : S26) : ∀ (l pre : List S26), TFs pre l = 0 → tfault t.f0 t.f1 t.f2 t.f3 (pre ++ l) = 0 → (pre ++ l).any (eq4 t) = false → TFs pre (l ++ [t]) = 0
  | [], pre, _, hf, ha => by
    rw [List.append_nil] at hf ha
    simp only [List.nil_append, TFs]
    rw [if_pos hf, ha, if_neg (by decide)]
  | x :: r, pre, h, hf, ha => by
    rw [List.cons_append]
    unfold TFs at h ⊢
    by_cases hx : tfault x.f0 x.f1 x.f2 x.f3 pre = 0
    · rw [if_pos hx] at h ⊢
      by_cases hy : pre.any (eq4 x) = true
      · rw [if_pos hy] at h; cases h
      · rw [if_neg hy] at h ⊢
        exact TFs_snoc t r (pre ++ [x]) h (by rw [List.append_assoc]; exact hf) (by rw [List.append_assoc]; exact ha)
    · rw [if_neg hx] at h; exact absurd h hx
theorem TF_snoc {l : List S26} {t : S26} (h : TF l = 0) (hl : l.length < 400) (hf : tfault t.f0 t.f1 t.f2 t.f3 l = 0) (hi : ¬ 0 ≤ tidx l t 0) : TF (l ++ [t]) = 0 := by
  unfold TF at h ⊢
  rw [if_neg (by omega)] at h
  rw [if_neg (by simp; omega)]
  refine TFs_snoc t l [] h hf ?_
  cases hq : l.any (eq4 t) with
  | false => exact hq
  | true => exact absurd ((tidx_nonneg l t).2 hq) hi
theorem tidx_rd {l : List S26} {t : S26} (h : 0 ≤ tidx l t 0) : rd_T26 l (tidx l t 0) = t := by
  unfold tidx at h ⊢
  rw [List.drop_zero] at h ⊢
  cases e : l.findIdx? fun y => eq4 t y with
  | none => rw [e] at h; simp at h
  | some j =>
    rw [List.findIdx?_eq_some_iff_getElem] at e
    obtain ⟨hj, he, _⟩ := e
    have := eq4_iff.1 he
    simp only [Nat.zero_add]
    rw [this]
    simp [rd_T26, List.getD, List.getElem?_eq_getElem hj]
theorem tidx_snoc {l : List S26} {t : S26} (h : ¬ 0 ≤ tidx l t 0) : tidx (l ++ [t]) t 0 = (l.length : Int) := by
  unfold tidx at h ⊢
  rw [List.drop_zero] at h ⊢
  have ht : eq4 t t = true := eq4_iff.2 rfl
  cases e : l.findIdx? fun y => eq4 t y with
  | some j => rw [e] at h; simp at h <;> omega
  | none => simp [List.findIdx?_append, e, List.findIdx?_cons, ht]
theorem PT_good {l : List S26} {t : S26} (h : TF l = 0) (h0 : (PT l t).1 = 0) : TF (PT l t).2.2 = 0 ∧ (∃ q, (PT l t).2.2 = l ++ q) ∧ (0 ≤ (PT l t).2.1 ∧ (PT l t).2.1 < ((PT l t).2.2.length : Int)) ∧ rd_T26 (PT l t).2.2 (PT l t).2.1 = t ∧ PT (PT l t).2.2 t = PT l t := by
  have hl := TF_len h
  by_cases hf : tfault t.f0 t.f1 t.f2 t.f3 l = 0
  · by_cases hi : 0 ≤ tidx l t 0
    · have e : PT l t = (0, tidx l t 0, l) := by unfold PT; rw [if_pos hf, if_pos hi]
      rw [e]
      exact ⟨h, ⟨[], by simp⟩, ⟨hi, tidx_lt l t hi⟩, tidx_rd hi, e⟩
    · by_cases h4 : 400 ≤ l.length
      · unfold PT at h0; rw [if_pos hf, if_neg hi, if_pos h4] at h0; cases h0
      · have e : PT l t = (0, (l.length : Int), l ++ [t]) := by unfold PT; rw [if_pos hf, if_neg hi, if_neg h4]
        rw [e]
        refine ⟨TF_snoc h (by omega) hf hi, ⟨[t], rfl⟩, ⟨Int.natCast_nonneg _, by simp <;> omega⟩, ?_, ?_⟩
        · simp [rd_T26, List.getD]
        · have e2 := tidx_snoc hi
          show PT (l ++ [t]) t = _
          unfold PT
          rw [if_pos (tfault_mono hf), e2, if_pos (by omega)]
  · unfold PT at h0; rw [if_neg hf] at h0; exact absurd h0 hf
end Go.Proofs.Ytomaeijhljpgdaa.Pure
set_option linter.unusedVariables false
set_option linter.unusedSimpArgs false
namespace Go.Proofs.Ytomaeijhljpgdaa.Pure
open Go.RowKit Go.Proofs.Ytomaeijhljpgdaa.G Go.Proofs.YtomaeijhljpgdaaW.PrintWords Go.Proofs.YtomaeijhljpgdaaW.PrintLast Go.Proofs.YtomaeijhljpgdaaW.PrintMore
theorem dpt_j3 (c : List Int) (hb : ∀ x ∈ c, 0 ≤ x ∧ x ≤ 255) (hl : c.length ≤ 1048576) (L : List S26) (x6 s : Int) (h6 : 1 ≤ x6 ∧ x6 ≤ 402) (s0 : 0 ≤ s) (s1 : s ≤ 1000000000) (t : S26) (ht : B4 t) : ∃ t' : S26, B4 t' ∧ Ev (fun k => spec_DrawPutTerm.j3 k L x6 c s t.f0 t.f1 t.f2 t.f3) (L, t'.f0, t'.f1, t'.f2, t'.f3) := by
  obtain ⟨h0, h1, h2, h3⟩ := ht
  obtain ⟨w, e1, w0, w1⟩ := next_ok c hb hl s 14 (by omega) (by omega) (by omega)
  by_cases c0 : w = 0
  · obtain ⟨v, hv, e2⟩ := pick_ok c hb hl (s + 1) [1, 10000, (-1)] (by omega) (by omega) (by simp)
    refine ⟨⟨t.f0, t.f1, t.f2, v⟩, ⟨h0, h1, h2, by simp at hv; unfold sm; simp only; omega⟩, ev_succ ?_⟩
    simp only [spec_DrawPutTerm.j3, e1, e2, c0, if_true, Option.bind_some]; exact Ev.now _
  by_cases c1 : w = 1
  · obtain ⟨v, hv, e2⟩ := pick_ok c hb hl (s + 1) [(-1), x6, 0] (by omega) (by omega) (by simp)
    refine ⟨⟨t.f0, v, t.f2, t.f3⟩, ⟨h0, by simp at hv; unfold sm; simp only; omega, h2, h3⟩, ev_succ ?_⟩
    simp only [spec_DrawPutTerm.j3, e1, e2, c1, show ¬ (1 : Int) = 0 by omega, if_false, if_true, Option.bind_some]; exact Ev.now _
  by_cases c2 : w = 2
  · obtain ⟨v, hv, e2⟩ := pick_ok c hb hl (s + 1) [0, 8] (by omega) (by omega) (by simp)
    refine ⟨⟨v, t.f1, t.f2, t.f3⟩, ⟨by simp at hv; unfold sm; simp only; omega, h1, h2, h3⟩, ev_succ ?_⟩
    simp only [spec_DrawPutTerm.j3, e1, e2, c2, show ¬ (2 : Int) = 0 by omega, show ¬ (2 : Int) = 1 by omega, if_false, if_true, Option.bind_some]; exact Ev.now _
  refine ⟨t, ⟨h0, h1, h2, h3⟩, ev_succ ?_⟩
  simp only [spec_DrawPutTerm.j3, e1, c0, c1, c2, if_false, Option.bind_some]; exact Ev.now _
theorem dpt_j2 (c : List Int) (hb : ∀ x ∈ c, 0 ≤ x ∧ x ≤ 255) (hl : c.length ≤ 1048576) (L : List S26) (hL : BL L) (h4 : L.length ≤ 401) (b : Bool) (hbl : b = true → 0 < L.length) (s : Int) (s0 : 0 ≤ s) (s1 : s ≤ 100000000) (t : S26) (ht : B4 t) : ∃ t' : S26, B4 t' ∧ Ev (fun k => spec_DrawPutTerm.j2 k L (max 1 (L.length : Int)) b c s t.f0 t.f1 t.f2 t.f3) (L, t'.f0, t'.f1, t'.f2, t'.f3) := by
  cases b with
  | true =>
    have hp := hbl rfl
    obtain ⟨w, e1, w0, w1⟩ := next_ok c hb hl s (max 1 (L.length : Int)) (by omega) (by omega) (by omega)
    obtain ⟨t', h1, h2⟩ := dpt_j3 c hb hl L (max 1 (L.length : Int)) (s + 1) (by omega) (by omega) (by omega) _ (BL_rd hL w)
    refine ⟨t', h1, ev_succ ?_⟩
    simp only [spec_DrawPutTerm.j2, if_true, e1, Option.bind_some, w0, show w < (L.length : Int) by omega]
    exact h2
  | false =>
    obtain ⟨t', h1, h2⟩ := dpt_j3 c hb hl L (max 1 (L.length : Int)) s (by omega) (by omega) (by omega) t ht
    refine ⟨t', h1, ev_succ ?_⟩
    simp only [spec_DrawPutTerm.j2, Bool.false_eq_true, if_false]
    exact h2
theorem dpt_j1 (c : List Int) (hb : ∀ x ∈ c, 0 ≤ x ∧ x ≤ 255) (hl : c.length ≤ 1048576) (L : List S26) (hL : BL L) (h4 : L.length ≤ 401) (s : Int) (s0 : 0 ≤ s) (s1 : s ≤ 10000000) (t : S26) (ht : B4 t) : ∃ t' : S26, B4 t' ∧ Ev (fun k => spec_DrawPutTerm.j1 k L (max 1 (L.length : Int)) c s t.f0 t.f1 t.f2 t.f3) (L, t'.f0, t'.f1, t'.f2, t'.f3) := by
  by_cases h0 : (L.length : Int) > 0
  · obtain ⟨b, e⟩ := chance_ok c hb hl s 5 (by omega) (by omega) (by omega)
    obtain ⟨t', h1, h2⟩ := dpt_j2 c hb hl L hL h4 b (fun _ => by omega) (s + 1) (by omega) (by omega) t ht
    refine ⟨t', h1, ev_succ ?_⟩
    simp only [spec_DrawPutTerm.j1, h0, if_true, e, Option.bind_some]
    exact h2
  · obtain ⟨t', h1, h2⟩ := dpt_j2 c hb hl L hL h4 false (fun h => by cases h) s (by omega) (by omega) t ht
    refine ⟨t', h1, ev_succ ?_⟩
    simp only [spec_DrawPutTerm.j1, h0, if_false]
    exact h2
theorem dpt_j0 (c : List Int) (hb : ∀ x ∈ c, 0 ≤ x ∧ x ≤ 255) (hl : c.length ≤ 1048576) (L : List S26) (hL : BL L) (h4 : L.length ≤ 401) (s : Int) (s0 : 0 ≤ s) (s1 : s ≤ 10000000) (t : S26) (ht : B4 t) : ∃ t' : S26, B4 t' ∧ Ev (fun k => spec_DrawPutTerm.j0 k L (max 1 (L.length : Int)) c s t.f0 t.f1 t.f2 t.f3) (L, t'.f0, t'.f1, t'.f2, t'.f3) := by
  have hk := kids_ev t.f0
  by_cases h1 : (if t.f0 = 3 ∨ t.f0 = 4 ∨ t.f0 = 5 ∨ t.f0 = 7 then (2 : Int) else if t.f0 = 6 then 1 else 0) = 1
  · obtain ⟨t', q1, q2⟩ := dpt_j1 c hb hl L hL h4 s s0 s1 ⟨t.f0, t.f1, 0, t.f3⟩ ⟨ht.1, ht.2.1, by unfold sm; simp, ht.2.2.2⟩
    refine ⟨t', q1, ev_succ ?_⟩
    simp only [spec_DrawPutTerm.j0]
    refine Ev.bind hk ?_
    simp only [h1, if_true]
    exact q2
  · obtain ⟨t', q1, q2⟩ := dpt_j1 c hb hl L hL h4 s s0 s1 t ht
    refine ⟨t', q1, ev_succ ?_⟩
    simp only [spec_DrawPutTerm.j0]
    refine Ev.bind hk ?_
    simp only [h1, if_false]
    exact q2
theorem draw_put (c : List Int) (hb : ∀ x ∈ c, 0 ≤ x ∧ x ≤ 255) (hl : c.length ≤ 1048576) : ∃ (L : List S26) (t : S26), BL L ∧ B4 t ∧ L.length ≤ 401 ∧ Ev (fun k => spec_DrawPutTerm.f k c) (L, t.f0, t.f1, t.f2, t.f3) := by
  obtain ⟨L, s, e0, hL, h4, s0, s1⟩ := bent_ok c hb hl 0 (by omega) (by omega)
  obtain ⟨o, e1, o0, o1⟩ := next_ok c hb hl s 7 (by omega) (by omega) (by omega)
  obtain ⟨a, e2, a0, a1⟩ := next_ok c hb hl (s + 1) (max 1 (L.length : Int)) (by omega) (by omega) (by omega)
  obtain ⟨b, e3, b0, b1⟩ := next_ok c hb hl (s + 1 + 1) (max 1 (L.length : Int)) (by omega) (by omega) (by omega)
  obtain ⟨n, e4, n0, n1⟩ := next_ok c hb hl (s + 1 + 1 + 1) 9 (by omega) (by omega) (by omega)
  have hw : wrap64 (1 + o) = 1 + o := w64' (by omega) (by omega)
  have hk := kids_ev (1 + o)
  by_cases h0 : (if 1 + o = 3 ∨ 1 + o = 4 ∨ 1 + o = 5 ∨ 1 + o = 7 then (2 : Int) else if 1 + o = 6 then 1 else 0) = 0
  · obtain ⟨t, q1, q2⟩ := dpt_j0 c hb hl L hL h4 (s + 1 + 1 + 1 + 1) (by omega) (by omega) ⟨1 + o, 0, 0, n⟩ (by unfold B4 sm; simp only; omega)
    refine ⟨L, t, hL, q1, h4, ?_⟩
    unfold spec_DrawPutTerm.f spec_l1Source.f
    simp only [Option.bind_some]
    refine Ev.bind e0 ?_
    simp only [max_ok, e1, e2, e3, e4, Option.bind_some, hw]
    refine Ev.bind hk ?_
    simp only [h0, if_true]
    exact q2
  · obtain ⟨t, q1, q2⟩ := dpt_j0 c hb hl L hL h4 (s + 1 + 1 + 1) (by omega) (by omega) ⟨1 + o, a, b, 0⟩ (by unfold B4 sm; simp only; omega)
    refine ⟨L, t, hL, q1, h4, ?_⟩
    unfold spec_DrawPutTerm.f spec_l1Source.f
    simp only [Option.bind_some]
    refine Ev.bind e0 ?_
    simp only [max_ok, e1, e2, e3, e4, Option.bind_some, hw]
    refine Ev.bind hk ?_
    simp only [h0, if_false]
    exact q2
theorem interns_l0 (L q : List S26) (hL : L.length ≤ 1000) (c a : Int) (d : Nat) : ∀ i : Nat, i + d = L.length → Ev (fun k => laws_FnInterns.l0 k L i c a (L ++ q)) true := by
  induction d with
  | zero =>
    intro i hi
    refine ev_succ ?_
    simp only [laws_FnInterns.l0, show ¬ (i : Int) < (L.length : Int) by omega, if_false]; exact Ev.now _
  | succ d ih =>
    intro i hi
    refine ev_succ ?_
    have e := rd_app (l := L) (r := q) (x := (i : Int)) (by omega)
    have h2 : (i : Int) < ((L ++ q).length : Int) := by simp; omega
    simp only [laws_FnInterns.l0, show (i : Int) < (L.length : Int) by omega, if_true, show 0 ≤ (i : Int) by omega, h2, e, beq_self_eq_true, Bool.not_true, Bool.or_self, Bool.false_eq_true, if_false]
    rw [w64' (by omega) (by omega)]
    have := ih (i + 1) (by omega)
    simpa using this
theorem FnInterns : laws_FnInterns.Pure := by
  intro l hm hw
  refine Ev.rounds ?_
  have hb := byte_wf hw
  unfold laws_FnInterns.f laws_lwBig.f
  simp only [Option.bind_some, decide_eq_true_eq]
  by_cases hbig : (l.length : Int) > 1048576
  · simp only [hbig, if_true]; exact Ev.now _
  simp only [hbig, if_false]
  obtain ⟨L, t, hL, ht, h4, hd⟩ := draw_put l hb (by omega)
  refine Ev.bind hd (Ev.bind (putTerm_impl L (BL_wf hL) t) ?_)
  by_cases h0 : (PTm L t).1 = 0
  · have hT : TF L = 0 := by
      unfold PTm at h0
      by_cases c : TF L = 0
      · exact c
      · rw [if_neg c] at h0; exact h0
    have e : PTm L t = PT L t := by unfold PTm; rw [if_pos hT]
    rw [e] at h0 ⊢
    obtain ⟨g1, ⟨q, g2⟩, g3, g4, g5⟩ := PT_good hT h0
    have hB := PT_B hL ht
    have e2 : PTm (PT L t).2.2 t = PT L t := by unfold PTm; rw [if_pos g1]; exact g5
    have p2 := putTerm_impl (PT L t).2.2 (BL_wf hB) t
    rw [e2] at p2
    have tf := tf_impl (BL_wf hB)
    have hlen : ¬ (((PT L t).2.2.length : Int) < (L.length : Int)) := by rw [g2, List.length_append]; omega
    generalize PT L t = r at h0 g1 g2 g3 g4 p2 tf hlen
    simp only [h0, if_true]
    refine Ev.bind p2 ?_
    rw [tf]
    simp only [Option.bind_some, g1, h0, if_true, hlen, if_false, show ¬ (r.2.1 ≥ (r.2.2.length : Int)) by omega, g3.1, g3.2, g4, beq_self_eq_true, Bool.not_true, Bool.or_self]
    refine ev_succ ?_
    simp only [laws_FnInterns.j0, Bool.false_eq_true, if_false]
    rw [g2]
    have := interns_l0 L q (by omega) 0 r.2.1 L.length 0 (by omega)
    simpa using this
  · simp only [h0, if_false]
    refine Ev.bind (putTerm_spec L t) ?_
    simp only [beq_self_eq_true]; exact Ev.now _
end Go.Proofs.Ytomaeijhljpgdaa.Pure
namespace Go.Proofs.Ytomaeijhljpgdaa.fnInterns
open Go.ChangeShapes Go.WideShapes Go.ChangeAt
open Go.RowKit Go.Proofs.Ytomaeijhljpgdaa.G Go.Proofs.YtomaeijhljpgdaaW.PrintWords Go.Proofs.YtomaeijhljpgdaaW.PrintLast
open Go.ChangeMaps (open_string shut_string)
set_option linter.unusedVariables false
theorem own : ownKnob Try.prog.godebug = none := by kernel_rfl
theorem laidOut : laidOutB Try.prog = true := by kernel_rfl
theorem o5 : Opn.Opens Try.prog 5 (Kd.int .u8) (fun n => (Lit.int .u8 n).wf = true) := Opn.opens_int Try.underlying5 (by kernel_rfl)
set_option maxRecDepth 100000 in
theorem lifted (os : Os) (started : os.Started) (H : Type) (enc : TypeId × Value → H) :
    ReturnsInHanded {} Try.checked os 3 .any (Rows.fnInternsSpec.pre6 enc Try.prog Try.f3 Rows.fnInternsRow.domain false) (Rows.fnInternsSpec.post enc Try.prog Try.f3 false true false false) := by
  refine returnsInHanded_of_change_sized (C := Try.checked) own started (by kernel_rfl) Try.func3
    (ChangeSpec.witness6 (enc := enc) (C := Try.checked) false ⟨#[], #[.slice none 0 0], []⟩ 8 (by kernel_rfl) (by kernel_rfl) (by kernel_rfl) (by kernel_rfl)) ?_
  intro W base args ds gs before hval0 hW hcnd hsz0 _
  have hval : ∀ (j : Nat) t v, Try.f3.params[j]? = some t → args[j]? = some v → Value.okWide Try.prog W .any base t v := hval0
  have hW' := hW
  obtain ⟨p, q, hA0, hV, rfl, hfz, hnd⟩ := hW
  have hA : DataW.TrodAll enc Try.prog W 0 (fun _ => true) true Try.f3.params.toList args.toList ds p := hA0
  rw [Try.params3] at hA hval
  obtain ⟨v0, vs0, d0, ds0, p0, q0, hargs, rfl, rfl, h0, r0⟩ := trodAll_cons hA
  obtain ⟨rfl, rfl, rfl⟩ := trodAll_nil r0
  obtain rfl : args = #[v0] := by cases args; simp_all
  obtain ⟨rfl, rfl⟩ := trodVars_none hV
  obtain ⟨A0, len0, c0, rfl⟩ := okWide_slice Try.underlying22 (hval 0 22 v0 rfl rfl)
  have k0 := h0
  have lt0 : ∀ x ∈ p0, x.block < W.heap.size := by obtain ⟨m, hm⟩ := k0; exact DataW.trod_lt m _ _ _ hm
  obtain ⟨l0, rfl, hr0, hc0, hm0, hg0⟩ := Opn.arg_slice Try.underlying22 (by kernel_rfl) o5 h0
  clear hA0 hval0 hsz0
  obtain ⟨k, h⟩ := Pure.FnInterns l0 hm0 hg0
  refine (laws_FnInterns.calls k A0 c0 l0 W hr0 hc0 h).mono fun e W' ⟨he, bel0⟩ => ?_
  have bel : Below W.heap.size W W' := bel0
  subst he
  exact ⟨_, rfl, _, _, _, [], _, [], hW', trodAll_mk1 (shut_bool Try.underlying4 _), (trodAll_cons_mk (Below.trod laidOut (by kernel_rfl) (of_decide_eq_true (by kernel_rfl)) k0 bel lt0) trodAll_mk0), rfl, bel.frame _, fun h => by cases h⟩
theorem over : Rows.fnInternsRow.holds Try.pinned (OpenSpec.ofChange Rows.fnInternsSpec) :=
  OpenClaim.holds_of_wide 3 Try.f3 rfl rfl rfl rfl rfl rfl rfl ⟨rfl, rfl, rfl, rfl, rfl⟩ rfl rfl rfl rfl rfl (by kernel_rfl) Try.func3 (by kernel_rfl)
    (of_decide_eq_true (by kernel_rfl)) (by unfold Func.isWrapper; first | (rw [if_pos (by decide +kernel)]; kernel_rfl) | (rw [if_neg (by decide +kernel)]; exact ⟨rfl, rfl⟩))
    (fun os started H enc _ => lifted os started H enc)
end Go.Proofs.Ytomaeijhljpgdaa.fnInterns
namespace Go.Proofs.Ytomaeijhljpgdaa
theorem fnInterns_holds : Rows.FnInternsSaid := fnInterns.over
end Go.Proofs.Ytomaeijhljpgdaa
#print axioms Go.Proofs.Ytomaeijhljpgdaa.fnInterns_holds
