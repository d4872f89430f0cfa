/- FnExactNewNet: for every input the law returns true and its arguments read afterwards as they read before. No condition. -/
import Derived.Test.YthjnbnjlagnlhaaCFnExactNewNet4
import Derived.ChangeArms
import Derived.Deep.Slices
import Derived.ProofKit
import Derived.OpenShut
import Derived.Test.YthjnbnjlagnlhaaRows
import Derived.WalkKit
import Derived.ShutString
import Derived.ChangeOld
import Derived.Below
import Derived.SizedLaws
set_option linter.unusedVariables false
namespace Go.Proofs.Ythjnbnjlagnlhaa.Opn
open Go.Proofs.YthjnbnjlagnlhaaW.PrintWords
def Opens {α : Type} (P : Program) (t : TypeId) (d : Kd α) (G : α → Prop) : Prop :=
  P.cellsOf t = d.sz ∧ ∀ (H : Type) (enc : TypeId × Value → H) (W : World) (base : Nat) (sp : Nat → Bool) (held : Bool) (fuel : Nat) (cs : List Value) (x : DataW H × List MemPlace),
    DataW.trod enc P W base sp held fuel t cs = some x → ∃ a, d.K W a cs ∧ G a
theorem opens_int {P : Program} {t : TypeId} {k : IntKind} (ht : P.underlying t = some (.int k)) (hc : P.cellsOf t = 1) : Opens P t (Kd.int k) (fun n => (Lit.int k n).wf = true) :=
  ⟨hc, fun H enc W base sp held fuel cs x hx => by
    obtain ⟨n, h, hx, hw⟩ := DataW.trod_int ht hx
    exact ⟨n, h, hw⟩⟩
theorem opens_slice {α : Type} {P : Program} {t e : TypeId} {d : Kd α} {G : α → Prop} (ht : P.underlying t = some (.slice e)) (hc : P.cellsOf t = 1) (he : Opens P e d G) :
    Opens P t (Kd.slice e d) (fun xs => xs.length ≤ maxLen ∧ ∀ x ∈ xs, G x) :=
  ⟨hc, fun H enc W base sp held fuel cs x hx => by
    rcases Go.Deep.open_slice ht hx with ⟨rfl, rfl⟩ | ⟨a, len, cap, m, n, D, Pl, rfl, hb, hl, hm, hmm, rfl, hel⟩
    · refine ⟨[], ⟨none, 0, rfl, Nat.le_refl _, rfl, by simp, ?_⟩, by simp, by simp⟩
      intro h; exact absurd h (by simp)
    · have hle : len ≤ m := by rw [hmm]; split <;> omega
      have key : ∀ i, i < len → ∃ p : α, ∃ c : List Value, c.length = d.sz ∧ d.K W p c ∧ G p ∧ ∀ j u, c[j]? = some u → W.cell? (a.add (i * d.sz + j)) = some u := by
        intro i hi
        obtain ⟨c, h1, h2⟩ := hel i (by omega)
        obtain ⟨p, h3, h4⟩ := he.2 H enc W base sp held n c _ h2
        obtain ⟨_, h5, h6⟩ := World.cells?_some h1
        rw [he.1] at h5 h6
        refine ⟨p, c, h5, h3, h4, fun j u hj => ?_⟩
        have hjl : j < d.sz := by
          have := (List.getElem?_eq_some_iff.1 hj).1
          omega
        rw [← Go.Deep.add_add, h6 j hjl, hj]
      have ex : ∃ ps : List α, ps.length = len ∧ ∀ i p, ps[i]? = some p → ∃ c : List Value, c.length = d.sz ∧ d.K W p c ∧ G p ∧ ∀ j u, c[j]? = some u → W.cell? (a.add (i * d.sz + j)) = some u := by
        clear hel hmm hle hl hm hx
        induction len with
        | zero => exact ⟨[], rfl, fun i p h => by simp at h⟩
        | succ k ih =>
          obtain ⟨ps, h1, h2⟩ := ih (fun i hi => key i (by omega))
          obtain ⟨p, hp⟩ := key k (by omega)
          refine ⟨ps ++ [p], by simp [h1], fun i q h => ?_⟩
          by_cases hi : i < ps.length
          · rw [List.getElem?_append_left hi] at h
            exact h2 i q h
          · rw [List.getElem?_append_right (by omega)] at h
            have hi0 : i - ps.length = 0 := by
              have := (List.getElem?_eq_some_iff.1 h).1
              simp at this
              omega
            rw [hi0] at h
            simp at h
            subst h
            have : i = k := by omega
            subst this
            exact hp
      obtain ⟨ps, h1, h2⟩ := ex
      subst h1
      refine ⟨ps, ⟨some a, cap, rfl, hl, rfl, by simp only [maxLen] at hm; omega, fun _ => ⟨a, rfl, fun j p hj => ?_⟩⟩, by omega, fun x hx' => ?_⟩
      · obtain ⟨c, g1, g2, g3, g4⟩ := h2 j p hj
        exact ⟨c, g1, g2, g4⟩
      · obtain ⟨i, hi⟩ := List.getElem?_of_mem hx'
        obtain ⟨c, g1, g2, g3, g4⟩ := h2 i x hi
        exact g3⟩
theorem arg_slice {α : Type} {P : Program} {W : World} {t e : TypeId} {d : Kd α} {G : α → Prop} {H : Type} {enc : TypeId × Value → H} {base : Nat} {sp : Nat → Bool} {held : Bool} {A : Option Addr} {n c : Nat} {x : DataW H} {ps : List MemPlace}
    (ht : P.underlying t = some (.slice e)) (hc : P.cellsOf t = 1) (he : Opens P e d G) (h : DataW.Trod enc P W base sp held t (.slice A n c) x ps) :
    ∃ xs : List α, n = xs.length ∧ d.C W A xs.length xs ∧ xs.length ≤ c ∧ xs.length ≤ maxLen ∧ ∀ a ∈ xs, G a := by
  obtain ⟨fuel, hf⟩ := h
  obtain ⟨xs, ⟨A', c', h1, h2, h3⟩, h4, h5⟩ := (opens_slice ht hc he).2 H enc W base sp held fuel _ _ hf
  simp [Value.cells] at h1
  obtain ⟨rfl, rfl, rfl⟩ := h1
  exact ⟨xs, rfl, h3, h2, h4, h5⟩
end Go.Proofs.Ythjnbnjlagnlhaa.Opn
namespace Go.Proofs.Ythjnbnjlagnlhaa.Pure
open Go.RowKit Go.Proofs.Ythjnbnjlagnlhaa.G Go.Proofs.YthjnbnjlagnlhaaW.PrintWords Go.Proofs.YthjnbnjlagnlhaaW.PrintLast
def laws_FnExactNewNet.Pure : Prop := ∀ (a0 : Int) (l1 : List Int), (Lit.int .i64 a0).wf = true → l1.length ≤ maxLen → (∀ x ∈ l1, (fun n => (Lit.int .i64 n).wf = true) x) → ∃ k, laws_FnExactNewNet.f k a0 l1 = some true
end Go.Proofs.Ythjnbnjlagnlhaa.Pure
set_option linter.unusedVariables false
set_option linter.unusedSimpArgs false
namespace Go.Proofs.Ythjnbnjlagnlhaa.Pure
open Go.RowKit Go.Proofs.Ythjnbnjlagnlhaa.G Go.Proofs.YthjnbnjlagnlhaaW.PrintWords Go.Proofs.YthjnbnjlagnlhaaW.PrintLast Go.Proofs.YthjnbnjlagnlhaaW.PrintMore
theorem ev_succ {α : Type} {g : Nat → Option α} {r : α} (h : Ev (fun k => g (k + 1)) r) : Ev g r := by
  obtain ⟨K, hK⟩ := h
  refine ⟨K + 1, fun k hk => ?_⟩
  obtain ⟨m, rfl⟩ : ∃ m, k = m + 1 := ⟨k - 1, by omega⟩
  exact hK m (by omega)
theorem w64' {n : Int} (h0 : -9223372036854775808 ≤ n) (h1 : n ≤ 9223372036854775807) : wrap64 n = n := by unfold wrap64; omega
theorem rd_nat (l : List Int) (i : Nat) : rd l (i : Int) = l.getD i 0 := by simp [rd]
theorem set_split {α : Type} (pre rest : List α) (x y : α) : (pre ++ x :: rest).set pre.length y = pre ++ y :: rest := by
  simp
theorem toInt64S_l0 (l : List Int) (hl : l.length ≤ 9223372036854775807) (z : Int) (d : Nat) : ∀ (k i : Nat), i + d = l.length → d < k →
    laws_toInt64S.l0 k l (l.take i ++ List.replicate d z) i = some l := by
  induction d with
  | zero =>
    intro k i hi hk
    obtain ⟨k, rfl⟩ : ∃ m, k = m + 1 := ⟨k - 1, by omega⟩
    simp only [laws_toInt64S.l0]; rw [if_neg (by omega)]
    simp [List.take_of_length_le (show l.length ≤ i by omega)]
  | succ d ih =>
    intro k i hi hk
    obtain ⟨k, rfl⟩ : ∃ m, k = m + 1 := ⟨k - 1, by omega⟩
    simp only [laws_toInt64S.l0]
    rw [if_pos (by omega), if_pos (by omega), if_pos (by simp; omega), w64' (by omega) (by omega), rd_nat]
    have e : (l.take i ++ List.replicate (d + 1) z).set ((i : Int)).toNat (l.getD i 0) = l.take (i + 1) ++ List.replicate d z := by
      rw [List.replicate_succ]
      have h1 : (l.take i).length = i := by simp; omega
      have := set_split (l.take i) (List.replicate d z) z (l.getD i 0)
      rw [h1] at this
      simp only [Int.toNat_natCast]
      have hg : l.getD i 0 = l[i]'(by omega) := by simp [List.getD, List.getElem?_eq_getElem (show i < l.length by omega)]
      rw [this, hg, List.take_succ_eq_append_getElem (by omega), List.append_assoc]; rfl
    rw [e]
    have := ih k (i + 1) (by omega) (by omega)
    simpa using this
theorem toInt64S_ev (l : List Int) (hl : l.length ≤ 35184372088832) : Ev (fun k => laws_toInt64S.f k l) l := by
  refine ⟨l.length + 1, fun k hk => ?_⟩
  simp only [laws_toInt64S.f]
  rw [if_pos (by omega), if_pos (by simp; omega)]
  have := toInt64S_l0 l (by omega) 0 l.length k 0 (by omega) (by omega)
  simpa using this
theorem eqInt64S_l0 (l : List Int) (hl : l.length ≤ 9223372036854775807) (d : Nat) : ∀ (k i : Nat), i + d = l.length → d < k → laws_eqInt64S.l0 k l l i = some true := by
  induction d with
  | zero =>
    intro k i hi hk
    obtain ⟨k, rfl⟩ : ∃ m, k = m + 1 := ⟨k - 1, by omega⟩
    simp only [laws_eqInt64S.l0]; rw [if_neg (by omega)]
  | succ d ih =>
    intro k i hi hk
    obtain ⟨k, rfl⟩ : ∃ m, k = m + 1 := ⟨k - 1, by omega⟩
    simp only [laws_eqInt64S.l0]
    rw [if_pos (by omega), if_pos (by omega), if_pos (by omega), if_pos trivial, w64' (by omega) (by omega)]
    have := ih k (i + 1) (by omega) (by omega)
    simpa using this
theorem eqInt64S_ev (l : List Int) (hl : l.length ≤ 9223372036854775807) : Ev (fun k => laws_eqInt64S.f k l l) true := by
  refine ⟨l.length + 1, fun k hk => ?_⟩
  simp only [laws_eqInt64S.f, if_true]
  have := eqInt64S_l0 l hl l.length k 0 (by omega) (by omega)
  simpa using this
def marks (m : Int) (n : Nat) : List Int := (List.range n).map fun (i : Nat) => m + (i : Int)
theorem marks_length (m : Int) (n : Nat) : (marks m n).length = n := by simp [marks]
theorem marks_succ (m : Int) (n : Nat) : marks m (n + 1) = marks m n ++ [m + n] := by simp [marks, List.range_succ]
theorem markInt64S_l0 (l : List Int) (m : Int) (hm : 0 ≤ m) (hl : m + l.length ≤ 9223372036854775806) (d : Nat) : ∀ (k i : Nat), i + d = l.length → d < k →
    laws_markInt64S.l0 k (marks m i ++ l.drop i) (m + i) i = some (m + l.length, marks m l.length) := by
  induction d with
  | zero =>
    intro k i hi hk
    obtain ⟨k, rfl⟩ : ∃ m, k = m + 1 := ⟨k - 1, by omega⟩
    obtain rfl : i = l.length := by omega
    simp only [laws_markInt64S.l0]; rw [if_neg (by simp [marks_length])]
    simp
  | succ d ih =>
    intro k i hi hk
    obtain ⟨k, rfl⟩ : ∃ m, k = m + 1 := ⟨k - 1, by omega⟩
    simp only [laws_markInt64S.l0]
    have hlen : (marks m i ++ l.drop i).length = l.length := by simp [marks_length]; omega
    rw [if_pos (by rw [hlen]; omega), if_pos (by omega), w64' (n := m + i + 1) (by omega) (by omega), w64' (n := (i : Int) + 1) (by omega) (by omega)]
    have e : (marks m i ++ l.drop i).set ((i : Int)).toNat (m + i) = marks m (i + 1) ++ l.drop (i + 1) := by
      rw [List.drop_eq_getElem_cons (show i < l.length by omega), marks_succ]
      have := set_split (marks m i) (l.drop (i + 1)) l[i] (m + i)
      rw [marks_length] at this
      simp only [Int.toNat_natCast]
      rw [this]; simp
    rw [e]
    have := ih k (i + 1) (by omega) (by omega)
    simpa [Int.add_assoc] using this
theorem markInt64S_ev (l : List Int) (m : Int) (hm : 0 ≤ m) (hl : m + l.length ≤ 9223372036854775806) : Ev (fun k => laws_markInt64S.f k l m) (m + l.length, marks m l.length) := by
  refine ⟨l.length + 1, fun k hk => ?_⟩
  unfold laws_markInt64S.f
  have := markInt64S_l0 l m hm hl l.length k 0 (by omega) (by omega)
  simpa [marks] using this
theorem heldInt64S_l0 (n : Nat) (m : Int) (hm : 0 ≤ m) (hl : m + n ≤ 9223372036854775806) (d : Nat) : ∀ (k i : Nat), i + d = n → d < k →
    laws_heldInt64S.l0 k (marks m n) (m + i) i = some (m + n) := by
  induction d with
  | zero =>
    intro k i hi hk
    obtain ⟨k, rfl⟩ : ∃ m, k = m + 1 := ⟨k - 1, by omega⟩
    obtain rfl : i = n := by omega
    simp only [laws_heldInt64S.l0]; rw [if_neg (by simp [marks_length])]
  | succ d ih =>
    intro k i hi hk
    obtain ⟨k, rfl⟩ : ∃ m, k = m + 1 := ⟨k - 1, by omega⟩
    simp only [laws_heldInt64S.l0]
    have e : rd (marks m n) (i : Int) = m + i := by
      rw [rd_nat]
      simp [marks, List.getD, List.getElem?_map, List.getElem?_range (show i < n by omega)]
    rw [if_pos (by rw [marks_length]; omega), if_pos (by omega), if_pos e, w64' (n := m + i + 1) (by omega) (by omega), w64' (n := (i : Int) + 1) (by omega) (by omega)]
    have := ih k (i + 1) (by omega) (by omega)
    simpa [Int.add_assoc] using this
theorem heldInt64S_ev (n : Nat) (m : Int) (hm : 0 ≤ m) (hl : m + n ≤ 9223372036854775806) : Ev (fun k => laws_heldInt64S.f k (marks m n) m) (m + n) := by
  refine ⟨n + 1, fun k hk => ?_⟩
  unfold laws_heldInt64S.f
  have := heldInt64S_l0 n m hm hl n k 0 (by omega) (by omega)
  simpa using this
end Go.Proofs.Ythjnbnjlagnlhaa.Pure
set_option linter.unusedVariables false
set_option linter.unusedSimpArgs false
namespace Go.Proofs.Ythjnbnjlagnlhaa.Pure
open Go.RowKit Go.Proofs.Ythjnbnjlagnlhaa.G Go.Proofs.YthjnbnjlagnlhaaW.PrintWords Go.Proofs.YthjnbnjlagnlhaaW.PrintLast
def bfF (l : List Int) : Nat → Nat → Int
  | _, 0 => 0
  | i, d + 1 => if 9011 ≤ rd l (i : Int) ∧ rd l (i : Int) ≤ 9099 then (if i > 0 then (if rd l (i : Int) ≤ rd l ((i - 1 : Nat) : Int) then 1 else bfF l (i + 1) d) else bfF l (i + 1) d) else 3
theorem inN_spec (a b c : Int) : spec_l1In.f a b c = some (decide (b ≤ a ∧ a ≤ c)) := by
  unfold spec_l1In.f
  by_cases h1 : b ≤ a <;> by_cases h2 : a ≤ c <;> simp [h1, h2]
theorem inN_impl (a b c : Int) : impl_in.f a b c = some (decide (b ≤ a ∧ a ≤ c)) := by
  unfold impl_in.f
  by_cases h1 : b ≤ a <;> by_cases h2 : a ≤ c <;> simp [h1, h2]
theorem broken_spec (l : List Int) (hl : l.length ≤ 10) (d : Nat) : ∀ (i : Nat), i + d = l.length → Ev (fun k => spec_l12Broken.l0 k l i) (bfF l i d) := by
  induction d with
  | zero =>
    intro i hi
    refine ev_succ ?_
    simp only [spec_l12Broken.l0, show ¬ (i : Int) < (l.length : Int) by omega, if_false]; exact Ev.now _
  | succ d ih =>
    intro i hi
    refine ev_succ ?_
    rw [bfF]
    simp only [spec_l12Broken.l0, show (i : Int) < (l.length : Int) by omega, show 0 ≤ (i : Int) by omega, if_true, inN_spec, Option.bind_some, decide_eq_true_eq, show wrap64 ((i : Int) + 1) = ((i + 1 : Nat) : Int) by rw [w64' (by omega) (by omega)]; omega]
    by_cases h : 9011 ≤ rd l (i : Int) ∧ rd l (i : Int) ≤ 9099
    · simp only [if_pos h]
      by_cases h0 : i > 0
      · simp only [show (i : Int) > 0 by omega, h0, if_true, show wrap64 ((i : Int) - 1) = ((i - 1 : Nat) : Int) by rw [w64' (by omega) (by omega)]; omega, show 0 ≤ ((i - 1 : Nat) : Int) by omega, show ((i - 1 : Nat) : Int) < (l.length : Int) by omega]
        by_cases h2 : rd l (i : Int) ≤ rd l ((i - 1 : Nat) : Int)
        · simp only [if_pos h2]; exact Ev.now _
        · simp only [if_neg h2]; exact ih (i + 1) (by omega)
      · simp only [show ¬ (i : Int) > 0 by omega, h0, if_false]; exact ih (i + 1) (by omega)
    · simp only [if_neg h]; exact Ev.now _
theorem broken_impl (l : List Int) (hl : l.length ≤ 10) (d : Nat) : ∀ (i : Nat), i + d = l.length → Ev (fun k => impl_brokenFault.l0 k l l (l.length : Int) i) (bfF l i d) := by
  induction d with
  | zero =>
    intro i hi
    refine ev_succ ?_
    simp only [impl_brokenFault.l0, show ¬ (i : Int) < (l.length : Int) by omega, if_false]; exact Ev.now _
  | succ d ih =>
    intro i hi
    refine ev_succ ?_
    rw [bfF]
    simp only [impl_brokenFault.l0, show (i : Int) < (l.length : Int) by omega, show 0 ≤ (i : Int) by omega, if_true, inN_impl, Option.bind_some, decide_eq_true_eq, show wrap64 ((i : Int) + 1) = ((i + 1 : Nat) : Int) by rw [w64' (by omega) (by omega)]; omega]
    by_cases h : 9011 ≤ rd l (i : Int) ∧ rd l (i : Int) ≤ 9099
    · simp only [if_pos h]
      by_cases h0 : i > 0
      · simp only [show (i : Int) > 0 by omega, h0, if_true, show wrap64 ((i : Int) - 1) = ((i - 1 : Nat) : Int) by rw [w64' (by omega) (by omega)]; omega, show 0 ≤ ((i - 1 : Nat) : Int) by omega, show ((i - 1 : Nat) : Int) < (l.length : Int) by omega]
        by_cases h2 : rd l (i : Int) ≤ rd l ((i - 1 : Nat) : Int)
        · simp only [show rd l ((i - 1 : Nat) : Int) ≥ rd l (i : Int) from h2, if_pos h2, if_true]; exact Ev.now _
        · simp only [show ¬ rd l ((i - 1 : Nat) : Int) ≥ rd l (i : Int) from h2, if_neg h2, if_false]; exact ih (i + 1) (by omega)
      · simp only [show ¬ (i : Int) > 0 by omega, h0, if_false]; exact ih (i + 1) (by omega)
    · simp only [if_neg h]; exact Ev.now _
def bf (l : List Int) : Int := if l.length > 10 then 2 else bfF l 0 l.length
theorem bf_spec (l : List Int) : Ev (fun k => spec_l12Broken.f k l) (bf l) := by
  unfold spec_l12Broken.f bf
  by_cases h : l.length > 10
  · simp only [show (l.length : Int) > 10 by omega, h, if_true]; exact Ev.now _
  · simp only [show ¬ (l.length : Int) > 10 by omega, h, if_false]; exact broken_spec l (by omega) l.length 0 (by omega)
theorem bf_impl (l : List Int) : Ev (fun k => impl_brokenFault.f k l) (bf l) := by
  unfold impl_brokenFault.f bf
  by_cases h : l.length > 10
  · simp only [show (l.length : Int) > 10 by omega, h, if_true]; exact Ev.now _
  · simp only [show ¬ (l.length : Int) > 10 by omega, h, if_false]; exact broken_impl l (by omega) l.length 0 (by omega)
def gts (n : Int) : List S41 := (List.range n.toNat).map fun (i : Nat) => ⟨(i : Int) + 1, 0, ()⟩
theorem gates_spec (a : Int) (l : List Int) (h : a = 2 ∨ a = 3 ∨ a = 4) : Ev (fun k => spec_NewNet.l0 k a 1 ([] : List S41) l) (0, 0, [], gts a, l, [], [], []) := by
  refine ⟨6, fun k hk => ?_⟩
  obtain ⟨j, rfl⟩ : ∃ j, k = j + 6 := ⟨k - 6, by omega⟩
  rcases h with rfl | rfl | rfl <;> simp [spec_NewNet.l0, wrap64, gts, List.range, List.range.loop]
theorem gates_impl (a : Int) (l : List Int) (h : a = 2 ∨ a = 3 ∨ a = 4) : Ev (fun k => impl_NewNet.l0 k a 1 ([] : List S41) l) (0, 0, [], gts a, l, [], [], []) := by
  refine ⟨6, fun k hk => ?_⟩
  obtain ⟨j, rfl⟩ : ∃ j, k = j + 6 := ⟨k - 6, by omega⟩
  rcases h with rfl | rfl | rfl <;> simp [impl_NewNet.l0, wrap64, gts, List.range, List.range.loop]
theorem both_NewNet (a : Int) (l : List Int) (hl : l.length ≤ 1048576) : ∃ (c : Int) (G : List S41) (B : List Int), G.length ≤ 4 ∧ B.length ≤ 1048576 ∧ Ev (fun k => spec_NewNet.f k a l) (c, 0, [], G, B, [], [], []) ∧ Ev (fun k => impl_NewNet.f k a l) (c, 0, [], G, B, [], [], []) := by
  unfold spec_NewNet.f impl_NewNet.f
  simp only [inN_spec, inN_impl, Option.bind_some, decide_eq_true_eq]
  by_cases h : 2 ≤ a ∧ a ≤ 4
  rotate_left
  · exact ⟨2, [], [], by simp, by simp, by simp only [if_neg h]; exact Ev.now _, by simp only [if_neg h]; exact Ev.now _⟩
  simp only [if_pos h]
  have h3 : a = 2 ∨ a = 3 ∨ a = 4 := by omega
  by_cases h0 : bf l = 0
  rotate_left
  · refine ⟨bf l, [], [], by simp, by simp, Ev.bind (bf_spec l) ?_, Ev.bind (bf_impl l) ?_⟩
    · simp only [if_neg h0]; exact Ev.now _
    · simp only [if_neg h0]; exact Ev.now _
  refine ⟨0, gts a, l, by simp [gts]; omega, hl, Ev.bind (bf_spec l) ?_, Ev.bind (bf_impl l) ?_⟩
  · simp only [if_pos h0, List.length_nil, Nat.zero_add, List.nil_append, show l.length < 17592186044416 by omega, if_true]
    exact gates_spec a l h3
  · simp only [if_pos h0, slices_Clone_int64_int64.f, show l.length * 8 ≤ 140737488355328 by omega, if_true, Option.bind_some]
    exact gates_impl a l h3
theorem eqGateS_l0 (l : List S41) (hl : l.length ≤ 4) (d : Nat) : ∀ (k i : Nat), i + d = l.length → d < k → laws_eqGateS.l0 k l l i = some true := by
  induction d with
  | zero =>
    intro k i hi hk
    obtain ⟨k, rfl⟩ : ∃ m, k = m + 1 := ⟨k - 1, by omega⟩
    simp only [laws_eqGateS.l0]; rw [if_neg (by omega)]
  | succ d ih =>
    intro k i hi hk
    obtain ⟨k, rfl⟩ : ∃ m, k = m + 1 := ⟨k - 1, by omega⟩
    simp only [laws_eqGateS.l0, laws_eqGate.f, laws_eqTalkS.f, if_true, Option.bind_some]
    rw [if_pos (by omega), if_pos (by omega), if_pos (by omega), w64' (by omega) (by omega)]
    have := ih k (i + 1) (by omega) (by omega)
    simpa using this
theorem eqGateS_ev (l : List S41) (hl : l.length ≤ 4) : Ev (fun k => laws_eqGateS.f k l l) true := by
  refine ⟨l.length + 1, fun k hk => ?_⟩
  simp only [laws_eqGateS.f, if_true]
  have := eqGateS_l0 l hl l.length k 0 (by omega) (by omega)
  simpa using this
theorem eqTermS_n : Ev (fun k => laws_eqTermS.f k [] []) true := ⟨1, fun k hk => by obtain ⟨k, rfl⟩ : ∃ m, k = m + 1 := ⟨k - 1, by omega⟩; simp [laws_eqTermS.f, laws_eqTermS.l0]⟩
theorem eqGivenS_n : Ev (fun k => laws_eqGivenS.f k [] []) true := ⟨1, fun k hk => by obtain ⟨k, rfl⟩ : ∃ m, k = m + 1 := ⟨k - 1, by omega⟩; simp [laws_eqGivenS.f, laws_eqGivenS.l0]⟩
theorem markTermS_n (m : Int) : Ev (fun k => laws_markTermS.f k [] m) (m, []) := ⟨1, fun k hk => by obtain ⟨k, rfl⟩ : ∃ m, k = m + 1 := ⟨k - 1, by omega⟩; simp [laws_markTermS.f, laws_markTermS.l0]⟩
theorem markGivenS_n (m : Int) : Ev (fun k => laws_markGivenS.f k [] m) (m, []) := ⟨1, fun k hk => by obtain ⟨k, rfl⟩ : ∃ m, k = m + 1 := ⟨k - 1, by omega⟩; simp [laws_markGivenS.f, laws_markGivenS.l0]⟩
theorem heldTermS_n (m : Int) : Ev (fun k => laws_heldTermS.f k [] m) m := ⟨1, fun k hk => by obtain ⟨k, rfl⟩ : ∃ m, k = m + 1 := ⟨k - 1, by omega⟩; simp [laws_heldTermS.f, laws_heldTermS.l0]⟩
theorem heldGivenS_n (m : Int) : Ev (fun k => laws_heldGivenS.f k [] m) m := ⟨1, fun k hk => by obtain ⟨k, rfl⟩ : ∃ m, k = m + 1 := ⟨k - 1, by omega⟩; simp [laws_heldGivenS.f, laws_heldGivenS.l0]⟩
def gmark (m : Int) (i : Nat) : S41 := ⟨m + 2 * i, m + 2 * i + 1, ()⟩
def gmarks (m : Int) (n : Nat) : List S41 := (List.range n).map (gmark m)
theorem gmarks_length (m : Int) (n : Nat) : (gmarks m n).length = n := by simp [gmarks]
theorem gmarks_succ (m : Int) (n : Nat) : gmarks m (n + 1) = gmarks m n ++ [gmark m n] := by simp [gmarks, List.range_succ]
theorem rd_setG (l : List S41) (i : Nat) (h : i < l.length) (x : S41) : rd_T41 (l.set i x) (i : Int) = x := by
  simp [rd_T41, List.getD, h]
theorem markGateS_l0 (l : List S41) (m : Int) (hm : 0 ≤ m) (hl : m + 2 * l.length ≤ 9223372036854775800) (d : Nat) : ∀ (k i : Nat), i + d = l.length → d < k →
    laws_markGateS.l0 k (gmarks m i ++ l.drop i) (m + 2 * i) i = some (m + 2 * l.length, gmarks m l.length) := by
  induction d with
  | zero =>
    intro k i hi hk
    obtain ⟨k, rfl⟩ : ∃ m, k = m + 1 := ⟨k - 1, by omega⟩
    obtain rfl : i = l.length := by omega
    simp only [laws_markGateS.l0]; rw [if_neg (by simp [gmarks_length])]
    simp
  | succ d ih =>
    intro k i hi hk
    obtain ⟨k, rfl⟩ : ∃ m, k = m + 1 := ⟨k - 1, by omega⟩
    simp only [laws_markGateS.l0, laws_markTalkS.f]
    have hlen : (gmarks m i ++ l.drop i).length = l.length := by simp [gmarks_length]; omega
    have hle : i < (gmarks m i ++ l.drop i).length := by omega
    have e1 : wrap64 (m + 2 * i + 1) = m + 2 * i + 1 := w64' (by omega) (by omega)
    have e2 : wrap64 (m + 2 * i + 1 + 1) = m + 2 * i + 1 + 1 := w64' (by omega) (by omega)
    rw [e1, e2, w64' (n := (i : Int) + 1) (by omega) (by omega)]
    simp only [Option.bind_some, Int.toNat_natCast, show (i : Int) < ((gmarks m i ++ l.drop i).length : Int) by omega, show 0 ≤ (i : Int) by omega, if_true]
    simp only [List.set_set, rd_setG _ i hle]
    have e : (gmarks m i ++ l.drop i).set i (⟨m + 2 * i, m + 2 * i + 1, (rd_T41 (gmarks m i ++ l.drop i) (i : Int)).f2⟩ : S41) = gmarks m (i + 1) ++ l.drop (i + 1) := by
      rw [List.drop_eq_getElem_cons (show i < l.length by omega), gmarks_succ]
      have := set_split (gmarks m i) (l.drop (i + 1)) l[i] (gmark m i)
      rw [gmarks_length] at this
      refine Eq.trans ?_ (this.trans (by simp))
      rfl
    rw [e]
    have := ih k (i + 1) (by omega) (by omega)
    rw [show m + 2 * (i : Int) + 1 + 1 = m + 2 * ((i + 1 : Nat) : Int) by omega, show (i : Int) + 1 = ((i + 1 : Nat) : Int) by omega]
    exact this
theorem markGateS_ev (l : List S41) (m : Int) (hm : 0 ≤ m) (hl : m + 2 * l.length ≤ 9223372036854775800) : Ev (fun k => laws_markGateS.f k l m) (m + 2 * l.length, gmarks m l.length) := by
  refine ⟨l.length + 1, fun k hk => ?_⟩
  unfold laws_markGateS.f
  have := markGateS_l0 l m hm hl l.length k 0 (by omega) (by omega)
  simpa [gmarks] using this
theorem rd_gmarks (m : Int) (n i : Nat) (h : i < n) : rd_T41 (gmarks m n) (i : Int) = gmark m i := by
  simp [rd_T41, List.getD, gmarks, h]
theorem heldGateS_l0 (n : Nat) (m : Int) (hm : 0 ≤ m) (hl : m + 2 * n ≤ 9223372036854775800) (d : Nat) : ∀ (k i : Nat), i + d = n → d < k →
    laws_heldGateS.l0 k (gmarks m n) (m + 2 * i) i = some (m + 2 * n) := by
  induction d with
  | zero =>
    intro k i hi hk
    obtain ⟨k, rfl⟩ : ∃ m, k = m + 1 := ⟨k - 1, by omega⟩
    obtain rfl : i = n := by omega
    simp only [laws_heldGateS.l0]; rw [if_neg (by simp [gmarks_length])]
  | succ d ih =>
    intro k i hi hk
    obtain ⟨k, rfl⟩ : ∃ m, k = m + 1 := ⟨k - 1, by omega⟩
    simp only [laws_heldGateS.l0, laws_heldTalkS.f, rd_gmarks m n i (by omega), gmark]
    have e1 : wrap64 (m + 2 * i + 1) = m + 2 * i + 1 := w64' (by omega) (by omega)
    have e2 : wrap64 (m + 2 * i + 1 + 1) = m + 2 * i + 1 + 1 := w64' (by omega) (by omega)
    rw [e1, e2, w64' (n := (i : Int) + 1) (by omega) (by omega)]
    simp only [Option.bind_some, gmarks_length, show (i : Int) < (n : Int) by omega, show 0 ≤ (i : Int) by omega, if_true, show ¬ (m + 2 * (i : Int) + 1 + 1 < 0) by omega, if_false]
    have := ih k (i + 1) (by omega) (by omega)
    rw [show m + 2 * (i : Int) + 1 + 1 = m + 2 * ((i + 1 : Nat) : Int) by omega, show (i : Int) + 1 = ((i + 1 : Nat) : Int) by omega]
    exact this
theorem heldGateS_ev (n : Nat) (m : Int) (hm : 0 ≤ m) (hl : m + 2 * n ≤ 9223372036854775800) : Ev (fun k => laws_heldGateS.f k (gmarks m n) m) (m + 2 * n) := by
  refine ⟨n + 1, fun k hk => ?_⟩
  unfold laws_heldGateS.f
  have := heldGateS_l0 n m hm hl n k 0 (by omega) (by omega)
  simpa using this
theorem FnExactNewNet : laws_FnExactNewNet.Pure := by
  intro a l h1 h2 h3
  refine Ev.rounds ?_
  unfold laws_FnExactNewNet.f
  by_cases hbig : (l.length : Int) > 1048576
  · simp only [if_pos hbig]; exact Ev.now _
  simp only [if_neg hbig]
  have ht := toInt64S_ev l (by omega)
  obtain ⟨c, G, B, hG, hB, es, ei⟩ := both_NewNet a l (by omega)
  have hq : Ev (fun k => laws_eqNetResult.f k c 0 [] G B [] [] [] c 0 [] G B [] [] []) true := by
    unfold laws_eqNetResult.f laws_eqNet.f
    simp only [if_true]
    have : Ev (fun k => (laws_eqTermS.f k ([] : List S52) []).bind fun t164 => (if t164 = true then ((laws_eqGateS.f k G G).bind fun t165 => (if t165 = true then ((laws_eqInt64S.f k B B).bind fun t166 => (if t166 = true then ((laws_eqInt64S.f k ([] : List Int) []).bind fun t167 => (if t167 = true then ((laws_eqGivenS.f k ([] : List S56) []).bind fun t168 => (if t168 = true then ((laws_eqGivenS.f k ([] : List S56) []).bind fun t169 => (if t169 = true then (some true) else (some false))) else (some false))) else (some false))) else (some false))) else (some false))) else (some false))) true := by
      refine Ev.bind eqTermS_n ?_
      simp only [if_true]
      refine Ev.bind (eqGateS_ev G hG) ?_
      simp only [if_true]
      refine Ev.bind (eqInt64S_ev B (by omega)) ?_
      simp only [if_true]
      refine Ev.bind (eqInt64S_ev [] (by simp)) ?_
      simp only [if_true]
      refine Ev.bind eqGivenS_n ?_
      simp only [if_true]
      refine Ev.bind eqGivenS_n ?_
      simp only [if_true]; exact Ev.now _
    refine Ev.bind this ?_
    simp only [if_true]; exact Ev.now _
  have hmk : Ev (fun k => laws_markNetResult.f k c 0 [] G B [] [] [] 1) (1 + 2 * G.length + B.length, [], gmarks 1 G.length, marks (1 + 2 * G.length) B.length, [], [], []) := by
    unfold laws_markNetResult.f laws_markNet.f
    have : Ev (fun k => (laws_markTermS.f k ([] : List S52) 1).bind fun bt187 => ((laws_markGateS.f k G bt187.1).bind fun bt189 => ((laws_markInt64S.f k B bt189.1).bind fun bt191 => ((laws_markInt64S.f k ([] : List Int) bt191.1).bind fun bt193 => ((laws_markGivenS.f k ([] : List S56) bt193.1).bind fun bt195 => ((laws_markGivenS.f k ([] : List S56) bt195.1).bind fun bt197 => (some (bt197.1, bt187.2, bt189.2, bt191.2, bt193.2, bt195.2, bt197.2)))))))) (1 + 2 * G.length + B.length, [], gmarks 1 G.length, marks (1 + 2 * G.length) B.length, [], [], []) := by
      refine Ev.bind (markTermS_n 1) ?_
      refine Ev.bind (markGateS_ev G 1 (by omega) (by omega)) ?_
      refine Ev.bind (markInt64S_ev B (1 + 2 * G.length) (by omega) (by omega)) ?_
      have h0 := markInt64S_ev [] (1 + 2 * G.length + B.length) (by omega) (by simp; omega)
      simp only [List.length_nil, show ((0 : Nat) : Int) = 0 from rfl, Int.add_zero] at h0
      refine Ev.bind h0 ?_
      refine Ev.bind (markGivenS_n _) ?_
      refine Ev.bind (markGivenS_n _) ?_
      exact Ev.now _
    exact Ev.bind this (Ev.now _)
  have hhd : Ev (fun k => laws_heldNetResult.f k c 0 [] (gmarks 1 G.length) (marks (1 + 2 * G.length) B.length) [] [] [] 1) (1 + 2 * G.length + B.length) := by
    unfold laws_heldNetResult.f laws_heldNet.f
    have p1 : ¬ ((1 : Int) < 0) := by omega
    have p2 : ¬ ((1 : Int) + 2 * G.length < 0) := by omega
    have p3 : ¬ ((1 : Int) + 2 * G.length + B.length < 0) := by omega
    have h0 := heldInt64S_ev 0 (1 + 2 * G.length + B.length) (by omega) (by simp; omega)
    simp only [show ((0 : Nat) : Int) = 0 from rfl, Int.add_zero] at h0
    refine Ev.bind (show Ev _ (1 + 2 * (G.length : Int) + B.length) from ?_) ?_
    · refine Ev.bind (heldTermS_n 1) ?_
      simp only [if_neg p1]
      refine Ev.bind (heldGateS_ev G.length 1 (by omega) (by omega)) ?_
      simp only [if_neg p2]
      refine Ev.bind (heldInt64S_ev B.length (1 + 2 * G.length) (by omega) (by omega)) ?_
      simp only [if_neg p3]
      refine Ev.bind h0 ?_
      simp only [if_neg p3]
      refine Ev.bind (heldGivenS_n _) ?_
      simp only [if_neg p3]
      refine Ev.bind (heldGivenS_n _) ?_
      simp only [if_neg p3]; exact Ev.now _
    · simp only [if_neg p3]; exact Ev.now _
  refine Ev.bind ht (Ev.bind es (Ev.bind ht (Ev.bind ei (Ev.bind hq ?_))))
  simp only [if_true]
  refine Ev.bind ht (Ev.bind (eqInt64S_ev l (by omega)) ?_)
  simp only [if_true]
  refine Ev.bind (markInt64S_ev l 1 (by omega) (by omega)) ?_
  simp only [show ¬ (1 + (l.length : Int)) < 0 by omega, if_false]
  refine Ev.bind hq ?_
  simp only [Bool.not_true]
  refine ev_succ ?_
  simp only [laws_FnExactNewNet.j0, Bool.false_eq_true, if_false]
  refine Ev.bind hmk (Ev.bind hhd ?_)
  simp only [show ¬ (1 + 2 * (G.length : Int) + B.length < 0) by omega, if_false, if_true]
  refine Ev.bind ht (Ev.bind ei (Ev.bind hq ?_))
  simp only [if_true]
  refine Ev.bind hhd ?_
  simp only [show ¬ (1 + 2 * (G.length : Int) + B.length < 0) by omega, if_false, if_true]
  exact Ev.now _
end Go.Proofs.Ythjnbnjlagnlhaa.Pure
namespace Go.Proofs.Ythjnbnjlagnlhaa.fnExactNewNet
open Go.ChangeShapes Go.WideShapes Go.ChangeAt
open Go.RowKit Go.Proofs.Ythjnbnjlagnlhaa.G Go.Proofs.YthjnbnjlagnlhaaW.PrintWords Go.Proofs.YthjnbnjlagnlhaaW.PrintLast
open Go.ChangeMaps (open_string shut_string)
set_option linter.unusedVariables false
theorem own : ownKnob Try.prog.godebug = none := by kernel_rfl
theorem laidOut : laidOutB Try.prog = true := by kernel_rfl
theorem o2 : Opn.Opens Try.prog 2 (Kd.int .i64) (fun n => (Lit.int .i64 n).wf = true) := Opn.opens_int Try.underlying2 (by kernel_rfl)
set_option maxRecDepth 100000 in
theorem lifted (os : Os) (started : os.Started) (H : Type) (enc : TypeId × Value → H) :
    ReturnsInHanded {} Try.checked os 3 .any (Rows.fnExactNewNetSpec.pre6 enc Try.prog Try.f3 Rows.fnExactNewNetRow.domain false) (Rows.fnExactNewNetSpec.post enc Try.prog Try.f3 false true false false) := by
  refine returnsInHanded_of_change_sized (C := Try.checked) own started (by kernel_rfl) Try.func3
    (ChangeSpec.witness6 (enc := enc) (C := Try.checked) false ⟨#[], #[.int .i64 0, .slice none 0 0], []⟩ 8 (by kernel_rfl) (by kernel_rfl) (by kernel_rfl) (by kernel_rfl)) ?_
  intro W base args ds gs before hval0 hW hcnd hsz0 _
  have hval : ∀ (j : Nat) t v, Try.f3.params[j]? = some t → args[j]? = some v → Value.okWide Try.prog W .any base t v := hval0
  have hW' := hW
  obtain ⟨p, q, hA0, hV, rfl, hfz, hnd⟩ := hW
  have hA : DataW.TrodAll enc Try.prog W 0 (fun _ => true) true Try.f3.params.toList args.toList ds p := hA0
  rw [Try.params3] at hA hval
  obtain ⟨v0, vs0, d0, ds0, p0, q0, hargs, rfl, rfl, h0, r0⟩ := trodAll_cons hA
  obtain ⟨v1, vs1, d1, ds1, p1, q1, rfl, rfl, rfl, h1, r1⟩ := trodAll_cons r0
  obtain ⟨rfl, rfl, rfl⟩ := trodAll_nil r1
  obtain rfl : args = #[v0, v1] := by cases args; simp_all
  obtain ⟨rfl, rfl⟩ := trodVars_none hV
  obtain ⟨a0, rfl, rfl, rfl, w0⟩ := open_int Try.underlying2 (hval 0 2 v0 rfl rfl) h0
  obtain ⟨A1, len1, c1, rfl⟩ := okWide_slice Try.underlying22 (hval 1 22 v1 rfl rfl)
  have k1 := h1
  have lt1 : ∀ x ∈ p1, x.block < W.heap.size := by obtain ⟨m, hm⟩ := k1; exact DataW.trod_lt m _ _ _ hm
  obtain ⟨l1, rfl, hr1, hc1, hm1, hg1⟩ := Opn.arg_slice Try.underlying22 (by kernel_rfl) o2 h1
  clear hA0 hval0 hsz0
  obtain ⟨k, h⟩ := Pure.FnExactNewNet a0 l1 w0 hm1 hg1
  refine (laws_FnExactNewNet.calls k a0 A1 c1 l1 W hr1 hc1 h).mono fun e W' ⟨he, bel0⟩ => ?_
  have bel : Below W.heap.size W W' := bel0
  subst he
  exact ⟨_, rfl, _, _, _, [], _, [], hW', trodAll_mk1 (shut_bool Try.underlying4 _), (trodAll_cons_mk (shut_int Try.underlying2 w0) (trodAll_cons_mk (Below.trod laidOut (by kernel_rfl) (of_decide_eq_true (by kernel_rfl)) k1 bel lt1) trodAll_mk0)), rfl, bel.frame _, fun h => by cases h⟩
theorem over : Rows.fnExactNewNetRow.holds Try.pinned (OpenSpec.ofChange Rows.fnExactNewNetSpec) :=
  OpenClaim.holds_of_wide 3 Try.f3 rfl rfl rfl rfl rfl rfl rfl ⟨rfl, rfl, rfl, rfl, rfl⟩ rfl rfl rfl rfl rfl (by kernel_rfl) Try.func3 (by kernel_rfl)
    (of_decide_eq_true (by kernel_rfl)) (by unfold Func.isWrapper; first | (rw [if_pos (by decide +kernel)]; kernel_rfl) | (rw [if_neg (by decide +kernel)]; exact ⟨rfl, rfl⟩))
    (fun os started H enc _ => lifted os started H enc)
end Go.Proofs.Ythjnbnjlagnlhaa.fnExactNewNet
namespace Go.Proofs.Ythjnbnjlagnlhaa
theorem fnExactNewNet_holds : Rows.FnExactNewNetSaid := fnExactNewNet.over
end Go.Proofs.Ythjnbnjlagnlhaa
#print axioms Go.Proofs.Ythjnbnjlagnlhaa.fnExactNewNet_holds
