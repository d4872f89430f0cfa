/- FnFrames: for every input the law returns true and its arguments read afterwards as they read before. No condition. -/
import Derived.Test.YtidejdfbapjfiaaCFnFrames5
import Derived.ChangeArms
import Derived.Deep.Slices
import Derived.ProofKit
import Derived.OpenShut
import Derived.Laws.BitsLemmas
import Derived.Lib.Bytes
import Derived.Test.YtidejdfbapjfiaaRows
import Derived.WalkKit
import Derived.ShutString
import Derived.ChangeOld
import Derived.Below
import Derived.SizedLaws
set_option linter.unusedVariables false
namespace Go.Proofs.Ytidejdfbapjfiaa.Opn
open Go.Proofs.YtidejdfbapjfiaaW.PrintWords
def Opens {α : Type} (P : Program) (t : TypeId) (d : Kd α) (G : α → Prop) : Prop :=
  P.cellsOf t = d.sz ∧ ∀ (H : Type) (enc : TypeId × Value → H) (W : World) (base : Nat) (sp : Nat → Bool) (held : Bool) (fuel : Nat) (cs : List Value) (x : DataW H × List MemPlace),
    DataW.trod enc P W base sp held fuel t cs = some x → ∃ a, d.K W a cs ∧ G a
theorem opens_int {P : Program} {t : TypeId} {k : IntKind} (ht : P.underlying t = some (.int k)) (hc : P.cellsOf t = 1) : Opens P t (Kd.int k) (fun n => (Lit.int k n).wf = true) :=
  ⟨hc, fun H enc W base sp held fuel cs x hx => by
    obtain ⟨n, h, hx, hw⟩ := DataW.trod_int ht hx
    exact ⟨n, h, hw⟩⟩
theorem opens_slice {α : Type} {P : Program} {t e : TypeId} {d : Kd α} {G : α → Prop} (ht : P.underlying t = some (.slice e)) (hc : P.cellsOf t = 1) (he : Opens P e d G) :
    Opens P t (Kd.slice e d) (fun xs => xs.length ≤ maxLen ∧ ∀ x ∈ xs, G x) :=
  ⟨hc, fun H enc W base sp held fuel cs x hx => by
    rcases Go.Deep.open_slice ht hx with ⟨rfl, rfl⟩ | ⟨a, len, cap, m, n, D, Pl, rfl, hb, hl, hm, hmm, rfl, hel⟩
    · refine ⟨[], ⟨none, 0, rfl, Nat.le_refl _, rfl, by simp, ?_⟩, by simp, by simp⟩
      intro h; exact absurd h (by simp)
    · have hle : len ≤ m := by rw [hmm]; split <;> omega
      have key : ∀ i, i < len → ∃ p : α, ∃ c : List Value, c.length = d.sz ∧ d.K W p c ∧ G p ∧ ∀ j u, c[j]? = some u → W.cell? (a.add (i * d.sz + j)) = some u := by
        intro i hi
        obtain ⟨c, h1, h2⟩ := hel i (by omega)
        obtain ⟨p, h3, h4⟩ := he.2 H enc W base sp held n c _ h2
        obtain ⟨_, h5, h6⟩ := World.cells?_some h1
        rw [he.1] at h5 h6
        refine ⟨p, c, h5, h3, h4, fun j u hj => ?_⟩
        have hjl : j < d.sz := by
          have := (List.getElem?_eq_some_iff.1 hj).1
          omega
        rw [← Go.Deep.add_add, h6 j hjl, hj]
      have ex : ∃ ps : List α, ps.length = len ∧ ∀ i p, ps[i]? = some p → ∃ c : List Value, c.length = d.sz ∧ d.K W p c ∧ G p ∧ ∀ j u, c[j]? = some u → W.cell? (a.add (i * d.sz + j)) = some u := by
        clear hel hmm hle hl hm hx
        induction len with
        | zero => exact ⟨[], rfl, fun i p h => by simp at h⟩
        | succ k ih =>
          obtain ⟨ps, h1, h2⟩ := ih (fun i hi => key i (by omega))
          obtain ⟨p, hp⟩ := key k (by omega)
          refine ⟨ps ++ [p], by simp [h1], fun i q h => ?_⟩
          by_cases hi : i < ps.length
          · rw [List.getElem?_append_left hi] at h
            exact h2 i q h
          · rw [List.getElem?_append_right (by omega)] at h
            have hi0 : i - ps.length = 0 := by
              have := (List.getElem?_eq_some_iff.1 h).1
              simp at this
              omega
            rw [hi0] at h
            simp at h
            subst h
            have : i = k := by omega
            subst this
            exact hp
      obtain ⟨ps, h1, h2⟩ := ex
      subst h1
      refine ⟨ps, ⟨some a, cap, rfl, hl, rfl, by simp only [maxLen] at hm; omega, fun _ => ⟨a, rfl, fun j p hj => ?_⟩⟩, by omega, fun x hx' => ?_⟩
      · obtain ⟨c, g1, g2, g3, g4⟩ := h2 j p hj
        exact ⟨c, g1, g2, g4⟩
      · obtain ⟨i, hi⟩ := List.getElem?_of_mem hx'
        obtain ⟨c, g1, g2, g3, g4⟩ := h2 i x hi
        exact g3⟩
theorem arg_slice {α : Type} {P : Program} {W : World} {t e : TypeId} {d : Kd α} {G : α → Prop} {H : Type} {enc : TypeId × Value → H} {base : Nat} {sp : Nat → Bool} {held : Bool} {A : Option Addr} {n c : Nat} {x : DataW H} {ps : List MemPlace}
    (ht : P.underlying t = some (.slice e)) (hc : P.cellsOf t = 1) (he : Opens P e d G) (h : DataW.Trod enc P W base sp held t (.slice A n c) x ps) :
    ∃ xs : List α, n = xs.length ∧ d.C W A xs.length xs ∧ xs.length ≤ c ∧ xs.length ≤ maxLen ∧ ∀ a ∈ xs, G a := by
  obtain ⟨fuel, hf⟩ := h
  obtain ⟨xs, ⟨A', c', h1, h2, h3⟩, h4, h5⟩ := (opens_slice ht hc he).2 H enc W base sp held fuel _ _ hf
  simp [Value.cells] at h1
  obtain ⟨rfl, rfl, rfl⟩ := h1
  exact ⟨xs, rfl, h3, h2, h4, h5⟩
end Go.Proofs.Ytidejdfbapjfiaa.Opn
namespace Go.Proofs.Ytidejdfbapjfiaa.Pure
open Go.RowKit Go.Proofs.Ytidejdfbapjfiaa.G Go.Proofs.YtidejdfbapjfiaaW.PrintWords Go.Proofs.YtidejdfbapjfiaaW.PrintLast
def laws_FnFrames.Pure : Prop := ∀ (l0 : List Int), l0.length ≤ maxLen → (∀ x ∈ l0, (fun n => (Lit.int .u8 n).wf = true) x) → ∃ k, laws_FnFrames.f k l0 = some true
end Go.Proofs.Ytidejdfbapjfiaa.Pure
set_option linter.unusedVariables false
set_option linter.unusedSimpArgs false
namespace Go.Proofs.Ytidejdfbapjfiaa.Pure
open Go.RowKit Go.Proofs.Ytidejdfbapjfiaa.G Go.Proofs.YtidejdfbapjfiaaW.PrintWords Go.Proofs.YtidejdfbapjfiaaW.PrintLast Go.Proofs.YtidejdfbapjfiaaW.PrintMore
theorem ev_succ {α : Type} {g : Nat → Option α} {r : α} (h : Ev (fun k => g (k + 1)) r) : Ev g r := by
  obtain ⟨K, hK⟩ := h
  refine ⟨K + 1, fun k hk => ?_⟩
  obtain ⟨m, rfl⟩ : ∃ m, k = m + 1 := ⟨k - 1, by omega⟩
  exact hK m (by omega)
theorem w64' {n : Int} (h0 : -9223372036854775808 ≤ n) (h1 : n ≤ 9223372036854775807) : wrap64 n = n := by unfold wrap64; omega
theorem byte_wf {l : List Int} (h : ∀ x ∈ l, (Lit.int .u8 x).wf = true) : ∀ x ∈ l, 0 ≤ x ∧ x ≤ 255 := fun x hx => by
  have := h x hx
  simpa [Lit.wf, IntKind.min, IntKind.max, IntKind.signed, IntKind.bits] using this
theorem rd_nat (l : List Int) (i : Nat) : rd l (i : Int) = l.getD i 0 := by simp [rd]
end Go.Proofs.Ytidejdfbapjfiaa.Pure
set_option linter.unusedVariables false
set_option linter.unusedSimpArgs false
namespace Go.Proofs.Ytidejdfbapjfiaa.Pure
open Go.RowKit Go.Proofs.Ytidejdfbapjfiaa.G Go.Proofs.YtidejdfbapjfiaaW.PrintWords Go.Proofs.YtidejdfbapjfiaaW.PrintLast Go.Proofs.YtidejdfbapjfiaaW.PrintMore
theorem in_spec' (a b c : Int) : spec_l1In.f a b c = some (decide (b ≤ a ∧ a ≤ c)) := by
  unfold spec_l1In.f
  by_cases h1 : b ≤ a <;> by_cases h2 : a ≤ c <;> simp [h1, h2]
theorem in_impl' (a b c : Int) : impl_in.f a b c = some (decide (b ≤ a ∧ a ≤ c)) := by
  unfold impl_in.f
  by_cases h1 : b ≤ a <;> by_cases h2 : a ≤ c <;> simp [h1, h2]
end Go.Proofs.Ytidejdfbapjfiaa.Pure
set_option linter.unusedVariables false
set_option linter.unusedSimpArgs false
namespace Go.Proofs.Ytidejdfbapjfiaa.Pure
open Go.RowKit Go.Proofs.Ytidejdfbapjfiaa.G Go.Proofs.YtidejdfbapjfiaaW.PrintWords Go.Proofs.YtidejdfbapjfiaaW.PrintLast Go.Proofs.YtidejdfbapjfiaaW.PrintMore
def nb (n : Int) (l : List Int) : Int := l.foldl (fun n b => n * 256 + b) n
theorem nb_snoc (n : Int) (l : List Int) (b : Int) : nb n (l ++ [b]) = nb n l * 256 + b := by simp [nb]
theorem nb_bound (l : List Int) (hb : ∀ x ∈ l, 0 ≤ x ∧ x ≤ 255) : ∀ n : Int, 0 ≤ n → 0 ≤ nb n l ∧ nb n l < (n + 1) * 256 ^ l.length := by
  induction l with
  | nil => intro n hn; simp [nb]; omega
  | cons b r ih =>
    intro n hn
    have h1 := hb b (List.mem_cons_self)
    obtain ⟨h2, h3⟩ := ih (fun x hx => hb x (List.mem_cons_of_mem _ hx)) (n * 256 + b) (by omega)
    have e : nb n (b :: r) = nb (n * 256 + b) r := rfl
    rw [e]
    refine ⟨h2, ?_⟩
    rw [List.length_cons, Int.pow_succ, Int.mul_comm ((256 : Int) ^ r.length) 256, ← Int.mul_assoc]
    have h4 : (n * 256 + b + 1) * (256 : Int) ^ r.length ≤ (n + 1) * 256 * (256 : Int) ^ r.length := Int.mul_le_mul_of_nonneg_right (by omega) (Int.le_of_lt (Int.pow_pos (by decide)))
    omega
theorem or_byte (x b : Int) (h0 : 0 ≤ x) (h1 : x < 281474976710656) (b0 : 0 ≤ b) (b1 : b ≤ 255) : Go.bits .or .i64 (wrap64 (x * 256)) (wrap64 b) = wrap64 (x * 256) + b := by
  rw [w64' (n := b) (by omega) (by omega), w64' (n := x * 256) (by omega) (by omega)]
  exact bits_join .i64 63 (by decide) (fun n h₀ h₁ => by rw [IntKind.wrap_i64]; omega) 8 (x * 256) b (by omega) (by omega) (by omega) b0 (by omega) (by omega)
theorem take_mem {l : List Int} {i : Nat} (hb : ∀ x ∈ l, 0 ≤ x ∧ x ≤ 255) : ∀ x ∈ l.take i, 0 ≤ x ∧ x ≤ 255 := fun x hx => hb x (List.mem_of_mem_take hx)
theorem rd_mem {l : List Int} {i : Nat} (hb : ∀ x ∈ l, 0 ≤ x ∧ x ≤ 255) (h : i < l.length) : 0 ≤ rd l i ∧ rd l i ≤ 255 := by
  rw [rd_nat]
  simp only [List.getD, List.getElem?_eq_getElem h, Option.getD_some]
  exact hb _ (List.getElem_mem h)
theorem take_snoc_rd (l : List Int) (i : Nat) (h : i < l.length) : l.take (i + 1) = l.take i ++ [rd l i] := by
  rw [List.take_succ_eq_append_getElem h, rd_nat]
  simp [List.getD, List.getElem?_eq_getElem h]
theorem impl_take_l0 (l : List Int) (hb : ∀ x ∈ l, 0 ≤ x ∧ x ≤ 255) (hl : l.length ≤ 7) (d : Nat) : ∀ (k i : Nat), i + d = l.length → d < k →
    impl_take.l0 k (nb 0 (l.take i)) l (l.length : Int) i = some (nb 0 l) := by
  induction d with
  | zero =>
    intro k i hi hk
    obtain ⟨k, rfl⟩ : ∃ m, k = m + 1 := ⟨k - 1, by omega⟩
    simp only [impl_take.l0]; rw [if_neg (by omega), List.take_of_length_le (by omega)]
  | succ d ih =>
    intro k i hi hk
    obtain ⟨k, rfl⟩ : ∃ m, k = m + 1 := ⟨k - 1, by omega⟩
    have h1 := nb_bound (l.take i) (take_mem hb) 0 (by omega)
    have hli : (l.take i).length = i := by simp; omega
    rw [hli] at h1
    have h2 : (256 : Int) ^ i ≤ 281474976710656 := by
      have : i = 0 ∨ i = 1 ∨ i = 2 ∨ i = 3 ∨ i = 4 ∨ i = 5 ∨ i = 6 := by omega
      rcases this with rfl | rfl | rfl | rfl | rfl | rfl | rfl <;> decide
    have h3 := rd_mem hb (show i < l.length by omega)
    simp only [impl_take.l0]
    rw [if_pos (by omega), if_pos (by omega), if_pos (by omega), or_byte _ _ h1.1 (by omega) h3.1 h3.2, w64' (n := nb 0 (l.take i) * 256) (by omega) (by omega), ← nb_snoc, ← take_snoc_rd l i (by omega), w64' (n := (i : Int) + 1) (by omega) (by omega)]
    have := ih k (i + 1) (by omega) (by omega)
    simpa using this
theorem impl_take_ev (l : List Int) (hb : ∀ x ∈ l, 0 ≤ x ∧ x ≤ 255) (hl : l.length ≤ 7) : Ev (fun k => impl_take.f k l) (nb 0 l) := by
  refine ⟨l.length + 1, fun k hk => ?_⟩
  unfold impl_take.f
  have := impl_take_l0 l hb hl l.length k 0 (by omega) (by omega)
  simpa [nb] using this
theorem spec_take_l0 (l : List Int) (hb : ∀ x ∈ l, 0 ≤ x ∧ x ≤ 255) (hl : l.length ≤ 9223372036854775807) (a s : Nat) (hs : s ≤ 7) (has : a + s ≤ l.length) (d : Nat) : ∀ (k i : Nat), i + d = s → d < k →
    spec_l1Take.l0 k l a s (nb 0 ((l.drop a).take i)) i = some (nb 0 ((l.drop a).take s)) := by
  induction d with
  | zero =>
    intro k i hi hk
    obtain ⟨k, rfl⟩ : ∃ m, k = m + 1 := ⟨k - 1, by omega⟩
    obtain rfl : i = s := by omega
    simp only [spec_l1Take.l0]; rw [if_neg (by omega)]
  | succ d ih =>
    intro k i hi hk
    obtain ⟨k, rfl⟩ : ∃ m, k = m + 1 := ⟨k - 1, by omega⟩
    have hb' : ∀ x ∈ l.drop a, 0 ≤ x ∧ x ≤ 255 := fun x hx => hb x (List.mem_of_mem_drop hx)
    have h1 := nb_bound ((l.drop a).take i) (take_mem hb') 0 (by omega)
    have hli : ((l.drop a).take i).length = i := by simp; omega
    rw [hli] at h1
    have h2 : (256 : Int) ^ i ≤ 281474976710656 := by
      have : i = 0 ∨ i = 1 ∨ i = 2 ∨ i = 3 ∨ i = 4 ∨ i = 5 ∨ i = 6 := by omega
      rcases this with rfl | rfl | rfl | rfl | rfl | rfl | rfl <;> decide
    have h0 : 0 ≤ nb 0 ((l.drop a).take i) ∧ nb 0 ((l.drop a).take i) ≤ 281474976710656 := by constructor <;> omega
    clear h1 h2
    have h3 := rd_mem hb (show a + i < l.length by omega)
    have e0 : wrap64 ((a : Int) + i) = ((a + i : Nat) : Int) := by rw [w64' (by omega) (by omega)]; omega
    have e1 : rd l ((a + i : Nat) : Int) = rd (l.drop a) i := by rw [rd_nat, rd_nat]; simp [List.getD, List.getElem?_drop]
    simp only [spec_l1Take.l0]
    rw [if_pos (by omega), e0, if_pos (by omega), if_pos (by omega), w64' (n := rd l ((a + i : Nat) : Int)) (by omega) (by omega), w64' (n := nb 0 ((l.drop a).take i) * 256) (by omega) (by omega), e1, w64' (n := nb 0 ((l.drop a).take i) * 256 + rd (l.drop a) i) (by omega) (by omega), ← nb_snoc, ← take_snoc_rd (l.drop a) i (by simp; omega), w64' (n := (i : Int) + 1) (by omega) (by omega)]
    have := ih k (i + 1) (by omega) (by omega)
    simpa using this
theorem spec_take_ev (l : List Int) (hb : ∀ x ∈ l, 0 ≤ x ∧ x ≤ 255) (hl : l.length ≤ 9223372036854775807) (a s : Nat) (hs : s ≤ 7) (has : a + s ≤ l.length) : Ev (fun k => spec_l1Take.f k l a s) (nb 0 ((l.drop a).take s)) := by
  refine ⟨s + 1, fun k hk => ?_⟩
  unfold spec_l1Take.f
  have := spec_take_l0 l hb hl a s hs has s k 0 (by omega) (by omega)
  simpa [nb] using this
end Go.Proofs.Ytidejdfbapjfiaa.Pure
set_option linter.unusedVariables false
set_option linter.unusedSimpArgs false
namespace Go.Proofs.Ytidejdfbapjfiaa.Pure
open Go Go.Lib Go.RowKit Go.Proofs.Ytidejdfbapjfiaa.G Go.Proofs.YtidejdfbapjfiaaW.PrintWords Go.Proofs.YtidejdfbapjfiaaW.PrintLast Go.Proofs.YtidejdfbapjfiaaW.PrintMore
def By : Nat → Int → List Int
  | 0, _ => []
  | j + 1, v => By j (v / 256) ++ [v % 256]
theorem By_length : ∀ (j : Nat) (v : Int), (By j v).length = j
  | 0, _ => rfl
  | j + 1, v => by simp [By, By_length j]
theorem By_byte : ∀ (j : Nat) (v : Int), ∀ x ∈ By j v, 0 ≤ x ∧ x ≤ 255
  | 0, _ => by simp [By]
  | j + 1, v => by
    intro x hx
    simp only [By, List.mem_append, List.mem_singleton] at hx
    rcases hx with hx | rfl
    · exact By_byte j _ x hx
    · omega
theorem By_nb : ∀ (j : Nat) (v : Int), 0 ≤ v → v < 256 ^ j → nb 0 (By j v) = v
  | 0, v => by intro h0 h1; simp [By, nb] at *; omega
  | j + 1, v => by
    intro h0 h1
    have h2 : v / 256 < 256 ^ j := by
      rw [Int.pow_succ] at h1
      exact Int.ediv_lt_of_lt_mul (by omega) h1
    rw [By, nb_snoc, By_nb j (v / 256) (by omega) h2]
    omega
theorem put_l0 : ∀ (j : Nat) (k : Nat) (v : Int) (acc : List Int), j < k → j ≤ acc.length → j ≤ 7 → impl_put.l0 k v acc ((j : Int) - 1) = some (By j v ++ acc.drop j)
  | 0, k, v, acc => by
    intro hk _ _
    obtain ⟨k, rfl⟩ : ∃ m, k = m + 1 := ⟨k - 1, by omega⟩
    simp [impl_put.l0, By]
  | j + 1, k, v, acc => by
    intro hk hj h7
    obtain ⟨k, rfl⟩ : ∃ m, k = m + 1 := ⟨k - 1, by omega⟩
    have ih := put_l0 j k (v / 256) (acc.set j (v % 256)) (by omega) (by simp; omega) (by omega)
    have e : (((j + 1 : Nat) : Int) - 1) = (j : Int) := by omega
    simp only [impl_put.l0]
    rw [e, if_pos (by omega), if_pos (by omega), if_pos (by omega), Int.toNat_natCast, w64' (by omega) (by omega), ih]
    have hd : (acc.set j (v % 256)).drop j = v % 256 :: acc.drop (j + 1) := by
      rw [List.drop_eq_getElem_cons (by simp; omega), List.getElem_set_self, List.drop_set_of_lt (by omega)]
    rw [hd, By, List.append_assoc]; rfl
theorem put_ev (v : Int) (j : Nat) (hj : j ≤ 7) : Ev (fun k => impl_put.f k v (j : Int)) (By j v) := by
  refine ⟨j + 1, fun k hk => ?_⟩
  unfold impl_put.f
  have := put_l0 j k v (List.replicate j 0) (by omega) (by simp) (by omega)
  dsimp only
  rw [if_pos (by omega), Int.toNat_natCast, if_pos (by omega), w64' (by omega) (by omega)]
  simpa using this
theorem By_of_nb : ∀ (n : Nat) (x : List Int), x.length = n → (∀ y ∈ x, 0 ≤ y ∧ y ≤ 255) → By n (nb 0 x) = x
  | 0, x, h, _ => by rw [List.length_eq_zero_iff.1 h]; rfl
  | n + 1, x, h, hb => by
    have hne : x ≠ [] := by intro e; rw [e] at h; simp at h
    have hx := List.dropLast_concat_getLast hne
    have hb1 := hb _ (List.getLast_mem hne)
    have hl : x.dropLast.length = n := by simp [h]
    have ih := By_of_nb n x.dropLast hl (fun y hy => hb y (List.dropLast_subset _ hy))
    generalize x.dropLast = y at hx hl ih
    generalize x.getLast hne = b at hx hb1
    subst hx
    rw [nb_snoc, By, show (nb 0 y * 256 + b) / 256 = nb 0 y by omega, show (nb 0 y * 256 + b) % 256 = b by omega, ih]
theorem text_inj : ∀ (x y : List Int), (∀ z ∈ x, 0 ≤ z ∧ z ≤ 255) → (∀ z ∈ y, 0 ≤ z ∧ z ≤ 255) → (x.map fun n => UInt8.ofNat n.toNat) = (y.map fun n => UInt8.ofNat n.toNat) → x = y
  | [], [], _, _, _ => rfl
  | [], _ :: _, _, _, h => by simp at h
  | _ :: _, [], _, _, h => by simp at h
  | a :: x, b :: y, hx, hy, h => by
    simp only [List.map_cons, List.cons.injEq] at h
    have h1 := hx a List.mem_cons_self
    have h2 := hy b List.mem_cons_self
    have h3 := congrArg UInt8.toNat h.1
    rw [UInt8.toNat_ofNat_of_lt' (by show a.toNat < 256; omega), UInt8.toNat_ofNat_of_lt' (by show b.toNat < 256; omega)] at h3
    rw [text_inj x y (fun z hz => hx z (List.mem_cons_of_mem _ hz)) (fun z hz => hy z (List.mem_cons_of_mem _ hz)) h.2, show a = b by omega]
theorem text_eq (x y : List Int) (hx : ∀ z ∈ x, 0 ≤ z ∧ z ≤ 255) (hy : ∀ z ∈ y, 0 ≤ z ∧ z ≤ 255) : ((strOfNums x).toList == (strOfNums y).toList) = decide (x = y) := by
  rw [strOfNums_toList, strOfNums_toList]
  by_cases h : x = y
  · rw [h]; simp
  · rw [decide_eq_false h]
    have : ¬ bytesOf x = bytesOf y := fun e => h (text_inj x y hx hy e)
    simpa using this
end Go.Proofs.Ytidejdfbapjfiaa.Pure
set_option linter.unusedVariables false
set_option linter.unusedSimpArgs false
namespace Go.Proofs.Ytidejdfbapjfiaa.Pure
open Go Go.RowKit Go.Proofs.Ytidejdfbapjfiaa.G Go.Proofs.YtidejdfbapjfiaaW.PrintWords Go.Proofs.YtidejdfbapjfiaaW.PrintLast Go.Proofs.YtidejdfbapjfiaaW.PrintMore
def DF (l : List Int) : Int × Int × Int × Int × Int × List Int :=
  if (16 ≤ l.length ∧ l.length ≤ 316) ∧ rd l 0 = 32 ∧ (1 ≤ rd l 1 ∧ rd l 1 ≤ 9) ∧ nb 0 ((l.drop 14).take 2) = (l.length : Int) - 16 then
    (0, rd l 1, nb 0 ((l.drop 2).take 4), nb 0 ((l.drop 6).take 4), nb 0 ((l.drop 10).take 4), l.drop 16) else (5, 0, 0, 0, 0, [])
theorem rd_b {l : List Int} (hb : ∀ x ∈ l, 0 ≤ x ∧ x ≤ 255) (i : Nat) : 0 ≤ rd l (i : Int) ∧ rd l (i : Int) ≤ 255 := by
  by_cases h : i < l.length
  · exact rd_mem hb h
  · rw [rd_nat]; simp [List.getD, List.getElem?_eq_none (show l.length ≤ i by omega)]
theorem part_b {l : List Int} (hb : ∀ x ∈ l, 0 ≤ x ∧ x ≤ 255) (a n : Nat) : ∀ x ∈ (l.drop a).take n, 0 ≤ x ∧ x ≤ 255 := fun x hx => hb x (List.mem_of_mem_drop (List.mem_of_mem_take hx))
theorem nb4 {l : List Int} (hb : ∀ x ∈ l, 0 ≤ x ∧ x ≤ 255) (a : Nat) (h : a + 4 ≤ l.length) : 0 ≤ nb 0 ((l.drop a).take 4) ∧ nb 0 ((l.drop a).take 4) ≤ 4294967295 := by
  have h1 := nb_bound _ (part_b hb a 4) 0 (by omega)
  have h2 : ((l.drop a).take 4).length = 4 := by simp; omega
  rw [h2] at h1
  omega
theorem df_spec (l : List Int) (hb : ∀ x ∈ l, 0 ≤ x ∧ x ≤ 255) (hl : l.length ≤ 1048576) : Ev (fun k => spec_DecodeFrame.f k l) (DF l) := by
  have bad : Ev (fun k => spec_DecodeFrame.j0 k l true) (5, 0, 0, 0, 0, []) := by
    refine ev_succ ?_
    simp only [spec_DecodeFrame.j0, if_true]; exact Ev.now _
  unfold spec_DecodeFrame.f DF
  simp only [in_spec', Option.bind_some, decide_eq_true_eq]
  by_cases h1 : 16 ≤ l.length ∧ l.length ≤ 316
  · have r0 : 0 ≤ rd l 0 ∧ rd l 0 ≤ 255 := rd_b hb 0
    have r1 : 0 ≤ rd l 1 ∧ rd l 1 ≤ 255 := rd_b hb 1
    simp only [h1, show (16 : Int) ≤ (l.length : Int) ∧ (l.length : Int) ≤ 316 by omega, and_self, true_and, if_true, show 0 < (l.length : Int) by omega, show 1 < (l.length : Int) by omega]
    by_cases h2 : rd l 0 = 32
    · simp only [h2, if_true, true_and]
      rw [w64' (n := rd l 1) (by omega) (by omega)]
      by_cases h3 : 1 ≤ rd l 1 ∧ rd l 1 ≤ 9
      · simp only [h3, and_self, if_true, true_and]
        have e1 := spec_take_ev l hb (by omega) 14 2 (by omega) (by omega)
        refine Ev.bind e1 ?_
        rw [w64' (n := (l.length : Int) - 16) (by omega) (by omega)]
        by_cases h4 : nb 0 ((l.drop 14).take 2) = (l.length : Int) - 16
        · simp only [h4, if_true, bne_self_eq_false]
          refine ev_succ ?_
          simp only [spec_DecodeFrame.j0, Bool.false_eq_true, if_false, show 1 < (l.length : Int) by omega, if_true]
          have e2 := spec_take_ev l hb (by omega) 2 4 (by omega) (by omega)
          have e3 := spec_take_ev l hb (by omega) 6 4 (by omega) (by omega)
          have e4 := spec_take_ev l hb (by omega) 10 4 (by omega) (by omega)
          refine Ev.bind e2 (Ev.bind e3 (Ev.bind e4 ?_))
          simp only [Option.bind_some, show (16 : Int) ≤ (l.length : Int) by omega, if_true, List.length_nil, List.nil_append, List.length_drop, show 0 + (l.length - 16) < 140737488355328 by omega]
          rw [w64' (n := rd l 1) (by omega) (by omega)]
          exact Ev.now _
        · simp only [h4, if_false, show (nb 0 ((l.drop 14).take 2) != (l.length : Int) - 16) = true by simpa using h4]
          exact bad
      · simp only [h3, if_false, false_and]; exact bad
    · simp only [h2, if_false, false_and]; exact bad
  · simp only [h1, show ¬ ((16 : Int) ≤ (l.length : Int) ∧ (l.length : Int) ≤ 316) by omega, if_false, false_and]; exact bad
def enc (k a b d : Int) (p : List Int) : List Int := [32, k % 256] ++ (By 4 a ++ (By 4 b ++ (By 4 d ++ (By 2 (p.length : Int) ++ p))))
def EF (k a b d : Int) (p : List Int) : Int × List Int := if (1 ≤ k ∧ k ≤ 9) ∧ (0 ≤ a ∧ a ≤ 4294967295) ∧ (0 ≤ b ∧ b ≤ 4294967295) ∧ (0 ≤ d ∧ d ≤ 4294967295) then (if p.length ≤ 300 then (0, enc k a b d p) else (2, [])) else (3, [])
theorem ef_impl (k a b d : Int) (p : List Int) : Ev (fun n => impl_EncodeFrame.f n k a b d p) (EF k a b d p) := by
  have bad : Ev (fun n => impl_EncodeFrame.j0 n k a b d p true) (3, []) := by
    refine ev_succ ?_
    simp only [impl_EncodeFrame.j0, if_true]; exact Ev.now _
  unfold impl_EncodeFrame.f EF
  simp only [in_impl', impl_isWord.f, Option.bind_some, decide_eq_true_eq]
  by_cases h1 : 1 ≤ k ∧ k ≤ 9
  · by_cases h2 : 0 ≤ a ∧ a ≤ 4294967295
    · by_cases h3 : 0 ≤ b ∧ b ≤ 4294967295
      · by_cases h4 : 0 ≤ d ∧ d ≤ 4294967295
        · simp only [h1, h2, h3, h4, and_self, if_true, decide_true, Bool.not_true]
          refine ev_succ ?_
          simp only [impl_EncodeFrame.j0, Bool.false_eq_true, if_false]
          by_cases h5 : p.length ≤ 300
          · simp only [h5, if_true, show ¬ (p.length : Int) > 300 by omega, if_false]
            have e1 := put_ev a 4 (by omega)
            have e2 := put_ev b 4 (by omega)
            have e3 := put_ev d 4 (by omega)
            have e4 := put_ev (p.length : Int) 2 (by omega)
            refine Ev.bind e1 (Ev.bind e2 (Ev.bind e3 (Ev.bind e4 ?_)))
            have hf : (([(([32, k % 256] : List Int)), By 4 a, By 4 b, By 4 d, By 2 (p.length : Int), p] : List (List Int))).flatten = enc k a b d p := by simp [enc]
            have hn : (enc k a b d p).length * 1 ≤ 140737488355328 := by simp [enc, By_length]; omega
            simp only [slices_Concat_byte_byte.f, hf, hn, if_true, Option.bind_some]
            exact Ev.now _
          · simp only [h5, if_false, show (p.length : Int) > 300 by omega, if_true]; exact Ev.now _
        · simp only [h1, h2, h3, h4, and_self, if_true, if_false, decide_false, Bool.not_false, and_false]; exact bad
      · simp only [h1, h2, h3, and_self, if_true, if_false, and_false, false_and]; exact bad
    · simp only [h1, h2, and_self, if_true, if_false, and_false, false_and]; exact bad
  · simp only [h1, if_false, false_and]; exact bad
theorem split6 (l : List Int) : l = l.take 2 ++ ((l.drop 2).take 4 ++ ((l.drop 6).take 4 ++ ((l.drop 10).take 4 ++ ((l.drop 14).take 2 ++ l.drop 16)))) := by
  have e : ∀ a n : Nat, (l.drop a).take n ++ l.drop (a + n) = l.drop a := by
    intro a n
    have := List.take_append_drop n (l.drop a)
    rwa [List.drop_drop] at this
  have e0 := List.take_append_drop 2 l
  rw [e 14 2, e 10 4, e 6 4, e 2 4, e0]
theorem enc_iff (l : List Int) (hb : ∀ x ∈ l, 0 ≤ x ∧ x ≤ 255) (h16 : 16 ≤ l.length) (hl : l.length ≤ 316) :
    enc (rd l 1) (nb 0 ((l.drop 2).take 4)) (nb 0 ((l.drop 6).take 4)) (nb 0 ((l.drop 10).take 4)) (l.drop 16) = l ↔ rd l 0 = 32 ∧ nb 0 ((l.drop 14).take 2) = (l.length : Int) - 16 := by
  have r0 : 0 ≤ rd l 0 ∧ rd l 0 ≤ 255 := rd_b hb 0
  have r1 : 0 ≤ rd l 1 ∧ rd l 1 ≤ 255 := rd_b hb 1
  have t2 : l.take 2 = [rd l 0, rd l 1] := by
    have e1 := take_snoc_rd l 1 (by omega)
    have e0 := take_snoc_rd l 0 (by omega)
    simp only [List.take_zero, List.nil_append, Nat.zero_add] at e0
    rw [show (2 : Nat) = 1 + 1 from rfl, e1, e0]; rfl
  have b4 : ∀ a : Nat, a + 4 ≤ l.length → By 4 (nb 0 ((l.drop a).take 4)) = (l.drop a).take 4 := fun a ha => By_of_nb 4 _ (by simp; omega) (part_b hb a 4)
  have hn : ((l.drop 16).length : Int) = (l.length : Int) - 16 := by simp; omega
  unfold enc
  rw [b4 2 (by omega), b4 6 (by omega), b4 10 (by omega), hn, show rd l 1 % 256 = rd l 1 from Int.emod_eq_of_lt (by omega) (by omega)]
  have hx : ((l.drop 14).take 2).length = 2 := by simp; omega
  constructor
  · intro h
    have h' := h.trans (split6 l)
    rw [t2] at h'
    obtain ⟨g1, g2⟩ := List.append_inj h' rfl
    have g3 := List.append_cancel_left g2
    have g4 := List.append_cancel_left g3
    have g5 := List.append_cancel_left g4
    have g6 := List.append_cancel_right g5
    simp only [List.cons.injEq, and_true] at g1
    refine ⟨g1.symm, ?_⟩
    rw [← g6]
    exact By_nb 2 _ (by omega) (by omega)
  · rintro ⟨g1, g2⟩
    have g3 : By 2 ((l.length : Int) - 16) = (l.drop 14).take 2 := by rw [← g2]; exact By_of_nb 2 _ hx (part_b hb 14 2)
    have h := split6 l
    rw [t2, g1] at h
    rw [g3]; exact h.symm
theorem enc_b (k a b d : Int) (p : List Int) (hp : ∀ x ∈ p, 0 ≤ x ∧ x ≤ 255) : ∀ x ∈ enc k a b d p, 0 ≤ x ∧ x ≤ 255 := by
  intro x hx
  simp only [enc, List.mem_append, List.mem_cons, List.not_mem_nil, or_false] at hx
  rcases hx with (rfl | rfl) | hx | hx | hx | hx | hx
  · omega
  · omega
  · exact By_byte _ _ x hx
  · exact By_byte _ _ x hx
  · exact By_byte _ _ x hx
  · exact By_byte _ _ x hx
  · exact hp x hx
theorem df_impl (l : List Int) (hb : ∀ x ∈ l, 0 ≤ x ∧ x ≤ 255) (hl : l.length ≤ 1048576) : Ev (fun k => impl_DecodeFrame.f k l) (DF l) := by
  unfold impl_DecodeFrame.f DF
  by_cases h16 : (l.length : Int) < 16
  · simp only [h16, if_true, show ¬ (16 ≤ l.length ∧ l.length ≤ 316) by omega, false_and, if_false]; exact Ev.now _
  simp only [h16, if_false, show 1 < (l.length : Int) by omega, show (6 : Int) ≤ (l.length : Int) by omega, show (10 : Int) ≤ (l.length : Int) by omega, show (14 : Int) ≤ (l.length : Int) by omega, show (16 : Int) ≤ (l.length : Int) by omega, show (2 : Int) ≤ 6 by omega, show (6 : Int) ≤ 10 by omega, show (10 : Int) ≤ 14 by omega, if_true]
  have r1 : 0 ≤ rd l 1 ∧ rd l 1 ≤ 255 := rd_b hb 1
  have cut : ∀ a n : Nat, (l.take (a + n)).drop a = (l.drop a).take n := fun a n => by rw [List.drop_take, Nat.add_sub_cancel_left]
  have c1 := cut 2 4
  have c2 := cut 6 4
  have c3 := cut 10 4
  rw [show 2 + 4 = 6 from rfl] at c1
  rw [show 6 + 4 = 10 from rfl] at c2
  rw [show 10 + 4 = 14 from rfl] at c3
  rw [c1, c2, c3, w64' (n := rd l 1) (by omega) (by omega)]
  have i1 := impl_take_ev ((l.drop 2).take 4) (part_b hb 2 4) (by simp; omega)
  have i2 := impl_take_ev ((l.drop 6).take 4) (part_b hb 6 4) (by simp; omega)
  have i3 := impl_take_ev ((l.drop 10).take 4) (part_b hb 10 4) (by simp; omega)
  refine Ev.bind i1 (Ev.bind i2 (Ev.bind i3 ?_))
  simp only [slices_Clone_byte_byte.f, show (l.drop 16).length * 1 ≤ 140737488355328 by simp; omega, if_true, Option.bind_some]
  refine Ev.bind (ef_impl _ _ _ _ _) ?_
  have n1 := nb4 hb 2 (by omega)
  have n2 := nb4 hb 6 (by omega)
  have n3 := nb4 hb 10 (by omega)
  by_cases h1 : 1 ≤ rd l 1 ∧ rd l 1 ≤ 9
  · by_cases h2 : l.length ≤ 316
    · have he : EF (rd l 1) (nb 0 ((l.drop 2).take 4)) (nb 0 ((l.drop 6).take 4)) (nb 0 ((l.drop 10).take 4)) (l.drop 16) = (0, enc (rd l 1) (nb 0 ((l.drop 2).take 4)) (nb 0 ((l.drop 6).take 4)) (nb 0 ((l.drop 10).take 4)) (l.drop 16)) := by
        unfold EF
        rw [if_pos ⟨h1, n1, n2, n3⟩, if_pos (by simp; omega)]
      have hi := enc_iff l hb (by omega) h2
      simp only [he, if_true, bytes_Equal.f, Option.bind_some]
      rw [text_eq _ _ (enc_b _ _ _ _ _ (fun x hx => hb x (List.mem_of_mem_drop hx))) hb]
      by_cases h3 : rd l 0 = 32 ∧ nb 0 ((l.drop 14).take 2) = (l.length : Int) - 16
      · have h4 := hi.2 h3
        simp only [h4, decide_true, if_true, h1, h3, show 16 ≤ l.length ∧ l.length ≤ 316 by omega, and_self]; exact Ev.now _
      · have h4 : ¬ _ := fun e => h3 (hi.1 e)
        have hc : ¬ ((16 ≤ l.length ∧ l.length ≤ 316) ∧ rd l 0 = 32 ∧ (1 ≤ rd l 1 ∧ rd l 1 ≤ 9) ∧ nb 0 ((l.drop 14).take 2) = (l.length : Int) - 16) := fun c => h3 ⟨c.2.1, c.2.2.2⟩
        rw [if_neg hc]
        simp only [decide_eq_false h4, Bool.false_eq_true, if_false]; exact Ev.now _
    · have he : EF (rd l 1) (nb 0 ((l.drop 2).take 4)) (nb 0 ((l.drop 6).take 4)) (nb 0 ((l.drop 10).take 4)) (l.drop 16) = (2, []) := by
        unfold EF
        rw [if_pos ⟨h1, n1, n2, n3⟩, if_neg (by simp; omega)]
      have hc : ¬ ((16 ≤ l.length ∧ l.length ≤ 316) ∧ rd l 0 = 32 ∧ (1 ≤ rd l 1 ∧ rd l 1 ≤ 9) ∧ nb 0 ((l.drop 14).take 2) = (l.length : Int) - 16) := fun c => h2 c.1.2
      rw [he, if_neg hc]
      simp only [show ¬ (2 : Int) = 0 by omega, if_false]; exact Ev.now _
  · have he : EF (rd l 1) (nb 0 ((l.drop 2).take 4)) (nb 0 ((l.drop 6).take 4)) (nb 0 ((l.drop 10).take 4)) (l.drop 16) = (3, []) := by
      unfold EF
      rw [if_neg (fun c => h1 c.1)]
    have hc : ¬ ((16 ≤ l.length ∧ l.length ≤ 316) ∧ rd l 0 = 32 ∧ (1 ≤ rd l 1 ∧ rd l 1 ≤ 9) ∧ nb 0 ((l.drop 14).take 2) = (l.length : Int) - 16) := fun c => h1 c.2.2.1
    rw [he, if_neg hc]
    simp only [show ¬ (3 : Int) = 0 by omega, if_false]; exact Ev.now _
end Go.Proofs.Ytidejdfbapjfiaa.Pure
set_option linter.unusedVariables false
set_option linter.unusedSimpArgs false
namespace Go.Proofs.Ytidejdfbapjfiaa.Pure
open Go Go.RowKit Go.Proofs.Ytidejdfbapjfiaa.G Go.Proofs.YtidejdfbapjfiaaW.PrintWords Go.Proofs.YtidejdfbapjfiaaW.PrintLast Go.Proofs.YtidejdfbapjfiaaW.PrintMore
theorem By_head : ∀ (j : Nat) (v : Int), By (j + 1) v = v / 256 ^ j % 256 :: By j v
  | 0, v => by simp [By]
  | j + 1, v => by
    rw [By, By_head j (v / 256), By]
    have : v / 256 / 256 ^ j = v / 256 ^ (j + 1) := by
      rw [Int.ediv_ediv_of_nonneg (by omega), Int.pow_succ, Int.mul_comm]
    rw [this]; rfl
theorem shr8 (v : Int) (j : Nat) (h : j ≤ 7) : 0 ≤ IntKind.u64.wrap (wrap64 (8 * (j : Int))) ∧ shr .i64 v (IntKind.u64.wrap (wrap64 (8 * (j : Int)))) = v / 256 ^ j := by
  have h8 : j = 0 ∨ j = 1 ∨ j = 2 ∨ j = 3 ∨ j = 4 ∨ j = 5 ∨ j = 6 ∨ j = 7 := by omega
  have hw : IntKind.u64.wrap (wrap64 (8 * (j : Int))) = 8 * (j : Int) := by
    rw [w64' (by omega) (by omega)]
    simp [IntKind.wrap, IntKind.signed, IntKind.bits]
    omega
  refine ⟨by omega, ?_⟩
  rw [hw]
  rcases h8 with rfl | rfl | rfl | rfl | rfl | rfl | rfl | rfl <;> rfl
theorem bytes_l0 (v : Int) : ∀ (j k : Nat) (acc : List Int), j < k → j ≤ 8 → acc.length + j ≤ 1000 → spec_l1Bytes.l0 k v acc ((j : Int) - 1) = some (acc ++ By j v)
  | 0, k, acc => by
    intro hk _ _
    obtain ⟨k, rfl⟩ : ∃ m, k = m + 1 := ⟨k - 1, by omega⟩
    simp [spec_l1Bytes.l0, By]
  | j + 1, k, acc => by
    intro hk h8 ha
    obtain ⟨k, rfl⟩ : ∃ m, k = m + 1 := ⟨k - 1, by omega⟩
    have e : (((j + 1 : Nat) : Int) - 1) = (j : Int) := by omega
    have hs := shr8 v j (by omega)
    simp only [spec_l1Bytes.l0]
    rw [e, if_pos (by omega), if_pos hs.1, if_pos (by omega), hs.2, w64' (by omega) (by omega), bytes_l0 v j k _ (by omega) (by omega) (by simp; omega), By_head]
    simp
theorem bytes_ev (v : Int) (j : Nat) (hj : j ≤ 8) : Ev (fun k => spec_l1Bytes.f k v (j : Int)) (By j v) := by
  refine ⟨j + 1, fun k hk => ?_⟩
  unfold spec_l1Bytes.f
  rw [w64' (by omega) (by omega)]
  exact bytes_l0 v j k [] (by omega) hj (by simp; omega)
theorem ef_spec (k a b d : Int) (p : List Int) : Ev (fun n => spec_EncodeFrame.f n k a b d p) (EF k a b d p) := by
  have bad : Ev (fun n => spec_EncodeFrame.j0 n k a b d p true) (3, []) := by
    refine ev_succ ?_
    simp only [spec_EncodeFrame.j0, if_true]; exact Ev.now _
  have hW : ∀ x : Int, spec_l7Word.f x = some (decide (0 ≤ x ∧ x ≤ 4294967295)) := by
    intro x
    unfold spec_l7Word.f
    simp only [in_spec', Option.bind_some]
  unfold spec_EncodeFrame.f EF
  simp only [in_spec', hW, Option.bind_some, decide_eq_true_eq]
  by_cases h1 : 1 ≤ k ∧ k ≤ 9
  · by_cases h2 : 0 ≤ a ∧ a ≤ 4294967295
    · by_cases h3 : 0 ≤ b ∧ b ≤ 4294967295
      · by_cases h4 : 0 ≤ d ∧ d ≤ 4294967295
        · simp only [h1, h2, h3, h4, and_self, if_true, decide_true, Bool.not_true]
          refine ev_succ ?_
          simp only [spec_EncodeFrame.j0, Bool.false_eq_true, if_false]
          by_cases h5 : p.length ≤ 300
          · simp only [h5, if_true, show ¬ (p.length : Int) > 300 by omega, if_false, Option.bind_some]
            have e1 := bytes_ev a 4 (by omega)
            have e2 := bytes_ev b 4 (by omega)
            have e3 := bytes_ev d 4 (by omega)
            have e4 := bytes_ev (p.length : Int) 2 (by omega)
            refine Ev.bind e1 ?_
            simp only [By_length, List.length_append, List.length_cons, List.length_nil, show 0 + 1 + 1 + 4 < 140737488355328 by omega, if_true]
            refine Ev.bind e2 ?_
            simp only [By_length, List.length_append, List.length_cons, List.length_nil, show 0 + 1 + 1 + 4 + 4 < 140737488355328 by omega, if_true]
            refine Ev.bind e3 ?_
            simp only [By_length, List.length_append, List.length_cons, List.length_nil, show 0 + 1 + 1 + 4 + 4 + 4 < 140737488355328 by omega, if_true]
            refine Ev.bind e4 ?_
            simp only [By_length, List.length_append, List.length_cons, List.length_nil, show 0 + 1 + 1 + 4 + 4 + 4 + 2 < 140737488355328 by omega, show 0 + 1 + 1 + 4 + 4 + 4 + 2 + p.length < 140737488355328 by omega, if_true]
            have hf : [32, k % 256] ++ By 4 a ++ By 4 b ++ By 4 d ++ By 2 (p.length : Int) ++ p = enc k a b d p := by simp [enc]
            rw [hf]
            exact Ev.now _
          · simp only [h5, if_false, show (p.length : Int) > 300 by omega, if_true]; exact Ev.now _
        · simp only [h1, h2, h3, h4, and_self, if_true, if_false, decide_false, Bool.not_false, and_false]; exact bad
      · simp only [h1, h2, h3, and_self, if_true, if_false, and_false, false_and]; exact bad
    · simp only [h1, h2, and_self, if_true, if_false, and_false, false_and]; exact bad
  · simp only [h1, if_false, false_and]; exact bad
theorem enc_length (k a b d : Int) (p : List Int) : (enc k a b d p).length = 16 + p.length := by
  simp [enc, By_length]; omega
theorem DF_enc (k a b d : Int) (p : List Int) (h1 : 1 ≤ k ∧ k ≤ 9) (h2 : 0 ≤ a ∧ a ≤ 4294967295) (h3 : 0 ≤ b ∧ b ≤ 4294967295) (h4 : 0 ≤ d ∧ d ≤ 4294967295) (h5 : p.length ≤ 300) : DF (enc k a b d p) = (0, k, a, b, d, p) := by
  have hk : k % 256 = k := Int.emod_eq_of_lt (by omega) (by omega)
  have hl := enc_length k a b d p
  have r0 : rd (enc k a b d p) 0 = 32 := rfl
  have r1 : rd (enc k a b d p) 1 = k := by show k % 256 = k; exact hk
  have d2 : (enc k a b d p).drop 2 = By 4 a ++ (By 4 b ++ (By 4 d ++ (By 2 (p.length : Int) ++ p))) := rfl
  have d6 : (enc k a b d p).drop 6 = By 4 b ++ (By 4 d ++ (By 2 (p.length : Int) ++ p)) := by
    rw [show (6 : Nat) = 2 + 4 from rfl, ← List.drop_drop, d2, List.drop_left' (By_length 4 a)]
  have d10 : (enc k a b d p).drop 10 = By 4 d ++ (By 2 (p.length : Int) ++ p) := by
    rw [show (10 : Nat) = 6 + 4 from rfl, ← List.drop_drop, d6, List.drop_left' (By_length 4 b)]
  have d14 : (enc k a b d p).drop 14 = By 2 (p.length : Int) ++ p := by
    rw [show (14 : Nat) = 10 + 4 from rfl, ← List.drop_drop, d10, List.drop_left' (By_length 4 d)]
  have d16 : (enc k a b d p).drop 16 = p := by
    rw [show (16 : Nat) = 14 + 2 from rfl, ← List.drop_drop, d14, List.drop_left' (By_length 2 _)]
  unfold DF
  rw [r0, r1, d2, d6, d10, d14, d16, List.take_left' (By_length 4 a), List.take_left' (By_length 4 b), List.take_left' (By_length 4 d), List.take_left' (By_length 2 _), By_nb 4 a h2.1 (by omega), By_nb 4 b h3.1 (by omega), By_nb 4 d h4.1 (by omega), By_nb 2 (p.length : Int) (by omega) (by omega), hl]
  rw [if_pos ⟨by omega, rfl, h1, by omega⟩]
end Go.Proofs.Ytidejdfbapjfiaa.Pure
set_option linter.unusedVariables false
set_option linter.unusedSimpArgs false
namespace Go.Proofs.Ytidejdfbapjfiaa.Pure
open Go.RowKit Go.Proofs.Ytidejdfbapjfiaa.G Go.Proofs.YtidejdfbapjfiaaW.PrintWords Go.Proofs.YtidejdfbapjfiaaW.PrintLast Go.Proofs.YtidejdfbapjfiaaW.PrintMore
theorem w64d {n : Int} (h0 : 0 ≤ n) (h1 : n ≤ 9223372036854775807) : wrap64 n = n := by unfold wrap64; omega
theorem rd_byte {l : List Int} (hb : ∀ x ∈ l, 0 ≤ x ∧ x ≤ 255) (i : Int) : 0 ≤ rd l i ∧ rd l i ≤ 255 := by
  unfold rd
  simp only [List.getD]
  cases h : l[i.toNat]? with
  | none => simp
  | some x => simpa using hb x (List.mem_of_getElem? h)
theorem next_ok (l : List Int) (hb : ∀ x ∈ l, 0 ≤ x ∧ x ≤ 255) (hl : l.length ≤ 1048576) (s a : Int) (s0 : 0 ≤ s) (s1 : s ≤ 1000000000000) (ha : 1 ≤ a) : ∃ r, spec_l1Next.f l s a = some (r, s + 1) ∧ 0 ≤ r ∧ r < a := by
  unfold spec_l1Next.f
  have e1 : wrap64 (s + 1) = s + 1 := w64d (by omega) (by omega)
  have e2 : wrap64 (s + 1 - 1) = s := by rw [w64d (by omega) (by omega)]; omega
  rw [if_neg (by omega), e1, e2]
  by_cases h0 : (l.length : Int) = 0
  · rw [if_pos h0, if_neg (by omega), w64d (by omega) (by omega)]
    exact ⟨_, rfl, Int.tmod_nonneg _ (by omega), Int.tmod_lt_of_pos _ (by omega)⟩
  rw [if_neg h0]
  have m0 := Int.tmod_nonneg (l.length : Int) (show 0 ≤ s by omega)
  have m1 := Int.tmod_lt_of_pos s (show 0 < (l.length : Int) by omega)
  have d0 : 0 ≤ s.tdiv (l.length : Int) := Int.tdiv_nonneg s0 (by omega)
  have d1 : s.tdiv (l.length : Int) ≤ s := by
    rw [Int.tdiv_eq_ediv_of_nonneg s0]; exact Int.ediv_le_self _ s0
  have r0 := rd_byte hb (s.tmod (l.length : Int))
  generalize rd l (s.tmod (l.length : Int)) = x at r0 ⊢
  rw [if_pos m0, if_pos m1]
  have f1 : wrap64 x = x := w64d r0.1 (by omega)
  have f2 : wrap64 (s.tdiv (l.length : Int)) = s.tdiv (l.length : Int) := w64d d0 (by omega)
  generalize s.tdiv (l.length : Int) = q at d0 d1 f2 ⊢
  have f3 : wrap64 (q * 37) = q * 37 := w64d (by omega) (by omega)
  have f4 : wrap64 (x + q * 37) = x + q * 37 := w64d (by omega) (by omega)
  rw [f1, f2, f3, f4]
  by_cases h2 : a > 200
  · rw [if_pos h2]
    try simp only [e1]
    have g0 : 0 ≤ (wrap64 (s + 1)).tmod (l.length : Int) := Int.tmod_nonneg _ (by rw [e1]; omega)
    have g1 : (wrap64 (s + 1)).tmod (l.length : Int) < (l.length : Int) := Int.tmod_lt_of_pos _ (by omega)
    have y0 := rd_byte hb ((wrap64 (s + 1)).tmod (l.length : Int))
    rw [e1] at g0 g1 y0
    generalize rd l ((s + 1).tmod (l.length : Int)) = y at y0 ⊢
    rw [if_pos g0, if_pos g1, if_neg (by omega)]
    have f5 : wrap64 y = y := w64d y0.1 (by omega)
    have f6 : wrap64 (y * 13) = y * 13 := w64d (by omega) (by omega)
    have f7 : wrap64 ((x + q * 37) * 251) = (x + q * 37) * 251 := w64d (by omega) (by omega)
    have f8 : wrap64 ((x + q * 37) * 251 + y * 13) = (x + q * 37) * 251 + y * 13 := w64d (by omega) (by omega)
    have f9 : wrap64 ((x + q * 37) * 251 + y * 13 + s) = (x + q * 37) * 251 + y * 13 + s := w64d (by omega) (by omega)
    rw [f5, f6, f7, f8, f9]
    exact ⟨_, rfl, Int.tmod_nonneg _ (by omega), Int.tmod_lt_of_pos _ (by omega)⟩
  · rw [if_neg h2, if_neg (by omega)]
    exact ⟨_, rfl, Int.tmod_nonneg _ (by omega), Int.tmod_lt_of_pos _ (by omega)⟩
theorem pick_ok (l : List Int) (hb : ∀ x ∈ l, 0 ≤ x ∧ x ≤ 255) (hl : l.length ≤ 1048576) (s : Int) (L : List Int) (s0 : 0 ≤ s) (s1 : s ≤ 1000000000000) (hL : 1 ≤ L.length) : ∃ x, x ∈ L ∧ spec_l1Pick.f l s L = some (x, s + 1) := by
  obtain ⟨r, h, r0, r1⟩ := next_ok l hb hl s (L.length : Int) s0 s1 (by omega)
  obtain ⟨n, rfl⟩ := Int.eq_ofNat_of_zero_le r0
  have hn : n < L.length := by omega
  refine ⟨L[n], List.getElem_mem hn, ?_⟩
  unfold spec_l1Pick.f
  rw [h]; simp only [Option.bind_some]
  rw [if_pos r0, if_pos r1]
  have : rd L (n : Int) = L[n] := by simp [rd, List.getD, List.getElem?_eq_getElem hn]
  rw [this]
end Go.Proofs.Ytidejdfbapjfiaa.Pure
set_option linter.unusedVariables false
set_option linter.unusedSimpArgs false
namespace Go.Proofs.Ytidejdfbapjfiaa.Pure
open Go Go.RowKit Go.Proofs.Ytidejdfbapjfiaa.G Go.Proofs.YtidejdfbapjfiaaW.PrintWords Go.Proofs.YtidejdfbapjfiaaW.PrintLast Go.Proofs.YtidejdfbapjfiaaW.PrintMore
def Bs (l : List Int) : Prop := ∀ x ∈ l, 0 ≤ x ∧ x ≤ 255
theorem some_l0 (l : List Int) (hb : Bs l) (hl : l.length ≤ 1048576) (d : Nat) (hd : d ≤ 1000) : ∀ (acc : List Int) (s : Int), Bs acc → acc.length + d ≤ 1000 → 0 ≤ s → s + 3 * d ≤ 1000000 →
    ∃ r, Ev (fun k => spec_l1Some.l0 k d acc l s) r ∧ Bs r.1 ∧ r.1.length = acc.length + d ∧ r.2 = s + 3 * d := by
  induction d with
  | zero =>
    intro acc s ha hal s0 s1
    refine ⟨(acc, s), ev_succ ?_, ha, by simp, by simp⟩
    simp only [spec_l1Some.l0, show ¬ ((0 : Nat) : Int) > 0 by omega, if_false]; exact Ev.now _
  | succ d ih =>
    intro acc s ha hal s0 s1
    obtain ⟨x, ex, x0, x1⟩ := next_ok l hb hl s 256 s0 (by omega) (by omega)
    obtain ⟨y, ey, y0, y1⟩ := next_ok l hb hl (s + 1) 256 (by omega) (by omega) (by omega)
    obtain ⟨z, hz, ez⟩ := pick_ok l hb hl (s + 1 + 1) [x, y, 0, 255] (by omega) (by omega) (by simp)
    obtain ⟨r, er, r1, r2, r3⟩ := ih (by omega) (acc ++ [z % 256]) (s + 1 + 1 + 1) (by
      intro w hw
      simp only [List.mem_append, List.mem_singleton] at hw
      rcases hw with hw | rfl
      · exact ha w hw
      · omega) (by simp; omega) (by omega) (by omega)
    refine ⟨r, ev_succ ?_, r1, by rw [r2]; simp; omega, by rw [r3]; omega⟩
    have ed : wrap64 (((d + 1 : Nat) : Int) - 1) = (d : Int) := by rw [show ((d + 1 : Nat) : Int) - 1 = (d : Int) by omega]; exact w64d (by omega) (by omega)
    simp only [spec_l1Some.l0, show ((d + 1 : Nat) : Int) > 0 by omega, if_true, ex, ey, ez, Option.bind_some, show acc.length < 140737488355328 by omega, ed]
    exact er
theorem some_ok (l : List Int) (hb : Bs l) (hl : l.length ≤ 1048576) (s n : Int) (n0 : 0 ≤ n) (n1 : n ≤ 301) (s0 : 0 ≤ s) (s1 : s ≤ 1000) :
    ∃ r, Ev (fun k => spec_l1Some.f k l s n) r ∧ Bs r.1 ∧ (r.1.length : Int) = n ∧ 0 ≤ r.2 ∧ r.2 ≤ 2000 := by
  obtain ⟨m, rfl⟩ := Int.eq_ofNat_of_zero_le n0
  obtain ⟨r, er, h1, h2, h3⟩ := some_l0 l hb hl m (by omega) [] s (by intro x hx; cases hx) (by simp; omega) s0 (by omega)
  exact ⟨r, er, h1, by rw [h2]; simp, by omega, by omega⟩
theorem draw_dec (l : List Int) (hb : Bs l) (hl : l.length ≤ 1048576) : ∃ r, Ev (fun k => spec_DrawDecodeFrame.f k l) r ∧ Bs r ∧ r.length ≤ 1000 := by
  obtain ⟨k, ek, k0, k1⟩ := next_ok l hb hl 0 9 (by omega) (by omega) (by omega)
  obtain ⟨a, ea, a0, a1⟩ := next_ok l hb hl (0 + 1) 99 (by omega) (by omega) (by omega)
  obtain ⟨b, eb, b0, b1⟩ := next_ok l hb hl (0 + 1 + 1) 99 (by omega) (by omega) (by omega)
  obtain ⟨d, ed, d0, d1⟩ := next_ok l hb hl (0 + 1 + 1 + 1) 9 (by omega) (by omega) (by omega)
  obtain ⟨n, en, n0, n1⟩ := next_ok l hb hl (0 + 1 + 1 + 1 + 1) 9 (by omega) (by omega) (by omega)
  obtain ⟨m, hm, em⟩ := pick_ok l hb hl (0 + 1 + 1 + 1 + 1 + 1) [n, 300] (by omega) (by omega) (by simp)
  have hm' : 0 ≤ m ∧ m ≤ 300 := by
    simp only [List.mem_cons, List.not_mem_nil, or_false] at hm
    omega
  obtain ⟨p, ep, pb, pl, q0, q1⟩ := some_ok l hb hl (0 + 1 + 1 + 1 + 1 + 1 + 1) m hm'.1 (by omega) (by omega) (by omega)
  have hk : wrap64 (1 + k) = 1 + k := w64d (by omega) (by omega)
  have he := ef_spec (1 + k) a b d p.1
  have hE : EF (1 + k) a b d p.1 = (0, enc (1 + k) a b d p.1) := by
    unfold EF
    rw [if_pos ⟨by omega, by omega, by omega, by omega⟩, if_pos (by omega)]
  rw [hE] at he
  have hle := enc_length (1 + k) a b d p.1
  have hbe : Bs (enc (1 + k) a b d p.1) := enc_b _ _ _ _ _ pb
  generalize enc (1 + k) a b d p.1 = e at he hle hbe
  obtain ⟨c, ec, c0, c1⟩ := next_ok l hb hl p.2 2 q0 (by omega) (by omega)
  obtain ⟨i, ei, i0, i1⟩ := next_ok l hb hl (p.2 + 1) (e.length : Int) (by omega) (by omega) (by omega)
  obtain ⟨t, et, t0, t1⟩ := next_ok l hb hl (p.2 + 1 + 1) 3 (by omega) (by omega) (by omega)
  obtain ⟨v, ev, v0, v1⟩ := next_ok l hb hl (p.2 + 1 + 1 + 1) 256 (by omega) (by omega) (by omega)
  have pre : ∀ r, Ev (fun n => (if (c == 0) = true then ((if t = 0 then ((if 0 ≤ i then (if i < (e.length : Int) then (some (e.set (i : Int).toNat (v % 256))) else none) else none)) else (if t = 1 then (if 0 ≤ i then (if i ≤ (e.length : Int) then (some (e.take (i : Int).toNat)) else none) else none) else (if t = 2 then (if e.length < 140737488355328 then (some (e ++ [0])) else none) else some e)))) else some e : Option (List Int))) r → Ev (fun k => spec_DrawDecodeFrame.f k l) r := by
    intro r hr
    unfold spec_DrawDecodeFrame.f
    simp only [spec_l1Source.f, Option.bind_some, ek, ea, eb, ed, en, em]
    refine Ev.bind ep ?_
    simp only [hk]
    refine Ev.bind he ?_
    simp only [spec_l1Chance.f, ec, ei, et, ev, Option.bind_some]
    exact hr
  by_cases hc : (c == 0) = true
  · by_cases t0 : t = 0
    · refine ⟨e.set i.toNat (v % 256), pre _ ?_, ?_, by simp; omega⟩
      · simp only [hc, t0, i0, i1, if_true]; exact Ev.now _
      · intro x hx
        rcases List.mem_or_eq_of_mem_set hx with h | rfl
        · exact hbe x h
        · omega
    · by_cases t1 : t = 1
      · refine ⟨e.take i.toNat, pre _ ?_, fun x hx => hbe x (List.mem_of_mem_take hx), by simp; omega⟩
        simp only [hc, t1, i0, show i ≤ (e.length : Int) by omega, if_true, show ¬ (1 : Int) = 0 by omega, if_false]; exact Ev.now _
      · by_cases t2 : t = 2
        · refine ⟨e ++ [0], pre _ ?_, ?_, by simp; omega⟩
          · simp only [hc, t2, show e.length < 140737488355328 by omega, if_true, show ¬ (2 : Int) = 0 by omega, show ¬ (2 : Int) = 1 by omega, if_false]; exact Ev.now _
          · intro x hx
            simp only [List.mem_append, List.mem_singleton] at hx
            rcases hx with h | rfl
            · exact hbe x h
            · omega
        · refine ⟨e, pre _ ?_, hbe, by omega⟩
          simp only [hc, t0, t1, t2, if_true, if_false]; exact Ev.now _
  · refine ⟨e, pre _ ?_, hbe, by omega⟩
    simp only [hc, if_false]; exact Ev.now _
theorem draw_enc (l : List Int) (hb : Bs l) (hl : l.length ≤ 1048576) : ∃ k a b d p, Ev (fun n => spec_DrawEncodeFrame.f n l) (k, a, b, d, p) ∧ Bs p := by
  obtain ⟨n, en, n0, n1⟩ := next_ok l hb hl 0 9 (by omega) (by omega) (by omega)
  obtain ⟨m, hm, em⟩ := pick_ok l hb hl (0 + 1) [n, 0, 300, 301] (by omega) (by omega) (by simp)
  have hm' : 0 ≤ m ∧ m ≤ 301 := by
    simp only [List.mem_cons, List.not_mem_nil, or_false] at hm
    omega
  obtain ⟨k, _, ek⟩ := pick_ok l hb hl (0 + 1 + 1) [1, 2, 9, 0, 10] (by omega) (by omega) (by simp)
  obtain ⟨a', ea', _, _⟩ := next_ok l hb hl (0 + 1 + 1 + 1) 99 (by omega) (by omega) (by omega)
  obtain ⟨a, _, ea⟩ := pick_ok l hb hl (0 + 1 + 1 + 1 + 1) [a', 4294967295, 4294967296, -1] (by omega) (by omega) (by simp)
  obtain ⟨b', eb', _, _⟩ := next_ok l hb hl (0 + 1 + 1 + 1 + 1 + 1) 99 (by omega) (by omega) (by omega)
  obtain ⟨b, _, eb⟩ := pick_ok l hb hl (0 + 1 + 1 + 1 + 1 + 1 + 1) [b', 0, -1] (by omega) (by omega) (by simp)
  obtain ⟨d', ed', _, _⟩ := next_ok l hb hl (0 + 1 + 1 + 1 + 1 + 1 + 1 + 1) 9 (by omega) (by omega) (by omega)
  obtain ⟨d, _, ed⟩ := pick_ok l hb hl (0 + 1 + 1 + 1 + 1 + 1 + 1 + 1 + 1) [d', 0, -1] (by omega) (by omega) (by simp)
  obtain ⟨p, ep, pb, pl, q0, q1⟩ := some_ok l hb hl (0 + 1 + 1 + 1 + 1 + 1 + 1 + 1 + 1 + 1) m hm'.1 hm'.2 (by omega) (by omega)
  refine ⟨k, a, b, d, p.1, ?_, pb⟩
  unfold spec_DrawEncodeFrame.f
  simp only [spec_l1Source.f, Option.bind_some, en, em, ek, ea', ea, eb', eb, ed', ed]
  refine Ev.bind ep ?_
  exact Ev.now _
theorem frames_back (l : List Int) (hb : Bs l) (hl : l.length ≤ 1048576) : Ev (fun k => laws_FnFrames.j0 k l false) true := by
  obtain ⟨k, a, b, d, p, e, pb⟩ := draw_enc l hb hl
  refine ev_succ ?_
  simp only [laws_FnFrames.j0, Bool.false_eq_true, if_false]
  refine Ev.bind e (Ev.bind (ef_impl k a b d p) ?_)
  by_cases h : ((1 ≤ k ∧ k ≤ 9) ∧ (0 ≤ a ∧ a ≤ 4294967295) ∧ (0 ≤ b ∧ b ≤ 4294967295) ∧ (0 ≤ d ∧ d ≤ 4294967295)) ∧ p.length ≤ 300
  · obtain ⟨⟨h1, h2, h3, h4⟩, h5⟩ := h
    have hE : EF k a b d p = (0, enc k a b d p) := by
      unfold EF
      rw [if_pos ⟨h1, h2, h3, h4⟩, if_pos h5]
    have hD := df_impl (enc k a b d p) (enc_b _ _ _ _ _ pb) (by rw [enc_length]; omega)
    rw [DF_enc k a b d p h1 h2 h3 h4 h5] at hD
    simp only [hE, if_true]
    refine Ev.bind hD ?_
    simp only [if_true, beq_self_eq_true]
    exact Ev.now _
  · have h0 : ¬ (EF k a b d p).1 = 0 := by
      unfold EF
      split
      · split
        · exact absurd ⟨‹_›, ‹_›⟩ h
        · simp
      · simp
    simp only [h0, if_false]
    refine Ev.bind (ef_spec k a b d p) ?_
    simp only [beq_self_eq_true]; exact Ev.now _
theorem DF_zero (q : List Int) (hq : Bs q) (h : (DF q).1 = 0) : EF (DF q).2.1 (DF q).2.2.1 (DF q).2.2.2.1 (DF q).2.2.2.2.1 (DF q).2.2.2.2.2 = (0, q) := by
  unfold DF at h ⊢
  split at h
  · rename_i c
    rw [if_pos c]
    obtain ⟨c1, c2, c3, c4⟩ := c
    have n1 := nb4 hq 2 (by omega)
    have n2 := nb4 hq 6 (by omega)
    have n3 := nb4 hq 10 (by omega)
    have hi := (enc_iff q hq c1.1 c1.2).2 ⟨c2, c4⟩
    dsimp only
    unfold EF
    rw [if_pos ⟨c3, n1, n2, n3⟩, if_pos (by simp; omega), hi]
  · simp at h
theorem FnFrames : laws_FnFrames.Pure := by
  intro l hm hw
  refine Ev.rounds ?_
  unfold laws_FnFrames.f laws_lwBig.f
  simp only [Option.bind_some, decide_eq_true_eq]
  by_cases hbig : (l.length : Int) > 1048576
  · simp only [hbig, if_true]; exact Ev.now _
  simp only [hbig, if_false]
  have hb : Bs l := byte_wf hw
  have back := frames_back l hb (by omega)
  obtain ⟨q, eq, qb, ql⟩ := draw_dec l hb (by omega)
  refine Ev.bind eq (Ev.bind (df_impl q qb (by omega)) ?_)
  by_cases h0 : (DF q).1 = 0
  · have hz := DF_zero q qb h0
    simp only [h0, if_true]
    refine Ev.bind (ef_impl _ _ _ _ _) ?_
    rw [hz]
    simp only [bne_self_eq_false]
    exact back
  · simp only [h0, if_false]
    refine Ev.bind (df_spec q qb (by omega)) ?_
    simp only [if_true]
    exact back
end Go.Proofs.Ytidejdfbapjfiaa.Pure
namespace Go.Proofs.Ytidejdfbapjfiaa.fnFrames
open Go.ChangeShapes Go.WideShapes Go.ChangeAt
open Go.RowKit Go.Proofs.Ytidejdfbapjfiaa.G Go.Proofs.YtidejdfbapjfiaaW.PrintWords Go.Proofs.YtidejdfbapjfiaaW.PrintLast
open Go.ChangeMaps (open_string shut_string)
set_option linter.unusedVariables false
theorem own : ownKnob Try.prog.godebug = none := by kernel_rfl
theorem laidOut : laidOutB Try.prog = true := by kernel_rfl
theorem o5 : Opn.Opens Try.prog 5 (Kd.int .u8) (fun n => (Lit.int .u8 n).wf = true) := Opn.opens_int Try.underlying5 (by kernel_rfl)
set_option maxRecDepth 100000 in
theorem lifted (os : Os) (started : os.Started) (H : Type) (enc : TypeId × Value → H) :
    ReturnsInHanded {} Try.checked os 3 .any (Rows.fnFramesSpec.pre6 enc Try.prog Try.f3 Rows.fnFramesRow.domain false) (Rows.fnFramesSpec.post enc Try.prog Try.f3 false true false false) := by
  refine returnsInHanded_of_change_sized (C := Try.checked) own started (by kernel_rfl) Try.func3
    (ChangeSpec.witness6 (enc := enc) (C := Try.checked) false ⟨#[], #[.slice none 0 0], []⟩ 8 (by kernel_rfl) (by kernel_rfl) (by kernel_rfl) (by kernel_rfl)) ?_
  intro W base args ds gs before hval0 hW hcnd hsz0 _
  have hval : ∀ (j : Nat) t v, Try.f3.params[j]? = some t → args[j]? = some v → Value.okWide Try.prog W .any base t v := hval0
  have hW' := hW
  obtain ⟨p, q, hA0, hV, rfl, hfz, hnd⟩ := hW
  have hA : DataW.TrodAll enc Try.prog W 0 (fun _ => true) true Try.f3.params.toList args.toList ds p := hA0
  rw [Try.params3] at hA hval
  obtain ⟨v0, vs0, d0, ds0, p0, q0, hargs, rfl, rfl, h0, r0⟩ := trodAll_cons hA
  obtain ⟨rfl, rfl, rfl⟩ := trodAll_nil r0
  obtain rfl : args = #[v0] := by cases args; simp_all
  obtain ⟨rfl, rfl⟩ := trodVars_none hV
  obtain ⟨A0, len0, c0, rfl⟩ := okWide_slice Try.underlying22 (hval 0 22 v0 rfl rfl)
  have k0 := h0
  have lt0 : ∀ x ∈ p0, x.block < W.heap.size := by obtain ⟨m, hm⟩ := k0; exact DataW.trod_lt m _ _ _ hm
  obtain ⟨l0, rfl, hr0, hc0, hm0, hg0⟩ := Opn.arg_slice Try.underlying22 (by kernel_rfl) o5 h0
  clear hA0 hval0 hsz0
  obtain ⟨k, h⟩ := Pure.FnFrames l0 hm0 hg0
  refine (laws_FnFrames.calls k A0 c0 l0 W hr0 hc0 h).mono fun e W' ⟨he, bel0⟩ => ?_
  have bel : Below W.heap.size W W' := bel0
  subst he
  exact ⟨_, rfl, _, _, _, [], _, [], hW', trodAll_mk1 (shut_bool Try.underlying4 _), (trodAll_cons_mk (Below.trod laidOut (by kernel_rfl) (of_decide_eq_true (by kernel_rfl)) k0 bel lt0) trodAll_mk0), rfl, bel.frame _, fun h => by cases h⟩
theorem over : Rows.fnFramesRow.holds Try.pinned (OpenSpec.ofChange Rows.fnFramesSpec) :=
  OpenClaim.holds_of_wide 3 Try.f3 rfl rfl rfl rfl rfl rfl rfl ⟨rfl, rfl, rfl, rfl, rfl⟩ rfl rfl rfl rfl rfl (by kernel_rfl) Try.func3 (by kernel_rfl)
    (of_decide_eq_true (by kernel_rfl)) (by unfold Func.isWrapper; first | (rw [if_pos (by decide +kernel)]; kernel_rfl) | (rw [if_neg (by decide +kernel)]; exact ⟨rfl, rfl⟩))
    (fun os started H enc _ => lifted os started H enc)
end Go.Proofs.Ytidejdfbapjfiaa.fnFrames
namespace Go.Proofs.Ytidejdfbapjfiaa
theorem fnFrames_holds : Rows.FnFramesSaid := fnFrames.over
end Go.Proofs.Ytidejdfbapjfiaa
#print axioms Go.Proofs.Ytidejdfbapjfiaa.fnFrames_holds
