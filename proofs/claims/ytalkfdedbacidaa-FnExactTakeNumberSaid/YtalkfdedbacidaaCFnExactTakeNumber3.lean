/- FnExactTakeNumber: for every input the law returns true and its arguments read afterwards as they read before. No condition. -/
import Derived.Test.YtalkfdedbacidaaCFnExactTakeNumber2
import Derived.ChangeArms
import Derived.Deep.Slices
import Derived.ProofKit
import Derived.OpenShut
import Derived.Laws.BitsLemmas
import Derived.Test.YtalkfdedbacidaaRows
import Derived.WalkKit
import Derived.ShutString
import Derived.ChangeOld
import Derived.Below
import Derived.SizedLaws
set_option linter.unusedVariables false
namespace Go.Proofs.Ytalkfdedbacidaa.Opn
open Go.Proofs.YtalkfdedbacidaaW.PrintWords
def Opens {α : Type} (P : Program) (t : TypeId) (d : Kd α) (G : α → Prop) : Prop :=
  P.cellsOf t = d.sz ∧ ∀ (H : Type) (enc : TypeId × Value → H) (W : World) (base : Nat) (sp : Nat → Bool) (held : Bool) (fuel : Nat) (cs : List Value) (x : DataW H × List MemPlace),
    DataW.trod enc P W base sp held fuel t cs = some x → ∃ a, d.K W a cs ∧ G a
theorem opens_int {P : Program} {t : TypeId} {k : IntKind} (ht : P.underlying t = some (.int k)) (hc : P.cellsOf t = 1) : Opens P t (Kd.int k) (fun n => (Lit.int k n).wf = true) :=
  ⟨hc, fun H enc W base sp held fuel cs x hx => by
    obtain ⟨n, h, hx, hw⟩ := DataW.trod_int ht hx
    exact ⟨n, h, hw⟩⟩
theorem opens_slice {α : Type} {P : Program} {t e : TypeId} {d : Kd α} {G : α → Prop} (ht : P.underlying t = some (.slice e)) (hc : P.cellsOf t = 1) (he : Opens P e d G) :
    Opens P t (Kd.slice e d) (fun xs => xs.length ≤ maxLen ∧ ∀ x ∈ xs, G x) :=
  ⟨hc, fun H enc W base sp held fuel cs x hx => by
    rcases Go.Deep.open_slice ht hx with ⟨rfl, rfl⟩ | ⟨a, len, cap, m, n, D, Pl, rfl, hb, hl, hm, hmm, rfl, hel⟩
    · refine ⟨[], ⟨none, 0, rfl, Nat.le_refl _, rfl, by simp, ?_⟩, by simp, by simp⟩
      intro h; exact absurd h (by simp)
    · have hle : len ≤ m := by rw [hmm]; split <;> omega
      have key : ∀ i, i < len → ∃ p : α, ∃ c : List Value, c.length = d.sz ∧ d.K W p c ∧ G p ∧ ∀ j u, c[j]? = some u → W.cell? (a.add (i * d.sz + j)) = some u := by
        intro i hi
        obtain ⟨c, h1, h2⟩ := hel i (by omega)
        obtain ⟨p, h3, h4⟩ := he.2 H enc W base sp held n c _ h2
        obtain ⟨_, h5, h6⟩ := World.cells?_some h1
        rw [he.1] at h5 h6
        refine ⟨p, c, h5, h3, h4, fun j u hj => ?_⟩
        have hjl : j < d.sz := by
          have := (List.getElem?_eq_some_iff.1 hj).1
          omega
        rw [← Go.Deep.add_add, h6 j hjl, hj]
      have ex : ∃ ps : List α, ps.length = len ∧ ∀ i p, ps[i]? = some p → ∃ c : List Value, c.length = d.sz ∧ d.K W p c ∧ G p ∧ ∀ j u, c[j]? = some u → W.cell? (a.add (i * d.sz + j)) = some u := by
        clear hel hmm hle hl hm hx
        induction len with
        | zero => exact ⟨[], rfl, fun i p h => by simp at h⟩
        | succ k ih =>
          obtain ⟨ps, h1, h2⟩ := ih (fun i hi => key i (by omega))
          obtain ⟨p, hp⟩ := key k (by omega)
          refine ⟨ps ++ [p], by simp [h1], fun i q h => ?_⟩
          by_cases hi : i < ps.length
          · rw [List.getElem?_append_left hi] at h
            exact h2 i q h
          · rw [List.getElem?_append_right (by omega)] at h
            have hi0 : i - ps.length = 0 := by
              have := (List.getElem?_eq_some_iff.1 h).1
              simp at this
              omega
            rw [hi0] at h
            simp at h
            subst h
            have : i = k := by omega
            subst this
            exact hp
      obtain ⟨ps, h1, h2⟩ := ex
      subst h1
      refine ⟨ps, ⟨some a, cap, rfl, hl, rfl, by simp only [maxLen] at hm; omega, fun _ => ⟨a, rfl, fun j p hj => ?_⟩⟩, by omega, fun x hx' => ?_⟩
      · obtain ⟨c, g1, g2, g3, g4⟩ := h2 j p hj
        exact ⟨c, g1, g2, g4⟩
      · obtain ⟨i, hi⟩ := List.getElem?_of_mem hx'
        obtain ⟨c, g1, g2, g3, g4⟩ := h2 i x hi
        exact g3⟩
theorem arg_slice {α : Type} {P : Program} {W : World} {t e : TypeId} {d : Kd α} {G : α → Prop} {H : Type} {enc : TypeId × Value → H} {base : Nat} {sp : Nat → Bool} {held : Bool} {A : Option Addr} {n c : Nat} {x : DataW H} {ps : List MemPlace}
    (ht : P.underlying t = some (.slice e)) (hc : P.cellsOf t = 1) (he : Opens P e d G) (h : DataW.Trod enc P W base sp held t (.slice A n c) x ps) :
    ∃ xs : List α, n = xs.length ∧ d.C W A xs.length xs ∧ xs.length ≤ c ∧ xs.length ≤ maxLen ∧ ∀ a ∈ xs, G a := by
  obtain ⟨fuel, hf⟩ := h
  obtain ⟨xs, ⟨A', c', h1, h2, h3⟩, h4, h5⟩ := (opens_slice ht hc he).2 H enc W base sp held fuel _ _ hf
  simp [Value.cells] at h1
  obtain ⟨rfl, rfl, rfl⟩ := h1
  exact ⟨xs, rfl, h3, h2, h4, h5⟩
end Go.Proofs.Ytalkfdedbacidaa.Opn
namespace Go.Proofs.Ytalkfdedbacidaa.Pure
open Go.RowKit Go.Proofs.Ytalkfdedbacidaa.G Go.Proofs.YtalkfdedbacidaaW.PrintWords Go.Proofs.YtalkfdedbacidaaW.PrintLast
def laws_FnExactTakeNumber.Pure : Prop := ∀ (l0 : List Int) (a1 : Int) (a2 : Int), l0.length ≤ maxLen → (∀ x ∈ l0, (fun n => (Lit.int .u8 n).wf = true) x) → (Lit.int .i64 a1).wf = true → (Lit.int .i64 a2).wf = true → ∃ k, laws_FnExactTakeNumber.f k l0 a1 a2 = some true
end Go.Proofs.Ytalkfdedbacidaa.Pure
set_option linter.unusedVariables false
set_option linter.unusedSimpArgs false
namespace Go.Proofs.Ytalkfdedbacidaa.Pure
open Go.RowKit Go.Proofs.Ytalkfdedbacidaa.G Go.Proofs.YtalkfdedbacidaaW.PrintWords Go.Proofs.YtalkfdedbacidaaW.PrintLast Go.Proofs.YtalkfdedbacidaaW.PrintMore
theorem w64' {n : Int} (h0 : -9223372036854775808 ≤ n) (h1 : n ≤ 9223372036854775807) : wrap64 n = n := by unfold wrap64; omega
theorem rd_nat (l : List Int) (i : Nat) : rd l (i : Int) = l.getD i 0 := by simp [rd]
theorem set_split {α : Type} (pre rest : List α) (x y : α) : (pre ++ x :: rest).set pre.length y = pre ++ y :: rest := by
  simp
end Go.Proofs.Ytalkfdedbacidaa.Pure
set_option linter.unusedVariables false
set_option linter.unusedSimpArgs false
namespace Go.Proofs.Ytalkfdedbacidaa.Pure
open Go.RowKit Go.Proofs.Ytalkfdedbacidaa.G Go.Proofs.YtalkfdedbacidaaW.PrintWords Go.Proofs.YtalkfdedbacidaaW.PrintLast Go.Proofs.YtalkfdedbacidaaW.PrintMore
theorem toByteS_l0 (l : List Int) (hl : l.length ≤ 9223372036854775807) (z : Int) (d : Nat) : ∀ (k i : Nat), i + d = l.length → d < k →
    laws_toByteS.l0 k l (l.take i ++ List.replicate d z) i = some l := by
  induction d with
  | zero =>
    intro k i hi hk
    obtain ⟨k, rfl⟩ : ∃ m, k = m + 1 := ⟨k - 1, by omega⟩
    simp only [laws_toByteS.l0]; rw [if_neg (by omega)]
    simp [List.take_of_length_le (show l.length ≤ i by omega)]
  | succ d ih =>
    intro k i hi hk
    obtain ⟨k, rfl⟩ : ∃ m, k = m + 1 := ⟨k - 1, by omega⟩
    simp only [laws_toByteS.l0]
    rw [if_pos (by omega), if_pos (by omega), if_pos (by simp; omega), w64' (by omega) (by omega), rd_nat]
    have e : (l.take i ++ List.replicate (d + 1) z).set ((i : Int)).toNat (l.getD i 0) = l.take (i + 1) ++ List.replicate d z := by
      rw [List.replicate_succ]
      have h1 : (l.take i).length = i := by simp; omega
      have := set_split (l.take i) (List.replicate d z) z (l.getD i 0)
      rw [h1] at this
      simp only [Int.toNat_natCast]
      have hg : l.getD i 0 = l[i]'(by omega) := by simp [List.getD, List.getElem?_eq_getElem (show i < l.length by omega)]
      rw [this, hg, List.take_succ_eq_append_getElem (by omega), List.append_assoc]; rfl
    rw [e]
    have := ih k (i + 1) (by omega) (by omega)
    simpa using this
theorem toByteS_ev (l : List Int) (hl : l.length ≤ 281474976710656) : Ev (fun k => laws_toByteS.f k l) l := by
  refine ⟨l.length + 1, fun k hk => ?_⟩
  simp only [laws_toByteS.f]
  rw [if_pos (by omega), if_pos (by simp; omega)]
  have := toByteS_l0 l (by omega) 0 l.length k 0 (by omega) (by omega)
  simpa using this
theorem eqByteS_l0 (l : List Int) (hl : l.length ≤ 9223372036854775807) (d : Nat) : ∀ (k i : Nat), i + d = l.length → d < k → laws_eqByteS.l0 k l l i = some true := by
  induction d with
  | zero =>
    intro k i hi hk
    obtain ⟨k, rfl⟩ : ∃ m, k = m + 1 := ⟨k - 1, by omega⟩
    simp only [laws_eqByteS.l0]; rw [if_neg (by omega)]
  | succ d ih =>
    intro k i hi hk
    obtain ⟨k, rfl⟩ : ∃ m, k = m + 1 := ⟨k - 1, by omega⟩
    simp only [laws_eqByteS.l0]
    rw [if_pos (by omega), if_pos (by omega), if_pos (by omega), if_pos trivial, w64' (by omega) (by omega)]
    have := ih k (i + 1) (by omega) (by omega)
    simpa using this
theorem eqByteS_ev (l : List Int) (hl : l.length ≤ 9223372036854775807) : Ev (fun k => laws_eqByteS.f k l l) true := by
  refine ⟨l.length + 1, fun k hk => ?_⟩
  simp only [laws_eqByteS.f, if_true]
  have := eqByteS_l0 l hl l.length k 0 (by omega) (by omega)
  simpa using this
end Go.Proofs.Ytalkfdedbacidaa.Pure
set_option linter.unusedVariables false
set_option linter.unusedSimpArgs false
namespace Go.Proofs.Ytalkfdedbacidaa.Pure
open Go.RowKit Go.Proofs.Ytalkfdedbacidaa.G Go.Proofs.YtalkfdedbacidaaW.PrintWords Go.Proofs.YtalkfdedbacidaaW.PrintLast Go.Proofs.YtalkfdedbacidaaW.PrintMore
def nb (n : Int) (l : List Int) : Int := l.foldl (fun n b => n * 256 + b) n
theorem nb_snoc (n : Int) (l : List Int) (b : Int) : nb n (l ++ [b]) = nb n l * 256 + b := by simp [nb]
theorem nb_bound (l : List Int) (hb : ∀ x ∈ l, 0 ≤ x ∧ x ≤ 255) : ∀ n : Int, 0 ≤ n → 0 ≤ nb n l ∧ nb n l < (n + 1) * 256 ^ l.length := by
  induction l with
  | nil => intro n hn; simp [nb]; omega
  | cons b r ih =>
    intro n hn
    have h1 := hb b (List.mem_cons_self)
    obtain ⟨h2, h3⟩ := ih (fun x hx => hb x (List.mem_cons_of_mem _ hx)) (n * 256 + b) (by omega)
    have e : nb n (b :: r) = nb (n * 256 + b) r := rfl
    rw [e]
    refine ⟨h2, ?_⟩
    rw [List.length_cons, Int.pow_succ, Int.mul_comm ((256 : Int) ^ r.length) 256, ← Int.mul_assoc]
    have h4 : (n * 256 + b + 1) * (256 : Int) ^ r.length ≤ (n + 1) * 256 * (256 : Int) ^ r.length := Int.mul_le_mul_of_nonneg_right (by omega) (Int.le_of_lt (Int.pow_pos (by decide)))
    omega
theorem or_byte (x b : Int) (h0 : 0 ≤ x) (h1 : x < 281474976710656) (b0 : 0 ≤ b) (b1 : b ≤ 255) : Go.bits .or .i64 (wrap64 (x * 256)) (wrap64 b) = wrap64 (x * 256) + b := by
  rw [w64' (n := b) (by omega) (by omega), w64' (n := x * 256) (by omega) (by omega)]
  exact bits_join .i64 63 (by decide) (fun n h₀ h₁ => by rw [IntKind.wrap_i64]; omega) 8 (x * 256) b (by omega) (by omega) (by omega) b0 (by omega) (by omega)
theorem take_mem {l : List Int} {i : Nat} (hb : ∀ x ∈ l, 0 ≤ x ∧ x ≤ 255) : ∀ x ∈ l.take i, 0 ≤ x ∧ x ≤ 255 := fun x hx => hb x (List.mem_of_mem_take hx)
theorem rd_mem {l : List Int} {i : Nat} (hb : ∀ x ∈ l, 0 ≤ x ∧ x ≤ 255) (h : i < l.length) : 0 ≤ rd l i ∧ rd l i ≤ 255 := by
  rw [rd_nat]
  simp only [List.getD, List.getElem?_eq_getElem h, Option.getD_some]
  exact hb _ (List.getElem_mem h)
theorem take_snoc_rd (l : List Int) (i : Nat) (h : i < l.length) : l.take (i + 1) = l.take i ++ [rd l i] := by
  rw [List.take_succ_eq_append_getElem h, rd_nat]
  simp [List.getD, List.getElem?_eq_getElem h]
theorem impl_take_l0 (l : List Int) (hb : ∀ x ∈ l, 0 ≤ x ∧ x ≤ 255) (hl : l.length ≤ 7) (d : Nat) : ∀ (k i : Nat), i + d = l.length → d < k →
    impl_take.l0 k (nb 0 (l.take i)) l (l.length : Int) i = some (nb 0 l) := by
  induction d with
  | zero =>
    intro k i hi hk
    obtain ⟨k, rfl⟩ : ∃ m, k = m + 1 := ⟨k - 1, by omega⟩
    simp only [impl_take.l0]; rw [if_neg (by omega), List.take_of_length_le (by omega)]
  | succ d ih =>
    intro k i hi hk
    obtain ⟨k, rfl⟩ : ∃ m, k = m + 1 := ⟨k - 1, by omega⟩
    have h1 := nb_bound (l.take i) (take_mem hb) 0 (by omega)
    have hli : (l.take i).length = i := by simp; omega
    rw [hli] at h1
    have h2 : (256 : Int) ^ i ≤ 281474976710656 := by
      have : i = 0 ∨ i = 1 ∨ i = 2 ∨ i = 3 ∨ i = 4 ∨ i = 5 ∨ i = 6 := by omega
      rcases this with rfl | rfl | rfl | rfl | rfl | rfl | rfl <;> decide
    have h3 := rd_mem hb (show i < l.length by omega)
    simp only [impl_take.l0]
    rw [if_pos (by omega), if_pos (by omega), if_pos (by omega), or_byte _ _ h1.1 (by omega) h3.1 h3.2, w64' (n := nb 0 (l.take i) * 256) (by omega) (by omega), ← nb_snoc, ← take_snoc_rd l i (by omega), w64' (n := (i : Int) + 1) (by omega) (by omega)]
    have := ih k (i + 1) (by omega) (by omega)
    simpa using this
theorem impl_take_ev (l : List Int) (hb : ∀ x ∈ l, 0 ≤ x ∧ x ≤ 255) (hl : l.length ≤ 7) : Ev (fun k => impl_take.f k l) (nb 0 l) := by
  refine ⟨l.length + 1, fun k hk => ?_⟩
  unfold impl_take.f
  have := impl_take_l0 l hb hl l.length k 0 (by omega) (by omega)
  simpa [nb] using this
theorem spec_take_l0 (l : List Int) (hb : ∀ x ∈ l, 0 ≤ x ∧ x ≤ 255) (hl : l.length ≤ 9223372036854775807) (a s : Nat) (hs : s ≤ 7) (has : a + s ≤ l.length) (d : Nat) : ∀ (k i : Nat), i + d = s → d < k →
    spec_l1Take.l0 k l a s (nb 0 ((l.drop a).take i)) i = some (nb 0 ((l.drop a).take s)) := by
  induction d with
  | zero =>
    intro k i hi hk
    obtain ⟨k, rfl⟩ : ∃ m, k = m + 1 := ⟨k - 1, by omega⟩
    obtain rfl : i = s := by omega
    simp only [spec_l1Take.l0]; rw [if_neg (by omega)]
  | succ d ih =>
    intro k i hi hk
    obtain ⟨k, rfl⟩ : ∃ m, k = m + 1 := ⟨k - 1, by omega⟩
    have hb' : ∀ x ∈ l.drop a, 0 ≤ x ∧ x ≤ 255 := fun x hx => hb x (List.mem_of_mem_drop hx)
    have h1 := nb_bound ((l.drop a).take i) (take_mem hb') 0 (by omega)
    have hli : ((l.drop a).take i).length = i := by simp; omega
    rw [hli] at h1
    have h2 : (256 : Int) ^ i ≤ 281474976710656 := by
      have : i = 0 ∨ i = 1 ∨ i = 2 ∨ i = 3 ∨ i = 4 ∨ i = 5 ∨ i = 6 := by omega
      rcases this with rfl | rfl | rfl | rfl | rfl | rfl | rfl <;> decide
    have h0 : 0 ≤ nb 0 ((l.drop a).take i) ∧ nb 0 ((l.drop a).take i) ≤ 281474976710656 := by constructor <;> omega
    clear h1 h2
    have h3 := rd_mem hb (show a + i < l.length by omega)
    have e0 : wrap64 ((a : Int) + i) = ((a + i : Nat) : Int) := by rw [w64' (by omega) (by omega)]; omega
    have e1 : rd l ((a + i : Nat) : Int) = rd (l.drop a) i := by rw [rd_nat, rd_nat]; simp [List.getD, List.getElem?_drop]
    simp only [spec_l1Take.l0]
    rw [if_pos (by omega), e0, if_pos (by omega), if_pos (by omega), w64' (n := rd l ((a + i : Nat) : Int)) (by omega) (by omega), w64' (n := nb 0 ((l.drop a).take i) * 256) (by omega) (by omega), e1, w64' (n := nb 0 ((l.drop a).take i) * 256 + rd (l.drop a) i) (by omega) (by omega), ← nb_snoc, ← take_snoc_rd (l.drop a) i (by simp; omega), w64' (n := (i : Int) + 1) (by omega) (by omega)]
    have := ih k (i + 1) (by omega) (by omega)
    simpa using this
theorem spec_take_ev (l : List Int) (hb : ∀ x ∈ l, 0 ≤ x ∧ x ≤ 255) (hl : l.length ≤ 9223372036854775807) (a s : Nat) (hs : s ≤ 7) (has : a + s ≤ l.length) : Ev (fun k => spec_l1Take.f k l a s) (nb 0 ((l.drop a).take s)) := by
  refine ⟨s + 1, fun k hk => ?_⟩
  unfold spec_l1Take.f
  have := spec_take_l0 l hb hl a s hs has s k 0 (by omega) (by omega)
  simpa [nb] using this
end Go.Proofs.Ytalkfdedbacidaa.Pure
set_option linter.unusedVariables false
set_option linter.unusedSimpArgs false
namespace Go.Proofs.Ytalkfdedbacidaa.Pure
open Go.RowKit Go.Proofs.Ytalkfdedbacidaa.G Go.Proofs.YtalkfdedbacidaaW.PrintWords Go.Proofs.YtalkfdedbacidaaW.PrintLast Go.Proofs.YtalkfdedbacidaaW.PrintMore
theorem in_spec' (a b c : Int) : spec_l1In.f a b c = some (decide (b ≤ a ∧ a ≤ c)) := by
  unfold spec_l1In.f; split
  · congr 1; simp; omega
  · congr 1; simp; omega
theorem in_impl' (a b c : Int) : impl_in.f a b c = some (decide (b ≤ a ∧ a ≤ c)) := by
  unfold impl_in.f; split
  · congr 1; simp; omega
  · congr 1; simp; omega
end Go.Proofs.Ytalkfdedbacidaa.Pure
namespace Go.Proofs.Ytalkfdedbacidaa.Pure
open Go.RowKit Go.Proofs.Ytalkfdedbacidaa.G Go.Proofs.YtalkfdedbacidaaW.PrintWords Go.Proofs.YtalkfdedbacidaaW.PrintLast
theorem byte_wf {l : List Int} (h : ∀ x ∈ l, (Lit.int .u8 x).wf = true) : ∀ x ∈ l, 0 ≤ x ∧ x ≤ 255 := fun x hx => by
  have := h x hx
  simpa [Lit.wf, IntKind.min, IntKind.max, IntKind.signed, IntKind.bits] using this
def TN (l : List Int) (a s : Int) : Int × Int := if (1 ≤ s ∧ s ≤ 7) ∧ 0 ≤ a ∧ a ≤ l.length - s then (0, nb 0 ((l.drop a.toNat).take s.toNat)) else (3, 0)
theorem tn_spec (l : List Int) (a s : Int) (hb : ∀ x ∈ l, 0 ≤ x ∧ x ≤ 255) (hl : l.length ≤ 1048576) : Ev (fun k => spec_TakeNumber.f k l a s) (TN l a s) := by
  unfold spec_TakeNumber.f TN
  simp only [in_spec', Option.bind_some, decide_eq_true_eq]
  by_cases h1 : 1 ≤ s ∧ s ≤ 7
  · rw [w64' (n := (l.length : Int) - s) (by omega) (by omega)]
    by_cases h2 : 0 ≤ a ∧ a ≤ (l.length : Int) - s
    · simp only [h1, h2, and_self, if_true]
      obtain ⟨a, rfl⟩ := Int.eq_ofNat_of_zero_le h2.1
      obtain ⟨s, rfl⟩ := Int.eq_ofNat_of_zero_le (show 0 ≤ s by omega)
      exact Ev.bind (spec_take_ev l hb (by omega) a s (by omega) (by omega)) (Ev.now _)
    · simp only [h1, h2, and_self, and_false, if_true, if_false]; exact Ev.now _
  · simp only [h1, false_and, if_false]; exact Ev.now _
theorem tn_impl (l : List Int) (a s : Int) (hb : ∀ x ∈ l, 0 ≤ x ∧ x ≤ 255) (hl : l.length ≤ 1048576) : Ev (fun k => impl_TakeNumber.f k l a s) (TN l a s) := by
  unfold impl_TakeNumber.f TN
  simp only [in_impl', Option.bind_some, decide_eq_true_eq]
  by_cases h1 : 1 ≤ s ∧ s ≤ 7
  · rw [w64' (n := (l.length : Int) - s) (by omega) (by omega)]
    by_cases h2 : 0 ≤ a ∧ a ≤ (l.length : Int) - s
    · rw [w64' (n := a + s) (by omega) (by omega)]
      simp only [h1, h2, and_self, if_true, show ¬ a < 0 by omega, show ¬ a > (l.length : Int) - s by omega, if_false, show a ≤ a + s by omega, show a + s ≤ (l.length : Int) by omega]
      obtain ⟨a, rfl⟩ := Int.eq_ofNat_of_zero_le h2.1
      obtain ⟨s, rfl⟩ := Int.eq_ofNat_of_zero_le (show 0 ≤ s by omega)
      have e : (l.take ((a : Int) + s).toNat).drop ((a : Int)).toNat = (l.drop ((a : Int)).toNat).take ((s : Int)).toNat := by
        rw [show ((a : Int) + s).toNat = a + s by omega, Int.toNat_natCast, Int.toNat_natCast, List.drop_take, Nat.add_sub_cancel_left]
      rw [e]
      exact Ev.bind (impl_take_ev _ (fun x hx => hb x (List.mem_of_mem_drop (List.mem_of_mem_take hx))) (by simp; omega)) (Ev.now _)
    · simp only [h1, h2, and_self, and_false, if_true, if_false]
      by_cases h3 : a < 0
      · simp only [h3, if_true]; exact Ev.now _
      · simp only [h3, show a > (l.length : Int) - s by omega, if_true, if_false]; exact Ev.now _
  · simp only [h1, false_and, if_false]; exact Ev.now _
theorem FnExactTakeNumber : laws_FnExactTakeNumber.Pure := by
  intro l a s hm hw _ _
  refine Ev.rounds ?_
  unfold laws_FnExactTakeNumber.f
  by_cases hbig : (l.length : Int) > 1048576
  · simp only [hbig, if_true]; exact Ev.now _
  simp only [hbig, if_false]
  have hb := byte_wf hw
  have hc := toByteS_ev l (by omega)
  refine Ev.bind hc (Ev.bind (tn_spec l a s hb (by omega)) (Ev.bind hc (Ev.bind (tn_impl l a s hb (by omega)) ?_)))
  simp only [laws_eqIntResult.f, if_true, Option.bind_some]
  refine Ev.bind hc (Ev.bind (eqByteS_ev l (by omega)) ?_)
  simp only [if_true]; exact Ev.now _
end Go.Proofs.Ytalkfdedbacidaa.Pure
namespace Go.Proofs.Ytalkfdedbacidaa.fnExactTakeNumber
open Go.ChangeShapes Go.WideShapes Go.ChangeAt
open Go.RowKit Go.Proofs.Ytalkfdedbacidaa.G Go.Proofs.YtalkfdedbacidaaW.PrintWords Go.Proofs.YtalkfdedbacidaaW.PrintLast
open Go.ChangeMaps (open_string shut_string)
set_option linter.unusedVariables false
theorem own : ownKnob Try.prog.godebug = none := by kernel_rfl
theorem laidOut : laidOutB Try.prog = true := by kernel_rfl
theorem o5 : Opn.Opens Try.prog 5 (Kd.int .u8) (fun n => (Lit.int .u8 n).wf = true) := Opn.opens_int Try.underlying5 (by kernel_rfl)
set_option maxRecDepth 100000 in
theorem lifted (os : Os) (started : os.Started) (H : Type) (enc : TypeId × Value → H) :
    ReturnsInHanded {} Try.checked os 6 .any (Rows.fnExactTakeNumberSpec.pre6 enc Try.prog Try.f6 Rows.fnExactTakeNumberRow.domain false) (Rows.fnExactTakeNumberSpec.post enc Try.prog Try.f6 false true false false) := by
  refine returnsInHanded_of_change_sized (C := Try.checked) own started (by kernel_rfl) Try.func6
    (ChangeSpec.witness6 (enc := enc) (C := Try.checked) false ⟨#[], #[.slice none 0 0, .int .i64 0, .int .i64 0], []⟩ 8 (by kernel_rfl) (by kernel_rfl) (by kernel_rfl) (by kernel_rfl)) ?_
  intro W base args ds gs before hval0 hW hcnd hsz0 _
  have hval : ∀ (j : Nat) t v, Try.f6.params[j]? = some t → args[j]? = some v → Value.okWide Try.prog W .any base t v := hval0
  have hW' := hW
  obtain ⟨p, q, hA0, hV, rfl, hfz, hnd⟩ := hW
  have hA : DataW.TrodAll enc Try.prog W 0 (fun _ => true) true Try.f6.params.toList args.toList ds p := hA0
  rw [Try.params6] at hA hval
  obtain ⟨v0, vs0, d0, ds0, p0, q0, hargs, rfl, rfl, h0, r0⟩ := trodAll_cons hA
  obtain ⟨v1, vs1, d1, ds1, p1, q1, rfl, rfl, rfl, h1, r1⟩ := trodAll_cons r0
  obtain ⟨v2, vs2, d2, ds2, p2, q2, rfl, rfl, rfl, h2, r2⟩ := trodAll_cons r1
  obtain ⟨rfl, rfl, rfl⟩ := trodAll_nil r2
  obtain rfl : args = #[v0, v1, v2] := by cases args; simp_all
  obtain ⟨rfl, rfl⟩ := trodVars_none hV
  obtain ⟨A0, len0, c0, rfl⟩ := okWide_slice Try.underlying36 (hval 0 36 v0 rfl rfl)
  have k0 := h0
  have lt0 : ∀ x ∈ p0, x.block < W.heap.size := by obtain ⟨m, hm⟩ := k0; exact DataW.trod_lt m _ _ _ hm
  obtain ⟨l0, rfl, hr0, hc0, hm0, hg0⟩ := Opn.arg_slice Try.underlying36 (by kernel_rfl) o5 h0
  obtain ⟨a1, rfl, rfl, rfl, w1⟩ := open_int Try.underlying2 (hval 1 2 v1 rfl rfl) h1
  obtain ⟨a2, rfl, rfl, rfl, w2⟩ := open_int Try.underlying2 (hval 2 2 v2 rfl rfl) h2
  clear hA0 hval0 hsz0
  obtain ⟨k, h⟩ := Pure.FnExactTakeNumber l0 a1 a2 hm0 hg0 w1 w2
  refine (laws_FnExactTakeNumber.calls k A0 c0 l0 a1 a2 W hr0 hc0 h).mono fun e W' ⟨he, bel0⟩ => ?_
  have bel : Below W.heap.size W W' := bel0
  subst he
  exact ⟨_, rfl, _, _, _, [], _, [], hW', trodAll_mk1 (shut_bool Try.underlying4 _), (trodAll_cons_mk (Below.trod laidOut (by kernel_rfl) (of_decide_eq_true (by kernel_rfl)) k0 bel lt0) (trodAll_cons_mk (shut_int Try.underlying2 w1) (trodAll_cons_mk (shut_int Try.underlying2 w2) trodAll_mk0))), rfl, bel.frame _, fun h => by cases h⟩
theorem over : Rows.fnExactTakeNumberRow.holds Try.pinned (OpenSpec.ofChange Rows.fnExactTakeNumberSpec) :=
  OpenClaim.holds_of_wide 6 Try.f6 rfl rfl rfl rfl rfl rfl rfl ⟨rfl, rfl, rfl, rfl, rfl⟩ rfl rfl rfl rfl rfl (by kernel_rfl) Try.func6 (by kernel_rfl)
    (of_decide_eq_true (by kernel_rfl)) (by unfold Func.isWrapper; first | (rw [if_pos (by decide +kernel)]; kernel_rfl) | (rw [if_neg (by decide +kernel)]; exact ⟨rfl, rfl⟩))
    (fun os started H enc _ => lifted os started H enc)
end Go.Proofs.Ytalkfdedbacidaa.fnExactTakeNumber
namespace Go.Proofs.Ytalkfdedbacidaa
theorem fnExactTakeNumber_holds : Rows.FnExactTakeNumberSaid := fnExactTakeNumber.over
end Go.Proofs.Ytalkfdedbacidaa
#print axioms Go.Proofs.Ytalkfdedbacidaa.fnExactTakeNumber_holds
