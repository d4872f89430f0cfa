/- FnExactDecodeFrame: for every input the law returns true and its arguments read afterwards as they read before. No condition. -/
import Derived.Test.YtalkfdedbacidaaCFnExactDecodeFrame4
import Derived.ChangeArms
import Derived.Deep.Slices
import Derived.ProofKit
import Derived.OpenShut
import Derived.Laws.BitsLemmas
import Derived.Lib.Bytes
import Derived.Test.YtalkfdedbacidaaRows
import Derived.WalkKit
import Derived.ShutString
import Derived.ChangeOld
import Derived.Below
import Derived.SizedLaws
set_option linter.unusedVariables false
namespace Go.Proofs.Ytalkfdedbacidaa.Opn
open Go.Proofs.YtalkfdedbacidaaW.PrintWords
def Opens {α : Type} (P : Program) (t : TypeId) (d : Kd α) (G : α → Prop) : Prop :=
  P.cellsOf t = d.sz ∧ ∀ (H : Type) (enc : TypeId × Value → H) (W : World) (base : Nat) (sp : Nat → Bool) (held : Bool) (fuel : Nat) (cs : List Value) (x : DataW H × List MemPlace),
    DataW.trod enc P W base sp held fuel t cs = some x → ∃ a, d.K W a cs ∧ G a
theorem opens_int {P : Program} {t : TypeId} {k : IntKind} (ht : P.underlying t = some (.int k)) (hc : P.cellsOf t = 1) : Opens P t (Kd.int k) (fun n => (Lit.int k n).wf = true) :=
  ⟨hc, fun H enc W base sp held fuel cs x hx => by
    obtain ⟨n, h, hx, hw⟩ := DataW.trod_int ht hx
    exact ⟨n, h, hw⟩⟩
theorem opens_slice {α : Type} {P : Program} {t e : TypeId} {d : Kd α} {G : α → Prop} (ht : P.underlying t = some (.slice e)) (hc : P.cellsOf t = 1) (he : Opens P e d G) :
    Opens P t (Kd.slice e d) (fun xs => xs.length ≤ maxLen ∧ ∀ x ∈ xs, G x) :=
  ⟨hc, fun H enc W base sp held fuel cs x hx => by
    rcases Go.Deep.open_slice ht hx with ⟨rfl, rfl⟩ | ⟨a, len, cap, m, n, D, Pl, rfl, hb, hl, hm, hmm, rfl, hel⟩
    · refine ⟨[], ⟨none, 0, rfl, Nat.le_refl _, rfl, by simp, ?_⟩, by simp, by simp⟩
      intro h; exact absurd h (by simp)
    · have hle : len ≤ m := by rw [hmm]; split <;> omega
      have key : ∀ i, i < len → ∃ p : α, ∃ c : List Value, c.length = d.sz ∧ d.K W p c ∧ G p ∧ ∀ j u, c[j]? = some u → W.cell? (a.add (i * d.sz + j)) = some u := by
        intro i hi
        obtain ⟨c, h1, h2⟩ := hel i (by omega)
        obtain ⟨p, h3, h4⟩ := he.2 H enc W base sp held n c _ h2
        obtain ⟨_, h5, h6⟩ := World.cells?_some h1
        rw [he.1] at h5 h6
        refine ⟨p, c, h5, h3, h4, fun j u hj => ?_⟩
        have hjl : j < d.sz := by
          have := (List.getElem?_eq_some_iff.1 hj).1
          omega
        rw [← Go.Deep.add_add, h6 j hjl, hj]
      have ex : ∃ ps : List α, ps.length = len ∧ ∀ i p, ps[i]? = some p → ∃ c : List Value, c.length = d.sz ∧ d.K W p c ∧ G p ∧ ∀ j u, c[j]? = some u → W.cell? (a.add (i * d.sz + j)) = some u := by
        clear hel hmm hle hl hm hx
        induction len with
        | zero => exact ⟨[], rfl, fun i p h => by simp at h⟩
        | succ k ih =>
          obtain ⟨ps, h1, h2⟩ := ih (fun i hi => key i (by omega))
          obtain ⟨p, hp⟩ := key k (by omega)
          refine ⟨ps ++ [p], by simp [h1], fun i q h => ?_⟩
          by_cases hi : i < ps.length
          · rw [List.getElem?_append_left hi] at h
            exact h2 i q h
          · rw [List.getElem?_append_right (by omega)] at h
            have hi0 : i - ps.length = 0 := by
              have := (List.getElem?_eq_some_iff.1 h).1
              simp at this
              omega
            rw [hi0] at h
            simp at h
            subst h
            have : i = k := by omega
            subst this
            exact hp
      obtain ⟨ps, h1, h2⟩ := ex
      subst h1
      refine ⟨ps, ⟨some a, cap, rfl, hl, rfl, by simp only [maxLen] at hm; omega, fun _ => ⟨a, rfl, fun j p hj => ?_⟩⟩, by omega, fun x hx' => ?_⟩
      · obtain ⟨c, g1, g2, g3, g4⟩ := h2 j p hj
        exact ⟨c, g1, g2, g4⟩
      · obtain ⟨i, hi⟩ := List.getElem?_of_mem hx'
        obtain ⟨c, g1, g2, g3, g4⟩ := h2 i x hi
        exact g3⟩
theorem arg_slice {α : Type} {P : Program} {W : World} {t e : TypeId} {d : Kd α} {G : α → Prop} {H : Type} {enc : TypeId × Value → H} {base : Nat} {sp : Nat → Bool} {held : Bool} {A : Option Addr} {n c : Nat} {x : DataW H} {ps : List MemPlace}
    (ht : P.underlying t = some (.slice e)) (hc : P.cellsOf t = 1) (he : Opens P e d G) (h : DataW.Trod enc P W base sp held t (.slice A n c) x ps) :
    ∃ xs : List α, n = xs.length ∧ d.C W A xs.length xs ∧ xs.length ≤ c ∧ xs.length ≤ maxLen ∧ ∀ a ∈ xs, G a := by
  obtain ⟨fuel, hf⟩ := h
  obtain ⟨xs, ⟨A', c', h1, h2, h3⟩, h4, h5⟩ := (opens_slice ht hc he).2 H enc W base sp held fuel _ _ hf
  simp [Value.cells] at h1
  obtain ⟨rfl, rfl, rfl⟩ := h1
  exact ⟨xs, rfl, h3, h2, h4, h5⟩
end Go.Proofs.Ytalkfdedbacidaa.Opn
namespace Go.Proofs.Ytalkfdedbacidaa.Pure
open Go.RowKit Go.Proofs.Ytalkfdedbacidaa.G Go.Proofs.YtalkfdedbacidaaW.PrintWords Go.Proofs.YtalkfdedbacidaaW.PrintLast
def laws_FnExactDecodeFrame.Pure : Prop := ∀ (l0 : List Int), l0.length ≤ maxLen → (∀ x ∈ l0, (fun n => (Lit.int .u8 n).wf = true) x) → ∃ k, laws_FnExactDecodeFrame.f k l0 = some true
end Go.Proofs.Ytalkfdedbacidaa.Pure
set_option linter.unusedVariables false
set_option linter.unusedSimpArgs false
namespace Go.Proofs.Ytalkfdedbacidaa.Pure
open Go.RowKit Go.Proofs.Ytalkfdedbacidaa.G Go.Proofs.YtalkfdedbacidaaW.PrintWords Go.Proofs.YtalkfdedbacidaaW.PrintLast Go.Proofs.YtalkfdedbacidaaW.PrintMore
theorem ev_succ {α : Type} {g : Nat → Option α} {r : α} (h : Ev (fun k => g (k + 1)) r) : Ev g r := by
  obtain ⟨K, hK⟩ := h
  refine ⟨K + 1, fun k hk => ?_⟩
  obtain ⟨m, rfl⟩ : ∃ m, k = m + 1 := ⟨k - 1, by omega⟩
  exact hK m (by omega)
theorem w64' {n : Int} (h0 : -9223372036854775808 ≤ n) (h1 : n ≤ 9223372036854775807) : wrap64 n = n := by unfold wrap64; omega
theorem byte_wf {l : List Int} (h : ∀ x ∈ l, (Lit.int .u8 x).wf = true) : ∀ x ∈ l, 0 ≤ x ∧ x ≤ 255 := fun x hx => by
  have := h x hx
  simpa [Lit.wf, IntKind.min, IntKind.max, IntKind.signed, IntKind.bits] using this
theorem rd_nat (l : List Int) (i : Nat) : rd l (i : Int) = l.getD i 0 := by simp [rd]
theorem set_split {α : Type} (pre rest : List α) (x y : α) : (pre ++ x :: rest).set pre.length y = pre ++ y :: rest := by
  simp
end Go.Proofs.Ytalkfdedbacidaa.Pure
set_option linter.unusedVariables false
set_option linter.unusedSimpArgs false
namespace Go.Proofs.Ytalkfdedbacidaa.Pure
open Go.RowKit Go.Proofs.Ytalkfdedbacidaa.G Go.Proofs.YtalkfdedbacidaaW.PrintWords Go.Proofs.YtalkfdedbacidaaW.PrintLast Go.Proofs.YtalkfdedbacidaaW.PrintMore
theorem toByteS_l0 (l : List Int) (hl : l.length ≤ 9223372036854775807) (z : Int) (d : Nat) : ∀ (k i : Nat), i + d = l.length → d < k →
    laws_toByteS.l0 k l (l.take i ++ List.replicate d z) i = some l := by
  induction d with
  | zero =>
    intro k i hi hk
    obtain ⟨k, rfl⟩ : ∃ m, k = m + 1 := ⟨k - 1, by omega⟩
    simp only [laws_toByteS.l0]; rw [if_neg (by omega)]
    simp [List.take_of_length_le (show l.length ≤ i by omega)]
  | succ d ih =>
    intro k i hi hk
    obtain ⟨k, rfl⟩ : ∃ m, k = m + 1 := ⟨k - 1, by omega⟩
    simp only [laws_toByteS.l0]
    rw [if_pos (by omega), if_pos (by omega), if_pos (by simp; omega), w64' (by omega) (by omega), rd_nat]
    have e : (l.take i ++ List.replicate (d + 1) z).set ((i : Int)).toNat (l.getD i 0) = l.take (i + 1) ++ List.replicate d z := by
      rw [List.replicate_succ]
      have h1 : (l.take i).length = i := by simp; omega
      have := set_split (l.take i) (List.replicate d z) z (l.getD i 0)
      rw [h1] at this
      simp only [Int.toNat_natCast]
      have hg : l.getD i 0 = l[i]'(by omega) := by simp [List.getD, List.getElem?_eq_getElem (show i < l.length by omega)]
      rw [this, hg, List.take_succ_eq_append_getElem (by omega), List.append_assoc]; rfl
    rw [e]
    have := ih k (i + 1) (by omega) (by omega)
    simpa using this
theorem toByteS_ev (l : List Int) (hl : l.length ≤ 281474976710656) : Ev (fun k => laws_toByteS.f k l) l := by
  refine ⟨l.length + 1, fun k hk => ?_⟩
  simp only [laws_toByteS.f]
  rw [if_pos (by omega), if_pos (by simp; omega)]
  have := toByteS_l0 l (by omega) 0 l.length k 0 (by omega) (by omega)
  simpa using this
theorem eqByteS_l0 (l : List Int) (hl : l.length ≤ 9223372036854775807) (d : Nat) : ∀ (k i : Nat), i + d = l.length → d < k → laws_eqByteS.l0 k l l i = some true := by
  induction d with
  | zero =>
    intro k i hi hk
    obtain ⟨k, rfl⟩ : ∃ m, k = m + 1 := ⟨k - 1, by omega⟩
    simp only [laws_eqByteS.l0]; rw [if_neg (by omega)]
  | succ d ih =>
    intro k i hi hk
    obtain ⟨k, rfl⟩ : ∃ m, k = m + 1 := ⟨k - 1, by omega⟩
    simp only [laws_eqByteS.l0]
    rw [if_pos (by omega), if_pos (by omega), if_pos (by omega), if_pos trivial, w64' (by omega) (by omega)]
    have := ih k (i + 1) (by omega) (by omega)
    simpa using this
theorem eqByteS_ev (l : List Int) (hl : l.length ≤ 9223372036854775807) : Ev (fun k => laws_eqByteS.f k l l) true := by
  refine ⟨l.length + 1, fun k hk => ?_⟩
  simp only [laws_eqByteS.f, if_true]
  have := eqByteS_l0 l hl l.length k 0 (by omega) (by omega)
  simpa using this
def bmarks (m : Int) (n : Nat) : List Int := (List.range n).map fun (i : Nat) => (m + (i : Int)) % 256
theorem bmarks_length (m : Int) (n : Nat) : (bmarks m n).length = n := by simp [bmarks]
theorem bmarks_succ (m : Int) (n : Nat) : bmarks m (n + 1) = bmarks m n ++ [(m + n) % 256] := by simp [bmarks, List.range_succ]
theorem markByteS_l0 (l : List Int) (m : Int) (hm : 0 ≤ m) (hl : m + l.length ≤ 9223372036854775806) (d : Nat) : ∀ (k i : Nat), i + d = l.length → d < k →
    laws_markByteS.l0 k (bmarks m i ++ l.drop i) (m + i) i = some (m + l.length, bmarks m l.length) := by
  induction d with
  | zero =>
    intro k i hi hk
    obtain ⟨k, rfl⟩ : ∃ m, k = m + 1 := ⟨k - 1, by omega⟩
    obtain rfl : i = l.length := by omega
    simp only [laws_markByteS.l0]; rw [if_neg (by simp [bmarks_length])]
    simp
  | succ d ih =>
    intro k i hi hk
    obtain ⟨k, rfl⟩ : ∃ m, k = m + 1 := ⟨k - 1, by omega⟩
    simp only [laws_markByteS.l0]
    have hlen : (bmarks m i ++ l.drop i).length = l.length := by simp [bmarks_length]; omega
    rw [if_pos (by rw [hlen]; omega), if_pos (by omega), w64' (n := m + i + 1) (by omega) (by omega), w64' (n := (i : Int) + 1) (by omega) (by omega)]
    have e : (bmarks m i ++ l.drop i).set ((i : Int)).toNat ((m + i) % 256) = bmarks m (i + 1) ++ l.drop (i + 1) := by
      rw [List.drop_eq_getElem_cons (show i < l.length by omega), bmarks_succ]
      have := set_split (bmarks m i) (l.drop (i + 1)) l[i] ((m + i) % 256)
      rw [bmarks_length] at this
      simp only [Int.toNat_natCast]
      rw [this]; simp
    rw [e]
    have := ih k (i + 1) (by omega) (by omega)
    simpa [Int.add_assoc] using this
theorem markByteS_ev (l : List Int) (m : Int) (hm : 0 ≤ m) (hl : m + l.length ≤ 9223372036854775806) : Ev (fun k => laws_markByteS.f k l m) (m + l.length, bmarks m l.length) := by
  refine ⟨l.length + 1, fun k hk => ?_⟩
  unfold laws_markByteS.f
  have := markByteS_l0 l m hm hl l.length k 0 (by omega) (by omega)
  simpa [bmarks] using this
theorem heldByteS_l0 (n : Nat) (m : Int) (hm : 0 ≤ m) (hl : m + n ≤ 9223372036854775806) (d : Nat) : ∀ (k i : Nat), i + d = n → d < k →
    laws_heldByteS.l0 k (bmarks m n) (m + i) i = some (m + n) := by
  induction d with
  | zero =>
    intro k i hi hk
    obtain ⟨k, rfl⟩ : ∃ m, k = m + 1 := ⟨k - 1, by omega⟩
    obtain rfl : i = n := by omega
    simp only [laws_heldByteS.l0]; rw [if_neg (by simp [bmarks_length])]
  | succ d ih =>
    intro k i hi hk
    obtain ⟨k, rfl⟩ : ∃ m, k = m + 1 := ⟨k - 1, by omega⟩
    simp only [laws_heldByteS.l0]
    have e : rd (bmarks m n) (i : Int) = (m + i) % 256 := by
      rw [rd_nat]
      simp [bmarks, List.getD, List.getElem?_map, List.getElem?_range (show i < n by omega)]
    rw [if_pos (by rw [bmarks_length]; omega), if_pos (by omega), if_pos e, w64' (n := m + i + 1) (by omega) (by omega), w64' (n := (i : Int) + 1) (by omega) (by omega)]
    have := ih k (i + 1) (by omega) (by omega)
    simpa [Int.add_assoc] using this
theorem heldByteS_ev (n : Nat) (m : Int) (hm : 0 ≤ m) (hl : m + n ≤ 9223372036854775806) : Ev (fun k => laws_heldByteS.f k (bmarks m n) m) (m + n) := by
  refine ⟨n + 1, fun k hk => ?_⟩
  unfold laws_heldByteS.f
  have := heldByteS_l0 n m hm hl n k 0 (by omega) (by omega)
  simpa using this
end Go.Proofs.Ytalkfdedbacidaa.Pure
set_option linter.unusedVariables false
set_option linter.unusedSimpArgs false
namespace Go.Proofs.Ytalkfdedbacidaa.Pure
open Go.RowKit Go.Proofs.Ytalkfdedbacidaa.G Go.Proofs.YtalkfdedbacidaaW.PrintWords Go.Proofs.YtalkfdedbacidaaW.PrintLast Go.Proofs.YtalkfdedbacidaaW.PrintMore
theorem in_spec' (a b c : Int) : spec_l1In.f a b c = some (decide (b ≤ a ∧ a ≤ c)) := by
  unfold spec_l1In.f; split
  · congr 1; simp; omega
  · congr 1; simp; omega
theorem in_impl' (a b c : Int) : impl_in.f a b c = some (decide (b ≤ a ∧ a ≤ c)) := by
  unfold impl_in.f; split
  · congr 1; simp; omega
  · congr 1; simp; omega
end Go.Proofs.Ytalkfdedbacidaa.Pure
set_option linter.unusedVariables false
set_option linter.unusedSimpArgs false
namespace Go.Proofs.Ytalkfdedbacidaa.Pure
open Go.RowKit Go.Proofs.Ytalkfdedbacidaa.G Go.Proofs.YtalkfdedbacidaaW.PrintWords Go.Proofs.YtalkfdedbacidaaW.PrintLast Go.Proofs.YtalkfdedbacidaaW.PrintMore
def nb (n : Int) (l : List Int) : Int := l.foldl (fun n b => n * 256 + b) n
theorem nb_snoc (n : Int) (l : List Int) (b : Int) : nb n (l ++ [b]) = nb n l * 256 + b := by simp [nb]
theorem nb_bound (l : List Int) (hb : ∀ x ∈ l, 0 ≤ x ∧ x ≤ 255) : ∀ n : Int, 0 ≤ n → 0 ≤ nb n l ∧ nb n l < (n + 1) * 256 ^ l.length := by
  induction l with
  | nil => intro n hn; simp [nb]; omega
  | cons b r ih =>
    intro n hn
    have h1 := hb b (List.mem_cons_self)
    obtain ⟨h2, h3⟩ := ih (fun x hx => hb x (List.mem_cons_of_mem _ hx)) (n * 256 + b) (by omega)
    have e : nb n (b :: r) = nb (n * 256 + b) r := rfl
    rw [e]
    refine ⟨h2, ?_⟩
    rw [List.length_cons, Int.pow_succ, Int.mul_comm ((256 : Int) ^ r.length) 256, ← Int.mul_assoc]
    have h4 : (n * 256 + b + 1) * (256 : Int) ^ r.length ≤ (n + 1) * 256 * (256 : Int) ^ r.length := Int.mul_le_mul_of_nonneg_right (by omega) (Int.le_of_lt (Int.pow_pos (by decide)))
    omega
theorem or_byte (x b : Int) (h0 : 0 ≤ x) (h1 : x < 281474976710656) (b0 : 0 ≤ b) (b1 : b ≤ 255) : Go.bits .or .i64 (wrap64 (x * 256)) (wrap64 b) = wrap64 (x * 256) + b := by
  rw [w64' (n := b) (by omega) (by omega), w64' (n := x * 256) (by omega) (by omega)]
  exact bits_join .i64 63 (by decide) (fun n h₀ h₁ => by rw [IntKind.wrap_i64]; omega) 8 (x * 256) b (by omega) (by omega) (by omega) b0 (by omega) (by omega)
theorem take_mem {l : List Int} {i : Nat} (hb : ∀ x ∈ l, 0 ≤ x ∧ x ≤ 255) : ∀ x ∈ l.take i, 0 ≤ x ∧ x ≤ 255 := fun x hx => hb x (List.mem_of_mem_take hx)
theorem rd_mem {l : List Int} {i : Nat} (hb : ∀ x ∈ l, 0 ≤ x ∧ x ≤ 255) (h : i < l.length) : 0 ≤ rd l i ∧ rd l i ≤ 255 := by
  rw [rd_nat]
  simp only [List.getD, List.getElem?_eq_getElem h, Option.getD_some]
  exact hb _ (List.getElem_mem h)
theorem take_snoc_rd (l : List Int) (i : Nat) (h : i < l.length) : l.take (i + 1) = l.take i ++ [rd l i] := by
  rw [List.take_succ_eq_append_getElem h, rd_nat]
  simp [List.getD, List.getElem?_eq_getElem h]
theorem impl_take_l0 (l : List Int) (hb : ∀ x ∈ l, 0 ≤ x ∧ x ≤ 255) (hl : l.length ≤ 7) (d : Nat) : ∀ (k i : Nat), i + d = l.length → d < k →
    impl_take.l0 k (nb 0 (l.take i)) l (l.length : Int) i = some (nb 0 l) := by
  induction d with
  | zero =>
    intro k i hi hk
    obtain ⟨k, rfl⟩ : ∃ m, k = m + 1 := ⟨k - 1, by omega⟩
    simp only [impl_take.l0]; rw [if_neg (by omega), List.take_of_length_le (by omega)]
  | succ d ih =>
    intro k i hi hk
    obtain ⟨k, rfl⟩ : ∃ m, k = m + 1 := ⟨k - 1, by omega⟩
    have h1 := nb_bound (l.take i) (take_mem hb) 0 (by omega)
    have hli : (l.take i).length = i := by simp; omega
    rw [hli] at h1
    have h2 : (256 : Int) ^ i ≤ 281474976710656 := by
      have : i = 0 ∨ i = 1 ∨ i = 2 ∨ i = 3 ∨ i = 4 ∨ i = 5 ∨ i = 6 := by omega
      rcases this with rfl | rfl | rfl | rfl | rfl | rfl | rfl <;> decide
    have h3 := rd_mem hb (show i < l.length by omega)
    simp only [impl_take.l0]
    rw [if_pos (by omega), if_pos (by omega), if_pos (by omega), or_byte _ _ h1.1 (by omega) h3.1 h3.2, w64' (n := nb 0 (l.take i) * 256) (by omega) (by omega), ← nb_snoc, ← take_snoc_rd l i (by omega), w64' (n := (i : Int) + 1) (by omega) (by omega)]
    have := ih k (i + 1) (by omega) (by omega)
    simpa using this
theorem impl_take_ev (l : List Int) (hb : ∀ x ∈ l, 0 ≤ x ∧ x ≤ 255) (hl : l.length ≤ 7) : Ev (fun k => impl_take.f k l) (nb 0 l) := by
  refine ⟨l.length + 1, fun k hk => ?_⟩
  unfold impl_take.f
  have := impl_take_l0 l hb hl l.length k 0 (by omega) (by omega)
  simpa [nb] using this
theorem spec_take_l0 (l : List Int) (hb : ∀ x ∈ l, 0 ≤ x ∧ x ≤ 255) (hl : l.length ≤ 9223372036854775807) (a s : Nat) (hs : s ≤ 7) (has : a + s ≤ l.length) (d : Nat) : ∀ (k i : Nat), i + d = s → d < k →
    spec_l1Take.l0 k l a s (nb 0 ((l.drop a).take i)) i = some (nb 0 ((l.drop a).take s)) := by
  induction d with
  | zero =>
    intro k i hi hk
    obtain ⟨k, rfl⟩ : ∃ m, k = m + 1 := ⟨k - 1, by omega⟩
    obtain rfl : i = s := by omega
    simp only [spec_l1Take.l0]; rw [if_neg (by omega)]
  | succ d ih =>
    intro k i hi hk
    obtain ⟨k, rfl⟩ : ∃ m, k = m + 1 := ⟨k - 1, by omega⟩
    have hb' : ∀ x ∈ l.drop a, 0 ≤ x ∧ x ≤ 255 := fun x hx => hb x (List.mem_of_mem_drop hx)
    have h1 := nb_bound ((l.drop a).take i) (take_mem hb') 0 (by omega)
    have hli : ((l.drop a).take i).length = i := by simp; omega
    rw [hli] at h1
    have h2 : (256 : Int) ^ i ≤ 281474976710656 := by
      have : i = 0 ∨ i = 1 ∨ i = 2 ∨ i = 3 ∨ i = 4 ∨ i = 5 ∨ i = 6 := by omega
      rcases this with rfl | rfl | rfl | rfl | rfl | rfl | rfl <;> decide
    have h0 : 0 ≤ nb 0 ((l.drop a).take i) ∧ nb 0 ((l.drop a).take i) ≤ 281474976710656 := by constructor <;> omega
    clear h1 h2
    have h3 := rd_mem hb (show a + i < l.length by omega)
    have e0 : wrap64 ((a : Int) + i) = ((a + i : Nat) : Int) := by rw [w64' (by omega) (by omega)]; omega
    have e1 : rd l ((a + i : Nat) : Int) = rd (l.drop a) i := by rw [rd_nat, rd_nat]; simp [List.getD, List.getElem?_drop]
    simp only [spec_l1Take.l0]
    rw [if_pos (by omega), e0, if_pos (by omega), if_pos (by omega), w64' (n := rd l ((a + i : Nat) : Int)) (by omega) (by omega), w64' (n := nb 0 ((l.drop a).take i) * 256) (by omega) (by omega), e1, w64' (n := nb 0 ((l.drop a).take i) * 256 + rd (l.drop a) i) (by omega) (by omega), ← nb_snoc, ← take_snoc_rd (l.drop a) i (by simp; omega), w64' (n := (i : Int) + 1) (by omega) (by omega)]
    have := ih k (i + 1) (by omega) (by omega)
    simpa using this
theorem spec_take_ev (l : List Int) (hb : ∀ x ∈ l, 0 ≤ x ∧ x ≤ 255) (hl : l.length ≤ 9223372036854775807) (a s : Nat) (hs : s ≤ 7) (has : a + s ≤ l.length) : Ev (fun k => spec_l1Take.f k l a s) (nb 0 ((l.drop a).take s)) := by
  refine ⟨s + 1, fun k hk => ?_⟩
  unfold spec_l1Take.f
  have := spec_take_l0 l hb hl a s hs has s k 0 (by omega) (by omega)
  simpa [nb] using this
end Go.Proofs.Ytalkfdedbacidaa.Pure
set_option linter.unusedVariables false
set_option linter.unusedSimpArgs false
namespace Go.Proofs.Ytalkfdedbacidaa.Pure
open Go Go.Lib Go.RowKit Go.Proofs.Ytalkfdedbacidaa.G Go.Proofs.YtalkfdedbacidaaW.PrintWords Go.Proofs.YtalkfdedbacidaaW.PrintLast Go.Proofs.YtalkfdedbacidaaW.PrintMore
def By : Nat → Int → List Int
  | 0, _ => []
  | j + 1, v => By j (v / 256) ++ [v % 256]
theorem By_length : ∀ (j : Nat) (v : Int), (By j v).length = j
  | 0, _ => rfl
  | j + 1, v => by simp [By, By_length j]
theorem By_byte : ∀ (j : Nat) (v : Int), ∀ x ∈ By j v, 0 ≤ x ∧ x ≤ 255
  | 0, _ => by simp [By]
  | j + 1, v => by
    intro x hx
    simp only [By, List.mem_append, List.mem_singleton] at hx
    rcases hx with hx | rfl
    · exact By_byte j _ x hx
    · omega
theorem By_nb : ∀ (j : Nat) (v : Int), 0 ≤ v → v < 256 ^ j → nb 0 (By j v) = v
  | 0, v => by intro h0 h1; simp [By, nb] at *; omega
  | j + 1, v => by
    intro h0 h1
    have h2 : v / 256 < 256 ^ j := by
      rw [Int.pow_succ] at h1
      exact Int.ediv_lt_of_lt_mul (by omega) h1
    rw [By, nb_snoc, By_nb j (v / 256) (by omega) h2]
    omega
theorem put_l0 : ∀ (j : Nat) (k : Nat) (v : Int) (acc : List Int), j < k → j ≤ acc.length → j ≤ 7 → impl_put.l0 k v acc ((j : Int) - 1) = some (By j v ++ acc.drop j)
  | 0, k, v, acc => by
    intro hk _ _
    obtain ⟨k, rfl⟩ : ∃ m, k = m + 1 := ⟨k - 1, by omega⟩
    simp [impl_put.l0, By]
  | j + 1, k, v, acc => by
    intro hk hj h7
    obtain ⟨k, rfl⟩ : ∃ m, k = m + 1 := ⟨k - 1, by omega⟩
    have ih := put_l0 j k (v / 256) (acc.set j (v % 256)) (by omega) (by simp; omega) (by omega)
    have e : (((j + 1 : Nat) : Int) - 1) = (j : Int) := by omega
    simp only [impl_put.l0]
    rw [e, if_pos (by omega), if_pos (by omega), if_pos (by omega), Int.toNat_natCast, w64' (by omega) (by omega), ih]
    have hd : (acc.set j (v % 256)).drop j = v % 256 :: acc.drop (j + 1) := by
      rw [List.drop_eq_getElem_cons (by simp; omega), List.getElem_set_self, List.drop_set_of_lt (by omega)]
    rw [hd, By, List.append_assoc]; rfl
theorem put_ev (v : Int) (j : Nat) (hj : j ≤ 7) : Ev (fun k => impl_put.f k v (j : Int)) (By j v) := by
  refine ⟨j + 1, fun k hk => ?_⟩
  unfold impl_put.f
  have := put_l0 j k v (List.replicate j 0) (by omega) (by simp) (by omega)
  dsimp only
  rw [if_pos (by omega), Int.toNat_natCast, if_pos (by omega), w64' (by omega) (by omega)]
  simpa using this
theorem By_of_nb : ∀ (n : Nat) (x : List Int), x.length = n → (∀ y ∈ x, 0 ≤ y ∧ y ≤ 255) → By n (nb 0 x) = x
  | 0, x, h, _ => by rw [List.length_eq_zero_iff.1 h]; rfl
  | n + 1, x, h, hb => by
    have hne : x ≠ [] := by intro e; rw [e] at h; simp at h
    have hx := List.dropLast_concat_getLast hne
    have hb1 := hb _ (List.getLast_mem hne)
    have hl : x.dropLast.length = n := by simp [h]
    have ih := By_of_nb n x.dropLast hl (fun y hy => hb y (List.dropLast_subset _ hy))
    generalize x.dropLast = y at hx hl ih
    generalize x.getLast hne = b at hx hb1
    subst hx
    rw [nb_snoc, By, show (nb 0 y * 256 + b) / 256 = nb 0 y by omega, show (nb 0 y * 256 + b) % 256 = b by omega, ih]
theorem text_inj : ∀ (x y : List Int), (∀ z ∈ x, 0 ≤ z ∧ z ≤ 255) → (∀ z ∈ y, 0 ≤ z ∧ z ≤ 255) → (x.map fun n => UInt8.ofNat n.toNat) = (y.map fun n => UInt8.ofNat n.toNat) → x = y
  | [], [], _, _, _ => rfl
  | [], _ :: _, _, _, h => by simp at h
  | _ :: _, [], _, _, h => by simp at h
  | a :: x, b :: y, hx, hy, h => by
    simp only [List.map_cons, List.cons.injEq] at h
    have h1 := hx a List.mem_cons_self
    have h2 := hy b List.mem_cons_self
    have h3 := congrArg UInt8.toNat h.1
    rw [UInt8.toNat_ofNat_of_lt' (by show a.toNat < 256; omega), UInt8.toNat_ofNat_of_lt' (by show b.toNat < 256; omega)] at h3
    rw [text_inj x y (fun z hz => hx z (List.mem_cons_of_mem _ hz)) (fun z hz => hy z (List.mem_cons_of_mem _ hz)) h.2, show a = b by omega]
theorem text_eq (x y : List Int) (hx : ∀ z ∈ x, 0 ≤ z ∧ z ≤ 255) (hy : ∀ z ∈ y, 0 ≤ z ∧ z ≤ 255) : ((strOfNums x).toList == (strOfNums y).toList) = decide (x = y) := by
  rw [strOfNums_toList, strOfNums_toList]
  by_cases h : x = y
  · rw [h]; simp
  · rw [decide_eq_false h]
    have : ¬ bytesOf x = bytesOf y := fun e => h (text_inj x y hx hy e)
    simpa using this
end Go.Proofs.Ytalkfdedbacidaa.Pure
set_option linter.unusedVariables false
set_option linter.unusedSimpArgs false
namespace Go.Proofs.Ytalkfdedbacidaa.Pure
open Go Go.RowKit Go.Proofs.Ytalkfdedbacidaa.G Go.Proofs.YtalkfdedbacidaaW.PrintWords Go.Proofs.YtalkfdedbacidaaW.PrintLast Go.Proofs.YtalkfdedbacidaaW.PrintMore
def DF (l : List Int) : Int × Int × Int × Int × Int × List Int :=
  if (16 ≤ l.length ∧ l.length ≤ 316) ∧ rd l 0 = 32 ∧ (1 ≤ rd l 1 ∧ rd l 1 ≤ 9) ∧ nb 0 ((l.drop 14).take 2) = (l.length : Int) - 16 then
    (0, rd l 1, nb 0 ((l.drop 2).take 4), nb 0 ((l.drop 6).take 4), nb 0 ((l.drop 10).take 4), l.drop 16) else (5, 0, 0, 0, 0, [])
theorem DF_length (l : List Int) : (DF l).2.2.2.2.2.length ≤ l.length := by
  unfold DF; split <;> simp
theorem rd_b {l : List Int} (hb : ∀ x ∈ l, 0 ≤ x ∧ x ≤ 255) (i : Nat) : 0 ≤ rd l (i : Int) ∧ rd l (i : Int) ≤ 255 := by
  by_cases h : i < l.length
  · exact rd_mem hb h
  · rw [rd_nat]; simp [List.getD, List.getElem?_eq_none (show l.length ≤ i by omega)]
theorem part_b {l : List Int} (hb : ∀ x ∈ l, 0 ≤ x ∧ x ≤ 255) (a n : Nat) : ∀ x ∈ (l.drop a).take n, 0 ≤ x ∧ x ≤ 255 := fun x hx => hb x (List.mem_of_mem_drop (List.mem_of_mem_take hx))
theorem nb4 {l : List Int} (hb : ∀ x ∈ l, 0 ≤ x ∧ x ≤ 255) (a : Nat) (h : a + 4 ≤ l.length) : 0 ≤ nb 0 ((l.drop a).take 4) ∧ nb 0 ((l.drop a).take 4) ≤ 4294967295 := by
  have h1 := nb_bound _ (part_b hb a 4) 0 (by omega)
  have h2 : ((l.drop a).take 4).length = 4 := by simp; omega
  rw [h2] at h1
  omega
theorem df_spec (l : List Int) (hb : ∀ x ∈ l, 0 ≤ x ∧ x ≤ 255) (hl : l.length ≤ 1048576) : Ev (fun k => spec_DecodeFrame.f k l) (DF l) := by
  have bad : Ev (fun k => spec_DecodeFrame.j0 k l true) (5, 0, 0, 0, 0, []) := by
    refine ev_succ ?_
    simp only [spec_DecodeFrame.j0, if_true]; exact Ev.now _
  unfold spec_DecodeFrame.f DF
  simp only [in_spec', Option.bind_some, decide_eq_true_eq]
  by_cases h1 : 16 ≤ l.length ∧ l.length ≤ 316
  · have r0 : 0 ≤ rd l 0 ∧ rd l 0 ≤ 255 := rd_b hb 0
    have r1 : 0 ≤ rd l 1 ∧ rd l 1 ≤ 255 := rd_b hb 1
    simp only [h1, show (16 : Int) ≤ (l.length : Int) ∧ (l.length : Int) ≤ 316 by omega, and_self, true_and, if_true, show 0 < (l.length : Int) by omega, show 1 < (l.length : Int) by omega]
    by_cases h2 : rd l 0 = 32
    · simp only [h2, if_true, true_and]
      rw [w64' (n := rd l 1) (by omega) (by omega)]
      by_cases h3 : 1 ≤ rd l 1 ∧ rd l 1 ≤ 9
      · simp only [h3, and_self, if_true, true_and]
        have e1 := spec_take_ev l hb (by omega) 14 2 (by omega) (by omega)
        refine Ev.bind e1 ?_
        rw [w64' (n := (l.length : Int) - 16) (by omega) (by omega)]
        by_cases h4 : nb 0 ((l.drop 14).take 2) = (l.length : Int) - 16
        · simp only [h4, if_true, bne_self_eq_false]
          refine ev_succ ?_
          simp only [spec_DecodeFrame.j0, Bool.false_eq_true, if_false, show 1 < (l.length : Int) by omega, if_true]
          have e2 := spec_take_ev l hb (by omega) 2 4 (by omega) (by omega)
          have e3 := spec_take_ev l hb (by omega) 6 4 (by omega) (by omega)
          have e4 := spec_take_ev l hb (by omega) 10 4 (by omega) (by omega)
          refine Ev.bind e2 (Ev.bind e3 (Ev.bind e4 ?_))
          simp only [Option.bind_some, show (16 : Int) ≤ (l.length : Int) by omega, if_true, List.length_nil, List.nil_append, List.length_drop, show 0 + (l.length - 16) < 140737488355328 by omega]
          rw [w64' (n := rd l 1) (by omega) (by omega)]
          exact Ev.now _
        · simp only [h4, if_false, show (nb 0 ((l.drop 14).take 2) != (l.length : Int) - 16) = true by simpa using h4]
          exact bad
      · simp only [h3, if_false, false_and]; exact bad
    · simp only [h2, if_false, false_and]; exact bad
  · simp only [h1, show ¬ ((16 : Int) ≤ (l.length : Int) ∧ (l.length : Int) ≤ 316) by omega, if_false, false_and]; exact bad
def enc (k a b d : Int) (p : List Int) : List Int := [32, k % 256] ++ (By 4 a ++ (By 4 b ++ (By 4 d ++ (By 2 (p.length : Int) ++ p))))
def EF (k a b d : Int) (p : List Int) : Int × List Int := if (1 ≤ k ∧ k ≤ 9) ∧ (0 ≤ a ∧ a ≤ 4294967295) ∧ (0 ≤ b ∧ b ≤ 4294967295) ∧ (0 ≤ d ∧ d ≤ 4294967295) then (if p.length ≤ 300 then (0, enc k a b d p) else (2, [])) else (3, [])
theorem ef_impl (k a b d : Int) (p : List Int) : Ev (fun n => impl_EncodeFrame.f n k a b d p) (EF k a b d p) := by
  have bad : Ev (fun n => impl_EncodeFrame.j0 n k a b d p true) (3, []) := by
    refine ev_succ ?_
    simp only [impl_EncodeFrame.j0, if_true]; exact Ev.now _
  unfold impl_EncodeFrame.f EF
  simp only [in_impl', impl_isWord.f, Option.bind_some, decide_eq_true_eq]
  by_cases h1 : 1 ≤ k ∧ k ≤ 9
  · by_cases h2 : 0 ≤ a ∧ a ≤ 4294967295
    · by_cases h3 : 0 ≤ b ∧ b ≤ 4294967295
      · by_cases h4 : 0 ≤ d ∧ d ≤ 4294967295
        · simp only [h1, h2, h3, h4, and_self, if_true, decide_true, Bool.not_true]
          refine ev_succ ?_
          simp only [impl_EncodeFrame.j0, Bool.false_eq_true, if_false]
          by_cases h5 : p.length ≤ 300
          · simp only [h5, if_true, show ¬ (p.length : Int) > 300 by omega, if_false]
            have e1 := put_ev a 4 (by omega)
            have e2 := put_ev b 4 (by omega)
            have e3 := put_ev d 4 (by omega)
            have e4 := put_ev (p.length : Int) 2 (by omega)
            refine Ev.bind e1 (Ev.bind e2 (Ev.bind e3 (Ev.bind e4 ?_)))
            have hf : (([(([32, k % 256] : List Int)), By 4 a, By 4 b, By 4 d, By 2 (p.length : Int), p] : List (List Int))).flatten = enc k a b d p := by simp [enc]
            have hn : (enc k a b d p).length * 1 ≤ 140737488355328 := by simp [enc, By_length]; omega
            simp only [slices_Concat_byte_byte.f, hf, hn, if_true, Option.bind_some]
            exact Ev.now _
          · simp only [h5, if_false, show (p.length : Int) > 300 by omega, if_true]; exact Ev.now _
        · simp only [h1, h2, h3, h4, and_self, if_true, if_false, decide_false, Bool.not_false, and_false]; exact bad
      · simp only [h1, h2, h3, and_self, if_true, if_false, and_false, false_and]; exact bad
    · simp only [h1, h2, and_self, if_true, if_false, and_false, false_and]; exact bad
  · simp only [h1, if_false, false_and]; exact bad
theorem split6 (l : List Int) : l = l.take 2 ++ ((l.drop 2).take 4 ++ ((l.drop 6).take 4 ++ ((l.drop 10).take 4 ++ ((l.drop 14).take 2 ++ l.drop 16)))) := by
  have e : ∀ a n : Nat, (l.drop a).take n ++ l.drop (a + n) = l.drop a := by
    intro a n
    have := List.take_append_drop n (l.drop a)
    rwa [List.drop_drop] at this
  have e0 := List.take_append_drop 2 l
  rw [e 14 2, e 10 4, e 6 4, e 2 4, e0]
theorem enc_iff (l : List Int) (hb : ∀ x ∈ l, 0 ≤ x ∧ x ≤ 255) (h16 : 16 ≤ l.length) (hl : l.length ≤ 316) :
    enc (rd l 1) (nb 0 ((l.drop 2).take 4)) (nb 0 ((l.drop 6).take 4)) (nb 0 ((l.drop 10).take 4)) (l.drop 16) = l ↔ rd l 0 = 32 ∧ nb 0 ((l.drop 14).take 2) = (l.length : Int) - 16 := by
  have r0 : 0 ≤ rd l 0 ∧ rd l 0 ≤ 255 := rd_b hb 0
  have r1 : 0 ≤ rd l 1 ∧ rd l 1 ≤ 255 := rd_b hb 1
  have t2 : l.take 2 = [rd l 0, rd l 1] := by
    have e1 := take_snoc_rd l 1 (by omega)
    have e0 := take_snoc_rd l 0 (by omega)
    simp only [List.take_zero, List.nil_append, Nat.zero_add] at e0
    rw [show (2 : Nat) = 1 + 1 from rfl, e1, e0]; rfl
  have b4 : ∀ a : Nat, a + 4 ≤ l.length → By 4 (nb 0 ((l.drop a).take 4)) = (l.drop a).take 4 := fun a ha => By_of_nb 4 _ (by simp; omega) (part_b hb a 4)
  have hn : ((l.drop 16).length : Int) = (l.length : Int) - 16 := by simp; omega
  unfold enc
  rw [b4 2 (by omega), b4 6 (by omega), b4 10 (by omega), hn, show rd l 1 % 256 = rd l 1 from Int.emod_eq_of_lt (by omega) (by omega)]
  have hx : ((l.drop 14).take 2).length = 2 := by simp; omega
  constructor
  · intro h
    have h' := h.trans (split6 l)
    rw [t2] at h'
    obtain ⟨g1, g2⟩ := List.append_inj h' rfl
    have g3 := List.append_cancel_left g2
    have g4 := List.append_cancel_left g3
    have g5 := List.append_cancel_left g4
    have g6 := List.append_cancel_right g5
    simp only [List.cons.injEq, and_true] at g1
    refine ⟨g1.symm, ?_⟩
    rw [← g6]
    exact By_nb 2 _ (by omega) (by omega)
  · rintro ⟨g1, g2⟩
    have g3 : By 2 ((l.length : Int) - 16) = (l.drop 14).take 2 := by rw [← g2]; exact By_of_nb 2 _ hx (part_b hb 14 2)
    have h := split6 l
    rw [t2, g1] at h
    rw [g3]; exact h.symm
theorem enc_b (k a b d : Int) (p : List Int) (hp : ∀ x ∈ p, 0 ≤ x ∧ x ≤ 255) : ∀ x ∈ enc k a b d p, 0 ≤ x ∧ x ≤ 255 := by
  intro x hx
  simp only [enc, List.mem_append, List.mem_cons, List.not_mem_nil, or_false] at hx
  rcases hx with (rfl | rfl) | hx | hx | hx | hx | hx
  · omega
  · omega
  · exact By_byte _ _ x hx
  · exact By_byte _ _ x hx
  · exact By_byte _ _ x hx
  · exact By_byte _ _ x hx
  · exact hp x hx
theorem df_impl (l : List Int) (hb : ∀ x ∈ l, 0 ≤ x ∧ x ≤ 255) (hl : l.length ≤ 1048576) : Ev (fun k => impl_DecodeFrame.f k l) (DF l) := by
  unfold impl_DecodeFrame.f DF
  by_cases h16 : (l.length : Int) < 16
  · simp only [h16, if_true, show ¬ (16 ≤ l.length ∧ l.length ≤ 316) by omega, false_and, if_false]; exact Ev.now _
  simp only [h16, if_false, show 1 < (l.length : Int) by omega, show (6 : Int) ≤ (l.length : Int) by omega, show (10 : Int) ≤ (l.length : Int) by omega, show (14 : Int) ≤ (l.length : Int) by omega, show (16 : Int) ≤ (l.length : Int) by omega, show (2 : Int) ≤ 6 by omega, show (6 : Int) ≤ 10 by omega, show (10 : Int) ≤ 14 by omega, if_true]
  have r1 : 0 ≤ rd l 1 ∧ rd l 1 ≤ 255 := rd_b hb 1
  have cut : ∀ a n : Nat, (l.take (a + n)).drop a = (l.drop a).take n := fun a n => by rw [List.drop_take, Nat.add_sub_cancel_left]
  have c1 := cut 2 4
  have c2 := cut 6 4
  have c3 := cut 10 4
  rw [show 2 + 4 = 6 from rfl] at c1
  rw [show 6 + 4 = 10 from rfl] at c2
  rw [show 10 + 4 = 14 from rfl] at c3
  rw [c1, c2, c3, w64' (n := rd l 1) (by omega) (by omega)]
  have i1 := impl_take_ev ((l.drop 2).take 4) (part_b hb 2 4) (by simp; omega)
  have i2 := impl_take_ev ((l.drop 6).take 4) (part_b hb 6 4) (by simp; omega)
  have i3 := impl_take_ev ((l.drop 10).take 4) (part_b hb 10 4) (by simp; omega)
  refine Ev.bind i1 (Ev.bind i2 (Ev.bind i3 ?_))
  simp only [slices_Clone_byte_byte.f, show (l.drop 16).length * 1 ≤ 140737488355328 by simp; omega, if_true, Option.bind_some]
  refine Ev.bind (ef_impl _ _ _ _ _) ?_
  have n1 := nb4 hb 2 (by omega)
  have n2 := nb4 hb 6 (by omega)
  have n3 := nb4 hb 10 (by omega)
  by_cases h1 : 1 ≤ rd l 1 ∧ rd l 1 ≤ 9
  · by_cases h2 : l.length ≤ 316
    · have he : EF (rd l 1) (nb 0 ((l.drop 2).take 4)) (nb 0 ((l.drop 6).take 4)) (nb 0 ((l.drop 10).take 4)) (l.drop 16) = (0, enc (rd l 1) (nb 0 ((l.drop 2).take 4)) (nb 0 ((l.drop 6).take 4)) (nb 0 ((l.drop 10).take 4)) (l.drop 16)) := by
        unfold EF
        rw [if_pos ⟨h1, n1, n2, n3⟩, if_pos (by simp; omega)]
      have hi := enc_iff l hb (by omega) h2
      simp only [he, if_true, bytes_Equal.f, Option.bind_some]
      rw [text_eq _ _ (enc_b _ _ _ _ _ (fun x hx => hb x (List.mem_of_mem_drop hx))) hb]
      by_cases h3 : rd l 0 = 32 ∧ nb 0 ((l.drop 14).take 2) = (l.length : Int) - 16
      · have h4 := hi.2 h3
        simp only [h4, decide_true, if_true, h1, h3, show 16 ≤ l.length ∧ l.length ≤ 316 by omega, and_self]; exact Ev.now _
      · have h4 : ¬ _ := fun e => h3 (hi.1 e)
        have hc : ¬ ((16 ≤ l.length ∧ l.length ≤ 316) ∧ rd l 0 = 32 ∧ (1 ≤ rd l 1 ∧ rd l 1 ≤ 9) ∧ nb 0 ((l.drop 14).take 2) = (l.length : Int) - 16) := fun c => h3 ⟨c.2.1, c.2.2.2⟩
        rw [if_neg hc]
        simp only [decide_eq_false h4, Bool.false_eq_true, if_false]; exact Ev.now _
    · have he : EF (rd l 1) (nb 0 ((l.drop 2).take 4)) (nb 0 ((l.drop 6).take 4)) (nb 0 ((l.drop 10).take 4)) (l.drop 16) = (2, []) := by
        unfold EF
        rw [if_pos ⟨h1, n1, n2, n3⟩, if_neg (by simp; omega)]
      have hc : ¬ ((16 ≤ l.length ∧ l.length ≤ 316) ∧ rd l 0 = 32 ∧ (1 ≤ rd l 1 ∧ rd l 1 ≤ 9) ∧ nb 0 ((l.drop 14).take 2) = (l.length : Int) - 16) := fun c => h2 c.1.2
      rw [he, if_neg hc]
      simp only [show ¬ (2 : Int) = 0 by omega, if_false]; exact Ev.now _
  · have he : EF (rd l 1) (nb 0 ((l.drop 2).take 4)) (nb 0 ((l.drop 6).take 4)) (nb 0 ((l.drop 10).take 4)) (l.drop 16) = (3, []) := by
      unfold EF
      rw [if_neg (fun c => h1 c.1)]
    have hc : ¬ ((16 ≤ l.length ∧ l.length ≤ 316) ∧ rd l 0 = 32 ∧ (1 ≤ rd l 1 ∧ rd l 1 ≤ 9) ∧ nb 0 ((l.drop 14).take 2) = (l.length : Int) - 16) := fun c => h1 c.2.2.1
    rw [he, if_neg hc]
    simp only [show ¬ (3 : Int) = 0 by omega, if_false]; exact Ev.now _
end Go.Proofs.Ytalkfdedbacidaa.Pure
set_option linter.unusedVariables false
set_option linter.unusedSimpArgs false
namespace Go.Proofs.Ytalkfdedbacidaa.Pure
open Go.RowKit Go.Proofs.Ytalkfdedbacidaa.G Go.Proofs.YtalkfdedbacidaaW.PrintWords Go.Proofs.YtalkfdedbacidaaW.PrintLast Go.Proofs.YtalkfdedbacidaaW.PrintMore
theorem eqFrame_ev (c k a b d : Int) (l : List Int) (hl : l.length ≤ 9223372036854775807) : Ev (fun n => laws_eqFrameResult.f n c k a b d l c k a b d l) true := by
  simp only [laws_eqFrameResult.f, if_true]
  refine Ev.bind (eqByteS_ev l hl) ?_
  simp only [if_true]; exact Ev.now _
theorem markFrame_ev (c k a b d : Int) (l : List Int) (m : Int) (hm : 0 ≤ m) (hl : m + l.length ≤ 9223372036854775806) : Ev (fun n => laws_markFrameResult.f n c k a b d l m) (m + l.length, bmarks m l.length) := by
  simp only [laws_markFrameResult.f]
  refine Ev.bind (markByteS_ev l m hm hl) ?_
  exact Ev.now _
theorem heldFrame_ev (c k a b d : Int) (n : Nat) (m : Int) (hm : 0 ≤ m) (hl : m + n ≤ 9223372036854775806) : Ev (fun j => laws_heldFrameResult.f j c k a b d (bmarks m n) m) (m + n) := by
  simp only [laws_heldFrameResult.f]
  refine Ev.bind (heldByteS_ev n m hm hl) ?_
  simp only [show ¬ (m + (n : Int) < 0) by omega, if_false]; exact Ev.now _
theorem FnExactDecodeFrame : laws_FnExactDecodeFrame.Pure := by
  intro l hm hw
  refine Ev.rounds ?_
  unfold laws_FnExactDecodeFrame.f
  by_cases hbig : (l.length : Int) > 1048576
  · simp only [hbig, if_true]; exact Ev.now _
  simp only [hbig, if_false]
  have hb := byte_wf hw
  have hc := toByteS_ev l (by omega)
  have hlen := DF_length l
  have hi := df_impl l hb (by omega)
  have hs := df_spec l hb (by omega)
  generalize DF l = r at hlen hi hs
  refine Ev.bind hc (Ev.bind hs (Ev.bind hc (Ev.bind hi (Ev.bind (eqFrame_ev _ _ _ _ _ _ (by omega)) ?_))))
  simp only [if_true]
  refine Ev.bind hc (Ev.bind (eqByteS_ev l (by omega)) ?_)
  simp only [if_true]
  refine Ev.bind (markByteS_ev l 1 (by omega) (by omega)) ?_
  simp only [show ¬ (1 + (l.length : Int) < 0) by omega, if_false]
  refine Ev.bind (eqFrame_ev _ _ _ _ _ _ (by omega)) ?_
  refine ev_succ ?_
  simp only [laws_FnExactDecodeFrame.j0, Bool.not_true, Bool.false_eq_true, if_false]
  refine Ev.bind (markFrame_ev _ _ _ _ _ _ 1 (by omega) (by omega)) (Ev.bind (heldFrame_ev _ _ _ _ _ _ 1 (by omega) (by omega)) ?_)
  simp only [show ¬ (1 + (r.2.2.2.2.2.length : Int) < 0) by omega, if_false, if_true]
  refine Ev.bind hc (Ev.bind hi (Ev.bind (eqFrame_ev _ _ _ _ _ _ (by omega)) ?_))
  simp only [if_true]
  refine Ev.bind (heldFrame_ev _ _ _ _ _ _ 1 (by omega) (by omega)) ?_
  simp only [show ¬ (1 + (r.2.2.2.2.2.length : Int) < 0) by omega, if_false, if_true]
  exact Ev.now _
end Go.Proofs.Ytalkfdedbacidaa.Pure
namespace Go.Proofs.Ytalkfdedbacidaa.fnExactDecodeFrame
open Go.ChangeShapes Go.WideShapes Go.ChangeAt
open Go.RowKit Go.Proofs.Ytalkfdedbacidaa.G Go.Proofs.YtalkfdedbacidaaW.PrintWords Go.Proofs.YtalkfdedbacidaaW.PrintLast
open Go.ChangeMaps (open_string shut_string)
set_option linter.unusedVariables false
theorem own : ownKnob Try.prog.godebug = none := by kernel_rfl
theorem laidOut : laidOutB Try.prog = true := by kernel_rfl
theorem o5 : Opn.Opens Try.prog 5 (Kd.int .u8) (fun n => (Lit.int .u8 n).wf = true) := Opn.opens_int Try.underlying5 (by kernel_rfl)
set_option maxRecDepth 100000 in
theorem lifted (os : Os) (started : os.Started) (H : Type) (enc : TypeId × Value → H) :
    ReturnsInHanded {} Try.checked os 12 .any (Rows.fnExactDecodeFrameSpec.pre6 enc Try.prog Try.f12 Rows.fnExactDecodeFrameRow.domain false) (Rows.fnExactDecodeFrameSpec.post enc Try.prog Try.f12 false true false false) := by
  refine returnsInHanded_of_change_sized (C := Try.checked) own started (by kernel_rfl) Try.func12
    (ChangeSpec.witness6 (enc := enc) (C := Try.checked) false ⟨#[], #[.slice none 0 0], []⟩ 8 (by kernel_rfl) (by kernel_rfl) (by kernel_rfl) (by kernel_rfl)) ?_
  intro W base args ds gs before hval0 hW hcnd hsz0 _
  have hval : ∀ (j : Nat) t v, Try.f12.params[j]? = some t → args[j]? = some v → Value.okWide Try.prog W .any base t v := hval0
  have hW' := hW
  obtain ⟨p, q, hA0, hV, rfl, hfz, hnd⟩ := hW
  have hA : DataW.TrodAll enc Try.prog W 0 (fun _ => true) true Try.f12.params.toList args.toList ds p := hA0
  rw [Try.params12] at hA hval
  obtain ⟨v0, vs0, d0, ds0, p0, q0, hargs, rfl, rfl, h0, r0⟩ := trodAll_cons hA
  obtain ⟨rfl, rfl, rfl⟩ := trodAll_nil r0
  obtain rfl : args = #[v0] := by cases args; simp_all
  obtain ⟨rfl, rfl⟩ := trodVars_none hV
  obtain ⟨A0, len0, c0, rfl⟩ := okWide_slice Try.underlying36 (hval 0 36 v0 rfl rfl)
  have k0 := h0
  have lt0 : ∀ x ∈ p0, x.block < W.heap.size := by obtain ⟨m, hm⟩ := k0; exact DataW.trod_lt m _ _ _ hm
  obtain ⟨l0, rfl, hr0, hc0, hm0, hg0⟩ := Opn.arg_slice Try.underlying36 (by kernel_rfl) o5 h0
  clear hA0 hval0 hsz0
  obtain ⟨k, h⟩ := Pure.FnExactDecodeFrame l0 hm0 hg0
  refine (laws_FnExactDecodeFrame.calls k A0 c0 l0 W hr0 hc0 h).mono fun e W' ⟨he, bel0⟩ => ?_
  have bel : Below W.heap.size W W' := bel0
  subst he
  exact ⟨_, rfl, _, _, _, [], _, [], hW', trodAll_mk1 (shut_bool Try.underlying4 _), (trodAll_cons_mk (Below.trod laidOut (by kernel_rfl) (of_decide_eq_true (by kernel_rfl)) k0 bel lt0) trodAll_mk0), rfl, bel.frame _, fun h => by cases h⟩
theorem over : Rows.fnExactDecodeFrameRow.holds Try.pinned (OpenSpec.ofChange Rows.fnExactDecodeFrameSpec) :=
  OpenClaim.holds_of_wide 12 Try.f12 rfl rfl rfl rfl rfl rfl rfl ⟨rfl, rfl, rfl, rfl, rfl⟩ rfl rfl rfl rfl rfl (by kernel_rfl) Try.func12 (by kernel_rfl)
    (of_decide_eq_true (by kernel_rfl)) (by unfold Func.isWrapper; first | (rw [if_pos (by decide +kernel)]; kernel_rfl) | (rw [if_neg (by decide +kernel)]; exact ⟨rfl, rfl⟩))
    (fun os started H enc _ => lifted os started H enc)
end Go.Proofs.Ytalkfdedbacidaa.fnExactDecodeFrame
namespace Go.Proofs.Ytalkfdedbacidaa
theorem fnExactDecodeFrame_holds : Rows.FnExactDecodeFrameSaid := fnExactDecodeFrame.over
end Go.Proofs.Ytalkfdedbacidaa
#print axioms Go.Proofs.Ytalkfdedbacidaa.fnExactDecodeFrame_holds
