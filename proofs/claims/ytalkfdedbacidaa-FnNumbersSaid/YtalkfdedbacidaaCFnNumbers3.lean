/- FnNumbers: for every input the law returns true and its arguments read afterwards as they read before. No condition. -/
import Derived.Test.YtalkfdedbacidaaCFnNumbers2
import Derived.ChangeArms
import Derived.Deep.Slices
import Derived.ProofKit
import Derived.OpenShut
import Derived.Laws.BitsLemmas
import Derived.Test.YtalkfdedbacidaaRows
import Derived.WalkKit
import Derived.ShutString
import Derived.ChangeOld
import Derived.Below
import Derived.SizedLaws
set_option linter.unusedVariables false
namespace Go.Proofs.Ytalkfdedbacidaa.Opn
open Go.Proofs.YtalkfdedbacidaaW.PrintWords
def Opens {α : Type} (P : Program) (t : TypeId) (d : Kd α) (G : α → Prop) : Prop :=
  P.cellsOf t = d.sz ∧ ∀ (H : Type) (enc : TypeId × Value → H) (W : World) (base : Nat) (sp : Nat → Bool) (held : Bool) (fuel : Nat) (cs : List Value) (x : DataW H × List MemPlace),
    DataW.trod enc P W base sp held fuel t cs = some x → ∃ a, d.K W a cs ∧ G a
theorem opens_int {P : Program} {t : TypeId} {k : IntKind} (ht : P.underlying t = some (.int k)) (hc : P.cellsOf t = 1) : Opens P t (Kd.int k) (fun n => (Lit.int k n).wf = true) :=
  ⟨hc, fun H enc W base sp held fuel cs x hx => by
    obtain ⟨n, h, hx, hw⟩ := DataW.trod_int ht hx
    exact ⟨n, h, hw⟩⟩
theorem opens_slice {α : Type} {P : Program} {t e : TypeId} {d : Kd α} {G : α → Prop} (ht : P.underlying t = some (.slice e)) (hc : P.cellsOf t = 1) (he : Opens P e d G) :
    Opens P t (Kd.slice e d) (fun xs => xs.length ≤ maxLen ∧ ∀ x ∈ xs, G x) :=
  ⟨hc, fun H enc W base sp held fuel cs x hx => by
    rcases Go.Deep.open_slice ht hx with ⟨rfl, rfl⟩ | ⟨a, len, cap, m, n, D, Pl, rfl, hb, hl, hm, hmm, rfl, hel⟩
    · refine ⟨[], ⟨none, 0, rfl, Nat.le_refl _, rfl, by simp, ?_⟩, by simp, by simp⟩
      intro h; exact absurd h (by simp)
    · have hle : len ≤ m := by rw [hmm]; split <;> omega
      have key : ∀ i, i < len → ∃ p : α, ∃ c : List Value, c.length = d.sz ∧ d.K W p c ∧ G p ∧ ∀ j u, c[j]? = some u → W.cell? (a.add (i * d.sz + j)) = some u := by
        intro i hi
        obtain ⟨c, h1, h2⟩ := hel i (by omega)
        obtain ⟨p, h3, h4⟩ := he.2 H enc W base sp held n c _ h2
        obtain ⟨_, h5, h6⟩ := World.cells?_some h1
        rw [he.1] at h5 h6
        refine ⟨p, c, h5, h3, h4, fun j u hj => ?_⟩
        have hjl : j < d.sz := by
          have := (List.getElem?_eq_some_iff.1 hj).1
          omega
        rw [← Go.Deep.add_add, h6 j hjl, hj]
      have ex : ∃ ps : List α, ps.length = len ∧ ∀ i p, ps[i]? = some p → ∃ c : List Value, c.length = d.sz ∧ d.K W p c ∧ G p ∧ ∀ j u, c[j]? = some u → W.cell? (a.add (i * d.sz + j)) = some u := by
        clear hel hmm hle hl hm hx
        induction len with
        | zero => exact ⟨[], rfl, fun i p h => by simp at h⟩
        | succ k ih =>
          obtain ⟨ps, h1, h2⟩ := ih (fun i hi => key i (by omega))
          obtain ⟨p, hp⟩ := key k (by omega)
          refine ⟨ps ++ [p], by simp [h1], fun i q h => ?_⟩
          by_cases hi : i < ps.length
          · rw [List.getElem?_append_left hi] at h
            exact h2 i q h
          · rw [List.getElem?_append_right (by omega)] at h
            have hi0 : i - ps.length = 0 := by
              have := (List.getElem?_eq_some_iff.1 h).1
              simp at this
              omega
            rw [hi0] at h
            simp at h
            subst h
            have : i = k := by omega
            subst this
            exact hp
      obtain ⟨ps, h1, h2⟩ := ex
      subst h1
      refine ⟨ps, ⟨some a, cap, rfl, hl, rfl, by simp only [maxLen] at hm; omega, fun _ => ⟨a, rfl, fun j p hj => ?_⟩⟩, by omega, fun x hx' => ?_⟩
      · obtain ⟨c, g1, g2, g3, g4⟩ := h2 j p hj
        exact ⟨c, g1, g2, g4⟩
      · obtain ⟨i, hi⟩ := List.getElem?_of_mem hx'
        obtain ⟨c, g1, g2, g3, g4⟩ := h2 i x hi
        exact g3⟩
theorem arg_slice {α : Type} {P : Program} {W : World} {t e : TypeId} {d : Kd α} {G : α → Prop} {H : Type} {enc : TypeId × Value → H} {base : Nat} {sp : Nat → Bool} {held : Bool} {A : Option Addr} {n c : Nat} {x : DataW H} {ps : List MemPlace}
    (ht : P.underlying t = some (.slice e)) (hc : P.cellsOf t = 1) (he : Opens P e d G) (h : DataW.Trod enc P W base sp held t (.slice A n c) x ps) :
    ∃ xs : List α, n = xs.length ∧ d.C W A xs.length xs ∧ xs.length ≤ c ∧ xs.length ≤ maxLen ∧ ∀ a ∈ xs, G a := by
  obtain ⟨fuel, hf⟩ := h
  obtain ⟨xs, ⟨A', c', h1, h2, h3⟩, h4, h5⟩ := (opens_slice ht hc he).2 H enc W base sp held fuel _ _ hf
  simp [Value.cells] at h1
  obtain ⟨rfl, rfl, rfl⟩ := h1
  exact ⟨xs, rfl, h3, h2, h4, h5⟩
end Go.Proofs.Ytalkfdedbacidaa.Opn
namespace Go.Proofs.Ytalkfdedbacidaa.Pure
open Go.RowKit Go.Proofs.Ytalkfdedbacidaa.G Go.Proofs.YtalkfdedbacidaaW.PrintWords Go.Proofs.YtalkfdedbacidaaW.PrintLast
def laws_FnNumbers.Pure : Prop := ∀ (l0 : List Int), l0.length ≤ maxLen → (∀ x ∈ l0, (fun n => (Lit.int .u8 n).wf = true) x) → ∃ k, laws_FnNumbers.f k l0 = some true
end Go.Proofs.Ytalkfdedbacidaa.Pure
namespace Go.Proofs.Ytalkfdedbacidaa.Pure
open Go.RowKit Go.Proofs.Ytalkfdedbacidaa.G Go.Proofs.YtalkfdedbacidaaW.PrintWords Go.Proofs.YtalkfdedbacidaaW.PrintLast
def laws_FnExactTakeNumber.Pure : Prop := ∀ (l0 : List Int) (a1 : Int) (a2 : Int), l0.length ≤ maxLen → (∀ x ∈ l0, (fun n => (Lit.int .u8 n).wf = true) x) → (Lit.int .i64 a1).wf = true → (Lit.int .i64 a2).wf = true → ∃ k, laws_FnExactTakeNumber.f k l0 a1 a2 = some true
end Go.Proofs.Ytalkfdedbacidaa.Pure
set_option linter.unusedVariables false
set_option linter.unusedSimpArgs false
namespace Go.Proofs.Ytalkfdedbacidaa.Pure
open Go.RowKit Go.Proofs.Ytalkfdedbacidaa.G Go.Proofs.YtalkfdedbacidaaW.PrintWords Go.Proofs.YtalkfdedbacidaaW.PrintLast Go.Proofs.YtalkfdedbacidaaW.PrintMore
theorem w64' {n : Int} (h0 : -9223372036854775808 ≤ n) (h1 : n ≤ 9223372036854775807) : wrap64 n = n := by unfold wrap64; omega
theorem rd_nat (l : List Int) (i : Nat) : rd l (i : Int) = l.getD i 0 := by simp [rd]
end Go.Proofs.Ytalkfdedbacidaa.Pure
set_option linter.unusedVariables false
set_option linter.unusedSimpArgs false
namespace Go.Proofs.Ytalkfdedbacidaa.Pure
open Go.RowKit Go.Proofs.Ytalkfdedbacidaa.G Go.Proofs.YtalkfdedbacidaaW.PrintWords Go.Proofs.YtalkfdedbacidaaW.PrintLast Go.Proofs.YtalkfdedbacidaaW.PrintMore
def nb (n : Int) (l : List Int) : Int := l.foldl (fun n b => n * 256 + b) n
theorem nb_snoc (n : Int) (l : List Int) (b : Int) : nb n (l ++ [b]) = nb n l * 256 + b := by simp [nb]
theorem nb_bound (l : List Int) (hb : ∀ x ∈ l, 0 ≤ x ∧ x ≤ 255) : ∀ n : Int, 0 ≤ n → 0 ≤ nb n l ∧ nb n l < (n + 1) * 256 ^ l.length := by
  induction l with
  | nil => intro n hn; simp [nb]; omega
  | cons b r ih =>
    intro n hn
    have h1 := hb b (List.mem_cons_self)
    obtain ⟨h2, h3⟩ := ih (fun x hx => hb x (List.mem_cons_of_mem _ hx)) (n * 256 + b) (by omega)
    have e : nb n (b :: r) = nb (n * 256 + b) r := rfl
    rw [e]
    refine ⟨h2, ?_⟩
    rw [List.length_cons, Int.pow_succ, Int.mul_comm ((256 : Int) ^ r.length) 256, ← Int.mul_assoc]
    have h4 : (n * 256 + b + 1) * (256 : Int) ^ r.length ≤ (n + 1) * 256 * (256 : Int) ^ r.length := Int.mul_le_mul_of_nonneg_right (by omega) (Int.le_of_lt (Int.pow_pos (by decide)))
    omega
theorem or_byte (x b : Int) (h0 : 0 ≤ x) (h1 : x < 281474976710656) (b0 : 0 ≤ b) (b1 : b ≤ 255) : Go.bits .or .i64 (wrap64 (x * 256)) (wrap64 b) = wrap64 (x * 256) + b := by
  rw [w64' (n := b) (by omega) (by omega), w64' (n := x * 256) (by omega) (by omega)]
  exact bits_join .i64 63 (by decide) (fun n h₀ h₁ => by rw [IntKind.wrap_i64]; omega) 8 (x * 256) b (by omega) (by omega) (by omega) b0 (by omega) (by omega)
theorem take_mem {l : List Int} {i : Nat} (hb : ∀ x ∈ l, 0 ≤ x ∧ x ≤ 255) : ∀ x ∈ l.take i, 0 ≤ x ∧ x ≤ 255 := fun x hx => hb x (List.mem_of_mem_take hx)
theorem rd_mem {l : List Int} {i : Nat} (hb : ∀ x ∈ l, 0 ≤ x ∧ x ≤ 255) (h : i < l.length) : 0 ≤ rd l i ∧ rd l i ≤ 255 := by
  rw [rd_nat]
  simp only [List.getD, List.getElem?_eq_getElem h, Option.getD_some]
  exact hb _ (List.getElem_mem h)
theorem take_snoc_rd (l : List Int) (i : Nat) (h : i < l.length) : l.take (i + 1) = l.take i ++ [rd l i] := by
  rw [List.take_succ_eq_append_getElem h, rd_nat]
  simp [List.getD, List.getElem?_eq_getElem h]
theorem impl_take_l0 (l : List Int) (hb : ∀ x ∈ l, 0 ≤ x ∧ x ≤ 255) (hl : l.length ≤ 7) (d : Nat) : ∀ (k i : Nat), i + d = l.length → d < k →
    impl_take.l0 k (nb 0 (l.take i)) l (l.length : Int) i = some (nb 0 l) := by
  induction d with
  | zero =>
    intro k i hi hk
    obtain ⟨k, rfl⟩ : ∃ m, k = m + 1 := ⟨k - 1, by omega⟩
    simp only [impl_take.l0]; rw [if_neg (by omega), List.take_of_length_le (by omega)]
  | succ d ih =>
    intro k i hi hk
    obtain ⟨k, rfl⟩ : ∃ m, k = m + 1 := ⟨k - 1, by omega⟩
    have h1 := nb_bound (l.take i) (take_mem hb) 0 (by omega)
    have hli : (l.take i).length = i := by simp; omega
    rw [hli] at h1
    have h2 : (256 : Int) ^ i ≤ 281474976710656 := by
      have : i = 0 ∨ i = 1 ∨ i = 2 ∨ i = 3 ∨ i = 4 ∨ i = 5 ∨ i = 6 := by omega
      rcases this with rfl | rfl | rfl | rfl | rfl | rfl | rfl <;> decide
    have h3 := rd_mem hb (show i < l.length by omega)
    simp only [impl_take.l0]
    rw [if_pos (by omega), if_pos (by omega), if_pos (by omega), or_byte _ _ h1.1 (by omega) h3.1 h3.2, w64' (n := nb 0 (l.take i) * 256) (by omega) (by omega), ← nb_snoc, ← take_snoc_rd l i (by omega), w64' (n := (i : Int) + 1) (by omega) (by omega)]
    have := ih k (i + 1) (by omega) (by omega)
    simpa using this
theorem impl_take_ev (l : List Int) (hb : ∀ x ∈ l, 0 ≤ x ∧ x ≤ 255) (hl : l.length ≤ 7) : Ev (fun k => impl_take.f k l) (nb 0 l) := by
  refine ⟨l.length + 1, fun k hk => ?_⟩
  unfold impl_take.f
  have := impl_take_l0 l hb hl l.length k 0 (by omega) (by omega)
  simpa [nb] using this
end Go.Proofs.Ytalkfdedbacidaa.Pure
set_option linter.unusedVariables false
set_option linter.unusedSimpArgs false
namespace Go.Proofs.Ytalkfdedbacidaa.Pure
open Go.RowKit Go.Proofs.Ytalkfdedbacidaa.G Go.Proofs.YtalkfdedbacidaaW.PrintWords Go.Proofs.YtalkfdedbacidaaW.PrintLast Go.Proofs.YtalkfdedbacidaaW.PrintMore
theorem in_spec' (a b c : Int) : spec_l1In.f a b c = some (decide (b ≤ a ∧ a ≤ c)) := by
  unfold spec_l1In.f; split
  · congr 1; simp; omega
  · congr 1; simp; omega
theorem in_impl' (a b c : Int) : impl_in.f a b c = some (decide (b ≤ a ∧ a ≤ c)) := by
  unfold impl_in.f; split
  · congr 1; simp; omega
  · congr 1; simp; omega
end Go.Proofs.Ytalkfdedbacidaa.Pure
namespace Go.Proofs.Ytalkfdedbacidaa.Pure
open Go.RowKit Go.Proofs.Ytalkfdedbacidaa.G Go.Proofs.YtalkfdedbacidaaW.PrintWords Go.Proofs.YtalkfdedbacidaaW.PrintLast
theorem byte_wf {l : List Int} (h : ∀ x ∈ l, (Lit.int .u8 x).wf = true) : ∀ x ∈ l, 0 ≤ x ∧ x ≤ 255 := fun x hx => by
  have := h x hx
  simpa [Lit.wf, IntKind.min, IntKind.max, IntKind.signed, IntKind.bits] using this
def TN (l : List Int) (a s : Int) : Int × Int := if (1 ≤ s ∧ s ≤ 7) ∧ 0 ≤ a ∧ a ≤ l.length - s then (0, nb 0 ((l.drop a.toNat).take s.toNat)) else (3, 0)
theorem tn_impl (l : List Int) (a s : Int) (hb : ∀ x ∈ l, 0 ≤ x ∧ x ≤ 255) (hl : l.length ≤ 1048576) : Ev (fun k => impl_TakeNumber.f k l a s) (TN l a s) := by
  unfold impl_TakeNumber.f TN
  simp only [in_impl', Option.bind_some, decide_eq_true_eq]
  by_cases h1 : 1 ≤ s ∧ s ≤ 7
  · rw [w64' (n := (l.length : Int) - s) (by omega) (by omega)]
    by_cases h2 : 0 ≤ a ∧ a ≤ (l.length : Int) - s
    · rw [w64' (n := a + s) (by omega) (by omega)]
      simp only [h1, h2, and_self, if_true, show ¬ a < 0 by omega, show ¬ a > (l.length : Int) - s by omega, if_false, show a ≤ a + s by omega, show a + s ≤ (l.length : Int) by omega]
      obtain ⟨a, rfl⟩ := Int.eq_ofNat_of_zero_le h2.1
      obtain ⟨s, rfl⟩ := Int.eq_ofNat_of_zero_le (show 0 ≤ s by omega)
      have e : (l.take ((a : Int) + s).toNat).drop ((a : Int)).toNat = (l.drop ((a : Int)).toNat).take ((s : Int)).toNat := by
        rw [show ((a : Int) + s).toNat = a + s by omega, Int.toNat_natCast, Int.toNat_natCast, List.drop_take, Nat.add_sub_cancel_left]
      rw [e]
      exact Ev.bind (impl_take_ev _ (fun x hx => hb x (List.mem_of_mem_drop (List.mem_of_mem_take hx))) (by simp; omega)) (Ev.now _)
    · simp only [h1, h2, and_self, and_false, if_true, if_false]
      by_cases h3 : a < 0
      · simp only [h3, if_true]; exact Ev.now _
      · simp only [h3, show a > (l.length : Int) - s by omega, if_true, if_false]; exact Ev.now _
  · simp only [h1, false_and, if_false]; exact Ev.now _
end Go.Proofs.Ytalkfdedbacidaa.Pure
set_option linter.unusedVariables false
set_option linter.unusedSimpArgs false
namespace Go.Proofs.Ytalkfdedbacidaa.Pure
open Go.RowKit Go.Proofs.Ytalkfdedbacidaa.G Go.Proofs.YtalkfdedbacidaaW.PrintWords Go.Proofs.YtalkfdedbacidaaW.PrintLast Go.Proofs.YtalkfdedbacidaaW.PrintMore
theorem w64d {n : Int} (h0 : 0 ≤ n) (h1 : n ≤ 9223372036854775807) : wrap64 n = n := by unfold wrap64; omega
theorem rd_byte {l : List Int} (hb : ∀ x ∈ l, 0 ≤ x ∧ x ≤ 255) (i : Int) : 0 ≤ rd l i ∧ rd l i ≤ 255 := by
  unfold rd
  simp only [List.getD]
  cases h : l[i.toNat]? with
  | none => simp
  | some x => simpa using hb x (List.mem_of_getElem? h)
theorem next_ok (l : List Int) (hb : ∀ x ∈ l, 0 ≤ x ∧ x ≤ 255) (hl : l.length ≤ 1048576) (s a : Int) (s0 : 0 ≤ s) (s1 : s ≤ 1000000000000) (ha : 1 ≤ a) : ∃ r, spec_l1Next.f l s a = some (r, s + 1) ∧ 0 ≤ r ∧ r < a := by
  unfold spec_l1Next.f
  have e1 : wrap64 (s + 1) = s + 1 := w64d (by omega) (by omega)
  have e2 : wrap64 (s + 1 - 1) = s := by rw [w64d (by omega) (by omega)]; omega
  rw [if_neg (by omega), e1, e2]
  by_cases h0 : (l.length : Int) = 0
  · rw [if_pos h0, if_neg (by omega), w64d (by omega) (by omega)]
    exact ⟨_, rfl, Int.tmod_nonneg _ (by omega), Int.tmod_lt_of_pos _ (by omega)⟩
  rw [if_neg h0]
  have m0 := Int.tmod_nonneg (l.length : Int) (show 0 ≤ s by omega)
  have m1 := Int.tmod_lt_of_pos s (show 0 < (l.length : Int) by omega)
  have d0 : 0 ≤ s.tdiv (l.length : Int) := Int.tdiv_nonneg s0 (by omega)
  have d1 : s.tdiv (l.length : Int) ≤ s := by
    rw [Int.tdiv_eq_ediv_of_nonneg s0]; exact Int.ediv_le_self _ s0
  have r0 := rd_byte hb (s.tmod (l.length : Int))
  generalize rd l (s.tmod (l.length : Int)) = x at r0 ⊢
  rw [if_pos m0, if_pos m1]
  have f1 : wrap64 x = x := w64d r0.1 (by omega)
  have f2 : wrap64 (s.tdiv (l.length : Int)) = s.tdiv (l.length : Int) := w64d d0 (by omega)
  generalize s.tdiv (l.length : Int) = q at d0 d1 f2 ⊢
  have f3 : wrap64 (q * 37) = q * 37 := w64d (by omega) (by omega)
  have f4 : wrap64 (x + q * 37) = x + q * 37 := w64d (by omega) (by omega)
  rw [f1, f2, f3, f4]
  by_cases h2 : a > 200
  · rw [if_pos h2]
    try simp only [e1]
    have g0 : 0 ≤ (wrap64 (s + 1)).tmod (l.length : Int) := Int.tmod_nonneg _ (by rw [e1]; omega)
    have g1 : (wrap64 (s + 1)).tmod (l.length : Int) < (l.length : Int) := Int.tmod_lt_of_pos _ (by omega)
    have y0 := rd_byte hb ((wrap64 (s + 1)).tmod (l.length : Int))
    rw [e1] at g0 g1 y0
    generalize rd l ((s + 1).tmod (l.length : Int)) = y at y0 ⊢
    rw [if_pos g0, if_pos g1, if_neg (by omega)]
    have f5 : wrap64 y = y := w64d y0.1 (by omega)
    have f6 : wrap64 (y * 13) = y * 13 := w64d (by omega) (by omega)
    have f7 : wrap64 ((x + q * 37) * 251) = (x + q * 37) * 251 := w64d (by omega) (by omega)
    have f8 : wrap64 ((x + q * 37) * 251 + y * 13) = (x + q * 37) * 251 + y * 13 := w64d (by omega) (by omega)
    have f9 : wrap64 ((x + q * 37) * 251 + y * 13 + s) = (x + q * 37) * 251 + y * 13 + s := w64d (by omega) (by omega)
    rw [f5, f6, f7, f8, f9]
    exact ⟨_, rfl, Int.tmod_nonneg _ (by omega), Int.tmod_lt_of_pos _ (by omega)⟩
  · rw [if_neg h2, if_neg (by omega)]
    exact ⟨_, rfl, Int.tmod_nonneg _ (by omega), Int.tmod_lt_of_pos _ (by omega)⟩
theorem pick_ok (l : List Int) (hb : ∀ x ∈ l, 0 ≤ x ∧ x ≤ 255) (hl : l.length ≤ 1048576) (s : Int) (L : List Int) (s0 : 0 ≤ s) (s1 : s ≤ 1000000000000) (hL : 1 ≤ L.length) : ∃ x, x ∈ L ∧ spec_l1Pick.f l s L = some (x, s + 1) := by
  obtain ⟨r, h, r0, r1⟩ := next_ok l hb hl s (L.length : Int) s0 s1 (by omega)
  obtain ⟨n, rfl⟩ := Int.eq_ofNat_of_zero_le r0
  have hn : n < L.length := by omega
  refine ⟨L[n], List.getElem_mem hn, ?_⟩
  unfold spec_l1Pick.f
  rw [h]; simp only [Option.bind_some]
  rw [if_pos r0, if_pos r1]
  have : rd L (n : Int) = L[n] := by simp [rd, List.getD, List.getElem?_eq_getElem hn]
  rw [this]
theorem max_ok (x y : Int) : spec_l1Max.f x y = some (max x y) := by
  unfold spec_l1Max.f; split <;> congr 1 <;> omega
theorem min_ok (x y : Int) : spec_l1Min.f x y = some (min x y) := by
  unfold spec_l1Min.f; split <;> congr 1 <;> omega
end Go.Proofs.Ytalkfdedbacidaa.Pure
set_option linter.unusedVariables false
set_option linter.unusedSimpArgs false
namespace Go.Proofs.Ytalkfdedbacidaa.Pure
open Go.RowKit Go.Proofs.Ytalkfdedbacidaa.G Go.Proofs.YtalkfdedbacidaaW.PrintWords Go.Proofs.YtalkfdedbacidaaW.PrintLast Go.Proofs.YtalkfdedbacidaaW.PrintMore
theorem shl_wide {w : Int} (h : 1 ≤ w ∧ w ≤ 7) : wrap64 (8 * w) = 8 * w ∧ IntKind.u64.wrap (8 * w) = 8 * w ∧ shl .i64 1 (8 * w) = 256 ^ w.toNat ∧ (256 : Int) ^ w.toNat ≤ 72057594037927936 ∧ 256 ≤ (256 : Int) ^ w.toNat := by
  have : w = 1 ∨ w = 2 ∨ w = 3 ∨ w = 4 ∨ w = 5 ∨ w = 6 ∨ w = 7 := by omega
  rcases this with rfl | rfl | rfl | rfl | rfl | rfl | rfl <;> refine ⟨by unfold wrap64; omega, by simp [IntKind.wrap, IntKind.bits, IntKind.signed], by simp [shl, IntKind.wrap, IntKind.bits, IntKind.signed], by simp, by simp⟩
theorem draw_put (l : List Int) (hb : ∀ x ∈ l, 0 ≤ x ∧ x ≤ 255) (hl : l.length ≤ 1048576) : ∃ v w, spec_DrawPutNumber.f l = some (v, w) ∧ (0 ≤ w ∧ w ≤ 8) ∧ -1 ≤ v ∧ v ≤ 4611686018427387904 := by
  unfold spec_DrawPutNumber.f
  simp only [spec_l1Source.f, Option.bind_some]
  obtain ⟨w, hw, e⟩ := pick_ok l hb hl 0 ([1, 2, 4, 7, 2, 0, 8] : List Int) (by omega) (by omega) (by simp)
  have hw' : 0 ≤ w ∧ w ≤ 8 := by
    simp only [List.mem_cons, List.not_mem_nil, or_false] at hw; omega
  rw [e]
  simp only [Option.bind_some, min_ok, max_ok]
  have ht : 1 ≤ max 1 (min 7 w) ∧ max 1 (min 7 w) ≤ 7 := by omega
  generalize max 1 (min 7 w) = t at ht
  obtain ⟨t1, t2, t3, t4, t5⟩ := shl_wide ht
  obtain ⟨x, e1, x0, x1⟩ := next_ok l hb hl 1 200 (by omega) (by omega) (by omega)
  obtain ⟨y, e2, y0, y1⟩ := next_ok l hb hl 2 60000 (by omega) (by omega) (by omega)
  rw [t1, t2, t3, if_pos (by omega)]
  generalize (256 : Int) ^ t.toNat = p at t4 t5
  rw [w64d (n := p - 1) (by omega) (by omega)]
  have e1' : spec_l1Next.f l (0 + 1) 200 = some (x, 2) := by simpa using e1
  rw [e1']
  simp only [Option.bind_some]
  have e2' : spec_l1Next.f l 2 60000 = some (y, 3) := by simpa using e2
  rw [e2']
  simp only [Option.bind_some]
  obtain ⟨v, hv, e3⟩ := pick_ok l hb hl 3 ([x, y, p - 1, p, 0, (-1), 4611686018427387904] : List Int) (by omega) (by omega) (by simp)
  rw [e3]
  simp only [Option.bind_some]
  refine ⟨v, w, rfl, hw', ?_⟩
  simp only [List.mem_cons, List.not_mem_nil, or_false] at hv
  omega
def By : Nat → Int → List Int
  | 0, _ => []
  | j + 1, v => By j (v / 256) ++ [v % 256]
theorem By_length : ∀ (j : Nat) (v : Int), (By j v).length = j
  | 0, _ => rfl
  | j + 1, v => by simp [By, By_length j]
theorem By_byte : ∀ (j : Nat) (v : Int), ∀ x ∈ By j v, 0 ≤ x ∧ x ≤ 255
  | 0, _ => by simp [By]
  | j + 1, v => by
    intro x hx
    simp only [By, List.mem_append, List.mem_singleton] at hx
    rcases hx with hx | rfl
    · exact By_byte j _ x hx
    · omega
theorem By_nb : ∀ (j : Nat) (v : Int), 0 ≤ v → v < 256 ^ j → nb 0 (By j v) = v
  | 0, v => by intro h0 h1; simp [By, nb] at *; omega
  | j + 1, v => by
    intro h0 h1
    have h2 : v / 256 < 256 ^ j := by
      rw [Int.pow_succ] at h1
      exact Int.ediv_lt_of_lt_mul (by omega) h1
    rw [By, nb_snoc, By_nb j (v / 256) (by omega) h2]
    omega
theorem put_l0 : ∀ (j : Nat) (k : Nat) (v : Int) (acc : List Int), j < k → j ≤ acc.length → j ≤ 7 → impl_put.l0 k v acc ((j : Int) - 1) = some (By j v ++ acc.drop j)
  | 0, k, v, acc => by
    intro hk _ _
    obtain ⟨k, rfl⟩ : ∃ m, k = m + 1 := ⟨k - 1, by omega⟩
    simp [impl_put.l0, By]
  | j + 1, k, v, acc => by
    intro hk hj h7
    obtain ⟨k, rfl⟩ : ∃ m, k = m + 1 := ⟨k - 1, by omega⟩
    have ih := put_l0 j k (v / 256) (acc.set j (v % 256)) (by omega) (by simp; omega) (by omega)
    have e : (((j + 1 : Nat) : Int) - 1) = (j : Int) := by omega
    simp only [impl_put.l0]
    rw [e, if_pos (by omega), if_pos (by omega), if_pos (by omega), Int.toNat_natCast, w64' (by omega) (by omega), ih]
    have hd : (acc.set j (v % 256)).drop j = v % 256 :: acc.drop (j + 1) := by
      rw [List.drop_eq_getElem_cons (by simp; omega), List.getElem_set_self, List.drop_set_of_lt (by omega)]
    rw [hd, By, List.append_assoc]; rfl
def PN (v w : Int) : Int × List Int := if (1 ≤ w ∧ w ≤ 7) ∧ 0 ≤ v ∧ v < 256 ^ w.toNat then (0, By w.toNat v) else (3, [])
theorem pn_impl (v w : Int) : Ev (fun k => impl_PutNumber.f k v w) (PN v w) := by
  unfold impl_PutNumber.f PN
  simp only [in_impl', Option.bind_some, decide_eq_true_eq]
  by_cases h1 : 1 ≤ w ∧ w ≤ 7
  · obtain ⟨t1, t2, t3, t4, t5⟩ := shl_wide h1
    rw [t1, t3, w64' (n := 256 ^ w.toNat - 1) (by omega) (by omega)]
    simp only [h1, and_self, true_and, if_true, show 0 ≤ 8 * w by omega]
    by_cases h2 : 0 ≤ v ∧ v < 256 ^ w.toNat
    · simp only [h2, and_self, if_true, show 0 ≤ v ∧ v ≤ 256 ^ w.toNat - 1 by omega]
      refine Ev.bind (a := By w.toNat v) ⟨w.toNat + 1, fun k hk => ?_⟩ (Ev.now _)
      unfold impl_put.f
      have := put_l0 w.toNat k v (List.replicate w.toNat 0) (by omega) (by simp) (by omega)
      dsimp only
      rw [if_pos (by omega), if_pos (by omega), w64' (by omega) (by omega)]
      simpa [show ((w.toNat : Nat) : Int) = w by omega] using this
    · simp only [h2, if_false, show ¬ (0 ≤ v ∧ v ≤ 256 ^ w.toNat - 1) by omega]; exact Ev.now _
  · simp only [h1, false_and, if_false]; exact Ev.now _
theorem pn_spec (v w : Int) (h : ¬ ((1 ≤ w ∧ w ≤ 7) ∧ 0 ≤ v ∧ v < 256 ^ w.toNat)) : Ev (fun k => spec_PutNumber.f k v w) (3, []) := by
  unfold spec_PutNumber.f
  simp only [in_spec', Option.bind_some, decide_eq_true_eq, min_ok, max_ok]
  by_cases h1 : 1 ≤ w ∧ w ≤ 7
  · obtain ⟨t1, t2, t3, t4, t5⟩ := shl_wide h1
    rw [show max 1 (min 7 w) = w by omega, t1, t2, t3, w64' (n := 256 ^ w.toNat - 1) (by omega) (by omega)]
    have h2 : ¬ (0 ≤ v ∧ v ≤ 256 ^ w.toNat - 1) := fun h3 => h ⟨h1, by omega⟩
    simp only [h1, h2, and_self, if_true, if_false, show 0 ≤ 8 * w by omega]; exact Ev.now _
  · simp only [h1, if_false]; exact Ev.now _
theorem FnNumbers : laws_FnNumbers.Pure := by
  intro l hm hw
  refine Ev.rounds ?_
  unfold laws_FnNumbers.f laws_lwBig.f
  simp only [Option.bind_some, decide_eq_true_eq]
  by_cases hbig : (l.length : Int) > 1048576
  · simp only [hbig, if_true]; exact Ev.now _
  simp only [hbig, if_false]
  obtain ⟨v, w, e, hw8, v0, v1⟩ := draw_put l (byte_wf hw) (by omega)
  rw [e]
  simp only [Option.bind_some]
  refine Ev.bind (pn_impl v w) ?_
  by_cases h : (1 ≤ w ∧ w ≤ 7) ∧ 0 ≤ v ∧ v < 256 ^ w.toNat
  · have hp : PN v w = (0, By w.toNat v) := by unfold PN; rw [if_pos h]
    have hlen := By_length w.toNat v
    have ht : TN ([9] ++ By w.toNat v) 1 w = (0, v) := by
      unfold TN
      rw [if_pos ⟨h.1, by omega, by simp [hlen]; omega⟩]
      have : (([9] ++ By w.toNat v).drop (1 : Int).toNat).take w.toNat = By w.toNat v := by
        show ((9 :: By w.toNat v).drop 1).take w.toNat = _
        rw [List.drop_succ_cons, List.drop_zero, List.take_of_length_le (by omega)]
      rw [this, By_nb _ _ h.2.1 h.2.2]
    rw [hp]
    simp only [if_true, List.length_singleton]
    simp only [if_pos (show 1 + (By w.toNat v).length < 140737488355328 by omega)]
    refine Ev.bind (tn_impl _ 1 w (fun x hx => ?_) (by simp [hlen]; omega)) ?_
    · simp only [List.mem_append, List.mem_singleton] at hx
      rcases hx with rfl | hx
      · omega
      · exact By_byte _ _ x hx
    rw [ht]
    simp only [hlen, show ((w.toNat : Nat) : Int) = w by omega, if_true, beq_self_eq_true]
    exact Ev.now _
  · have hp : PN v w = (3, []) := by unfold PN; rw [if_neg h]
    rw [hp]
    simp only [show ¬ ((3 : Int) = 0) by omega, if_false]
    refine Ev.bind (pn_spec v w h) ?_
    exact Ev.now _
end Go.Proofs.Ytalkfdedbacidaa.Pure
namespace Go.Proofs.Ytalkfdedbacidaa.fnNumbers
open Go.ChangeShapes Go.WideShapes Go.ChangeAt
open Go.RowKit Go.Proofs.Ytalkfdedbacidaa.G Go.Proofs.YtalkfdedbacidaaW.PrintWords Go.Proofs.YtalkfdedbacidaaW.PrintLast
open Go.ChangeMaps (open_string shut_string)
set_option linter.unusedVariables false
theorem own : ownKnob Try.prog.godebug = none := by kernel_rfl
theorem laidOut : laidOutB Try.prog = true := by kernel_rfl
theorem o5 : Opn.Opens Try.prog 5 (Kd.int .u8) (fun n => (Lit.int .u8 n).wf = true) := Opn.opens_int Try.underlying5 (by kernel_rfl)
set_option maxRecDepth 100000 in
theorem lifted (os : Os) (started : os.Started) (H : Type) (enc : TypeId × Value → H) :
    ReturnsInHanded {} Try.checked os 7 .any (Rows.fnNumbersSpec.pre6 enc Try.prog Try.f7 Rows.fnNumbersRow.domain false) (Rows.fnNumbersSpec.post enc Try.prog Try.f7 false true false false) := by
  refine returnsInHanded_of_change_sized (C := Try.checked) own started (by kernel_rfl) Try.func7
    (ChangeSpec.witness6 (enc := enc) (C := Try.checked) false ⟨#[], #[.slice none 0 0], []⟩ 8 (by kernel_rfl) (by kernel_rfl) (by kernel_rfl) (by kernel_rfl)) ?_
  intro W base args ds gs before hval0 hW hcnd hsz0 _
  have hval : ∀ (j : Nat) t v, Try.f7.params[j]? = some t → args[j]? = some v → Value.okWide Try.prog W .any base t v := hval0
  have hW' := hW
  obtain ⟨p, q, hA0, hV, rfl, hfz, hnd⟩ := hW
  have hA : DataW.TrodAll enc Try.prog W 0 (fun _ => true) true Try.f7.params.toList args.toList ds p := hA0
  rw [Try.params7] at hA hval
  obtain ⟨v0, vs0, d0, ds0, p0, q0, hargs, rfl, rfl, h0, r0⟩ := trodAll_cons hA
  obtain ⟨rfl, rfl, rfl⟩ := trodAll_nil r0
  obtain rfl : args = #[v0] := by cases args; simp_all
  obtain ⟨rfl, rfl⟩ := trodVars_none hV
  obtain ⟨A0, len0, c0, rfl⟩ := okWide_slice Try.underlying36 (hval 0 36 v0 rfl rfl)
  have k0 := h0
  have lt0 : ∀ x ∈ p0, x.block < W.heap.size := by obtain ⟨m, hm⟩ := k0; exact DataW.trod_lt m _ _ _ hm
  obtain ⟨l0, rfl, hr0, hc0, hm0, hg0⟩ := Opn.arg_slice Try.underlying36 (by kernel_rfl) o5 h0
  clear hA0 hval0 hsz0
  obtain ⟨k, h⟩ := Pure.FnNumbers l0 hm0 hg0
  refine (laws_FnNumbers.calls k A0 c0 l0 W hr0 hc0 h).mono fun e W' ⟨he, bel0⟩ => ?_
  have bel : Below W.heap.size W W' := bel0
  subst he
  exact ⟨_, rfl, _, _, _, [], _, [], hW', trodAll_mk1 (shut_bool Try.underlying4 _), (trodAll_cons_mk (Below.trod laidOut (by kernel_rfl) (of_decide_eq_true (by kernel_rfl)) k0 bel lt0) trodAll_mk0), rfl, bel.frame _, fun h => by cases h⟩
theorem over : Rows.fnNumbersRow.holds Try.pinned (OpenSpec.ofChange Rows.fnNumbersSpec) :=
  OpenClaim.holds_of_wide 7 Try.f7 rfl rfl rfl rfl rfl rfl rfl ⟨rfl, rfl, rfl, rfl, rfl⟩ rfl rfl rfl rfl rfl (by kernel_rfl) Try.func7 (by kernel_rfl)
    (of_decide_eq_true (by kernel_rfl)) (by unfold Func.isWrapper; first | (rw [if_pos (by decide +kernel)]; kernel_rfl) | (rw [if_neg (by decide +kernel)]; exact ⟨rfl, rfl⟩))
    (fun os started H enc _ => lifted os started H enc)
end Go.Proofs.Ytalkfdedbacidaa.fnNumbers
namespace Go.Proofs.Ytalkfdedbacidaa
theorem fnNumbers_holds : Rows.FnNumbersSaid := fnNumbers.over
end Go.Proofs.Ytalkfdedbacidaa
#print axioms Go.Proofs.Ytalkfdedbacidaa.fnNumbers_holds
