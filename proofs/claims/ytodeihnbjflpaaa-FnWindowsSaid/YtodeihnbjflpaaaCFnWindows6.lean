/- FnWindows: for every input the law returns true and its arguments read afterwards as they read before. No condition. -/
import Derived.Test.YtodeihnbjflpaaaCFnWindows5
import Derived.ChangeArms
import Derived.Deep.Slices
import Derived.ProofKit
import Derived.OpenShut
import Derived.Laws.BitsLemmas
import Derived.Test.YtodeihnbjflpaaaRows
import Derived.WalkKit
import Derived.ShutString
import Derived.ChangeOld
import Derived.Below
import Derived.SizedLaws
set_option linter.unusedVariables false
namespace Go.Proofs.Ytodeihnbjflpaaa.Opn
open Go.Proofs.YtodeihnbjflpaaaW.PrintWords
def Opens {α : Type} (P : Program) (t : TypeId) (d : Kd α) (G : α → Prop) : Prop :=
  P.cellsOf t = d.sz ∧ ∀ (H : Type) (enc : TypeId × Value → H) (W : World) (base : Nat) (sp : Nat → Bool) (held : Bool) (fuel : Nat) (cs : List Value) (x : DataW H × List MemPlace),
    DataW.trod enc P W base sp held fuel t cs = some x → ∃ a, d.K W a cs ∧ G a
theorem opens_int {P : Program} {t : TypeId} {k : IntKind} (ht : P.underlying t = some (.int k)) (hc : P.cellsOf t = 1) : Opens P t (Kd.int k) (fun n => (Lit.int k n).wf = true) :=
  ⟨hc, fun H enc W base sp held fuel cs x hx => by
    obtain ⟨n, h, hx, hw⟩ := DataW.trod_int ht hx
    exact ⟨n, h, hw⟩⟩
theorem opens_slice {α : Type} {P : Program} {t e : TypeId} {d : Kd α} {G : α → Prop} (ht : P.underlying t = some (.slice e)) (hc : P.cellsOf t = 1) (he : Opens P e d G) :
    Opens P t (Kd.slice e d) (fun xs => xs.length ≤ maxLen ∧ ∀ x ∈ xs, G x) :=
  ⟨hc, fun H enc W base sp held fuel cs x hx => by
    rcases Go.Deep.open_slice ht hx with ⟨rfl, rfl⟩ | ⟨a, len, cap, m, n, D, Pl, rfl, hb, hl, hm, hmm, rfl, hel⟩
    · refine ⟨[], ⟨none, 0, rfl, Nat.le_refl _, rfl, by simp, ?_⟩, by simp, by simp⟩
      intro h; exact absurd h (by simp)
    · have hle : len ≤ m := by rw [hmm]; split <;> omega
      have key : ∀ i, i < len → ∃ p : α, ∃ c : List Value, c.length = d.sz ∧ d.K W p c ∧ G p ∧ ∀ j u, c[j]? = some u → W.cell? (a.add (i * d.sz + j)) = some u := by
        intro i hi
        obtain ⟨c, h1, h2⟩ := hel i (by omega)
        obtain ⟨p, h3, h4⟩ := he.2 H enc W base sp held n c _ h2
        obtain ⟨_, h5, h6⟩ := World.cells?_some h1
        rw [he.1] at h5 h6
        refine ⟨p, c, h5, h3, h4, fun j u hj => ?_⟩
        have hjl : j < d.sz := by
          have := (List.getElem?_eq_some_iff.1 hj).1
          omega
        rw [← Go.Deep.add_add, h6 j hjl, hj]
      have ex : ∃ ps : List α, ps.length = len ∧ ∀ i p, ps[i]? = some p → ∃ c : List Value, c.length = d.sz ∧ d.K W p c ∧ G p ∧ ∀ j u, c[j]? = some u → W.cell? (a.add (i * d.sz + j)) = some u := by
        clear hel hmm hle hl hm hx
        induction len with
        | zero => exact ⟨[], rfl, fun i p h => by simp at h⟩
        | succ k ih =>
          obtain ⟨ps, h1, h2⟩ := ih (fun i hi => key i (by omega))
          obtain ⟨p, hp⟩ := key k (by omega)
          refine ⟨ps ++ [p], by simp [h1], fun i q h => ?_⟩
          by_cases hi : i < ps.length
          · rw [List.getElem?_append_left hi] at h
            exact h2 i q h
          · rw [List.getElem?_append_right (by omega)] at h
            have hi0 : i - ps.length = 0 := by
              have := (List.getElem?_eq_some_iff.1 h).1
              simp at this
              omega
            rw [hi0] at h
            simp at h
            subst h
            have : i = k := by omega
            subst this
            exact hp
      obtain ⟨ps, h1, h2⟩ := ex
      subst h1
      refine ⟨ps, ⟨some a, cap, rfl, hl, rfl, by simp only [maxLen] at hm; omega, fun _ => ⟨a, rfl, fun j p hj => ?_⟩⟩, by omega, fun x hx' => ?_⟩
      · obtain ⟨c, g1, g2, g3, g4⟩ := h2 j p hj
        exact ⟨c, g1, g2, g4⟩
      · obtain ⟨i, hi⟩ := List.getElem?_of_mem hx'
        obtain ⟨c, g1, g2, g3, g4⟩ := h2 i x hi
        exact g3⟩
theorem arg_slice {α : Type} {P : Program} {W : World} {t e : TypeId} {d : Kd α} {G : α → Prop} {H : Type} {enc : TypeId × Value → H} {base : Nat} {sp : Nat → Bool} {held : Bool} {A : Option Addr} {n c : Nat} {x : DataW H} {ps : List MemPlace}
    (ht : P.underlying t = some (.slice e)) (hc : P.cellsOf t = 1) (he : Opens P e d G) (h : DataW.Trod enc P W base sp held t (.slice A n c) x ps) :
    ∃ xs : List α, n = xs.length ∧ d.C W A xs.length xs ∧ xs.length ≤ c ∧ xs.length ≤ maxLen ∧ ∀ a ∈ xs, G a := by
  obtain ⟨fuel, hf⟩ := h
  obtain ⟨xs, ⟨A', c', h1, h2, h3⟩, h4, h5⟩ := (opens_slice ht hc he).2 H enc W base sp held fuel _ _ hf
  simp [Value.cells] at h1
  obtain ⟨rfl, rfl, rfl⟩ := h1
  exact ⟨xs, rfl, h3, h2, h4, h5⟩
end Go.Proofs.Ytodeihnbjflpaaa.Opn
namespace Go.Proofs.Ytodeihnbjflpaaa.Pure
open Go.RowKit Go.Proofs.Ytodeihnbjflpaaa.G Go.Proofs.YtodeihnbjflpaaaW.PrintWords Go.Proofs.YtodeihnbjflpaaaW.PrintLast
def laws_FnWindows.Pure : Prop := ∀ (l0 : List Int), l0.length ≤ maxLen → (∀ x ∈ l0, (fun n => (Lit.int .u8 n).wf = true) x) → ∃ k, laws_FnWindows.f k l0 = some true
end Go.Proofs.Ytodeihnbjflpaaa.Pure
set_option linter.unusedVariables false
set_option linter.unusedSimpArgs false
namespace Go.Proofs.Ytodeihnbjflpaaa.Pure
open Go.RowKit Go.Proofs.Ytodeihnbjflpaaa.G Go.Proofs.YtodeihnbjflpaaaW.PrintWords Go.Proofs.YtodeihnbjflpaaaW.PrintLast Go.Proofs.YtodeihnbjflpaaaW.PrintMore
theorem w64' {n : Int} (h0 : -9223372036854775808 ≤ n) (h1 : n ≤ 9223372036854775807) : wrap64 n = n := by unfold wrap64; omega
theorem byte_wf {l : List Int} (h : ∀ x ∈ l, (Lit.int .u8 x).wf = true) : ∀ x ∈ l, 0 ≤ x ∧ x ≤ 255 := fun x hx => by
  have := h x hx
  simpa [Lit.wf, IntKind.min, IntKind.max, IntKind.signed, IntKind.bits] using this
end Go.Proofs.Ytodeihnbjflpaaa.Pure
set_option linter.unusedVariables false
set_option linter.unusedSimpArgs false
namespace Go.Proofs.Ytodeihnbjflpaaa.Pure
open Go.RowKit Go.Proofs.Ytodeihnbjflpaaa.G Go.Proofs.YtodeihnbjflpaaaW.PrintWords Go.Proofs.YtodeihnbjflpaaaW.PrintLast Go.Proofs.YtodeihnbjflpaaaW.PrintMore
def tk (b n : Int) : Bool := (Go.bits .and .i64 (shr .i64 b n) 1) == 1
def scan (a b : Int) : Nat → Int → Int
  | 0, _ => 0
  | d + 1, x => if tk b x = true ∧ a - x < 1 then 1 else scan a b d (x + 1)
def WF (a b : Int) : Int := if 0 ≤ a ∧ a ≤ 1099511627776 ∧ 0 ≤ b ∧ b ≤ 4294967295 then (if (a = 0 ∧ b ≠ 0) ∨ (0 < a ∧ tk b 0 = false) then 1 else scan a b 32 0) else 3
theorem in_spec (a b c : Int) : spec_l1In.f a b c = some (decide (b ≤ a ∧ a ≤ c)) := by
  unfold spec_l1In.f; split
  · congr 1; simp; omega
  · congr 1; simp; omega
theorem in_impl (a b c : Int) : impl_in.f a b c = some (decide (b ≤ a ∧ a ≤ c)) := by
  unfold impl_in.f; split
  · congr 1; simp; omega
  · congr 1; simp; omega
theorem w64 {n : Int} (h0 : -9223372036854775808 ≤ n) (h1 : n ≤ 9223372036854775807) : wrap64 n = n := by unfold wrap64; omega
theorem wu64 {n : Int} (h0 : 0 ≤ n) (h1 : n ≤ 9223372036854775807) : IntKind.u64.wrap n = n := by
  simp [IntKind.wrap, IntKind.bits, IntKind.signed]; omega
theorem took (a b n : Int) (h : 0 ≤ n) : impl_Window_took.f a b n = some (tk b n) := by
  unfold impl_Window_took.f; rw [if_pos h]; rfl
theorem wf_spec_l0 (a b : Int) (ha : 0 ≤ a) (ha1 : a ≤ 1099511627776) (d : Nat) : ∀ (k : Nat) (x : Int), 0 ≤ x → x + d = 32 → d < k → spec_WindowFault.l0 k x a b = some (scan a b d x) := by
  induction d with
  | zero =>
    intro k x h0 hx hk
    obtain ⟨k, rfl⟩ : ∃ m, k = m + 1 := ⟨k - 1, by omega⟩
    simp only [spec_WindowFault.l0]; rw [if_neg (by omega)]; rfl
  | succ d ih =>
    intro k x h0 hx hk
    obtain ⟨k, rfl⟩ : ∃ m, k = m + 1 := ⟨k - 1, by omega⟩
    simp only [spec_WindowFault.l0, scan]
    rw [wu64 h0 (by omega), if_pos (by omega), if_pos h0, w64 (by omega) (by omega), w64 (n := x + 1) (by omega) (by omega), ih k (x + 1) (by omega) (by omega) (by omega)]
    by_cases ht : Go.bits .and .i64 (shr .i64 b x) 1 = 1
    · have h2 : tk b x = true := by simp [tk, ht]
      rw [if_pos ht]
      by_cases hl : a - x < 1
      · rw [if_pos hl, if_pos ⟨h2, hl⟩]
      · rw [if_neg hl, if_neg (fun h => hl h.2)]
    · have h2 : ¬ tk b x = true := by simp [tk, ht]
      rw [if_neg ht, if_neg (fun h => h2 h.1)]
theorem wf_impl_l0 (a b : Int) (ha : 0 ≤ a) (ha1 : a ≤ 1099511627776) (d : Nat) : ∀ (k : Nat) (x : Int), 0 ≤ x → x + d = 32 → d < k → impl_WindowFault.l0 k x a b = some (scan a b d x) := by
  induction d with
  | zero =>
    intro k x h0 hx hk
    obtain ⟨k, rfl⟩ : ∃ m, k = m + 1 := ⟨k - 1, by omega⟩
    simp only [impl_WindowFault.l0]; rw [if_neg (by omega)]; rfl
  | succ d ih =>
    intro k x h0 hx hk
    obtain ⟨k, rfl⟩ : ∃ m, k = m + 1 := ⟨k - 1, by omega⟩
    simp only [impl_WindowFault.l0, scan]
    rw [if_pos (by omega), took a b x h0, w64 (by omega) (by omega), w64 (n := x + 1) (by omega) (by omega), ih k (x + 1) (by omega) (by omega) (by omega)]
    simp only [Option.bind_some]
    by_cases ht : tk b x = true
    · rw [if_pos ht]
      by_cases hl : a - x < 1
      · rw [if_pos hl, if_pos ⟨ht, hl⟩]
      · rw [if_neg hl, if_neg (fun h => hl h.2)]
    · rw [if_neg ht, if_neg (fun h => ht h.1)]
theorem and_one (b : Int) : Go.bits .and .i64 b 1 = 0 ∨ Go.bits .and .i64 b 1 = 1 := by
  unfold Go.bits
  have h : ((BitVec.ofInt IntKind.i64.bits b &&& BitVec.ofInt IntKind.i64.bits 1).toNat) = 0 ∨ ((BitVec.ofInt IntKind.i64.bits b &&& BitVec.ofInt IntKind.i64.bits 1).toNat) = 1 := by
    rw [BitVec.toNat_and]
    have : (BitVec.ofInt IntKind.i64.bits 1).toNat = 1 := by decide
    rw [this, Nat.and_one_is_mod]
    omega
  rcases h with h | h
  · left; simp only [h]; decide
  · right; simp only [h]; decide
theorem tk0 (b : Int) : ((Go.bits .and .i64 b 1) == 0) = !(tk b 0) := by
  have e : shr .i64 b 0 = b := by simp [shr]
  unfold tk; rw [e]
  rcases and_one b with h | h <;> rw [h] <;> decide
theorem wf_spec (a b : Int) : Ev (fun k => spec_WindowFault.f k a b) (WF a b) := by
  refine ⟨40, fun k hk => ?_⟩
  obtain ⟨m, rfl⟩ : ∃ m, k = m + 2 := ⟨k - 2, by omega⟩
  unfold spec_WindowFault.f WF
  rw [in_spec, in_spec]
  simp only [Option.bind_some, decide_eq_true_eq]
  by_cases h1 : 0 ≤ a ∧ a ≤ 1099511627776
  · by_cases h2 : 0 ≤ b ∧ b ≤ 4294967295
    · rw [if_pos h1, if_pos ⟨h1.1, h1.2, h2⟩]
      have hl := wf_spec_l0 a b h1.1 h1.2 32 m 0 (by omega) (by omega) (by omega)
      simp only [spec_WindowFault.j0, spec_WindowFault.j1, tk0, hl]
      by_cases ha : a = 0 <;> by_cases hb : b = 0 <;> by_cases hp : 0 < a <;> cases ht : tk b 0 <;> simp [h1, h2, ha, hb, hp] <;> omega
    · rw [if_pos h1, if_neg (fun h => h2 h.2.2)]
      simp [spec_WindowFault.j0, h2]
  · rw [if_neg h1, if_neg (fun h => h1 ⟨h.1, h.2.1⟩)]
    simp [spec_WindowFault.j0]
theorem wf_impl (a b : Int) : Ev (fun k => impl_WindowFault.f k a b) (WF a b) := by
  refine ⟨40, fun k hk => ?_⟩
  obtain ⟨m, rfl⟩ : ∃ m, k = m + 2 := ⟨k - 2, by omega⟩
  unfold impl_WindowFault.f WF
  rw [in_impl, in_impl]
  simp only [Option.bind_some, decide_eq_true_eq]
  by_cases h1 : 0 ≤ a ∧ a ≤ 1099511627776
  · by_cases h2 : 0 ≤ b ∧ b ≤ 4294967295
    · rw [if_pos h1, if_pos ⟨h1.1, h1.2, h2⟩]
      have hl := wf_impl_l0 a b h1.1 h1.2 32 m 0 (by omega) (by omega) (by omega)
      simp only [impl_WindowFault.j0, impl_WindowFault.j1, took a b 0 (by omega), hl, Option.bind_some]
      by_cases ha : a = 0 <;> by_cases hb : b = 0 <;> by_cases hp : 0 < a <;> cases ht : tk b 0 <;> simp [h1, h2, ha, hb, hp] <;> omega
    · rw [if_pos h1, if_neg (fun h => h2 h.2.2)]
      simp [impl_WindowFault.j0, h2]
  · rw [if_neg h1, if_neg (fun h => h1 ⟨h.1, h.2.1⟩)]
    simp [impl_WindowFault.j0]
theorem wf_ok {a b : Int} (h : WF a b = 0) : 0 ≤ a ∧ a ≤ 1099511627776 ∧ 0 ≤ b ∧ b ≤ 4294967295 := by
  unfold WF at h
  by_cases c : 0 ≤ a ∧ a ≤ 1099511627776 ∧ 0 ≤ b ∧ b ≤ 4294967295
  · exact c
  · rw [if_neg c] at h; omega
end Go.Proofs.Ytodeihnbjflpaaa.Pure
set_option linter.unusedVariables false
set_option linter.unusedSimpArgs false
namespace Go.Proofs.Ytodeihnbjflpaaa.Pure
open Go.RowKit Go.Proofs.Ytodeihnbjflpaaa.G Go.Proofs.YtodeihnbjflpaaaW.PrintWords Go.Proofs.YtodeihnbjflpaaaW.PrintLast Go.Proofs.YtodeihnbjflpaaaW.PrintMore
theorem wraps_i64 (n : Int) (h₀ : 0 ≤ n) (h₁ : n < 2 ^ 63) : IntKind.i64.wrap n = n := by rw [IntKind.wrap_i64]; omega
theorem and_nat (a b : Nat) (ha : a < 2 ^ 63) (hb : b < 2 ^ 63) : Go.bits .and .i64 a b = ((a &&& b : Nat) : Int) := (bits_nat .i64 63 (by decide) wraps_i64 a b ha hb).1
theorem or_nat (a b : Nat) (ha : a < 2 ^ 63) (hb : b < 2 ^ 63) : Go.bits .or .i64 a b = ((a ||| b : Nat) : Int) := (bits_nat .i64 63 (by decide) wraps_i64 a b ha hb).2
theorem tk_nat (b : Nat) (n : Int) (hb : b < 2 ^ 63) (h0 : 0 ≤ n) (h1 : n ≤ 64) : tk b n = b.testBit n.toNat := by
  unfold tk shr
  have e : min n.toNat IntKind.i64.bits = n.toNat := by
    have : IntKind.i64.bits = 64 := rfl
    omega
  rw [e]
  have e2 : ((b : Int) / 2 ^ n.toNat) = ((b / 2 ^ n.toNat : Nat) : Int) := by simp
  have hlt : b / 2 ^ n.toNat < 2 ^ 63 := Nat.lt_of_le_of_lt (Nat.div_le_self _ _) hb
  have := and_nat (b / 2 ^ n.toNat) 1 hlt (by decide)
  rw [e2]
  rw [show ((1 : Int)) = ((1 : Nat) : Int) from rfl, this, Nat.and_one_is_mod, Nat.testBit_eq_decide_div_mod_eq]
  cases h : decide (b / 2 ^ n.toNat % 2 = 1)
  · have := of_decide_eq_false h
    simp; omega
  · have := of_decide_eq_true h
    simp [this]
theorem shl_nat (b n : Nat) (hn : n ≤ 31) (hb : b < 2 ^ 32) : shl .i64 (b : Int) (n : Int) = ((b * 2 ^ n : Nat) : Int) := by
  unfold shl
  have e : min ((n : Int)).toNat IntKind.i64.bits = n := by
    have : IntKind.i64.bits = 64 := rfl
    omega
  rw [e]
  have hlt : b * 2 ^ n < 2 ^ 63 := by
    have h1 : 2 ^ n ≤ 2 ^ 31 := Nat.pow_le_pow_right (by decide) hn
    have h2 : b * 2 ^ n ≤ b * 2 ^ 31 := Nat.mul_le_mul_left _ h1
    omega
  have e2 : ((b : Int) * 2 ^ n) = ((b * 2 ^ n : Nat) : Int) := by simp
  rw [e2]
  exact wraps_i64 _ (by omega) (by exact_mod_cast hlt)
theorem scan_zero {a b : Int} : ∀ {d : Nat} {x : Int}, scan a b d x = 0 ↔ ∀ k : Int, x ≤ k → k < x + d → tk b k = true → 1 ≤ a - k := by
  intro d
  induction d with
  | zero => intro x; simp [scan]; intro k h1 h2; omega
  | succ d ih =>
    intro x
    unfold scan
    by_cases h : tk b x = true ∧ a - x < 1
    · rw [if_pos h]
      constructor
      · intro h'; omega
      · intro h'; have := h' x (by omega) (by omega) h.1; omega
    · rw [if_neg h, ih]
      constructor
      · intro h' k h1 h2 h3
        by_cases e : k = x
        · subst e
          by_cases hl : a - k < 1
          · exact absurd ⟨h3, hl⟩ h
          · omega
        · exact h' k (by omega) (by omega) h3
      · intro h' k h1 h2 h3; exact h' k (by omega) (by omega) h3
theorem wf_iff {a b : Int} : WF a b = 0 ↔ (0 ≤ a ∧ a ≤ 1099511627776 ∧ 0 ≤ b ∧ b ≤ 4294967295) ∧ (a = 0 → b = 0) ∧ (0 < a → tk b 0 = true) ∧ ∀ k : Int, 0 ≤ k → k < 32 → tk b k = true → 1 ≤ a - k := by
  unfold WF
  by_cases c : 0 ≤ a ∧ a ≤ 1099511627776 ∧ 0 ≤ b ∧ b ≤ 4294967295
  · rw [if_pos c]
    by_cases c2 : (a = 0 ∧ b ≠ 0) ∨ (0 < a ∧ tk b 0 = false)
    · rw [if_pos c2]
      constructor
      · intro h; omega
      · rintro ⟨_, h1, h2, _⟩
        rcases c2 with ⟨h, h'⟩ | ⟨h, h'⟩
        · exact absurd (h1 h) h'
        · rw [h2 h] at h'; cases h'
    · rw [if_neg c2, scan_zero]
      constructor
      · intro h
        refine ⟨c, fun h0 => ?_, fun h0 => ?_, fun k h1 h2 h3 => h k h1 (by omega) h3⟩
        · exact Decidable.byContradiction fun h' => c2 (.inl ⟨h0, h'⟩)
        · cases ht : tk b 0
          · exact absurd (.inr ⟨h0, ht⟩) c2
          · rfl
      · rintro ⟨_, _, _, h⟩ k h1 h2 h3; exact h k h1 (by omega) h3
  · rw [if_neg c]
    constructor
    · intro h; omega
    · rintro ⟨h, _⟩; exact absurd h c
def takeF (a b s : Int) : Int := if 1 ≤ s ∧ s ≤ 1099511627776 then (if s ≤ a - 32 then 10 else if s ≤ a ∧ tk b (a - s) = true then 7 else 0) else 3
def tkn (a b s : Int) : Int × Int := if s ≤ a then (a, Go.bits .or .i64 b (shl .i64 1 (a - s))) else if s - a < 32 then (s, Go.bits .or .i64 (Go.bits .and .i64 (shl .i64 b (s - a)) 4294967295) 1) else (s, 1)
theorem tkn_top (a b s : Int) : a ≤ (tkn a b s).1 ∧ s ≤ (tkn a b s).1 := by
  unfold tkn
  split
  · exact ⟨by simp, by simpa⟩
  · split <;> simp <;> omega
theorem tkn_bits {a b s : Int} (hb0 : 0 ≤ b) (hb : b ≤ 4294967295) (ha : 0 ≤ a) (h0 : 1 ≤ s) (h1 : a - 32 < s) :
    0 ≤ (tkn a b s).2 ∧ (tkn a b s).2 ≤ 4294967295 ∧ ∀ k : Int, 0 ≤ k → k < 32 → tk (tkn a b s).2 k = (decide ((tkn a b s).1 - k = s) || (decide (0 ≤ a - ((tkn a b s).1 - k)) && tk b (a - ((tkn a b s).1 - k)))) := by
  obtain ⟨B, rfl⟩ := Int.eq_ofNat_of_zero_le hb0
  have hB : B < 2 ^ 32 := by omega
  unfold tkn
  by_cases c : s ≤ a
  · rw [if_pos c]
    obtain ⟨j, hj⟩ := Int.eq_ofNat_of_zero_le (show 0 ≤ a - s by omega)
    have hj31 : j ≤ 31 := by omega
    have hs : shl .i64 1 (a - s) = ((2 ^ j : Nat) : Int) := by
      rw [hj]
      have := shl_nat 1 j hj31 (by decide)
      simpa using this
    have hp : 2 ^ j < 2 ^ 32 := Nat.pow_lt_pow_right (by decide) (by omega)
    rw [hs, or_nat B _ (by omega) (by omega)]
    have hor : B ||| 2 ^ j < 2 ^ 32 := Nat.or_lt_two_pow hB hp
    refine ⟨by simp, by simp; omega, fun k k0 k1 => ?_⟩
    obtain ⟨m, rfl⟩ := Int.eq_ofNat_of_zero_le k0
    simp only
    rw [tk_nat _ _ (by omega) k0 (by omega), show a - (a - (m : Int)) = (m : Int) by omega, tk_nat B _ (by omega) k0 (by omega)]
    simp only [Int.toNat_natCast, Nat.testBit_or, Nat.testBit_two_pow]
    have : decide (j = m) = decide (a - (m : Int) = s) := decide_eq_decide.2 (by omega)
    rw [this]
    cases B.testBit m <;> cases decide (a - (m : Int) = s) <;> simp
  · rw [if_neg c]
    by_cases c2 : s - a < 32
    · rw [if_pos c2]
      obtain ⟨j, hj⟩ := Int.eq_ofNat_of_zero_le (show 0 ≤ s - a by omega)
      have hj31 : j ≤ 31 := by omega
      have hs : shl .i64 (B : Int) (s - a) = ((B * 2 ^ j : Nat) : Int) := by rw [hj]; exact shl_nat B j hj31 hB
      have hlt : B * 2 ^ j < 2 ^ 63 := by
        have h1 : 2 ^ j ≤ 2 ^ 31 := Nat.pow_le_pow_right (by decide) hj31
        have h2 : B * 2 ^ j ≤ B * 2 ^ 31 := Nat.mul_le_mul_left _ h1
        omega
      have hm : (4294967295 : Int) = ((4294967295 : Nat) : Int) := rfl
      rw [hs, hm, and_nat _ _ hlt (by decide)]
      have hand : (B * 2 ^ j) &&& 4294967295 < 2 ^ 32 := Nat.lt_of_le_of_lt Nat.and_le_right (by decide)
      have h1' : (1 : Int) = ((1 : Nat) : Int) := rfl
      rw [h1', or_nat _ _ (by omega) (by decide)]
      have hor : (B * 2 ^ j) &&& 4294967295 ||| 1 < 2 ^ 32 := Nat.or_lt_two_pow hand (by decide)
      refine ⟨by simp, by simp; omega, fun k k0 k1 => ?_⟩
      obtain ⟨m, rfl⟩ := Int.eq_ofNat_of_zero_le k0
      simp only
      rw [tk_nat _ _ (by omega) k0 (by omega)]
      simp only [Int.toNat_natCast, Nat.testBit_or, Nat.testBit_and, Nat.testBit_one_eq_true_iff_self_eq_zero]
      have e1 : (4294967295 : Nat).testBit m = true := by
        have : (4294967295 : Nat) = 2 ^ 32 - 1 := by decide
        rw [this, Nat.testBit_two_pow_sub_one]
        simp; omega
      have e2 : (1 : Nat).testBit m = decide (m = 0) := by
        cases m with
        | zero => rfl
        | succ m => simp [Nat.testBit_succ]
      have e3 : (B * 2 ^ j).testBit m = (decide (j ≤ m) && B.testBit (m - j)) := by
        rw [Nat.mul_comm, Nat.testBit_two_pow_mul]
      rw [e1, e2, e3, Bool.and_true]
      have e4 : decide (m = 0) = decide (s - (m : Int) = s) := decide_eq_decide.2 (by omega)
      rw [e4]
      by_cases hjm : j ≤ m
      · have e5 : a - (s - (m : Int)) = ((m - j : Nat) : Int) := by omega
        rw [e5, tk_nat B _ (by omega) (by omega) (by omega)]
        simp [hjm]
        cases B.testBit (m - j) <;> simp
      · have : ¬ 0 ≤ a - (s - (m : Int)) := by omega
        simp [hjm, this]
        intro h; omega
    · rw [if_neg c2]
      refine ⟨by simp, by simp, fun k k0 k1 => ?_⟩
      obtain ⟨m, rfl⟩ := Int.eq_ofNat_of_zero_le k0
      simp only
      rw [show (1 : Int) = ((1 : Nat) : Int) from rfl, tk_nat 1 _ (by decide) k0 (by omega)]
      have e2 : (1 : Nat).testBit m = decide (m = 0) := by
        cases m with
        | zero => rfl
        | succ m => simp [Nat.testBit_succ]
      have : ¬ 0 ≤ a - (s - (m : Int)) := by omega
      have e4 : decide (m = 0) = decide (s - (m : Int) = s) := decide_eq_decide.2 (by omega)
      simp [e2, this, e4]
      intro h; omega
theorem tkn_wf {a b s : Int} (h : WF a b = 0) (ht : takeF a b s = 0) : WF (tkn a b s).1 (tkn a b s).2 = 0 := by
  obtain ⟨⟨a0, a1, b0, b1⟩, hz, hp, hk⟩ := wf_iff.1 h
  unfold takeF at ht
  by_cases hs : 1 ≤ s ∧ s ≤ 1099511627776
  · rw [if_pos hs] at ht
    by_cases ho : s ≤ a - 32
    · rw [if_pos ho] at ht; omega
    · rw [if_neg ho] at ht
      obtain ⟨h1, h2, h3⟩ := tkn_bits b0 b1 a0 hs.1 (show a - 32 < s by omega)
      obtain ⟨t1, t2⟩ := tkn_top a b s
      have t3 : (tkn a b s).1 ≤ 1099511627776 := by
        unfold tkn; split
        · exact a1
        · split <;> exact hs.2
      have t4 : (tkn a b s).1 = a ∨ (tkn a b s).1 = s := by
        unfold tkn; split
        · exact .inl rfl
        · split <;> exact .inr rfl
      refine wf_iff.2 ⟨⟨by omega, t3, h1, h2⟩, fun h0 => by omega, fun _ => ?_, fun k k0 k1 hkt => ?_⟩
      · rw [h3 0 (by omega) (by omega)]
        rcases t4 with t4 | t4
        · rw [t4]
          have : a - (a - 0) = 0 := by omega
          rw [this, hp (by omega)]
          simp
        · rw [t4]; simp
      · rw [h3 k k0 k1] at hkt
        rcases Bool.or_eq_true _ _ ▸ hkt with h' | h'
        · have := of_decide_eq_true h'; omega
        · have h'' : 0 ≤ a - ((tkn a b s).1 - k) ∧ tk b (a - ((tkn a b s).1 - k)) = true := by simpa using h'
          have := hk _ h''.1 (by omega) h''.2
          omega
  · rw [if_neg hs] at ht; omega
end Go.Proofs.Ytodeihnbjflpaaa.Pure
set_option linter.unusedVariables false
set_option linter.unusedSimpArgs false
namespace Go.Proofs.Ytodeihnbjflpaaa.Pure
open Go.RowKit Go.Proofs.Ytodeihnbjflpaaa.G Go.Proofs.YtodeihnbjflpaaaW.PrintWords Go.Proofs.YtodeihnbjflpaaaW.PrintLast Go.Proofs.YtodeihnbjflpaaaW.PrintMore
theorem old_spec {a b s : Int} (h0 : 0 ≤ a) (h1 : a ≤ 1099511627776) : spec_l10Old.f a b s = some (decide (s ≤ a - 32)) := by
  unfold spec_l10Old.f; rw [w64 (by omega) (by omega)]
theorem had_spec {a b s : Int} (h1 : a ≤ 1099511627776) (hs : 1 ≤ s) : spec_l10Had.f a b s = some (decide (s ≤ a) && tk b (a - s)) := by
  unfold spec_l10Had.f
  by_cases h : s ≤ a
  · rw [if_pos h, w64 (by omega) (by omega), wu64 (by omega) (by omega), if_pos (by omega)]
    simp [h, tk]
  · rw [if_neg h]; simp [h]
def SN (a b s : Int) : Bool := if WF a b = 0 then (if s < 1 then true else decide (s ≤ a - 32) || (decide (s ≤ a) && tk b (a - s))) else true
theorem sn_impl (a b s : Int) : Ev (fun k => impl_SeenIn.f k a b s) (SN a b s) := by
  unfold impl_SeenIn.f SN
  refine Ev.bind (wf_impl a b) ?_
  by_cases h : WF a b = 0
  · obtain ⟨a0, a1, b0, b1⟩ := wf_ok h
    by_cases hs : s < 1
    · simp only [h, hs, if_true]; exact Ev.now _
    · simp only [h, hs, if_true, if_false]
      rw [w64 (n := a - 32) (by omega) (by omega)]
      by_cases h2 : s ≤ a - 32
      · simp only [h2, if_true, decide_true, Bool.true_or]; exact Ev.now _
      · by_cases h3 : s ≤ a
        · simp only [h2, h3, if_true, if_false, decide_true, decide_false, Bool.false_or, Bool.true_and]
          rw [w64 (by omega) (by omega), took a b _ (by omega)]; exact Ev.now _
        · simp only [h2, h3, if_false, decide_false, Bool.false_or, Bool.false_and]; exact Ev.now _
  · simp only [h, if_false]; exact Ev.now _
theorem faultOf2 (x y : Int) : Ev (fun k => impl_faultOf.f k ([x, y] : List Int)) (if x = 0 then y else x) := by
  refine ⟨3, fun k hk => ?_⟩
  obtain ⟨m, rfl⟩ : ∃ m, k = m + 3 := ⟨k - 3, by omega⟩
  unfold impl_faultOf.f
  have e1 : wrap64 1 = 1 := w64 (by omega) (by omega)
  have e2 : wrap64 2 = 2 := w64 (by omega) (by omega)
  have e3 : wrap64 (1 + 1) = 2 := w64 (by omega) (by omega)
  by_cases hx : x = 0 <;> by_cases hy : y = 0 <;> simp [impl_faultOf.l0, rd, e1, e2, e3, hx, hy]
theorem takeF_impl (a b s : Int) (wa : (Lit.int .i64 a).wf = true) : ∃ t, impl_Window_takeFault.f a b s = some t ∧ (0 ≤ a → t = takeF a b s) := by
  have hb : -9223372036854775808 ≤ a ∧ a ≤ 9223372036854775807 := by
    simpa [Lit.wf, IntKind.min, IntKind.max, IntKind.signed, IntKind.bits] using wa
  unfold impl_Window_takeFault.f takeF
  rw [in_impl]
  simp only [Option.bind_some, decide_eq_true_eq]
  by_cases hs : 1 ≤ s ∧ s ≤ 1099511627776
  · rw [if_pos hs, if_pos hs]
    by_cases hl : 0 ≤ a
    · refine ⟨_, ?_, fun _ => rfl⟩
      rw [w64 (n := a - 32) (by omega) (by omega)]
      by_cases ho : s ≤ a - 32
      · rw [if_pos ho, if_pos ho]
      · rw [if_neg ho, if_neg ho]
        by_cases h2 : s ≤ a
        · rw [if_pos h2, w64 (by omega) (by omega), took a b _ (by omega)]
          simp only [Option.bind_some]
          cases tk b (a - s) <;> simp [h2]
        · rw [if_neg h2, if_neg (fun h => h2 h.1)]
    · by_cases ho : s ≤ wrap64 (a - 32)
      · rw [if_pos ho]; exact ⟨_, rfl, fun h => absurd h hl⟩
      · rw [if_neg ho, if_neg (by omega)]; exact ⟨_, rfl, fun h => absurd h hl⟩
  · rw [if_neg hs, if_neg hs]; exact ⟨_, rfl, fun _ => rfl⟩
theorem taken_impl {a b s : Int} (a0 : 0 ≤ a) (a1 : a ≤ 1099511627776) (s0 : 1 ≤ s) (s1 : s ≤ 1099511627776) : impl_Window_taken.f a b s = some (tkn a b s) := by
  unfold impl_Window_taken.f tkn
  by_cases h : s ≤ a
  · rw [if_pos h, if_pos h, w64 (by omega) (by omega), if_pos (by omega)]
  · rw [if_neg h, if_neg h, w64 (by omega) (by omega)]
    by_cases h2 : s - a < 32
    · rw [if_neg (by omega), if_pos h2, if_pos (by omega)]
    · rw [if_pos (by omega), if_neg h2]
def TQ (a b s : Int) : Int × Int × Int × Int := if takeF a b s = 0 then (0, s, (tkn a b s).1, (tkn a b s).2) else (takeF a b s, 0, 0, 0)
def TS (a b s : Int) : Int × Int × Int × Int := if WF a b = 0 then TQ a b s else (WF a b, 0, 0, 0)
theorem mask_one (x : Int) : Go.bits .and .i64 (Go.bits .or .i64 x 1) 4294967295 = Go.bits .or .i64 (Go.bits .and .i64 x 4294967295) 1 := by
  have back : ∀ v : BitVec 64, BitVec.ofInt 64 (IntKind.i64.wrap (v.toNat : Int)) = v := by
    intro v
    apply BitVec.eq_of_toInt_eq
    have h1 := v.isLt
    rw [BitVec.toInt_ofInt, BitVec.toInt_eq_toNat_bmod, IntKind.wrap_i64]
    simp only [Int.bmod_def]
    split <;> split <;> omega
  unfold Go.bits
  simp only
  rw [show IntKind.i64.bits = 64 from rfl, back, back]
  congr 2
  have e : ∀ X : BitVec 64, (X ||| BitVec.ofInt 64 1) &&& BitVec.ofInt 64 4294967295 = (X &&& BitVec.ofInt 64 4294967295) ||| BitVec.ofInt 64 1 := by
    intro X
    ext i hi
    simp only [BitVec.getElem_and, BitVec.getElem_or]
    have h1 : ∀ j : Nat, ∀ h : j < 64, (BitVec.ofInt 64 1)[j] = true → (BitVec.ofInt 64 4294967295)[j] = true := by decide
    have := h1 i hi
    cases h : (BitVec.ofInt 64 1)[i] <;> cases h' : (BitVec.ofInt 64 4294967295)[i] <;> simp_all
  rw [e]
theorem take_spec {a b s : Int} (a0 : 0 ≤ a) (a1 : a ≤ 1099511627776) : spec_l10Take.f a b s = some (TQ a b s) := by
  unfold spec_l10Take.f TQ takeF
  rw [in_spec]
  simp only [Option.bind_some, decide_eq_true_eq]
  by_cases hs : 1 ≤ s ∧ s ≤ 1099511627776
  · rw [if_pos hs, if_pos hs, old_spec a0 a1]
    simp only [Option.bind_some, decide_eq_true_eq]
    by_cases ho : s ≤ a - 32
    · rw [if_pos ho, if_pos ho]; rfl
    · rw [if_neg ho, if_neg ho, had_spec a1 hs.1]
      simp only [Option.bind_some]
      by_cases h2 : s ≤ a
      · cases ht : tk b (a - s)
        · simp only [h2, decide_true, Bool.true_and, Bool.false_eq_true, if_false, if_true, and_false]
          rw [w64 (by omega) (by omega), wu64 (by omega) (by omega), if_pos (by omega)]
          simp [tkn, h2]
        · simp [h2]
      · simp only [h2, decide_false, Bool.false_and, Bool.false_eq_true, if_false, false_and, if_true]
        rw [w64 (by omega) (by omega), wu64 (by omega) (by omega)]
        by_cases h3 : s - a < 32
        · rw [if_pos h3, if_pos (by omega), mask_one]; simp [tkn, h2, h3]
        · rw [if_neg h3]; simp [tkn, h2, h3]
  · rw [if_neg hs, if_neg hs]; rfl
theorem ts_impl (a b s : Int) (wa : (Lit.int .i64 a).wf = true) : Ev (fun k => impl_TakeSeq.f k a b s) (TS a b s) := by
  unfold impl_TakeSeq.f TS
  refine Ev.bind (wf_impl a b) ?_
  obtain ⟨t, ht, htt⟩ := takeF_impl a b s wa
  simp only [ht, Option.bind_some]
  refine Ev.bind (faultOf2 _ _) ?_
  by_cases h : WF a b = 0
  · obtain ⟨a0, a1, b0, b1⟩ := wf_ok h
    rw [htt a0]
    simp only [h, if_true, TQ]
    by_cases h2 : takeF a b s = 0
    · have hs : 1 ≤ s ∧ s ≤ 1099511627776 := by
        unfold takeF at h2
        by_cases hs : 1 ≤ s ∧ s ≤ 1099511627776
        · exact hs
        · rw [if_neg hs] at h2; omega
      simp only [h2, if_true, taken_impl a0 a1 hs.1 hs.2, Option.bind_some]; exact Ev.now _
    · simp only [h2, if_false]; exact Ev.now _
  · simp only [h, if_false]; exact Ev.now _
def gs (a low : Int) : Int := if (max (a - 31) 1) - (max (a - 31) 1) % 4294967296 + low < max (a - 31) 1 then (max (a - 31) 1) - (max (a - 31) 1) % 4294967296 + low + 4294967296 else (max (a - 31) 1) - (max (a - 31) 1) % 4294967296 + low
end Go.Proofs.Ytodeihnbjflpaaa.Pure
set_option linter.unusedVariables false
set_option linter.unusedSimpArgs false
namespace Go.Proofs.Ytodeihnbjflpaaa.Pure
open Go.RowKit Go.Proofs.Ytodeihnbjflpaaa.G Go.Proofs.YtodeihnbjflpaaaW.PrintWords Go.Proofs.YtodeihnbjflpaaaW.PrintLast Go.Proofs.YtodeihnbjflpaaaW.PrintMore
theorem w64d {n : Int} (h0 : 0 ≤ n) (h1 : n ≤ 9223372036854775807) : wrap64 n = n := by unfold wrap64; omega
theorem rd_byte {l : List Int} (hb : ∀ x ∈ l, 0 ≤ x ∧ x ≤ 255) (i : Int) : 0 ≤ rd l i ∧ rd l i ≤ 255 := by
  unfold rd
  simp only [List.getD]
  cases h : l[i.toNat]? with
  | none => simp
  | some x => simpa using hb x (List.mem_of_getElem? h)
theorem next_ok (l : List Int) (hb : ∀ x ∈ l, 0 ≤ x ∧ x ≤ 255) (hl : l.length ≤ 1048576) (s a : Int) (s0 : 0 ≤ s) (s1 : s ≤ 1000000000000) (ha : 1 ≤ a) : ∃ r, spec_l1Next.f l s a = some (r, s + 1) ∧ 0 ≤ r ∧ r < a := by
  unfold spec_l1Next.f
  have e1 : wrap64 (s + 1) = s + 1 := w64d (by omega) (by omega)
  have e2 : wrap64 (s + 1 - 1) = s := by rw [w64d (by omega) (by omega)]; omega
  rw [if_neg (by omega), e1, e2]
  by_cases h0 : (l.length : Int) = 0
  · rw [if_pos h0, if_neg (by omega), w64d (by omega) (by omega)]
    exact ⟨_, rfl, Int.tmod_nonneg _ (by omega), Int.tmod_lt_of_pos _ (by omega)⟩
  rw [if_neg h0]
  have m0 := Int.tmod_nonneg (l.length : Int) (show 0 ≤ s by omega)
  have m1 := Int.tmod_lt_of_pos s (show 0 < (l.length : Int) by omega)
  have d0 : 0 ≤ s.tdiv (l.length : Int) := Int.tdiv_nonneg s0 (by omega)
  have d1 : s.tdiv (l.length : Int) ≤ s := by
    rw [Int.tdiv_eq_ediv_of_nonneg s0]; exact Int.ediv_le_self _ s0
  have r0 := rd_byte hb (s.tmod (l.length : Int))
  generalize rd l (s.tmod (l.length : Int)) = x at r0 ⊢
  rw [if_pos m0, if_pos m1]
  have f1 : wrap64 x = x := w64d r0.1 (by omega)
  have f2 : wrap64 (s.tdiv (l.length : Int)) = s.tdiv (l.length : Int) := w64d d0 (by omega)
  generalize s.tdiv (l.length : Int) = q at d0 d1 f2 ⊢
  have f3 : wrap64 (q * 37) = q * 37 := w64d (by omega) (by omega)
  have f4 : wrap64 (x + q * 37) = x + q * 37 := w64d (by omega) (by omega)
  rw [f1, f2, f3, f4]
  by_cases h2 : a > 200
  · rw [if_pos h2]
    try simp only [e1]
    have g0 : 0 ≤ (wrap64 (s + 1)).tmod (l.length : Int) := Int.tmod_nonneg _ (by rw [e1]; omega)
    have g1 : (wrap64 (s + 1)).tmod (l.length : Int) < (l.length : Int) := Int.tmod_lt_of_pos _ (by omega)
    have y0 := rd_byte hb ((wrap64 (s + 1)).tmod (l.length : Int))
    rw [e1] at g0 g1 y0
    generalize rd l ((s + 1).tmod (l.length : Int)) = y at y0 ⊢
    rw [if_pos g0, if_pos g1, if_neg (by omega)]
    have f5 : wrap64 y = y := w64d y0.1 (by omega)
    have f6 : wrap64 (y * 13) = y * 13 := w64d (by omega) (by omega)
    have f7 : wrap64 ((x + q * 37) * 251) = (x + q * 37) * 251 := w64d (by omega) (by omega)
    have f8 : wrap64 ((x + q * 37) * 251 + y * 13) = (x + q * 37) * 251 + y * 13 := w64d (by omega) (by omega)
    have f9 : wrap64 ((x + q * 37) * 251 + y * 13 + s) = (x + q * 37) * 251 + y * 13 + s := w64d (by omega) (by omega)
    rw [f5, f6, f7, f8, f9]
    exact ⟨_, rfl, Int.tmod_nonneg _ (by omega), Int.tmod_lt_of_pos _ (by omega)⟩
  · rw [if_neg h2, if_neg (by omega)]
    exact ⟨_, rfl, Int.tmod_nonneg _ (by omega), Int.tmod_lt_of_pos _ (by omega)⟩
theorem pick_ok (l : List Int) (hb : ∀ x ∈ l, 0 ≤ x ∧ x ≤ 255) (hl : l.length ≤ 1048576) (s : Int) (L : List Int) (s0 : 0 ≤ s) (s1 : s ≤ 1000000000000) (hL : 1 ≤ L.length) : ∃ x, x ∈ L ∧ spec_l1Pick.f l s L = some (x, s + 1) := by
  obtain ⟨r, h, r0, r1⟩ := next_ok l hb hl s (L.length : Int) s0 s1 (by omega)
  obtain ⟨n, rfl⟩ := Int.eq_ofNat_of_zero_le r0
  have hn : n < L.length := by omega
  refine ⟨L[n], List.getElem_mem hn, ?_⟩
  unfold spec_l1Pick.f
  rw [h]; simp only [Option.bind_some]
  rw [if_pos r0, if_pos r1]
  have : rd L (n : Int) = L[n] := by simp [rd, List.getD, List.getElem?_eq_getElem hn]
  rw [this]
theorem max_ok (x y : Int) : spec_l1Max.f x y = some (max x y) := by
  unfold spec_l1Max.f; split <;> congr 1 <;> omega
end Go.Proofs.Ytodeihnbjflpaaa.Pure
set_option linter.unusedVariables false
set_option linter.unusedSimpArgs false
namespace Go.Proofs.Ytodeihnbjflpaaa.Pure
open Go.RowKit Go.Proofs.Ytodeihnbjflpaaa.G Go.Proofs.YtodeihnbjflpaaaW.PrintWords Go.Proofs.YtodeihnbjflpaaaW.PrintLast Go.Proofs.YtodeihnbjflpaaaW.PrintMore
theorem ev_one {α : Type} {g : Nat → Option α} {r : α} (h : Ev (fun k => g (k + 1)) r) : Ev g r := by
  obtain ⟨K, hK⟩ := h
  refine ⟨K + 1, fun k hk => ?_⟩
  obtain ⟨m, rfl⟩ : ∃ m, k = m + 1 := ⟨k - 1, by omega⟩
  exact hK m (by omega)
def i64 (a : Int) : Prop := -9223372036854775808 ≤ a ∧ a ≤ 9223372036854775807
theorem takeF_zero {a b s : Int} (h : takeF a b s = 0) : 1 ≤ s ∧ s ≤ 1099511627776 := by
  unfold takeF at h
  by_cases hs : 1 ≤ s ∧ s ≤ 1099511627776
  · exact hs
  · rw [if_neg hs] at h; omega
theorem TQ_top {a b s : Int} (a0 : 0 ≤ a) (a1 : a ≤ 1099511627776) (h : (TQ a b s).1 = 0) : 0 ≤ (TQ a b s).2.2.1 ∧ (TQ a b s).2.2.1 ≤ 1099511627776 := by
  unfold TQ at h ⊢
  by_cases c : takeF a b s = 0
  · have hs := takeF_zero c
    rw [if_pos c]
    simp only [tkn]
    split
    · exact ⟨a0, a1⟩
    · split
      · exact ⟨by simp only; omega, hs.2⟩
      · exact ⟨by simp only; omega, hs.2⟩
  · rw [if_neg c]; simp
theorem window_l0 (l : List Int) (hb : ∀ x ∈ l, 0 ≤ x ∧ x ≤ 255) (hl : l.length ≤ 1048576) (x : Int) (d : Nat) (hd : d ≤ 1000) : ∀ (s a b : Int), 0 ≤ s → s + d ≤ 1000000 → 0 ≤ a → a ≤ 1099511627776 →
    ∃ r : Int × Int × Int, Ev (fun k => spec_l10Window.l0 k x d l s a b) r ∧ i64 r.1 ∧ 0 ≤ r.2.2 ∧ r.2.2 ≤ 1000002 := by
  induction d with
  | zero =>
    intro s a b s0 s1 a0 a1
    obtain ⟨y, ey, y0, y1⟩ := next_ok l hb hl s 20 s0 (by omega) (by omega)
    obtain ⟨p, hp, ep⟩ := pick_ok l hb hl (s + 1) ([(-1), 0, 1, 1099511627776, 1099511627777] : List Int) (by omega) (by omega) (by simp)
    obtain ⟨q, hq, eq⟩ := pick_ok l hb hl (s + 1) ([0, (-1), 4294967295, 4294967296, 5] : List Int) (by omega) (by omega) (by simp)
    have hp' : i64 p := by
      simp only [List.mem_cons, List.not_mem_nil, or_false] at hp; unfold i64; omega
    by_cases h0 : y = 0
    · refine ⟨(p, b, s + 1 + 1), ev_one ?_, hp', by simp only; omega, by simp only; omega⟩
      simp only [spec_l10Window.l0, show ¬ ((0 : Nat) : Int) > 0 by omega, if_false, ey, Option.bind_some, h0, if_true, ep]
      exact Ev.now _
    by_cases h1 : y = 1
    · refine ⟨(a, q, s + 1 + 1), ev_one ?_, ⟨by simp only; omega, by simp only; omega⟩, by simp only; omega, by simp only; omega⟩
      simp only [spec_l10Window.l0, show ¬ ((0 : Nat) : Int) > 0 by omega, if_false, ey, Option.bind_some, show ¬ (1 : Int) = 0 by omega, h1, if_true, eq]
      exact Ev.now _
    · refine ⟨(a, b, s + 1), ev_one ?_, ⟨by simp only; omega, by simp only; omega⟩, by simp only; omega, by simp only; omega⟩
      simp only [spec_l10Window.l0, show ¬ ((0 : Nat) : Int) > 0 by omega, if_false, ey, Option.bind_some, h0, h1]
      exact Ev.now _
  | succ d ih =>
    intro s a b s0 s1 a0 a1
    obtain ⟨y, ey, y0, y1⟩ := next_ok l hb hl s 40 s0 (by omega) (by omega)
    have ed : wrap64 (((d + 1 : Nat) : Int) - 1) = (d : Int) := by rw [show ((d + 1 : Nat) : Int) - 1 = (d : Int) by omega]; exact w64d (by omega) (by omega)
    by_cases hz : (TQ a b (wrap64 (wrap64 (x + 1) + y))).1 = 0
    · have ht := TQ_top a0 a1 hz
      obtain ⟨r, er, h1, h2, h3⟩ := ih (by omega) (s + 1) (TQ a b (wrap64 (wrap64 (x + 1) + y))).2.2.1 (TQ a b (wrap64 (wrap64 (x + 1) + y))).2.2.2 (by omega) (by omega) ht.1 ht.2
      refine ⟨r, ev_one ?_, h1, h2, h3⟩
      simp only [spec_l10Window.l0, show ((d + 1 : Nat) : Int) > 0 by omega, if_true, ey, Option.bind_some, take_spec a0 a1, hz, ed]
      exact er
    · obtain ⟨r, er, h1, h2, h3⟩ := ih (by omega) (s + 1) a b (by omega) (by omega) a0 a1
      refine ⟨r, ev_one ?_, h1, h2, h3⟩
      simp only [spec_l10Window.l0, show ((d + 1 : Nat) : Int) > 0 by omega, if_true, ey, Option.bind_some, take_spec a0 a1, hz, if_false, ed]
      exact er
theorem window_ok (l : List Int) (hb : ∀ x ∈ l, 0 ≤ x ∧ x ≤ 255) (hl : l.length ≤ 1048576) (s : Int) (s0 : 0 ≤ s) (s1 : s ≤ 1000) :
    ∃ r : Int × Int × Int, Ev (fun k => spec_l10Window.f k l s) r ∧ i64 r.1 ∧ 0 ≤ r.2.2 ∧ r.2.2 ≤ 1000002 := by
  obtain ⟨p, hp, ep⟩ := pick_ok l hb hl s ([0, 0, 5, 4294967276, 8589934589, 1099511627736] : List Int) s0 (by omega) (by simp)
  obtain ⟨y, ey, y0, y1⟩ := next_ok l hb hl (s + 1) 12 (by omega) (by omega) (by omega)
  obtain ⟨n, rfl⟩ := Int.eq_ofNat_of_zero_le y0
  obtain ⟨r, er, h⟩ := window_l0 l hb hl p n (by omega) (s + 1 + 1) 0 0 (by omega) (by omega) (by omega) (by omega)
  refine ⟨r, ?_, h⟩
  simp only [spec_l10Window.f, ep, Option.bind_some, ey]
  exact er
end Go.Proofs.Ytodeihnbjflpaaa.Pure
set_option linter.unusedVariables false
set_option linter.unusedSimpArgs false
namespace Go.Proofs.Ytodeihnbjflpaaa.Pure
open Go.RowKit Go.Proofs.Ytodeihnbjflpaaa.G Go.Proofs.YtodeihnbjflpaaaW.PrintWords Go.Proofs.YtodeihnbjflpaaaW.PrintLast Go.Proofs.YtodeihnbjflpaaaW.PrintMore
def mi (a b : Int) : Nat → Int → List Int
  | 0, _ => []
  | d + 1, s => if tk b (a - s) = true then mi a b d (s + 1) else s :: mi a b d (s + 1)
theorem mi_length (a b : Int) : ∀ (d : Nat) (s : Int), (mi a b d s).length ≤ d
  | 0, _ => by simp [mi]
  | d + 1, s => by
    unfold mi; split
    · have := mi_length a b d (s + 1); omega
    · have := mi_length a b d (s + 1); simp; omega
theorem mi_impl_l0 (a b : Int) (a1 : a ≤ 1099511627776) (d : Nat) : ∀ (k : Nat) (s : Int) (acc : List Int), 1 ≤ s → s + d = a → d < k → acc.length + d ≤ 1000 →
    impl_MissingIn.l0 k acc s a b = some (0, acc ++ mi a b d s) := by
  induction d with
  | zero =>
    intro k s acc hs hd hk hl
    obtain ⟨k, rfl⟩ : ∃ m, k = m + 1 := ⟨k - 1, by omega⟩
    simp only [impl_MissingIn.l0]; rw [if_neg (by omega)]; simp [mi]
  | succ d ih =>
    intro k s acc hs hd hk hl
    obtain ⟨k, rfl⟩ : ∃ m, k = m + 1 := ⟨k - 1, by omega⟩
    simp only [impl_MissingIn.l0, mi]
    rw [if_pos (by omega), w64 (n := a - s) (by omega) (by omega), took a b _ (by omega), w64 (by omega) (by omega)]
    simp only [Option.bind_some]
    cases ht : tk b (a - s)
    · simp only [Bool.false_eq_true, if_false]
      rw [if_pos (by omega), ih k (s + 1) _ (by omega) (by omega) (by omega) (by simp; omega)]
      simp
    · simp only [if_true]
      rw [ih k (s + 1) _ (by omega) (by omega) (by omega) (by omega)]
def MI (a b : Int) : Int × List Int := if WF a b = 0 then (0, mi a b (a - max (a - 31) 1).toNat (max (a - 31) 1)) else (WF a b, [])
theorem MI_length (a b : Int) : (MI a b).2.length ≤ 31 := by
  unfold MI; split
  · have := mi_length a b (a - max (a - 31) 1).toNat (max (a - 31) 1); simp only; omega
  · simp
theorem l0_empty_impl (a b s : Int) (acc : List Int) (h : a ≤ s) (k : Nat) : impl_MissingIn.l0 (k + 1) acc s a b = some (0, acc) := by
  simp only [impl_MissingIn.l0]; rw [if_neg (by omega)]
theorem mi_impl (a b : Int) : Ev (fun k => impl_MissingIn.f k a b) (MI a b) := by
  unfold impl_MissingIn.f MI
  refine Ev.bind (wf_impl a b) ?_
  by_cases h : WF a b = 0
  · obtain ⟨a0, a1, b0, b1⟩ := wf_ok h
    simp only [h, if_true]
    rw [w64 (n := a - 32) (by omega) (by omega), w64 (n := a - 32 + 1) (by omega) (by omega), show a - 32 + 1 = a - 31 by omega, show mx (a - 31) 1 = max (a - 31) 1 by unfold mx; omega]
    refine ⟨40, fun k hk => ?_⟩
    by_cases hp : 1 ≤ a
    · exact mi_impl_l0 a b a1 _ k _ [] (by omega) (by omega) (by omega) (by simp; omega)
    · obtain ⟨m, rfl⟩ : ∃ m, k = m + 1 := ⟨k - 1, by omega⟩
      show impl_MissingIn.l0 (m + 1) [] _ a b = _
      rw [l0_empty_impl a b _ _ (by omega), show (a - max (a - 31) 1).toNat = 0 by omega]; rfl
  · simp only [h, if_false]; exact Ev.now _
def ta : Int → Int → List Int → List Int
  | _, _, [] => []
  | a, b, s :: r => if takeF a b s = 0 then s :: ta (tkn a b s).1 (tkn a b s).2 r else ta a b r
theorem ta_length : ∀ (l : List Int) (a b : Int), (ta a b l).length ≤ l.length
  | [], _, _ => by simp [ta]
  | s :: r, a, b => by
    unfold ta; split
    · have := ta_length r (tkn a b s).1 (tkn a b s).2; simp; omega
    · have := ta_length r a b; simp; omega
theorem TQ_zero (a b s : Int) : (TQ a b s).1 = 0 ↔ takeF a b s = 0 := by
  unfold TQ; split
  · simp [*]
  · simp [*]
theorem rd_drop (l : List Int) (i : Nat) (h : i < l.length) : l.drop i = rd l (i : Int) :: l.drop (i + 1) := by
  rw [List.drop_eq_getElem_cons h]
  simp [rd, List.getD, List.getElem?_eq_getElem h]
theorem ta_spec_l0 (l : List Int) (hl : l.length ≤ 1000) (d : Nat) : ∀ (k i : Nat) (a b : Int) (acc : List Int), WF a b = 0 → i + d = l.length → d < k → acc.length + d ≤ 1000 →
    spec_TakeAll.l0 k l i a b 0 acc = some (0, acc ++ ta a b (l.drop i)) := by
  induction d with
  | zero =>
    intro k i a b acc hw hi hk hc
    obtain ⟨k, rfl⟩ : ∃ m, k = m + 1 := ⟨k - 1, by omega⟩
    simp only [spec_TakeAll.l0]; rw [if_neg (by omega), List.drop_of_length_le (by omega)]; simp [ta]
  | succ d ih =>
    intro k i a b acc hw hi hk hc
    obtain ⟨k, rfl⟩ : ∃ m, k = m + 1 := ⟨k - 1, by omega⟩
    obtain ⟨a0, a1, b0, b1⟩ := wf_ok hw
    simp only [spec_TakeAll.l0]
    rw [if_pos (by omega), if_pos (by omega), take_spec a0 a1, rd_drop l i (by omega), w64 (by omega) (by omega)]
    simp only [Option.bind_some, ta]
    by_cases ht : takeF a b (rd l i) = 0
    · rw [if_pos ((TQ_zero _ _ _).2 ht), if_pos ht, if_pos (by omega)]
      have e : TQ a b (rd l i) = (0, rd l i, (tkn a b (rd l i)).1, (tkn a b (rd l i)).2) := by unfold TQ; rw [if_pos ht]
      rw [e]
      have := ih k (i + 1) (tkn a b (rd l i)).1 (tkn a b (rd l i)).2 (acc ++ [rd l i]) (tkn_wf hw ht) (by omega) (by omega) (by simp; omega)
      simpa using this
    · rw [if_neg (fun h => ht ((TQ_zero _ _ _).1 h)), if_neg ht]
      have := ih k (i + 1) a b acc hw (by omega) (by omega) (by omega)
      simpa using this
theorem wf_lit {a b : Int} (h : WF a b = 0) : (Lit.int .i64 a).wf = true := by
  obtain ⟨a0, a1, b0, b1⟩ := wf_ok h
  simp [Lit.wf, IntKind.min, IntKind.max, IntKind.signed, IntKind.bits]; omega
theorem ta_impl_l0 (l : List Int) (hl : l.length ≤ 1000) (d : Nat) : ∀ (i : Nat) (a b : Int) (acc : List Int), WF a b = 0 → i + d = l.length → acc.length + d ≤ 1000 →
    Ev (fun k => impl_TakeAll.l0 k acc l (l.length : Int) i a b) (0, acc ++ ta a b (l.drop i)) := by
  induction d with
  | zero =>
    intro i a b acc hw hi hc
    refine ⟨1, fun k hk => ?_⟩
    obtain ⟨k, rfl⟩ : ∃ m, k = m + 1 := ⟨k - 1, by omega⟩
    simp only [impl_TakeAll.l0]; rw [if_neg (by omega), List.drop_of_length_le (by omega)]; simp [ta]
  | succ d ih =>
    intro i a b acc hw hi hc
    obtain ⟨a0, a1, b0, b1⟩ := wf_ok hw
    refine Ev.step (fun k => ?_) (f := fun k => (impl_TakeSeq.f k a b (rd l i)).bind fun bt => (if bt.1 = 0 then impl_TakeAll.l0 k (acc ++ [rd l i]) l l.length ((i + 1 : Nat) : Int) bt.2.2.1 bt.2.2.2 else impl_TakeAll.l0 k acc l l.length ((i + 1 : Nat) : Int) a b)) ?_
    · simp only [impl_TakeAll.l0]
      rw [if_pos (by omega), if_pos (by omega), if_pos (by omega), w64 (by omega) (by omega)]
      simp only [show ((i + 1 : Nat) : Int) = (i : Int) + 1 from rfl]
      congr 1
      funext bt
      rw [if_pos (show acc.length < 17592186044416 by omega)]
    · refine Ev.bind (ts_impl a b _ (wf_lit hw)) ?_
      have e0 : TS a b (rd l i) = TQ a b (rd l i) := by unfold TS; rw [if_pos hw]
      rw [rd_drop l i (by omega)]
      simp only [e0, ta]
      by_cases ht : takeF a b (rd l i) = 0
      · have e : TQ a b (rd l i) = (0, rd l i, (tkn a b (rd l i)).1, (tkn a b (rd l i)).2) := by unfold TQ; rw [if_pos ht]
        simp only [e, ht, if_true]
        have := ih (i + 1) (tkn a b (rd l i)).1 (tkn a b (rd l i)).2 (acc ++ [rd l i]) (tkn_wf hw ht) (by omega) (by simp; omega)
        simpa using this
      · simp only [(TQ_zero a b (rd l i)), ht, if_false]
        exact ih (i + 1) a b acc hw (by omega) (by omega)
def TA (a b : Int) (l : List Int) : Int × List Int := if WF a b = 0 then (if l.length > 100 then (2, []) else (0, ta a b l)) else (WF a b, [])
theorem TA_length (a b : Int) (l : List Int) : (TA a b l).2.length ≤ 100 := by
  unfold TA; split
  · split
    · simp
    · have := ta_length l a b; simp only; omega
  · simp
theorem ta_spec (a b : Int) (l : List Int) : Ev (fun k => spec_TakeAll.f k a b l) (TA a b l) := by
  unfold spec_TakeAll.f TA
  refine Ev.bind (wf_spec a b) ?_
  by_cases h : WF a b = 0
  · simp only [h, if_true]
    by_cases hl : l.length > 100
    · simp only [show (l.length : Int) > 100 by omega, hl, if_true]; exact Ev.now _
    · simp only [show ¬ (l.length : Int) > 100 by omega, hl, if_false]
      refine ⟨l.length + 1, fun k hk => ?_⟩
      have := ta_spec_l0 l (by omega) l.length k 0 a b [] h (by omega) (by omega) (by simp; omega)
      simpa using this
  · simp only [h, if_false]; exact Ev.now _
theorem ta_impl (a b : Int) (l : List Int) : Ev (fun k => impl_TakeAll.f k a b l) (TA a b l) := by
  unfold impl_TakeAll.f TA
  refine Ev.bind (wf_impl a b) ?_
  by_cases h : WF a b = 0
  · simp only [h, if_true]
    by_cases hl : l.length > 100
    · simp only [show (l.length : Int) > 100 by omega, hl, if_true]; exact Ev.now _
    · simp only [show ¬ (l.length : Int) > 100 by omega, hl, if_false]
      have := ta_impl_l0 l (by omega) l.length 0 a b [] h (by omega) (by simp; omega)
      simpa using this
  · simp only [h, if_false]; exact Ev.now _
end Go.Proofs.Ytodeihnbjflpaaa.Pure
set_option linter.unusedVariables false
set_option linter.unusedSimpArgs false
namespace Go.Proofs.Ytodeihnbjflpaaa.Pure
open Go.RowKit Go.Proofs.Ytodeihnbjflpaaa.G Go.Proofs.YtodeihnbjflpaaaW.PrintWords Go.Proofs.YtodeihnbjflpaaaW.PrintLast Go.Proofs.YtodeihnbjflpaaaW.PrintMore
theorem SN_iff {a b s : Int} (h : WF a b = 0) : SN a b s = true ↔ s < 1 ∨ s ≤ a - 32 ∨ (s ≤ a ∧ tk b (a - s) = true) := by
  unfold SN
  rw [if_pos h]
  by_cases h1 : s < 1
  · rw [if_pos h1]; simp [h1]
  · rw [if_neg h1]; simp [h1]
theorem takeF_iff {a b s : Int} (h : WF a b = 0) : takeF a b s = 0 ↔ (1 ≤ s ∧ s ≤ 1099511627776) ∧ ¬ SN a b s = true := by
  rw [SN_iff h]
  unfold takeF
  by_cases hs : 1 ≤ s ∧ s ≤ 1099511627776
  · rw [if_pos hs]
    by_cases ho : s ≤ a - 32
    · rw [if_pos ho]
      constructor
      · intro h; omega
      · intro h; exact absurd (Or.inr (Or.inl ho)) h.2
    · rw [if_neg ho]
      by_cases h2 : s ≤ a ∧ tk b (a - s) = true
      · rw [if_pos h2]
        constructor
        · intro h; omega
        · intro h; exact absurd (Or.inr (Or.inr h2)) h.2
      · rw [if_neg h2]
        refine ⟨fun _ => ⟨hs, ?_⟩, fun _ => rfl⟩
        rintro (h' | h' | h')
        · omega
        · exact ho h'
        · exact h2 h'
  · rw [if_neg hs]
    constructor
    · intro h; omega
    · intro h; exact absurd h.1 hs
theorem SN_grow {a b s : Int} (h : WF a b = 0) (ht : takeF a b s = 0) : SN (tkn a b s).1 (tkn a b s).2 s = true ∧ ∀ x, SN a b x = true → SN (tkn a b s).1 (tkn a b s).2 x = true := by
  have hw := tkn_wf h ht
  obtain ⟨a0, a1, b0, b1⟩ := wf_ok h
  obtain ⟨hs, hn⟩ := (takeF_iff h).1 ht
  rw [SN_iff h] at hn
  have ho : a - 32 < s := by
    by_cases c : s ≤ a - 32
    · exact absurd (Or.inr (Or.inl c)) hn
    · omega
  obtain ⟨_, _, h3⟩ := tkn_bits b0 b1 a0 hs.1 ho
  obtain ⟨t1, t2⟩ := tkn_top a b s
  constructor
  · rw [SN_iff hw]
    by_cases c : s ≤ (tkn a b s).1 - 32
    · exact .inr (.inl c)
    · refine .inr (.inr ⟨t2, ?_⟩)
      rw [h3 _ (by omega) (by omega)]
      have : decide ((tkn a b s).1 - ((tkn a b s).1 - s) = s) = true := decide_eq_true (by omega)
      rw [this]; rfl
  · intro x hx
    rw [SN_iff h] at hx
    rw [SN_iff hw]
    rcases hx with hx | hx | ⟨hx, hb⟩
    · exact .inl hx
    · exact .inr (.inl (by omega))
    · by_cases c : x ≤ (tkn a b s).1 - 32
      · exact .inr (.inl c)
      · refine .inr (.inr ⟨by omega, ?_⟩)
        rw [h3 _ (by omega) (by omega), show a - ((tkn a b s).1 - ((tkn a b s).1 - x)) = a - x by omega, hb, decide_eq_true (show 0 ≤ a - x by omega)]
        simp
theorem ta_mem : ∀ (l : List Int) (a b : Int), WF a b = 0 → ∀ e ∈ ta a b l, takeF a b e = 0
  | [], a, b, h => by simp [ta]
  | s :: r, a, b, h => by
    intro e he
    unfold ta at he
    by_cases ht : takeF a b s = 0
    · rw [if_pos ht] at he
      rcases List.mem_cons.1 he with rfl | he
      · exact ht
      · have h1 := ta_mem r _ _ (tkn_wf h ht) e he
        obtain ⟨h2, h3⟩ := (takeF_iff (tkn_wf h ht)).1 h1
        exact (takeF_iff h).2 ⟨h2, fun h4 => h3 ((SN_grow h ht).2 e h4)⟩
    · rw [if_neg ht] at he
      exact ta_mem r a b h e he
theorem ta_nodup : ∀ (l : List Int) (a b : Int), WF a b = 0 → (ta a b l).Nodup
  | [], a, b, h => by simp [ta]
  | s :: r, a, b, h => by
    unfold ta
    by_cases ht : takeF a b s = 0
    · rw [if_pos ht]
      refine List.nodup_cons.2 ⟨fun hm => ?_, ta_nodup r _ _ (tkn_wf h ht)⟩
      have h1 := ta_mem r _ _ (tkn_wf h ht) s hm
      exact ((takeF_iff (tkn_wf h ht)).1 h1).2 (SN_grow h ht).1
    · rw [if_neg ht]; exact ta_nodup r a b h
theorem mi_mem (a b : Int) : ∀ (d : Nat) (s : Int), ∀ m ∈ mi a b d s, s ≤ m ∧ m < s + d ∧ ¬ tk b (a - m) = true
  | 0, s => by simp [mi]
  | d + 1, s => by
    intro m hm
    unfold mi at hm
    by_cases ht : tk b (a - s) = true
    · rw [if_pos ht] at hm
      have := mi_mem a b d (s + 1) m hm
      exact ⟨by omega, by omega, this.2.2⟩
    · rw [if_neg ht] at hm
      rcases List.mem_cons.1 hm with rfl | hm
      · exact ⟨by omega, by omega, ht⟩
      · have := mi_mem a b d (s + 1) m hm
        exact ⟨by omega, by omega, this.2.2⟩
theorem MI_mem {a b : Int} (h : WF a b = 0) : ∀ m ∈ (MI a b).2, m < a ∧ ¬ SN a b m = true := by
  intro m hm
  unfold MI at hm
  rw [if_pos h] at hm
  have h1 := mi_mem a b _ _ m hm
  rw [SN_iff h]
  refine ⟨by omega, ?_⟩
  rintro (h' | h' | h')
  · omega
  · omega
  · exact h1.2.2 h'.2
end Go.Proofs.Ytodeihnbjflpaaa.Pure
set_option linter.unusedVariables false
set_option linter.unusedSimpArgs false
namespace Go.Proofs.Ytodeihnbjflpaaa.Pure
open Go.RowKit Go.Proofs.Ytodeihnbjflpaaa.G Go.Proofs.YtodeihnbjflpaaaW.PrintWords Go.Proofs.YtodeihnbjflpaaaW.PrintLast Go.Proofs.YtodeihnbjflpaaaW.PrintMore
theorem rd_at (l : List Int) (i : Nat) (h : i < l.length) : rd l (i : Int) = l[i] := by
  simp [rd, List.getD, List.getElem?_eq_getElem h]
theorem lwHas_l0 (l : List Int) (hl : l.length ≤ 9223372036854775807) (e : Int) (he : e ∉ l) (d : Nat) : ∀ (k i : Nat), i + d = l.length → d < k → laws_lwHas.l0 k l e i = some false := by
  induction d with
  | zero =>
    intro k i hi hk
    obtain ⟨k, rfl⟩ : ∃ m, k = m + 1 := ⟨k - 1, by omega⟩
    simp only [laws_lwHas.l0]; rw [if_neg (by omega)]
  | succ d ih =>
    intro k i hi hk
    obtain ⟨k, rfl⟩ : ∃ m, k = m + 1 := ⟨k - 1, by omega⟩
    have hne : ¬ rd l (i : Int) = e := by
      rw [rd_at l i (by omega)]
      intro h; exact he (h ▸ List.getElem_mem (by omega))
    simp only [laws_lwHas.l0]
    rw [if_pos (by omega), if_pos (by omega), if_neg hne, w64' (n := (i : Int) + 1) (by omega) (by omega)]
    have := ih k (i + 1) (by omega) (by omega)
    simpa using this
theorem lwHas_ev (l : List Int) (hl : l.length ≤ 9223372036854775807) (e : Int) (he : e ∉ l) : Ev (fun k => laws_lwHas.f k l e) false := by
  refine ⟨l.length + 1, fun k hk => ?_⟩
  have := lwHas_l0 l hl e he l.length k 0 (by omega) (by omega)
  simpa [laws_lwHas.f] using this
theorem drawAll_l0 (l : List Int) (hb : ∀ x ∈ l, 0 ≤ x ∧ x ≤ 255) (hl : l.length ≤ 1048576) (a b : Int) (d : Nat) (hd : d ≤ 1000) : ∀ (acc : List Int) (s : Int), acc.length + d ≤ 1000 → 0 ≤ s → s + d ≤ 2000000 →
    ∃ r, Ev (fun k => spec_DrawTakeAll.l0 k acc d l s a b) (a, b, r) := by
  induction d with
  | zero =>
    intro acc s ha s0 s1
    obtain ⟨y, ey, y0, y1⟩ := next_ok l hb hl s 40 s0 (by omega) (by omega)
    by_cases h : y = 0
    · refine ⟨List.replicate 101 0, ev_one ?_⟩
      simp only [spec_DrawTakeAll.l0, show ¬ ((0 : Nat) : Int) > 0 by omega, if_false, spec_l1Chance.f, ey, Option.bind_some, h, beq_self_eq_true, if_true, show 101 ≤ 35184372088832 by omega]
      exact Ev.now _
    · refine ⟨acc, ev_one ?_⟩
      simp only [spec_DrawTakeAll.l0, show ¬ ((0 : Nat) : Int) > 0 by omega, if_false, spec_l1Chance.f, ey, Option.bind_some, show (y == 0) = false by simpa using h, Bool.false_eq_true]
      exact Ev.now _
  | succ d ih =>
    intro acc s ha s0 s1
    obtain ⟨y, ey, y0, y1⟩ := next_ok l hb hl s 60 s0 (by omega) (by omega)
    have ed : wrap64 (((d + 1 : Nat) : Int) - 1) = (d : Int) := by rw [show ((d + 1 : Nat) : Int) - 1 = (d : Int) by omega]; exact w64d (by omega) (by omega)
    obtain ⟨r, er⟩ := ih (by omega) (acc ++ [wrap64 (max 0 (wrap64 (a - 20)) + y)]) (s + 1) (by simp; omega) (by omega) (by omega)
    refine ⟨r, ev_one ?_⟩
    simp only [spec_DrawTakeAll.l0, show ((d + 1 : Nat) : Int) > 0 by omega, if_true, max_ok, ey, Option.bind_some, show acc.length < 17592186044416 by omega, ed]
    exact er
theorem draw_all (l : List Int) (hb : ∀ x ∈ l, 0 ≤ x ∧ x ≤ 255) (hl : l.length ≤ 1048576) : ∃ a b r, Ev (fun k => spec_DrawTakeAll.f k l) (a, b, r) := by
  obtain ⟨w, ew, _, c0, c1⟩ := window_ok l hb hl 0 (by omega) (by omega)
  obtain ⟨y, ey, y0, y1⟩ := next_ok l hb hl w.2.2 12 (by omega) (by omega) (by omega)
  obtain ⟨n, rfl⟩ := Int.eq_ofNat_of_zero_le y0
  obtain ⟨r, er⟩ := drawAll_l0 l hb hl w.1 w.2.1 n (by omega) [] (w.2.2 + 1) (by simp; omega) (by omega) (by omega)
  refine ⟨w.1, w.2.1, r, ?_⟩
  unfold spec_DrawTakeAll.f
  simp only [spec_l1Source.f, Option.bind_some]
  refine Ev.bind ew ?_
  simp only [ey, Option.bind_some]
  exact er
theorem win_l1 (a b : Int) (hw : WF a b = 0) (q t M : List Int) (ht : (TA a b q).2 = t) (hM : ∀ m ∈ M, m < a ∧ ¬ SN a b m = true) (hMl : M.length ≤ 100) (d : Nat) : ∀ i : Nat, i + d = M.length → Ev (fun k => laws_FnWindows.l1 k q i a b 0 t 0 M) true := by
  induction d with
  | zero =>
    intro i hi
    refine ev_one ?_
    simp only [laws_FnWindows.l1, show ¬ (i : Int) < (M.length : Int) by omega, if_false]
    refine Ev.bind (ta_spec a b q) ?_
    simp only [ht, if_true, beq_self_eq_true]; exact Ev.now _
  | succ d ih =>
    intro i hi
    have hm := hM _ (List.getElem_mem (show i < M.length by omega))
    have hs : SN a b M[i] = false := by simpa using hm.2
    refine ev_one ?_
    simp only [laws_FnWindows.l1, show (i : Int) < (M.length : Int) by omega, show 0 ≤ (i : Int) by omega, if_true, rd_at M i (by omega), w64' (n := (i : Int) + 1) (by omega) (by omega)]
    refine Ev.bind (sn_impl a b _) ?_
    simp only [hs, Bool.false_eq_true, if_false, show ¬ M[i] ≥ a by omega]
    exact ih (i + 1) (by omega)
theorem win_l0 (a b : Int) (hw : WF a b = 0) (q t : List Int) (ht : (TA a b q).2 = t) (hm : ∀ e ∈ t, takeF a b e = 0) (hnd : t.Nodup) (htl : t.length ≤ 100) (d : Nat) : ∀ i : Nat, i + d = t.length → Ev (fun k => laws_FnWindows.l0 k q i a b 0 t) true := by
  induction d with
  | zero =>
    intro i hi
    refine ev_one ?_
    simp only [laws_FnWindows.l0, show ¬ (i : Int) < (t.length : Int) by omega, if_false]
    refine Ev.bind (mi_impl a b) ?_
    have h1 : (MI a b).1 = 0 := by unfold MI; rw [if_pos hw]
    have h2 := MI_length a b
    rw [h1]
    exact win_l1 a b hw q t _ ht (MI_mem hw) (by omega) (MI a b).2.length 0 (by omega)
  | succ d ih =>
    intro i hi
    have hlt : i < t.length := by omega
    have hz := hm _ (List.getElem_mem hlt)
    obtain ⟨hr, hn⟩ := (takeF_iff hw).1 hz
    have hs : SN a b t[i] = false := by simpa using hn
    have hnot : t[i] ∉ t.take i := by
      intro hmem
      have e : t = t.take i ++ t[i] :: t.drop (i + 1) := by rw [← List.drop_eq_getElem_cons hlt, List.take_append_drop]
      have h2 := hnd
      rw [e] at h2
      exact (List.nodup_append.1 h2).2.2 _ hmem _ (List.mem_cons_self) rfl
    have hg := SN_grow hw hz
    have hw' := tkn_wf hw hz
    have htop := tkn_top a b t[i]
    have hTS : TS a b t[i] = (0, t[i], (tkn a b t[i]).1, (tkn a b t[i]).2) := by
      unfold TS TQ; rw [if_pos hw, if_pos hz]
    have hTS2 : ¬ (TS (tkn a b t[i]).1 (tkn a b t[i]).2 t[i]).1 = 0 := by
      unfold TS; rw [if_pos hw', TQ_zero]
      intro h; exact ((takeF_iff hw').1 h).2 hg.1
    refine ev_one ?_
    simp only [laws_FnWindows.l0, show (i : Int) < (t.length : Int) by omega, show 0 ≤ (i : Int) by omega, show (i : Int) ≤ (t.length : Int) by omega, if_true, rd_at t i hlt, Int.toNat_natCast]
    refine Ev.bind (lwHas_ev _ (by simp; omega) _ hnot) ?_
    simp only [Bool.false_eq_true, if_false]
    refine Ev.bind (sn_impl a b _) ?_
    rw [hs]
    refine ev_one ?_
    simp only [laws_FnWindows.j1, Bool.false_eq_true, show (i : Int) < (t.length : Int) by omega, show 0 ≤ (i : Int) by omega, if_true, if_false, rd_at t i hlt, w64' (n := (i : Int) + 1) (by omega) (by omega)]
    refine Ev.bind (ts_impl a b _ (wf_lit hw)) ?_
    simp only [hTS, if_true]
    refine Ev.bind (sn_impl _ _ _) ?_
    simp only [hg.1, if_true]
    refine Ev.bind (wf_impl _ _) ?_
    simp only [hw', if_true]
    refine Ev.bind (ts_impl _ _ _ (wf_lit hw')) ?_
    simp only [hTS2, if_false, show ¬ (tkn a b t[i]).1 < a by omega]
    exact ih (i + 1) (by omega)
theorem FnWindows : laws_FnWindows.Pure := by
  intro l hm hw
  refine Ev.rounds ?_
  unfold laws_FnWindows.f laws_lwBig.f
  simp only [Option.bind_some, decide_eq_true_eq]
  by_cases hbig : (l.length : Int) > 1048576
  · simp only [hbig, if_true]; exact Ev.now _
  simp only [hbig, if_false]
  obtain ⟨a, b, q, e⟩ := draw_all l (byte_wf hw) (by omega)
  refine Ev.bind e (Ev.bind (ta_impl a b q) ?_)
  by_cases h0 : (TA a b q).1 = 0
  · have h1 : WF a b = 0 := by
      unfold TA at h0
      by_cases c : WF a b = 0
      · exact c
      · rw [if_neg c] at h0; exact h0
    have h2 : (TA a b q).2 = ta a b q := by
      unfold TA at h0 ⊢
      rw [if_pos h1] at h0 ⊢
      split
      · rename_i c; rw [if_pos c] at h0; simp at h0
      · rfl
    have h3 := TA_length a b q
    simp only [h0, if_true]
    exact win_l0 a b h1 q _ rfl (by rw [h2]; exact ta_mem q a b h1) (by rw [h2]; exact ta_nodup q a b h1) h3 (TA a b q).2.length 0 (by omega)
  · simp only [h0, if_false]
    refine Ev.bind (ta_spec a b q) ?_
    simp only [beq_self_eq_true]; exact Ev.now _
end Go.Proofs.Ytodeihnbjflpaaa.Pure
namespace Go.Proofs.Ytodeihnbjflpaaa.fnWindows
open Go.ChangeShapes Go.WideShapes Go.ChangeAt
open Go.RowKit Go.Proofs.Ytodeihnbjflpaaa.G Go.Proofs.YtodeihnbjflpaaaW.PrintWords Go.Proofs.YtodeihnbjflpaaaW.PrintLast
open Go.ChangeMaps (open_string shut_string)
set_option linter.unusedVariables false
theorem own : ownKnob Try.prog.godebug = none := by kernel_rfl
theorem laidOut : laidOutB Try.prog = true := by kernel_rfl
theorem o5 : Opn.Opens Try.prog 5 (Kd.int .u8) (fun n => (Lit.int .u8 n).wf = true) := Opn.opens_int Try.underlying5 (by kernel_rfl)
set_option maxRecDepth 100000 in
theorem lifted (os : Os) (started : os.Started) (H : Type) (enc : TypeId × Value → H) :
    ReturnsInHanded {} Try.checked os 5 .any (Rows.fnWindowsSpec.pre6 enc Try.prog Try.f5 Rows.fnWindowsRow.domain false) (Rows.fnWindowsSpec.post enc Try.prog Try.f5 false true false false) := by
  refine returnsInHanded_of_change_sized (C := Try.checked) own started (by kernel_rfl) Try.func5
    (ChangeSpec.witness6 (enc := enc) (C := Try.checked) false ⟨#[], #[.slice none 0 0], []⟩ 8 (by kernel_rfl) (by kernel_rfl) (by kernel_rfl) (by kernel_rfl)) ?_
  intro W base args ds gs before hval0 hW hcnd hsz0 _
  have hval : ∀ (j : Nat) t v, Try.f5.params[j]? = some t → args[j]? = some v → Value.okWide Try.prog W .any base t v := hval0
  have hW' := hW
  obtain ⟨p, q, hA0, hV, rfl, hfz, hnd⟩ := hW
  have hA : DataW.TrodAll enc Try.prog W 0 (fun _ => true) true Try.f5.params.toList args.toList ds p := hA0
  rw [Try.params5] at hA hval
  obtain ⟨v0, vs0, d0, ds0, p0, q0, hargs, rfl, rfl, h0, r0⟩ := trodAll_cons hA
  obtain ⟨rfl, rfl, rfl⟩ := trodAll_nil r0
  obtain rfl : args = #[v0] := by cases args; simp_all
  obtain ⟨rfl, rfl⟩ := trodVars_none hV
  obtain ⟨A0, len0, c0, rfl⟩ := okWide_slice Try.underlying22 (hval 0 22 v0 rfl rfl)
  have k0 := h0
  have lt0 : ∀ x ∈ p0, x.block < W.heap.size := by obtain ⟨m, hm⟩ := k0; exact DataW.trod_lt m _ _ _ hm
  obtain ⟨l0, rfl, hr0, hc0, hm0, hg0⟩ := Opn.arg_slice Try.underlying22 (by kernel_rfl) o5 h0
  clear hA0 hval0 hsz0
  obtain ⟨k, h⟩ := Pure.FnWindows l0 hm0 hg0
  refine (laws_FnWindows.calls k A0 c0 l0 W hr0 hc0 h).mono fun e W' ⟨he, bel0⟩ => ?_
  have bel : Below W.heap.size W W' := bel0
  subst he
  exact ⟨_, rfl, _, _, _, [], _, [], hW', trodAll_mk1 (shut_bool Try.underlying4 _), (trodAll_cons_mk (Below.trod laidOut (by kernel_rfl) (of_decide_eq_true (by kernel_rfl)) k0 bel lt0) trodAll_mk0), rfl, bel.frame _, fun h => by cases h⟩
theorem over : Rows.fnWindowsRow.holds Try.pinned (OpenSpec.ofChange Rows.fnWindowsSpec) :=
  OpenClaim.holds_of_wide 5 Try.f5 rfl rfl rfl rfl rfl rfl rfl ⟨rfl, rfl, rfl, rfl, rfl⟩ rfl rfl rfl rfl rfl (by kernel_rfl) Try.func5 (by kernel_rfl)
    (of_decide_eq_true (by kernel_rfl)) (by unfold Func.isWrapper; first | (rw [if_pos (by decide +kernel)]; kernel_rfl) | (rw [if_neg (by decide +kernel)]; exact ⟨rfl, rfl⟩))
    (fun os started H enc _ => lifted os started H enc)
end Go.Proofs.Ytodeihnbjflpaaa.fnWindows
namespace Go.Proofs.Ytodeihnbjflpaaa
theorem fnWindows_holds : Rows.FnWindowsSaid := fnWindows.over
end Go.Proofs.Ytodeihnbjflpaaa
#print axioms Go.Proofs.Ytodeihnbjflpaaa.fnWindows_holds
