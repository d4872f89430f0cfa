/- Windows, plainly, of no program: a number taken leaves a right window right; bits as of natural numbers. -/
import Derived.Test.YtalkfdedbacidaaPw
import Derived.Laws.BitsLemmas
set_option linter.unusedVariables false
set_option linter.unusedSimpArgs false
namespace Go.Proofs.Ytalkfdedbacidaa.Pure
open Go.RowKit Go.Proofs.Ytalkfdedbacidaa.G Go.Proofs.YtalkfdedbacidaaW.PrintWords Go.Proofs.YtalkfdedbacidaaW.PrintLast Go.Proofs.YtalkfdedbacidaaW.PrintMore

theorem wraps_i64 (n : Int) (h₀ : 0 ≤ n) (h₁ : n < 2 ^ 63) : IntKind.i64.wrap n = n := by rw [IntKind.wrap_i64]; omega
theorem and_nat (a b : Nat) (ha : a < 2 ^ 63) (hb : b < 2 ^ 63) : Go.bits .and .i64 a b = ((a &&& b : Nat) : Int) := (bits_nat .i64 63 (by decide) wraps_i64 a b ha hb).1
theorem or_nat (a b : Nat) (ha : a < 2 ^ 63) (hb : b < 2 ^ 63) : Go.bits .or .i64 a b = ((a ||| b : Nat) : Int) := (bits_nat .i64 63 (by decide) wraps_i64 a b ha hb).2
/-- A bit is Lean's own bit. -/
theorem tk_nat (b : Nat) (n : Int) (hb : b < 2 ^ 63) (h0 : 0 ≤ n) (h1 : n ≤ 64) : tk b n = b.testBit n.toNat := by
  unfold tk shr
  have e : min n.toNat IntKind.i64.bits = n.toNat := by
    have : IntKind.i64.bits = 64 := rfl
    omega
  rw [e]
  have e2 : ((b : Int) / 2 ^ n.toNat) = ((b / 2 ^ n.toNat : Nat) : Int) := by simp
  have hlt : b / 2 ^ n.toNat < 2 ^ 63 := Nat.lt_of_le_of_lt (Nat.div_le_self _ _) hb
  have := and_nat (b / 2 ^ n.toNat) 1 hlt (by decide)
  rw [e2]
  rw [show ((1 : Int)) = ((1 : Nat) : Int) from rfl, this, Nat.and_one_is_mod, Nat.testBit_eq_decide_div_mod_eq]
  cases h : decide (b / 2 ^ n.toNat % 2 = 1)
  · have := of_decide_eq_false h
    simp; omega
  · have := of_decide_eq_true h
    simp [this]
theorem shl_nat (b n : Nat) (hn : n ≤ 31) (hb : b < 2 ^ 32) : shl .i64 (b : Int) (n : Int) = ((b * 2 ^ n : Nat) : Int) := by
  unfold shl
  have e : min ((n : Int)).toNat IntKind.i64.bits = n := by
    have : IntKind.i64.bits = 64 := rfl
    omega
  rw [e]
  have hlt : b * 2 ^ n < 2 ^ 63 := by
    have h1 : 2 ^ n ≤ 2 ^ 31 := Nat.pow_le_pow_right (by decide) hn
    have h2 : b * 2 ^ n ≤ b * 2 ^ 31 := Nat.mul_le_mul_left _ h1
    omega
  have e2 : ((b : Int) * 2 ^ n) = ((b * 2 ^ n : Nat) : Int) := by simp
  rw [e2]
  exact wraps_i64 _ (by omega) (by exact_mod_cast hlt)

theorem scan_zero {a b : Int} : ∀ {d : Nat} {x : Int}, scan a b d x = 0 ↔ ∀ k : Int, x ≤ k → k < x + d → tk b k = true → 1 ≤ a - k := by
  intro d
  induction d with
  | zero => intro x; simp [scan]; intro k h1 h2; omega
  | succ d ih =>
    intro x
    unfold scan
    by_cases h : tk b x = true ∧ a - x < 1
    · rw [if_pos h]
      constructor
      · intro h'; omega
      · intro h'; have := h' x (by omega) (by omega) h.1; omega
    · rw [if_neg h, ih]
      constructor
      · intro h' k h1 h2 h3
        by_cases e : k = x
        · subst e
          by_cases hl : a - k < 1
          · exact absurd ⟨h3, hl⟩ h
          · omega
        · exact h' k (by omega) (by omega) h3
      · intro h' k h1 h2 h3; exact h' k (by omega) (by omega) h3
theorem wf_iff {a b : Int} : WF a b = 0 ↔ (0 ≤ a ∧ a ≤ 1099511627776 ∧ 0 ≤ b ∧ b ≤ 4294967295) ∧ (a = 0 → b = 0) ∧ (0 < a → tk b 0 = true) ∧ ∀ k : Int, 0 ≤ k → k < 32 → tk b k = true → 1 ≤ a - k := by
  unfold WF
  by_cases c : 0 ≤ a ∧ a ≤ 1099511627776 ∧ 0 ≤ b ∧ b ≤ 4294967295
  · rw [if_pos c]
    by_cases c2 : (a = 0 ∧ b ≠ 0) ∨ (0 < a ∧ tk b 0 = false)
    · rw [if_pos c2]
      constructor
      · intro h; omega
      · rintro ⟨_, h1, h2, _⟩
        rcases c2 with ⟨h, h'⟩ | ⟨h, h'⟩
        · exact absurd (h1 h) h'
        · rw [h2 h] at h'; cases h'
    · rw [if_neg c2, scan_zero]
      constructor
      · intro h
        refine ⟨c, fun h0 => ?_, fun h0 => ?_, fun k h1 h2 h3 => h k h1 (by omega) h3⟩
        · exact Decidable.byContradiction fun h' => c2 (.inl ⟨h0, h'⟩)
        · cases ht : tk b 0
          · exact absurd (.inr ⟨h0, ht⟩) c2
          · rfl
      · rintro ⟨_, _, _, h⟩ k h1 h2 h3; exact h k h1 (by omega) h3
  · rw [if_neg c]
    constructor
    · intro h; omega
    · rintro ⟨h, _⟩; exact absurd h c

/-- Why a number is not taken. -/
def takeF (a b s : Int) : Int := if 1 ≤ s ∧ s ≤ 1099511627776 then (if s ≤ a - 32 then 10 else if s ≤ a ∧ tk b (a - s) = true then 7 else 0) else 3
/-- A window with a number that can be taken. -/
def tkn (a b s : Int) : Int × Int := if s ≤ a then (a, Go.bits .or .i64 b (shl .i64 1 (a - s))) else if s - a < 32 then (s, Go.bits .or .i64 (Go.bits .and .i64 (shl .i64 b (s - a)) 4294967295) 1) else (s, 1)

theorem tkn_top (a b s : Int) : a ≤ (tkn a b s).1 ∧ s ≤ (tkn a b s).1 := by
  unfold tkn
  split
  · exact ⟨by simp, by simpa⟩
  · split <;> simp <;> omega

/-- What is taken is a bit of the window behind it; the others stay. -/
theorem tkn_bits {a b s : Int} (hb0 : 0 ≤ b) (hb : b ≤ 4294967295) (ha : 0 ≤ a) (h0 : 1 ≤ s) (h1 : a - 32 < s) :
    0 ≤ (tkn a b s).2 ∧ (tkn a b s).2 ≤ 4294967295 ∧ ∀ k : Int, 0 ≤ k → k < 32 → tk (tkn a b s).2 k = (decide ((tkn a b s).1 - k = s) || (decide (0 ≤ a - ((tkn a b s).1 - k)) && tk b (a - ((tkn a b s).1 - k)))) := by
  obtain ⟨B, rfl⟩ := Int.eq_ofNat_of_zero_le hb0
  have hB : B < 2 ^ 32 := by omega
  unfold tkn
  by_cases c : s ≤ a
  · rw [if_pos c]
    obtain ⟨j, hj⟩ := Int.eq_ofNat_of_zero_le (show 0 ≤ a - s by omega)
    have hj31 : j ≤ 31 := by omega
    have hs : shl .i64 1 (a - s) = ((2 ^ j : Nat) : Int) := by
      rw [hj]
      have := shl_nat 1 j hj31 (by decide)
      simpa using this
    have hp : 2 ^ j < 2 ^ 32 := Nat.pow_lt_pow_right (by decide) (by omega)
    rw [hs, or_nat B _ (by omega) (by omega)]
    have hor : B ||| 2 ^ j < 2 ^ 32 := Nat.or_lt_two_pow hB hp
    refine ⟨by simp, by simp; omega, fun k k0 k1 => ?_⟩
    obtain ⟨m, rfl⟩ := Int.eq_ofNat_of_zero_le k0
    simp only
    rw [tk_nat _ _ (by omega) k0 (by omega), show a - (a - (m : Int)) = (m : Int) by omega, tk_nat B _ (by omega) k0 (by omega)]
    simp only [Int.toNat_natCast, Nat.testBit_or, Nat.testBit_two_pow]
    have : decide (j = m) = decide (a - (m : Int) = s) := decide_eq_decide.2 (by omega)
    rw [this]
    cases B.testBit m <;> cases decide (a - (m : Int) = s) <;> simp
  · rw [if_neg c]
    by_cases c2 : s - a < 32
    · rw [if_pos c2]
      obtain ⟨j, hj⟩ := Int.eq_ofNat_of_zero_le (show 0 ≤ s - a by omega)
      have hj31 : j ≤ 31 := by omega
      have hs : shl .i64 (B : Int) (s - a) = ((B * 2 ^ j : Nat) : Int) := by rw [hj]; exact shl_nat B j hj31 hB
      have hlt : B * 2 ^ j < 2 ^ 63 := by
        have h1 : 2 ^ j ≤ 2 ^ 31 := Nat.pow_le_pow_right (by decide) hj31
        have h2 : B * 2 ^ j ≤ B * 2 ^ 31 := Nat.mul_le_mul_left _ h1
        omega
      have hm : (4294967295 : Int) = ((4294967295 : Nat) : Int) := rfl
      rw [hs, hm, and_nat _ _ hlt (by decide)]
      have hand : (B * 2 ^ j) &&& 4294967295 < 2 ^ 32 := Nat.lt_of_le_of_lt Nat.and_le_right (by decide)
      have h1' : (1 : Int) = ((1 : Nat) : Int) := rfl
      rw [h1', or_nat _ _ (by omega) (by decide)]
      have hor : (B * 2 ^ j) &&& 4294967295 ||| 1 < 2 ^ 32 := Nat.or_lt_two_pow hand (by decide)
      refine ⟨by simp, by simp; omega, fun k k0 k1 => ?_⟩
      obtain ⟨m, rfl⟩ := Int.eq_ofNat_of_zero_le k0
      simp only
      rw [tk_nat _ _ (by omega) k0 (by omega)]
      simp only [Int.toNat_natCast, Nat.testBit_or, Nat.testBit_and, Nat.testBit_one_eq_true_iff_self_eq_zero]
      have e1 : (4294967295 : Nat).testBit m = true := by
        have : (4294967295 : Nat) = 2 ^ 32 - 1 := by decide
        rw [this, Nat.testBit_two_pow_sub_one]
        simp; omega
      have e2 : (1 : Nat).testBit m = decide (m = 0) := by
        cases m with
        | zero => rfl
        | succ m => simp [Nat.testBit_succ]
      have e3 : (B * 2 ^ j).testBit m = (decide (j ≤ m) && B.testBit (m - j)) := by
        rw [Nat.mul_comm, Nat.testBit_two_pow_mul]
      rw [e1, e2, e3, Bool.and_true]
      have e4 : decide (m = 0) = decide (s - (m : Int) = s) := decide_eq_decide.2 (by omega)
      rw [e4]
      by_cases hjm : j ≤ m
      · have e5 : a - (s - (m : Int)) = ((m - j : Nat) : Int) := by omega
        rw [e5, tk_nat B _ (by omega) (by omega) (by omega)]
        simp [hjm]
        cases B.testBit (m - j) <;> simp
      · have : ¬ 0 ≤ a - (s - (m : Int)) := by omega
        simp [hjm, this]
        intro h; omega
    · rw [if_neg c2]
      refine ⟨by simp, by simp, fun k k0 k1 => ?_⟩
      obtain ⟨m, rfl⟩ := Int.eq_ofNat_of_zero_le k0
      simp only
      rw [show (1 : Int) = ((1 : Nat) : Int) from rfl, tk_nat 1 _ (by decide) k0 (by omega)]
      have e2 : (1 : Nat).testBit m = decide (m = 0) := by
        cases m with
        | zero => rfl
        | succ m => simp [Nat.testBit_succ]
      have : ¬ 0 ≤ a - (s - (m : Int)) := by omega
      have e4 : decide (m = 0) = decide (s - (m : Int) = s) := decide_eq_decide.2 (by omega)
      simp [e2, this, e4]
      intro h; omega

/-- A number taken leaves a right window right. -/
theorem tkn_wf {a b s : Int} (h : WF a b = 0) (ht : takeF a b s = 0) : WF (tkn a b s).1 (tkn a b s).2 = 0 := by
  obtain ⟨⟨a0, a1, b0, b1⟩, hz, hp, hk⟩ := wf_iff.1 h
  unfold takeF at ht
  by_cases hs : 1 ≤ s ∧ s ≤ 1099511627776
  · rw [if_pos hs] at ht
    by_cases ho : s ≤ a - 32
    · rw [if_pos ho] at ht; omega
    · rw [if_neg ho] at ht
      obtain ⟨h1, h2, h3⟩ := tkn_bits b0 b1 a0 hs.1 (show a - 32 < s by omega)
      obtain ⟨t1, t2⟩ := tkn_top a b s
      have t3 : (tkn a b s).1 ≤ 1099511627776 := by
        unfold tkn; split
        · exact a1
        · split <;> exact hs.2
      have t4 : (tkn a b s).1 = a ∨ (tkn a b s).1 = s := by
        unfold tkn; split
        · exact .inl rfl
        · split <;> exact .inr rfl
      refine wf_iff.2 ⟨⟨by omega, t3, h1, h2⟩, fun h0 => by omega, fun _ => ?_, fun k k0 k1 hkt => ?_⟩
      · rw [h3 0 (by omega) (by omega)]
        rcases t4 with t4 | t4
        · rw [t4]
          have : a - (a - 0) = 0 := by omega
          rw [this, hp (by omega)]
          simp
        · rw [t4]; simp
      · rw [h3 k k0 k1] at hkt
        rcases Bool.or_eq_true _ _ ▸ hkt with h' | h'
        · have := of_decide_eq_true h'; omega
        · have h'' : 0 ≤ a - ((tkn a b s).1 - k) ∧ tk b (a - ((tkn a b s).1 - k)) = true := by simpa using h'
          have := hk _ h''.1 (by omega) h''.2
          omega
  · rw [if_neg hs] at ht; omega
end Go.Proofs.Ytalkfdedbacidaa.Pure
