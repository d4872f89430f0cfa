/- Windows, plainly: what WindowFault, SeenIn, TakeSeq, GuessSeq and their kin answer, of the program and of the reference, as functions on numbers. -/
import Derived.Test.YtalkfdedbacidaaGx3
import Derived.Test.YtalkfdedbacidaaGx7
set_option linter.unusedVariables false
set_option linter.unusedSimpArgs false
namespace Go.Proofs.Ytalkfdedbacidaa.Pure
open Go.RowKit Go.Proofs.Ytalkfdedbacidaa.G Go.Proofs.YtalkfdedbacidaaW.PrintWords Go.Proofs.YtalkfdedbacidaaW.PrintLast Go.Proofs.YtalkfdedbacidaaW.PrintMore

/-- The bit n of b. -/
def tk (b n : Int) : Bool := (Go.bits .and .i64 (shr .i64 b n) 1) == 1
def scan (a b : Int) : Nat → Int → Int
  | 0, _ => 0
  | d + 1, x => if tk b x = true ∧ a - x < 1 then 1 else scan a b d (x + 1)
/-- The fault of a window. -/
def WF (a b : Int) : Int := if 0 ≤ a ∧ a ≤ 1099511627776 ∧ 0 ≤ b ∧ b ≤ 4294967295 then (if (a = 0 ∧ b ≠ 0) ∨ (0 < a ∧ tk b 0 = false) then 1 else scan a b 32 0) else 3

theorem in_spec (a b c : Int) : spec_l1In.f a b c = some (decide (b ≤ a ∧ a ≤ c)) := by
  unfold spec_l1In.f; split
  · congr 1; simp; omega
  · congr 1; simp; omega
theorem in_impl (a b c : Int) : impl_in.f a b c = some (decide (b ≤ a ∧ a ≤ c)) := by
  unfold impl_in.f; split
  · congr 1; simp; omega
  · congr 1; simp; omega
theorem w64 {n : Int} (h0 : -9223372036854775808 ≤ n) (h1 : n ≤ 9223372036854775807) : wrap64 n = n := by unfold wrap64; omega
theorem wu64 {n : Int} (h0 : 0 ≤ n) (h1 : n ≤ 9223372036854775807) : IntKind.u64.wrap n = n := by
  simp [IntKind.wrap, IntKind.bits, IntKind.signed]; omega
theorem took (a b n : Int) (h : 0 ≤ n) : impl_Window_took.f a b n = some (tk b n) := by
  unfold impl_Window_took.f; rw [if_pos h]; rfl

theorem wf_spec_l0 (a b : Int) (ha : 0 ≤ a) (ha1 : a ≤ 1099511627776) (d : Nat) : ∀ (k : Nat) (x : Int), 0 ≤ x → x + d = 32 → d < k → spec_WindowFault.l0 k x a b = some (scan a b d x) := by
  induction d with
  | zero =>
    intro k x h0 hx hk
    obtain ⟨k, rfl⟩ : ∃ m, k = m + 1 := ⟨k - 1, by omega⟩
    simp only [spec_WindowFault.l0]; rw [if_neg (by omega)]; rfl
  | succ d ih =>
    intro k x h0 hx hk
    obtain ⟨k, rfl⟩ : ∃ m, k = m + 1 := ⟨k - 1, by omega⟩
    simp only [spec_WindowFault.l0, scan]
    rw [wu64 h0 (by omega), if_pos (by omega), if_pos h0, w64 (by omega) (by omega), w64 (n := x + 1) (by omega) (by omega), ih k (x + 1) (by omega) (by omega) (by omega)]
    by_cases ht : Go.bits .and .i64 (shr .i64 b x) 1 = 1
    · have h2 : tk b x = true := by simp [tk, ht]
      rw [if_pos ht]
      by_cases hl : a - x < 1
      · rw [if_pos hl, if_pos ⟨h2, hl⟩]
      · rw [if_neg hl, if_neg (fun h => hl h.2)]
    · have h2 : ¬ tk b x = true := by simp [tk, ht]
      rw [if_neg ht, if_neg (fun h => h2 h.1)]
theorem wf_impl_l0 (a b : Int) (ha : 0 ≤ a) (ha1 : a ≤ 1099511627776) (d : Nat) : ∀ (k : Nat) (x : Int), 0 ≤ x → x + d = 32 → d < k → impl_WindowFault.l0 k x a b = some (scan a b d x) := by
  induction d with
  | zero =>
    intro k x h0 hx hk
    obtain ⟨k, rfl⟩ : ∃ m, k = m + 1 := ⟨k - 1, by omega⟩
    simp only [impl_WindowFault.l0]; rw [if_neg (by omega)]; rfl
  | succ d ih =>
    intro k x h0 hx hk
    obtain ⟨k, rfl⟩ : ∃ m, k = m + 1 := ⟨k - 1, by omega⟩
    simp only [impl_WindowFault.l0, scan]
    rw [if_pos (by omega), took a b x h0, w64 (by omega) (by omega), w64 (n := x + 1) (by omega) (by omega), ih k (x + 1) (by omega) (by omega) (by omega)]
    simp only [Option.bind_some]
    by_cases ht : tk b x = true
    · rw [if_pos ht]
      by_cases hl : a - x < 1
      · rw [if_pos hl, if_pos ⟨ht, hl⟩]
      · rw [if_neg hl, if_neg (fun h => hl h.2)]
    · rw [if_neg ht, if_neg (fun h => ht h.1)]
theorem scan_two (a b : Int) : ∀ (d : Nat) (x : Int), scan a b d x = 0 ∨ scan a b d x = 1
  | 0, _ => .inl rfl
  | d + 1, x => by
    unfold scan; split
    · exact .inr rfl
    · exact scan_two a b d (x + 1)
theorem and_one (b : Int) : Go.bits .and .i64 b 1 = 0 ∨ Go.bits .and .i64 b 1 = 1 := by
  unfold Go.bits
  have h : ((BitVec.ofInt IntKind.i64.bits b &&& BitVec.ofInt IntKind.i64.bits 1).toNat) = 0 ∨ ((BitVec.ofInt IntKind.i64.bits b &&& BitVec.ofInt IntKind.i64.bits 1).toNat) = 1 := by
    rw [BitVec.toNat_and]
    have : (BitVec.ofInt IntKind.i64.bits 1).toNat = 1 := by decide
    rw [this, Nat.and_one_is_mod]
    omega
  rcases h with h | h
  · left; simp only [h]; decide
  · right; simp only [h]; decide
theorem tk0 (b : Int) : ((Go.bits .and .i64 b 1) == 0) = !(tk b 0) := by
  have e : shr .i64 b 0 = b := by simp [shr]
  unfold tk; rw [e]
  rcases and_one b with h | h <;> rw [h] <;> decide

theorem wf_spec (a b : Int) : Ev (fun k => spec_WindowFault.f k a b) (WF a b) := by
  refine ⟨40, fun k hk => ?_⟩
  obtain ⟨m, rfl⟩ : ∃ m, k = m + 2 := ⟨k - 2, by omega⟩
  unfold spec_WindowFault.f WF
  rw [in_spec, in_spec]
  simp only [Option.bind_some, decide_eq_true_eq]
  by_cases h1 : 0 ≤ a ∧ a ≤ 1099511627776
  · by_cases h2 : 0 ≤ b ∧ b ≤ 4294967295
    · rw [if_pos h1, if_pos ⟨h1.1, h1.2, h2⟩]
      have hl := wf_spec_l0 a b h1.1 h1.2 32 m 0 (by omega) (by omega) (by omega)
      simp only [spec_WindowFault.j0, spec_WindowFault.j1, tk0, hl]
      by_cases ha : a = 0 <;> by_cases hb : b = 0 <;> by_cases hp : 0 < a <;> cases ht : tk b 0 <;> simp [h1, h2, ha, hb, hp] <;> omega
    · rw [if_pos h1, if_neg (fun h => h2 h.2.2)]
      simp [spec_WindowFault.j0, h2]
  · rw [if_neg h1, if_neg (fun h => h1 ⟨h.1, h.2.1⟩)]
    simp [spec_WindowFault.j0]
theorem wf_impl (a b : Int) : Ev (fun k => impl_WindowFault.f k a b) (WF a b) := by
  refine ⟨40, fun k hk => ?_⟩
  obtain ⟨m, rfl⟩ : ∃ m, k = m + 2 := ⟨k - 2, by omega⟩
  unfold impl_WindowFault.f WF
  rw [in_impl, in_impl]
  simp only [Option.bind_some, decide_eq_true_eq]
  by_cases h1 : 0 ≤ a ∧ a ≤ 1099511627776
  · by_cases h2 : 0 ≤ b ∧ b ≤ 4294967295
    · rw [if_pos h1, if_pos ⟨h1.1, h1.2, h2⟩]
      have hl := wf_impl_l0 a b h1.1 h1.2 32 m 0 (by omega) (by omega) (by omega)
      simp only [impl_WindowFault.j0, impl_WindowFault.j1, took a b 0 (by omega), hl, Option.bind_some]
      by_cases ha : a = 0 <;> by_cases hb : b = 0 <;> by_cases hp : 0 < a <;> cases ht : tk b 0 <;> simp [h1, h2, ha, hb, hp] <;> omega
    · rw [if_pos h1, if_neg (fun h => h2 h.2.2)]
      simp [impl_WindowFault.j0, h2]
  · rw [if_neg h1, if_neg (fun h => h1 ⟨h.1, h.2.1⟩)]
    simp [impl_WindowFault.j0]
/-- A window without a fault has its numbers within their bounds. -/
theorem wf_ok {a b : Int} (h : WF a b = 0) : 0 ≤ a ∧ a ≤ 1099511627776 ∧ 0 ≤ b ∧ b ≤ 4294967295 := by
  unfold WF at h
  by_cases c : 0 ≤ a ∧ a ≤ 1099511627776 ∧ 0 ≤ b ∧ b ≤ 4294967295
  · exact c
  · rw [if_neg c] at h; omega
end Go.Proofs.Ytalkfdedbacidaa.Pure
