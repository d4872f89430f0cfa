/- SeenIn, TakeSeq, GuessSeq, TakeLow, TakeAll, MissingIn: what the printed functions of program and reference answer, in the same plain words. -/
import Derived.Test.YtalkfdedbacidaaPwin
import Derived.Test.YtalkfdedbacidaaGx12
import Derived.Test.YtalkfdedbacidaaGx11
import Derived.Test.YtalkfdedbacidaaGx69
import Derived.Test.YtalkfdedbacidaaGx66
import Derived.Test.YtalkfdedbacidaaGx88
import Derived.Test.YtalkfdedbacidaaGx87
import Derived.Test.YtalkfdedbacidaaGx44
import Derived.Test.YtalkfdedbacidaaGx43
set_option linter.unusedVariables false
set_option linter.unusedSimpArgs false
namespace Go.Proofs.Ytalkfdedbacidaa.Pure
open Go.RowKit Go.Proofs.Ytalkfdedbacidaa.G Go.Proofs.YtalkfdedbacidaaW.PrintWords Go.Proofs.YtalkfdedbacidaaW.PrintLast Go.Proofs.YtalkfdedbacidaaW.PrintMore

theorem old_spec {a b s : Int} (h0 : 0 ≤ a) (h1 : a ≤ 1099511627776) : spec_l10Old.f a b s = some (decide (s ≤ a - 32)) := by
  unfold spec_l10Old.f; rw [w64 (by omega) (by omega)]
theorem had_spec {a b s : Int} (h1 : a ≤ 1099511627776) (hs : 1 ≤ s) : spec_l10Had.f a b s = some (decide (s ≤ a) && tk b (a - s)) := by
  unfold spec_l10Had.f
  by_cases h : s ≤ a
  · rw [if_pos h, w64 (by omega) (by omega), wu64 (by omega) (by omega), if_pos (by omega)]
    simp [h, tk]
  · rw [if_neg h]; simp [h]

/-- SeenIn. -/
def SN (a b s : Int) : Bool := if WF a b = 0 then (if s < 1 then true else decide (s ≤ a - 32) || (decide (s ≤ a) && tk b (a - s))) else true
theorem sn_spec (a b s : Int) : Ev (fun k => spec_SeenIn.f k a b s) (SN a b s) := by
  unfold spec_SeenIn.f SN
  refine Ev.bind (wf_spec a b) ?_
  by_cases h : WF a b = 0
  · obtain ⟨a0, a1, b0, b1⟩ := wf_ok h
    by_cases hs : s < 1
    · simp only [h, hs, if_true]; exact Ev.now _
    · simp only [h, hs, if_true, if_false, old_spec a0 a1, had_spec a1 (show 1 ≤ s by omega), Option.bind_some]
      cases h2 : decide (s ≤ a - 32)
      · simp only [Bool.false_eq_true, if_false, Bool.false_or]; exact Ev.now _
      · simp only [if_true, Bool.true_or]; exact Ev.now _
  · simp only [h, if_false]; exact Ev.now _
theorem sn_impl (a b s : Int) : Ev (fun k => impl_SeenIn.f k a b s) (SN a b s) := by
  unfold impl_SeenIn.f SN
  refine Ev.bind (wf_impl a b) ?_
  by_cases h : WF a b = 0
  · obtain ⟨a0, a1, b0, b1⟩ := wf_ok h
    by_cases hs : s < 1
    · simp only [h, hs, if_true]; exact Ev.now _
    · simp only [h, hs, if_true, if_false]
      rw [w64 (n := a - 32) (by omega) (by omega)]
      by_cases h2 : s ≤ a - 32
      · simp only [h2, if_true, decide_true, Bool.true_or]; exact Ev.now _
      · by_cases h3 : s ≤ a
        · simp only [h2, h3, if_true, if_false, decide_true, decide_false, Bool.false_or, Bool.true_and]
          rw [w64 (by omega) (by omega), took a b _ (by omega)]; exact Ev.now _
        · simp only [h2, h3, if_false, decide_false, Bool.false_or, Bool.false_and]; exact Ev.now _
  · simp only [h, if_false]; exact Ev.now _

/-! ### TakeSeq -/
theorem faultOf2 (x y : Int) : Ev (fun k => impl_faultOf.f k ([x, y] : List Int)) (if x = 0 then y else x) := by
  refine ⟨3, fun k hk => ?_⟩
  obtain ⟨m, rfl⟩ : ∃ m, k = m + 3 := ⟨k - 3, by omega⟩
  unfold impl_faultOf.f
  have e1 : wrap64 1 = 1 := w64 (by omega) (by omega)
  have e2 : wrap64 2 = 2 := w64 (by omega) (by omega)
  have e3 : wrap64 (1 + 1) = 2 := w64 (by omega) (by omega)
  by_cases hx : x = 0 <;> by_cases hy : y = 0 <;> simp [impl_faultOf.l0, rd, e1, e2, e3, hx, hy]
theorem takeF_impl (a b s : Int) (wa : (Lit.int .i64 a).wf = true) : ∃ t, impl_Window_takeFault.f a b s = some t ∧ (0 ≤ a → t = takeF a b s) := by
  have hb : -9223372036854775808 ≤ a ∧ a ≤ 9223372036854775807 := by
    simpa [Lit.wf, IntKind.min, IntKind.max, IntKind.signed, IntKind.bits] using wa
  unfold impl_Window_takeFault.f takeF
  rw [in_impl]
  simp only [Option.bind_some, decide_eq_true_eq]
  by_cases hs : 1 ≤ s ∧ s ≤ 1099511627776
  · rw [if_pos hs, if_pos hs]
    by_cases hl : 0 ≤ a
    · refine ⟨_, ?_, fun _ => rfl⟩
      rw [w64 (n := a - 32) (by omega) (by omega)]
      by_cases ho : s ≤ a - 32
      · rw [if_pos ho, if_pos ho]
      · rw [if_neg ho, if_neg ho]
        by_cases h2 : s ≤ a
        · rw [if_pos h2, w64 (by omega) (by omega), took a b _ (by omega)]
          simp only [Option.bind_some]
          cases tk b (a - s) <;> simp [h2]
        · rw [if_neg h2, if_neg (fun h => h2 h.1)]
    · by_cases ho : s ≤ wrap64 (a - 32)
      · rw [if_pos ho]; exact ⟨_, rfl, fun h => absurd h hl⟩
      · rw [if_neg ho, if_neg (by omega)]; exact ⟨_, rfl, fun h => absurd h hl⟩
  · rw [if_neg hs, if_neg hs]; exact ⟨_, rfl, fun _ => rfl⟩
theorem taken_impl {a b s : Int} (a0 : 0 ≤ a) (a1 : a ≤ 1099511627776) (s0 : 1 ≤ s) (s1 : s ≤ 1099511627776) : impl_Window_taken.f a b s = some (tkn a b s) := by
  unfold impl_Window_taken.f tkn
  by_cases h : s ≤ a
  · rw [if_pos h, if_pos h, w64 (by omega) (by omega), if_pos (by omega)]
  · rw [if_neg h, if_neg h, w64 (by omega) (by omega)]
    by_cases h2 : s - a < 32
    · rw [if_neg (by omega), if_pos h2, if_pos (by omega)]
    · rw [if_pos (by omega), if_neg h2]

/-- TakeSeq: code, Seq, Top, Bits. -/
def TQ (a b s : Int) : Int × Int × Int × Int := if takeF a b s = 0 then (0, s, (tkn a b s).1, (tkn a b s).2) else (takeF a b s, 0, 0, 0)
def TS (a b s : Int) : Int × Int × Int × Int := if WF a b = 0 then TQ a b s else (WF a b, 0, 0, 0)
theorem mask_one (x : Int) : Go.bits .and .i64 (Go.bits .or .i64 x 1) 4294967295 = Go.bits .or .i64 (Go.bits .and .i64 x 4294967295) 1 := by
  have back : ∀ v : BitVec 64, BitVec.ofInt 64 (IntKind.i64.wrap (v.toNat : Int)) = v := by
    intro v
    apply BitVec.eq_of_toInt_eq
    have h1 := v.isLt
    rw [BitVec.toInt_ofInt, BitVec.toInt_eq_toNat_bmod, IntKind.wrap_i64]
    simp only [Int.bmod_def]
    split <;> split <;> omega
  unfold Go.bits
  simp only
  rw [show IntKind.i64.bits = 64 from rfl, back, back]
  congr 2
  have e : ∀ X : BitVec 64, (X ||| BitVec.ofInt 64 1) &&& BitVec.ofInt 64 4294967295 = (X &&& BitVec.ofInt 64 4294967295) ||| BitVec.ofInt 64 1 := by
    intro X
    ext i hi
    simp only [BitVec.getElem_and, BitVec.getElem_or]
    have h1 : ∀ j : Nat, ∀ h : j < 64, (BitVec.ofInt 64 1)[j] = true → (BitVec.ofInt 64 4294967295)[j] = true := by decide
    have := h1 i hi
    cases h : (BitVec.ofInt 64 1)[i] <;> cases h' : (BitVec.ofInt 64 4294967295)[i] <;> simp_all
  rw [e]
theorem take_spec {a b s : Int} (a0 : 0 ≤ a) (a1 : a ≤ 1099511627776) : spec_l10Take.f a b s = some (TQ a b s) := by
  unfold spec_l10Take.f TQ takeF
  rw [in_spec]
  simp only [Option.bind_some, decide_eq_true_eq]
  by_cases hs : 1 ≤ s ∧ s ≤ 1099511627776
  · rw [if_pos hs, if_pos hs, old_spec a0 a1]
    simp only [Option.bind_some, decide_eq_true_eq]
    by_cases ho : s ≤ a - 32
    · rw [if_pos ho, if_pos ho]; rfl
    · rw [if_neg ho, if_neg ho, had_spec a1 hs.1]
      simp only [Option.bind_some]
      by_cases h2 : s ≤ a
      · cases ht : tk b (a - s)
        · simp only [h2, decide_true, Bool.true_and, Bool.false_eq_true, if_false, if_true, and_false]
          rw [w64 (by omega) (by omega), wu64 (by omega) (by omega), if_pos (by omega)]
          simp [tkn, h2]
        · simp [h2]
      · simp only [h2, decide_false, Bool.false_and, Bool.false_eq_true, if_false, false_and, if_true]
        rw [w64 (by omega) (by omega), wu64 (by omega) (by omega)]
        by_cases h3 : s - a < 32
        · rw [if_pos h3, if_pos (by omega), mask_one]; simp [tkn, h2, h3]
        · rw [if_neg h3]; simp [tkn, h2, h3]
  · rw [if_neg hs, if_neg hs]; rfl
theorem ts_spec (a b s : Int) : Ev (fun k => spec_TakeSeq.f k a b s) (TS a b s) := by
  unfold spec_TakeSeq.f TS
  refine Ev.bind (wf_spec a b) ?_
  by_cases h : WF a b = 0
  · obtain ⟨a0, a1, b0, b1⟩ := wf_ok h
    simp only [h, if_true, take_spec a0 a1, Option.bind_some]; exact Ev.now _
  · simp only [h, if_false]; exact Ev.now _
theorem ts_impl (a b s : Int) (wa : (Lit.int .i64 a).wf = true) : Ev (fun k => impl_TakeSeq.f k a b s) (TS a b s) := by
  unfold impl_TakeSeq.f TS
  refine Ev.bind (wf_impl a b) ?_
  obtain ⟨t, ht, htt⟩ := takeF_impl a b s wa
  simp only [ht, Option.bind_some]
  refine Ev.bind (faultOf2 _ _) ?_
  by_cases h : WF a b = 0
  · obtain ⟨a0, a1, b0, b1⟩ := wf_ok h
    rw [htt a0]
    simp only [h, if_true, TQ]
    by_cases h2 : takeF a b s = 0
    · have hs : 1 ≤ s ∧ s ≤ 1099511627776 := by
        unfold takeF at h2
        by_cases hs : 1 ≤ s ∧ s ≤ 1099511627776
        · exact hs
        · rw [if_neg hs] at h2; omega
      simp only [h2, if_true, taken_impl a0 a1 hs.1 hs.2, Option.bind_some]; exact Ev.now _
    · simp only [h2, if_false]; exact Ev.now _
  · simp only [h, if_false]; exact Ev.now _

/-! ### GuessSeq, TakeLow -/
def gs (a low : Int) : Int := if (max (a - 31) 1) - (max (a - 31) 1) % 4294967296 + low < max (a - 31) 1 then (max (a - 31) 1) - (max (a - 31) 1) % 4294967296 + low + 4294967296 else (max (a - 31) 1) - (max (a - 31) 1) % 4294967296 + low
def GS (a b low : Int) : Int × Int := if WF a b = 0 then (if 0 ≤ low ∧ low ≤ 4294967295 then (if gs a low > 1099511627776 then (3, 0) else (0, gs a low)) else (3, 0)) else (WF a b, 0)
theorem max_spec (x y : Int) : spec_l1Max.f x y = some (max y x) := by
  unfold spec_l1Max.f
  split
  · congr 1; omega
  · congr 1; omega
theorem gs_spec (a b low : Int) : Ev (fun k => spec_GuessSeq.f k a b low) (GS a b low) := by
  unfold spec_GuessSeq.f GS
  refine Ev.bind (wf_spec a b) ?_
  by_cases h : WF a b = 0
  · obtain ⟨a0, a1, b0, b1⟩ := wf_ok h
    simp only [h, if_true, in_spec, Option.bind_some, decide_eq_true_eq]
    by_cases hl : 0 ≤ low ∧ low ≤ 4294967295
    · simp only [hl, and_self, if_true, max_spec, Option.bind_some]
      rw [w64 (n := a - 32) (by omega) (by omega), w64 (n := a - 32 + 1) (by omega) (by omega), show a - 32 + 1 = a - 31 by omega]
      obtain ⟨m, hm⟩ : ∃ m, m = max (a - 31) 1 := ⟨_, rfl⟩
      have m1 : 1 ≤ m := by omega
      have m2 : m ≤ 1099511627776 := by omega
      simp only [gs, ← hm]
      rw [w64 (n := m / 4294967296 * 4294967296) (by omega) (by omega), show m / 4294967296 * 4294967296 = m - m % 4294967296 by omega, w64 (n := m - m % 4294967296 + low) (by omega) (by omega), w64 (n := m - m % 4294967296 + low + 4294967296) (by omega) (by omega)]
      split
      · split <;> exact Ev.now _
      · split <;> exact Ev.now _
    · simp only [hl, if_false]; exact Ev.now _
  · simp only [h, if_false]; exact Ev.now _
theorem gs_impl (a b low : Int) : Ev (fun k => impl_GuessSeq.f k a b low) (GS a b low) := by
  unfold impl_GuessSeq.f GS
  refine Ev.bind (wf_impl a b) ?_
  by_cases h : WF a b = 0
  · obtain ⟨a0, a1, b0, b1⟩ := wf_ok h
    simp only [h, if_true, in_impl, Option.bind_some, decide_eq_true_eq]
    by_cases hl : 0 ≤ low ∧ low ≤ 4294967295
    · simp only [hl, and_self, if_true]
      rw [w64 (n := a - 32) (by omega) (by omega), w64 (n := a - 32 + 1) (by omega) (by omega), show a - 32 + 1 = a - 31 by omega, show mx (a - 31) 1 = max (a - 31) 1 by unfold mx; omega]
      obtain ⟨m, hm⟩ : ∃ m, m = max (a - 31) 1 := ⟨_, rfl⟩
      have m1 : 1 ≤ m := by omega
      have m2 : m ≤ 1099511627776 := by omega
      simp only [gs, ← hm]
      rw [w64 (n := m - m % 4294967296) (by omega) (by omega), w64 (n := m - m % 4294967296 + low) (by omega) (by omega), w64 (n := m - m % 4294967296 + low + 4294967296) (by omega) (by omega)]
      split
      · split <;> exact Ev.now _
      · split <;> exact Ev.now _
    · simp only [hl, if_false]; exact Ev.now _
  · simp only [h, if_false]; exact Ev.now _
def TL (a b low : Int) : Int × Int × Int × Int := if (GS a b low).1 = 0 then TQ a b (GS a b low).2 else ((GS a b low).1, 0, 0, 0)
theorem gs_ok {a b low : Int} (h : (GS a b low).1 = 0) : WF a b = 0 := by
  unfold GS at h
  by_cases c : WF a b = 0
  · exact c
  · rw [if_neg c] at h; exact h
theorem tl_spec (a b low : Int) : Ev (fun k => spec_TakeLow.f k a b low) (TL a b low) := by
  unfold spec_TakeLow.f TL
  refine Ev.bind (gs_spec a b low) ?_
  by_cases h : (GS a b low).1 = 0
  · obtain ⟨a0, a1, b0, b1⟩ := wf_ok (gs_ok h)
    simp only [h, if_true, take_spec a0 a1, Option.bind_some]; exact Ev.now _
  · simp only [h, if_false]; exact Ev.now _
theorem tl_impl (a b low : Int) (wa : (Lit.int .i64 a).wf = true) : Ev (fun k => impl_TakeLow.f k a b low) (TL a b low) := by
  unfold impl_TakeLow.f TL
  refine Ev.bind (gs_impl a b low) ?_
  by_cases h : (GS a b low).1 = 0
  · simp only [h, if_true]
    refine Ev.bind (ts_impl a b _ wa) ?_
    simp only [TS, gs_ok h, if_true]; exact Ev.now _
  · simp only [h, if_false]; exact Ev.now _
end Go.Proofs.Ytalkfdedbacidaa.Pure
