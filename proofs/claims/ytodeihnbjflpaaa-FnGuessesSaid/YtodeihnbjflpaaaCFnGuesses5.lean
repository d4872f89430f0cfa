/- FnGuesses: for every input the law returns true and its arguments read afterwards as they read before. No condition. -/
import Derived.Test.YtodeihnbjflpaaaCFnGuesses4
import Derived.ChangeArms
import Derived.Deep.Slices
import Derived.ProofKit
import Derived.OpenShut
import Derived.Laws.BitsLemmas
import Derived.Test.YtodeihnbjflpaaaRows
import Derived.WalkKit
import Derived.ShutString
import Derived.ChangeOld
import Derived.Below
import Derived.SizedLaws
set_option linter.unusedVariables false
namespace Go.Proofs.Ytodeihnbjflpaaa.Opn
open Go.Proofs.YtodeihnbjflpaaaW.PrintWords
def Opens {α : Type} (P : Program) (t : TypeId) (d : Kd α) (G : α → Prop) : Prop :=
  P.cellsOf t = d.sz ∧ ∀ (H : Type) (enc : TypeId × Value → H) (W : World) (base : Nat) (sp : Nat → Bool) (held : Bool) (fuel : Nat) (cs : List Value) (x : DataW H × List MemPlace),
    DataW.trod enc P W base sp held fuel t cs = some x → ∃ a, d.K W a cs ∧ G a
theorem opens_int {P : Program} {t : TypeId} {k : IntKind} (ht : P.underlying t = some (.int k)) (hc : P.cellsOf t = 1) : Opens P t (Kd.int k) (fun n => (Lit.int k n).wf = true) :=
  ⟨hc, fun H enc W base sp held fuel cs x hx => by
    obtain ⟨n, h, hx, hw⟩ := DataW.trod_int ht hx
    exact ⟨n, h, hw⟩⟩
theorem opens_slice {α : Type} {P : Program} {t e : TypeId} {d : Kd α} {G : α → Prop} (ht : P.underlying t = some (.slice e)) (hc : P.cellsOf t = 1) (he : Opens P e d G) :
    Opens P t (Kd.slice e d) (fun xs => xs.length ≤ maxLen ∧ ∀ x ∈ xs, G x) :=
  ⟨hc, fun H enc W base sp held fuel cs x hx => by
    rcases Go.Deep.open_slice ht hx with ⟨rfl, rfl⟩ | ⟨a, len, cap, m, n, D, Pl, rfl, hb, hl, hm, hmm, rfl, hel⟩
    · refine ⟨[], ⟨none, 0, rfl, Nat.le_refl _, rfl, by simp, ?_⟩, by simp, by simp⟩
      intro h; exact absurd h (by simp)
    · have hle : len ≤ m := by rw [hmm]; split <;> omega
      have key : ∀ i, i < len → ∃ p : α, ∃ c : List Value, c.length = d.sz ∧ d.K W p c ∧ G p ∧ ∀ j u, c[j]? = some u → W.cell? (a.add (i * d.sz + j)) = some u := by
        intro i hi
        obtain ⟨c, h1, h2⟩ := hel i (by omega)
        obtain ⟨p, h3, h4⟩ := he.2 H enc W base sp held n c _ h2
        obtain ⟨_, h5, h6⟩ := World.cells?_some h1
        rw [he.1] at h5 h6
        refine ⟨p, c, h5, h3, h4, fun j u hj => ?_⟩
        have hjl : j < d.sz := by
          have := (List.getElem?_eq_some_iff.1 hj).1
          omega
        rw [← Go.Deep.add_add, h6 j hjl, hj]
      have ex : ∃ ps : List α, ps.length = len ∧ ∀ i p, ps[i]? = some p → ∃ c : List Value, c.length = d.sz ∧ d.K W p c ∧ G p ∧ ∀ j u, c[j]? = some u → W.cell? (a.add (i * d.sz + j)) = some u := by
        clear hel hmm hle hl hm hx
        induction len with
        | zero => exact ⟨[], rfl, fun i p h => by simp at h⟩
        | succ k ih =>
          obtain ⟨ps, h1, h2⟩ := ih (fun i hi => key i (by omega))
          obtain ⟨p, hp⟩ := key k (by omega)
          refine ⟨ps ++ [p], by simp [h1], fun i q h => ?_⟩
          by_cases hi : i < ps.length
          · rw [List.getElem?_append_left hi] at h
            exact h2 i q h
          · rw [List.getElem?_append_right (by omega)] at h
            have hi0 : i - ps.length = 0 := by
              have := (List.getElem?_eq_some_iff.1 h).1
              simp at this
              omega
            rw [hi0] at h
            simp at h
            subst h
            have : i = k := by omega
            subst this
            exact hp
      obtain ⟨ps, h1, h2⟩ := ex
      subst h1
      refine ⟨ps, ⟨some a, cap, rfl, hl, rfl, by simp only [maxLen] at hm; omega, fun _ => ⟨a, rfl, fun j p hj => ?_⟩⟩, by omega, fun x hx' => ?_⟩
      · obtain ⟨c, g1, g2, g3, g4⟩ := h2 j p hj
        exact ⟨c, g1, g2, g4⟩
      · obtain ⟨i, hi⟩ := List.getElem?_of_mem hx'
        obtain ⟨c, g1, g2, g3, g4⟩ := h2 i x hi
        exact g3⟩
theorem arg_slice {α : Type} {P : Program} {W : World} {t e : TypeId} {d : Kd α} {G : α → Prop} {H : Type} {enc : TypeId × Value → H} {base : Nat} {sp : Nat → Bool} {held : Bool} {A : Option Addr} {n c : Nat} {x : DataW H} {ps : List MemPlace}
    (ht : P.underlying t = some (.slice e)) (hc : P.cellsOf t = 1) (he : Opens P e d G) (h : DataW.Trod enc P W base sp held t (.slice A n c) x ps) :
    ∃ xs : List α, n = xs.length ∧ d.C W A xs.length xs ∧ xs.length ≤ c ∧ xs.length ≤ maxLen ∧ ∀ a ∈ xs, G a := by
  obtain ⟨fuel, hf⟩ := h
  obtain ⟨xs, ⟨A', c', h1, h2, h3⟩, h4, h5⟩ := (opens_slice ht hc he).2 H enc W base sp held fuel _ _ hf
  simp [Value.cells] at h1
  obtain ⟨rfl, rfl, rfl⟩ := h1
  exact ⟨xs, rfl, h3, h2, h4, h5⟩
end Go.Proofs.Ytodeihnbjflpaaa.Opn
namespace Go.Proofs.Ytodeihnbjflpaaa.Pure
open Go.RowKit Go.Proofs.Ytodeihnbjflpaaa.G Go.Proofs.YtodeihnbjflpaaaW.PrintWords Go.Proofs.YtodeihnbjflpaaaW.PrintLast
def laws_FnGuesses.Pure : Prop := ∀ (l0 : List Int), l0.length ≤ maxLen → (∀ x ∈ l0, (fun n => (Lit.int .u8 n).wf = true) x) → ∃ k, laws_FnGuesses.f k l0 = some true
end Go.Proofs.Ytodeihnbjflpaaa.Pure
set_option linter.unusedVariables false
set_option linter.unusedSimpArgs false
namespace Go.Proofs.Ytodeihnbjflpaaa.Pure
open Go.RowKit Go.Proofs.Ytodeihnbjflpaaa.G Go.Proofs.YtodeihnbjflpaaaW.PrintWords Go.Proofs.YtodeihnbjflpaaaW.PrintLast Go.Proofs.YtodeihnbjflpaaaW.PrintMore
theorem byte_wf {l : List Int} (h : ∀ x ∈ l, (Lit.int .u8 x).wf = true) : ∀ x ∈ l, 0 ≤ x ∧ x ≤ 255 := fun x hx => by
  have := h x hx
  simpa [Lit.wf, IntKind.min, IntKind.max, IntKind.signed, IntKind.bits] using this
end Go.Proofs.Ytodeihnbjflpaaa.Pure
set_option linter.unusedVariables false
set_option linter.unusedSimpArgs false
namespace Go.Proofs.Ytodeihnbjflpaaa.Pure
open Go.RowKit Go.Proofs.Ytodeihnbjflpaaa.G Go.Proofs.YtodeihnbjflpaaaW.PrintWords Go.Proofs.YtodeihnbjflpaaaW.PrintLast Go.Proofs.YtodeihnbjflpaaaW.PrintMore
def tk (b n : Int) : Bool := (Go.bits .and .i64 (shr .i64 b n) 1) == 1
def scan (a b : Int) : Nat → Int → Int
  | 0, _ => 0
  | d + 1, x => if tk b x = true ∧ a - x < 1 then 1 else scan a b d (x + 1)
def WF (a b : Int) : Int := if 0 ≤ a ∧ a ≤ 1099511627776 ∧ 0 ≤ b ∧ b ≤ 4294967295 then (if (a = 0 ∧ b ≠ 0) ∨ (0 < a ∧ tk b 0 = false) then 1 else scan a b 32 0) else 3
theorem in_spec (a b c : Int) : spec_l1In.f a b c = some (decide (b ≤ a ∧ a ≤ c)) := by
  unfold spec_l1In.f; split
  · congr 1; simp; omega
  · congr 1; simp; omega
theorem in_impl (a b c : Int) : impl_in.f a b c = some (decide (b ≤ a ∧ a ≤ c)) := by
  unfold impl_in.f; split
  · congr 1; simp; omega
  · congr 1; simp; omega
theorem w64 {n : Int} (h0 : -9223372036854775808 ≤ n) (h1 : n ≤ 9223372036854775807) : wrap64 n = n := by unfold wrap64; omega
theorem wu64 {n : Int} (h0 : 0 ≤ n) (h1 : n ≤ 9223372036854775807) : IntKind.u64.wrap n = n := by
  simp [IntKind.wrap, IntKind.bits, IntKind.signed]; omega
theorem took (a b n : Int) (h : 0 ≤ n) : impl_Window_took.f a b n = some (tk b n) := by
  unfold impl_Window_took.f; rw [if_pos h]; rfl
theorem wf_spec_l0 (a b : Int) (ha : 0 ≤ a) (ha1 : a ≤ 1099511627776) (d : Nat) : ∀ (k : Nat) (x : Int), 0 ≤ x → x + d = 32 → d < k → spec_WindowFault.l0 k x a b = some (scan a b d x) := by
  induction d with
  | zero =>
    intro k x h0 hx hk
    obtain ⟨k, rfl⟩ : ∃ m, k = m + 1 := ⟨k - 1, by omega⟩
    simp only [spec_WindowFault.l0]; rw [if_neg (by omega)]; rfl
  | succ d ih =>
    intro k x h0 hx hk
    obtain ⟨k, rfl⟩ : ∃ m, k = m + 1 := ⟨k - 1, by omega⟩
    simp only [spec_WindowFault.l0, scan]
    rw [wu64 h0 (by omega), if_pos (by omega), if_pos h0, w64 (by omega) (by omega), w64 (n := x + 1) (by omega) (by omega), ih k (x + 1) (by omega) (by omega) (by omega)]
    by_cases ht : Go.bits .and .i64 (shr .i64 b x) 1 = 1
    · have h2 : tk b x = true := by simp [tk, ht]
      rw [if_pos ht]
      by_cases hl : a - x < 1
      · rw [if_pos hl, if_pos ⟨h2, hl⟩]
      · rw [if_neg hl, if_neg (fun h => hl h.2)]
    · have h2 : ¬ tk b x = true := by simp [tk, ht]
      rw [if_neg ht, if_neg (fun h => h2 h.1)]
theorem wf_impl_l0 (a b : Int) (ha : 0 ≤ a) (ha1 : a ≤ 1099511627776) (d : Nat) : ∀ (k : Nat) (x : Int), 0 ≤ x → x + d = 32 → d < k → impl_WindowFault.l0 k x a b = some (scan a b d x) := by
  induction d with
  | zero =>
    intro k x h0 hx hk
    obtain ⟨k, rfl⟩ : ∃ m, k = m + 1 := ⟨k - 1, by omega⟩
    simp only [impl_WindowFault.l0]; rw [if_neg (by omega)]; rfl
  | succ d ih =>
    intro k x h0 hx hk
    obtain ⟨k, rfl⟩ : ∃ m, k = m + 1 := ⟨k - 1, by omega⟩
    simp only [impl_WindowFault.l0, scan]
    rw [if_pos (by omega), took a b x h0, w64 (by omega) (by omega), w64 (n := x + 1) (by omega) (by omega), ih k (x + 1) (by omega) (by omega) (by omega)]
    simp only [Option.bind_some]
    by_cases ht : tk b x = true
    · rw [if_pos ht]
      by_cases hl : a - x < 1
      · rw [if_pos hl, if_pos ⟨ht, hl⟩]
      · rw [if_neg hl, if_neg (fun h => hl h.2)]
    · rw [if_neg ht, if_neg (fun h => ht h.1)]
theorem and_one (b : Int) : Go.bits .and .i64 b 1 = 0 ∨ Go.bits .and .i64 b 1 = 1 := by
  unfold Go.bits
  have h : ((BitVec.ofInt IntKind.i64.bits b &&& BitVec.ofInt IntKind.i64.bits 1).toNat) = 0 ∨ ((BitVec.ofInt IntKind.i64.bits b &&& BitVec.ofInt IntKind.i64.bits 1).toNat) = 1 := by
    rw [BitVec.toNat_and]
    have : (BitVec.ofInt IntKind.i64.bits 1).toNat = 1 := by decide
    rw [this, Nat.and_one_is_mod]
    omega
  rcases h with h | h
  · left; simp only [h]; decide
  · right; simp only [h]; decide
theorem tk0 (b : Int) : ((Go.bits .and .i64 b 1) == 0) = !(tk b 0) := by
  have e : shr .i64 b 0 = b := by simp [shr]
  unfold tk; rw [e]
  rcases and_one b with h | h <;> rw [h] <;> decide
theorem wf_spec (a b : Int) : Ev (fun k => spec_WindowFault.f k a b) (WF a b) := by
  refine ⟨40, fun k hk => ?_⟩
  obtain ⟨m, rfl⟩ : ∃ m, k = m + 2 := ⟨k - 2, by omega⟩
  unfold spec_WindowFault.f WF
  rw [in_spec, in_spec]
  simp only [Option.bind_some, decide_eq_true_eq]
  by_cases h1 : 0 ≤ a ∧ a ≤ 1099511627776
  · by_cases h2 : 0 ≤ b ∧ b ≤ 4294967295
    · rw [if_pos h1, if_pos ⟨h1.1, h1.2, h2⟩]
      have hl := wf_spec_l0 a b h1.1 h1.2 32 m 0 (by omega) (by omega) (by omega)
      simp only [spec_WindowFault.j0, spec_WindowFault.j1, tk0, hl]
      by_cases ha : a = 0 <;> by_cases hb : b = 0 <;> by_cases hp : 0 < a <;> cases ht : tk b 0 <;> simp [h1, h2, ha, hb, hp] <;> omega
    · rw [if_pos h1, if_neg (fun h => h2 h.2.2)]
      simp [spec_WindowFault.j0, h2]
  · rw [if_neg h1, if_neg (fun h => h1 ⟨h.1, h.2.1⟩)]
    simp [spec_WindowFault.j0]
theorem wf_impl (a b : Int) : Ev (fun k => impl_WindowFault.f k a b) (WF a b) := by
  refine ⟨40, fun k hk => ?_⟩
  obtain ⟨m, rfl⟩ : ∃ m, k = m + 2 := ⟨k - 2, by omega⟩
  unfold impl_WindowFault.f WF
  rw [in_impl, in_impl]
  simp only [Option.bind_some, decide_eq_true_eq]
  by_cases h1 : 0 ≤ a ∧ a ≤ 1099511627776
  · by_cases h2 : 0 ≤ b ∧ b ≤ 4294967295
    · rw [if_pos h1, if_pos ⟨h1.1, h1.2, h2⟩]
      have hl := wf_impl_l0 a b h1.1 h1.2 32 m 0 (by omega) (by omega) (by omega)
      simp only [impl_WindowFault.j0, impl_WindowFault.j1, took a b 0 (by omega), hl, Option.bind_some]
      by_cases ha : a = 0 <;> by_cases hb : b = 0 <;> by_cases hp : 0 < a <;> cases ht : tk b 0 <;> simp [h1, h2, ha, hb, hp] <;> omega
    · rw [if_pos h1, if_neg (fun h => h2 h.2.2)]
      simp [impl_WindowFault.j0, h2]
  · rw [if_neg h1, if_neg (fun h => h1 ⟨h.1, h.2.1⟩)]
    simp [impl_WindowFault.j0]
theorem wf_ok {a b : Int} (h : WF a b = 0) : 0 ≤ a ∧ a ≤ 1099511627776 ∧ 0 ≤ b ∧ b ≤ 4294967295 := by
  unfold WF at h
  by_cases c : 0 ≤ a ∧ a ≤ 1099511627776 ∧ 0 ≤ b ∧ b ≤ 4294967295
  · exact c
  · rw [if_neg c] at h; omega
end Go.Proofs.Ytodeihnbjflpaaa.Pure
set_option linter.unusedVariables false
set_option linter.unusedSimpArgs false
namespace Go.Proofs.Ytodeihnbjflpaaa.Pure
open Go.RowKit Go.Proofs.Ytodeihnbjflpaaa.G Go.Proofs.YtodeihnbjflpaaaW.PrintWords Go.Proofs.YtodeihnbjflpaaaW.PrintLast Go.Proofs.YtodeihnbjflpaaaW.PrintMore
def takeF (a b s : Int) : Int := if 1 ≤ s ∧ s ≤ 1099511627776 then (if s ≤ a - 32 then 10 else if s ≤ a ∧ tk b (a - s) = true then 7 else 0) else 3
def tkn (a b s : Int) : Int × Int := if s ≤ a then (a, Go.bits .or .i64 b (shl .i64 1 (a - s))) else if s - a < 32 then (s, Go.bits .or .i64 (Go.bits .and .i64 (shl .i64 b (s - a)) 4294967295) 1) else (s, 1)
end Go.Proofs.Ytodeihnbjflpaaa.Pure
set_option linter.unusedVariables false
set_option linter.unusedSimpArgs false
namespace Go.Proofs.Ytodeihnbjflpaaa.Pure
open Go.RowKit Go.Proofs.Ytodeihnbjflpaaa.G Go.Proofs.YtodeihnbjflpaaaW.PrintWords Go.Proofs.YtodeihnbjflpaaaW.PrintLast Go.Proofs.YtodeihnbjflpaaaW.PrintMore
theorem old_spec {a b s : Int} (h0 : 0 ≤ a) (h1 : a ≤ 1099511627776) : spec_l10Old.f a b s = some (decide (s ≤ a - 32)) := by
  unfold spec_l10Old.f; rw [w64 (by omega) (by omega)]
theorem had_spec {a b s : Int} (h1 : a ≤ 1099511627776) (hs : 1 ≤ s) : spec_l10Had.f a b s = some (decide (s ≤ a) && tk b (a - s)) := by
  unfold spec_l10Had.f
  by_cases h : s ≤ a
  · rw [if_pos h, w64 (by omega) (by omega), wu64 (by omega) (by omega), if_pos (by omega)]
    simp [h, tk]
  · rw [if_neg h]; simp [h]
theorem faultOf2 (x y : Int) : Ev (fun k => impl_faultOf.f k ([x, y] : List Int)) (if x = 0 then y else x) := by
  refine ⟨3, fun k hk => ?_⟩
  obtain ⟨m, rfl⟩ : ∃ m, k = m + 3 := ⟨k - 3, by omega⟩
  unfold impl_faultOf.f
  have e1 : wrap64 1 = 1 := w64 (by omega) (by omega)
  have e2 : wrap64 2 = 2 := w64 (by omega) (by omega)
  have e3 : wrap64 (1 + 1) = 2 := w64 (by omega) (by omega)
  by_cases hx : x = 0 <;> by_cases hy : y = 0 <;> simp [impl_faultOf.l0, rd, e1, e2, e3, hx, hy]
theorem takeF_impl (a b s : Int) (wa : (Lit.int .i64 a).wf = true) : ∃ t, impl_Window_takeFault.f a b s = some t ∧ (0 ≤ a → t = takeF a b s) := by
  have hb : -9223372036854775808 ≤ a ∧ a ≤ 9223372036854775807 := by
    simpa [Lit.wf, IntKind.min, IntKind.max, IntKind.signed, IntKind.bits] using wa
  unfold impl_Window_takeFault.f takeF
  rw [in_impl]
  simp only [Option.bind_some, decide_eq_true_eq]
  by_cases hs : 1 ≤ s ∧ s ≤ 1099511627776
  · rw [if_pos hs, if_pos hs]
    by_cases hl : 0 ≤ a
    · refine ⟨_, ?_, fun _ => rfl⟩
      rw [w64 (n := a - 32) (by omega) (by omega)]
      by_cases ho : s ≤ a - 32
      · rw [if_pos ho, if_pos ho]
      · rw [if_neg ho, if_neg ho]
        by_cases h2 : s ≤ a
        · rw [if_pos h2, w64 (by omega) (by omega), took a b _ (by omega)]
          simp only [Option.bind_some]
          cases tk b (a - s) <;> simp [h2]
        · rw [if_neg h2, if_neg (fun h => h2 h.1)]
    · by_cases ho : s ≤ wrap64 (a - 32)
      · rw [if_pos ho]; exact ⟨_, rfl, fun h => absurd h hl⟩
      · rw [if_neg ho, if_neg (by omega)]; exact ⟨_, rfl, fun h => absurd h hl⟩
  · rw [if_neg hs, if_neg hs]; exact ⟨_, rfl, fun _ => rfl⟩
theorem taken_impl {a b s : Int} (a0 : 0 ≤ a) (a1 : a ≤ 1099511627776) (s0 : 1 ≤ s) (s1 : s ≤ 1099511627776) : impl_Window_taken.f a b s = some (tkn a b s) := by
  unfold impl_Window_taken.f tkn
  by_cases h : s ≤ a
  · rw [if_pos h, if_pos h, w64 (by omega) (by omega), if_pos (by omega)]
  · rw [if_neg h, if_neg h, w64 (by omega) (by omega)]
    by_cases h2 : s - a < 32
    · rw [if_neg (by omega), if_pos h2, if_pos (by omega)]
    · rw [if_pos (by omega), if_neg h2]
def TQ (a b s : Int) : Int × Int × Int × Int := if takeF a b s = 0 then (0, s, (tkn a b s).1, (tkn a b s).2) else (takeF a b s, 0, 0, 0)
def TS (a b s : Int) : Int × Int × Int × Int := if WF a b = 0 then TQ a b s else (WF a b, 0, 0, 0)
theorem mask_one (x : Int) : Go.bits .and .i64 (Go.bits .or .i64 x 1) 4294967295 = Go.bits .or .i64 (Go.bits .and .i64 x 4294967295) 1 := by
  have back : ∀ v : BitVec 64, BitVec.ofInt 64 (IntKind.i64.wrap (v.toNat : Int)) = v := by
    intro v
    apply BitVec.eq_of_toInt_eq
    have h1 := v.isLt
    rw [BitVec.toInt_ofInt, BitVec.toInt_eq_toNat_bmod, IntKind.wrap_i64]
    simp only [Int.bmod_def]
    split <;> split <;> omega
  unfold Go.bits
  simp only
  rw [show IntKind.i64.bits = 64 from rfl, back, back]
  congr 2
  have e : ∀ X : BitVec 64, (X ||| BitVec.ofInt 64 1) &&& BitVec.ofInt 64 4294967295 = (X &&& BitVec.ofInt 64 4294967295) ||| BitVec.ofInt 64 1 := by
    intro X
    ext i hi
    simp only [BitVec.getElem_and, BitVec.getElem_or]
    have h1 : ∀ j : Nat, ∀ h : j < 64, (BitVec.ofInt 64 1)[j] = true → (BitVec.ofInt 64 4294967295)[j] = true := by decide
    have := h1 i hi
    cases h : (BitVec.ofInt 64 1)[i] <;> cases h' : (BitVec.ofInt 64 4294967295)[i] <;> simp_all
  rw [e]
theorem take_spec {a b s : Int} (a0 : 0 ≤ a) (a1 : a ≤ 1099511627776) : spec_l10Take.f a b s = some (TQ a b s) := by
  unfold spec_l10Take.f TQ takeF
  rw [in_spec]
  simp only [Option.bind_some, decide_eq_true_eq]
  by_cases hs : 1 ≤ s ∧ s ≤ 1099511627776
  · rw [if_pos hs, if_pos hs, old_spec a0 a1]
    simp only [Option.bind_some, decide_eq_true_eq]
    by_cases ho : s ≤ a - 32
    · rw [if_pos ho, if_pos ho]; rfl
    · rw [if_neg ho, if_neg ho, had_spec a1 hs.1]
      simp only [Option.bind_some]
      by_cases h2 : s ≤ a
      · cases ht : tk b (a - s)
        · simp only [h2, decide_true, Bool.true_and, Bool.false_eq_true, if_false, if_true, and_false]
          rw [w64 (by omega) (by omega), wu64 (by omega) (by omega), if_pos (by omega)]
          simp [tkn, h2]
        · simp [h2]
      · simp only [h2, decide_false, Bool.false_and, Bool.false_eq_true, if_false, false_and, if_true]
        rw [w64 (by omega) (by omega), wu64 (by omega) (by omega)]
        by_cases h3 : s - a < 32
        · rw [if_pos h3, if_pos (by omega), mask_one]; simp [tkn, h2, h3]
        · rw [if_neg h3]; simp [tkn, h2, h3]
  · rw [if_neg hs, if_neg hs]; rfl
theorem ts_spec (a b s : Int) : Ev (fun k => spec_TakeSeq.f k a b s) (TS a b s) := by
  unfold spec_TakeSeq.f TS
  refine Ev.bind (wf_spec a b) ?_
  by_cases h : WF a b = 0
  · obtain ⟨a0, a1, b0, b1⟩ := wf_ok h
    simp only [h, if_true, take_spec a0 a1, Option.bind_some]; exact Ev.now _
  · simp only [h, if_false]; exact Ev.now _
theorem ts_impl (a b s : Int) (wa : (Lit.int .i64 a).wf = true) : Ev (fun k => impl_TakeSeq.f k a b s) (TS a b s) := by
  unfold impl_TakeSeq.f TS
  refine Ev.bind (wf_impl a b) ?_
  obtain ⟨t, ht, htt⟩ := takeF_impl a b s wa
  simp only [ht, Option.bind_some]
  refine Ev.bind (faultOf2 _ _) ?_
  by_cases h : WF a b = 0
  · obtain ⟨a0, a1, b0, b1⟩ := wf_ok h
    rw [htt a0]
    simp only [h, if_true, TQ]
    by_cases h2 : takeF a b s = 0
    · have hs : 1 ≤ s ∧ s ≤ 1099511627776 := by
        unfold takeF at h2
        by_cases hs : 1 ≤ s ∧ s ≤ 1099511627776
        · exact hs
        · rw [if_neg hs] at h2; omega
      simp only [h2, if_true, taken_impl a0 a1 hs.1 hs.2, Option.bind_some]; exact Ev.now _
    · simp only [h2, if_false]; exact Ev.now _
  · simp only [h, if_false]; exact Ev.now _
def gs (a low : Int) : Int := if (max (a - 31) 1) - (max (a - 31) 1) % 4294967296 + low < max (a - 31) 1 then (max (a - 31) 1) - (max (a - 31) 1) % 4294967296 + low + 4294967296 else (max (a - 31) 1) - (max (a - 31) 1) % 4294967296 + low
def GS (a b low : Int) : Int × Int := if WF a b = 0 then (if 0 ≤ low ∧ low ≤ 4294967295 then (if gs a low > 1099511627776 then (3, 0) else (0, gs a low)) else (3, 0)) else (WF a b, 0)
theorem max_spec (x y : Int) : spec_l1Max.f x y = some (max y x) := by
  unfold spec_l1Max.f
  split
  · congr 1; omega
  · congr 1; omega
theorem gs_spec (a b low : Int) : Ev (fun k => spec_GuessSeq.f k a b low) (GS a b low) := by
  unfold spec_GuessSeq.f GS
  refine Ev.bind (wf_spec a b) ?_
  by_cases h : WF a b = 0
  · obtain ⟨a0, a1, b0, b1⟩ := wf_ok h
    simp only [h, if_true, in_spec, Option.bind_some, decide_eq_true_eq]
    by_cases hl : 0 ≤ low ∧ low ≤ 4294967295
    · simp only [hl, and_self, if_true, max_spec, Option.bind_some]
      rw [w64 (n := a - 32) (by omega) (by omega), w64 (n := a - 32 + 1) (by omega) (by omega), show a - 32 + 1 = a - 31 by omega]
      obtain ⟨m, hm⟩ : ∃ m, m = max (a - 31) 1 := ⟨_, rfl⟩
      have m1 : 1 ≤ m := by omega
      have m2 : m ≤ 1099511627776 := by omega
      simp only [gs, ← hm]
      rw [w64 (n := m / 4294967296 * 4294967296) (by omega) (by omega), show m / 4294967296 * 4294967296 = m - m % 4294967296 by omega, w64 (n := m - m % 4294967296 + low) (by omega) (by omega), w64 (n := m - m % 4294967296 + low + 4294967296) (by omega) (by omega)]
      split
      · split <;> exact Ev.now _
      · split <;> exact Ev.now _
    · simp only [hl, if_false]; exact Ev.now _
  · simp only [h, if_false]; exact Ev.now _
theorem gs_impl (a b low : Int) : Ev (fun k => impl_GuessSeq.f k a b low) (GS a b low) := by
  unfold impl_GuessSeq.f GS
  refine Ev.bind (wf_impl a b) ?_
  by_cases h : WF a b = 0
  · obtain ⟨a0, a1, b0, b1⟩ := wf_ok h
    simp only [h, if_true, in_impl, Option.bind_some, decide_eq_true_eq]
    by_cases hl : 0 ≤ low ∧ low ≤ 4294967295
    · simp only [hl, and_self, if_true]
      rw [w64 (n := a - 32) (by omega) (by omega), w64 (n := a - 32 + 1) (by omega) (by omega), show a - 32 + 1 = a - 31 by omega, show mx (a - 31) 1 = max (a - 31) 1 by unfold mx; omega]
      obtain ⟨m, hm⟩ : ∃ m, m = max (a - 31) 1 := ⟨_, rfl⟩
      have m1 : 1 ≤ m := by omega
      have m2 : m ≤ 1099511627776 := by omega
      simp only [gs, ← hm]
      rw [w64 (n := m - m % 4294967296) (by omega) (by omega), w64 (n := m - m % 4294967296 + low) (by omega) (by omega), w64 (n := m - m % 4294967296 + low + 4294967296) (by omega) (by omega)]
      split
      · split <;> exact Ev.now _
      · split <;> exact Ev.now _
    · simp only [hl, if_false]; exact Ev.now _
  · simp only [h, if_false]; exact Ev.now _
def TL (a b low : Int) : Int × Int × Int × Int := if (GS a b low).1 = 0 then TQ a b (GS a b low).2 else ((GS a b low).1, 0, 0, 0)
theorem gs_ok {a b low : Int} (h : (GS a b low).1 = 0) : WF a b = 0 := by
  unfold GS at h
  by_cases c : WF a b = 0
  · exact c
  · rw [if_neg c] at h; exact h
theorem tl_impl (a b low : Int) (wa : (Lit.int .i64 a).wf = true) : Ev (fun k => impl_TakeLow.f k a b low) (TL a b low) := by
  unfold impl_TakeLow.f TL
  refine Ev.bind (gs_impl a b low) ?_
  by_cases h : (GS a b low).1 = 0
  · simp only [h, if_true]
    refine Ev.bind (ts_impl a b _ wa) ?_
    simp only [TS, gs_ok h, if_true]; exact Ev.now _
  · simp only [h, if_false]; exact Ev.now _
end Go.Proofs.Ytodeihnbjflpaaa.Pure
set_option linter.unusedVariables false
set_option linter.unusedSimpArgs false
namespace Go.Proofs.Ytodeihnbjflpaaa.Pure
open Go.RowKit Go.Proofs.Ytodeihnbjflpaaa.G Go.Proofs.YtodeihnbjflpaaaW.PrintWords Go.Proofs.YtodeihnbjflpaaaW.PrintLast Go.Proofs.YtodeihnbjflpaaaW.PrintMore
theorem w64d {n : Int} (h0 : 0 ≤ n) (h1 : n ≤ 9223372036854775807) : wrap64 n = n := by unfold wrap64; omega
theorem rd_byte {l : List Int} (hb : ∀ x ∈ l, 0 ≤ x ∧ x ≤ 255) (i : Int) : 0 ≤ rd l i ∧ rd l i ≤ 255 := by
  unfold rd
  simp only [List.getD]
  cases h : l[i.toNat]? with
  | none => simp
  | some x => simpa using hb x (List.mem_of_getElem? h)
theorem next_ok (l : List Int) (hb : ∀ x ∈ l, 0 ≤ x ∧ x ≤ 255) (hl : l.length ≤ 1048576) (s a : Int) (s0 : 0 ≤ s) (s1 : s ≤ 1000000000000) (ha : 1 ≤ a) : ∃ r, spec_l1Next.f l s a = some (r, s + 1) ∧ 0 ≤ r ∧ r < a := by
  unfold spec_l1Next.f
  have e1 : wrap64 (s + 1) = s + 1 := w64d (by omega) (by omega)
  have e2 : wrap64 (s + 1 - 1) = s := by rw [w64d (by omega) (by omega)]; omega
  rw [if_neg (by omega), e1, e2]
  by_cases h0 : (l.length : Int) = 0
  · rw [if_pos h0, if_neg (by omega), w64d (by omega) (by omega)]
    exact ⟨_, rfl, Int.tmod_nonneg _ (by omega), Int.tmod_lt_of_pos _ (by omega)⟩
  rw [if_neg h0]
  have m0 := Int.tmod_nonneg (l.length : Int) (show 0 ≤ s by omega)
  have m1 := Int.tmod_lt_of_pos s (show 0 < (l.length : Int) by omega)
  have d0 : 0 ≤ s.tdiv (l.length : Int) := Int.tdiv_nonneg s0 (by omega)
  have d1 : s.tdiv (l.length : Int) ≤ s := by
    rw [Int.tdiv_eq_ediv_of_nonneg s0]; exact Int.ediv_le_self _ s0
  have r0 := rd_byte hb (s.tmod (l.length : Int))
  generalize rd l (s.tmod (l.length : Int)) = x at r0 ⊢
  rw [if_pos m0, if_pos m1]
  have f1 : wrap64 x = x := w64d r0.1 (by omega)
  have f2 : wrap64 (s.tdiv (l.length : Int)) = s.tdiv (l.length : Int) := w64d d0 (by omega)
  generalize s.tdiv (l.length : Int) = q at d0 d1 f2 ⊢
  have f3 : wrap64 (q * 37) = q * 37 := w64d (by omega) (by omega)
  have f4 : wrap64 (x + q * 37) = x + q * 37 := w64d (by omega) (by omega)
  rw [f1, f2, f3, f4]
  by_cases h2 : a > 200
  · rw [if_pos h2]
    try simp only [e1]
    have g0 : 0 ≤ (wrap64 (s + 1)).tmod (l.length : Int) := Int.tmod_nonneg _ (by rw [e1]; omega)
    have g1 : (wrap64 (s + 1)).tmod (l.length : Int) < (l.length : Int) := Int.tmod_lt_of_pos _ (by omega)
    have y0 := rd_byte hb ((wrap64 (s + 1)).tmod (l.length : Int))
    rw [e1] at g0 g1 y0
    generalize rd l ((s + 1).tmod (l.length : Int)) = y at y0 ⊢
    rw [if_pos g0, if_pos g1, if_neg (by omega)]
    have f5 : wrap64 y = y := w64d y0.1 (by omega)
    have f6 : wrap64 (y * 13) = y * 13 := w64d (by omega) (by omega)
    have f7 : wrap64 ((x + q * 37) * 251) = (x + q * 37) * 251 := w64d (by omega) (by omega)
    have f8 : wrap64 ((x + q * 37) * 251 + y * 13) = (x + q * 37) * 251 + y * 13 := w64d (by omega) (by omega)
    have f9 : wrap64 ((x + q * 37) * 251 + y * 13 + s) = (x + q * 37) * 251 + y * 13 + s := w64d (by omega) (by omega)
    rw [f5, f6, f7, f8, f9]
    exact ⟨_, rfl, Int.tmod_nonneg _ (by omega), Int.tmod_lt_of_pos _ (by omega)⟩
  · rw [if_neg h2, if_neg (by omega)]
    exact ⟨_, rfl, Int.tmod_nonneg _ (by omega), Int.tmod_lt_of_pos _ (by omega)⟩
theorem pick_ok (l : List Int) (hb : ∀ x ∈ l, 0 ≤ x ∧ x ≤ 255) (hl : l.length ≤ 1048576) (s : Int) (L : List Int) (s0 : 0 ≤ s) (s1 : s ≤ 1000000000000) (hL : 1 ≤ L.length) : ∃ x, x ∈ L ∧ spec_l1Pick.f l s L = some (x, s + 1) := by
  obtain ⟨r, h, r0, r1⟩ := next_ok l hb hl s (L.length : Int) s0 s1 (by omega)
  obtain ⟨n, rfl⟩ := Int.eq_ofNat_of_zero_le r0
  have hn : n < L.length := by omega
  refine ⟨L[n], List.getElem_mem hn, ?_⟩
  unfold spec_l1Pick.f
  rw [h]; simp only [Option.bind_some]
  rw [if_pos r0, if_pos r1]
  have : rd L (n : Int) = L[n] := by simp [rd, List.getD, List.getElem?_eq_getElem hn]
  rw [this]
end Go.Proofs.Ytodeihnbjflpaaa.Pure
set_option linter.unusedVariables false
set_option linter.unusedSimpArgs false
namespace Go.Proofs.Ytodeihnbjflpaaa.Pure
open Go.RowKit Go.Proofs.Ytodeihnbjflpaaa.G Go.Proofs.YtodeihnbjflpaaaW.PrintWords Go.Proofs.YtodeihnbjflpaaaW.PrintLast Go.Proofs.YtodeihnbjflpaaaW.PrintMore
theorem ev_one {α : Type} {g : Nat → Option α} {r : α} (h : Ev (fun k => g (k + 1)) r) : Ev g r := by
  obtain ⟨K, hK⟩ := h
  refine ⟨K + 1, fun k hk => ?_⟩
  obtain ⟨m, rfl⟩ : ∃ m, k = m + 1 := ⟨k - 1, by omega⟩
  exact hK m (by omega)
def i64 (a : Int) : Prop := -9223372036854775808 ≤ a ∧ a ≤ 9223372036854775807
theorem i64_lit {a : Int} (h : i64 a) : (Lit.int .i64 a).wf = true := by
  simpa [Lit.wf, IntKind.min, IntKind.max, IntKind.signed, IntKind.bits, i64] using h
theorem takeF_zero {a b s : Int} (h : takeF a b s = 0) : 1 ≤ s ∧ s ≤ 1099511627776 := by
  unfold takeF at h
  by_cases hs : 1 ≤ s ∧ s ≤ 1099511627776
  · exact hs
  · rw [if_neg hs] at h; omega
theorem TQ_top {a b s : Int} (a0 : 0 ≤ a) (a1 : a ≤ 1099511627776) (h : (TQ a b s).1 = 0) : 0 ≤ (TQ a b s).2.2.1 ∧ (TQ a b s).2.2.1 ≤ 1099511627776 := by
  unfold TQ at h ⊢
  by_cases c : takeF a b s = 0
  · have hs := takeF_zero c
    rw [if_pos c]
    simp only [tkn]
    split
    · exact ⟨a0, a1⟩
    · split
      · exact ⟨by simp only; omega, hs.2⟩
      · exact ⟨by simp only; omega, hs.2⟩
  · rw [if_neg c]; simp
theorem window_l0 (l : List Int) (hb : ∀ x ∈ l, 0 ≤ x ∧ x ≤ 255) (hl : l.length ≤ 1048576) (x : Int) (d : Nat) (hd : d ≤ 1000) : ∀ (s a b : Int), 0 ≤ s → s + d ≤ 1000000 → 0 ≤ a → a ≤ 1099511627776 →
    ∃ r : Int × Int × Int, Ev (fun k => spec_l10Window.l0 k x d l s a b) r ∧ i64 r.1 ∧ 0 ≤ r.2.2 ∧ r.2.2 ≤ 1000002 := by
  induction d with
  | zero =>
    intro s a b s0 s1 a0 a1
    obtain ⟨y, ey, y0, y1⟩ := next_ok l hb hl s 20 s0 (by omega) (by omega)
    obtain ⟨p, hp, ep⟩ := pick_ok l hb hl (s + 1) ([(-1), 0, 1, 1099511627776, 1099511627777] : List Int) (by omega) (by omega) (by simp)
    obtain ⟨q, hq, eq⟩ := pick_ok l hb hl (s + 1) ([0, (-1), 4294967295, 4294967296, 5] : List Int) (by omega) (by omega) (by simp)
    have hp' : i64 p := by
      simp only [List.mem_cons, List.not_mem_nil, or_false] at hp; unfold i64; omega
    by_cases h0 : y = 0
    · refine ⟨(p, b, s + 1 + 1), ev_one ?_, hp', by simp only; omega, by simp only; omega⟩
      simp only [spec_l10Window.l0, show ¬ ((0 : Nat) : Int) > 0 by omega, if_false, ey, Option.bind_some, h0, if_true, ep]
      exact Ev.now _
    by_cases h1 : y = 1
    · refine ⟨(a, q, s + 1 + 1), ev_one ?_, ⟨by simp only; omega, by simp only; omega⟩, by simp only; omega, by simp only; omega⟩
      simp only [spec_l10Window.l0, show ¬ ((0 : Nat) : Int) > 0 by omega, if_false, ey, Option.bind_some, show ¬ (1 : Int) = 0 by omega, h1, if_true, eq]
      exact Ev.now _
    · refine ⟨(a, b, s + 1), ev_one ?_, ⟨by simp only; omega, by simp only; omega⟩, by simp only; omega, by simp only; omega⟩
      simp only [spec_l10Window.l0, show ¬ ((0 : Nat) : Int) > 0 by omega, if_false, ey, Option.bind_some, h0, h1]
      exact Ev.now _
  | succ d ih =>
    intro s a b s0 s1 a0 a1
    obtain ⟨y, ey, y0, y1⟩ := next_ok l hb hl s 40 s0 (by omega) (by omega)
    have ed : wrap64 (((d + 1 : Nat) : Int) - 1) = (d : Int) := by rw [show ((d + 1 : Nat) : Int) - 1 = (d : Int) by omega]; exact w64d (by omega) (by omega)
    by_cases hz : (TQ a b (wrap64 (wrap64 (x + 1) + y))).1 = 0
    · have ht := TQ_top a0 a1 hz
      obtain ⟨r, er, h1, h2, h3⟩ := ih (by omega) (s + 1) (TQ a b (wrap64 (wrap64 (x + 1) + y))).2.2.1 (TQ a b (wrap64 (wrap64 (x + 1) + y))).2.2.2 (by omega) (by omega) ht.1 ht.2
      refine ⟨r, ev_one ?_, h1, h2, h3⟩
      simp only [spec_l10Window.l0, show ((d + 1 : Nat) : Int) > 0 by omega, if_true, ey, Option.bind_some, take_spec a0 a1, hz, ed]
      exact er
    · obtain ⟨r, er, h1, h2, h3⟩ := ih (by omega) (s + 1) a b (by omega) (by omega) a0 a1
      refine ⟨r, ev_one ?_, h1, h2, h3⟩
      simp only [spec_l10Window.l0, show ((d + 1 : Nat) : Int) > 0 by omega, if_true, ey, Option.bind_some, take_spec a0 a1, hz, if_false, ed]
      exact er
theorem window_ok (l : List Int) (hb : ∀ x ∈ l, 0 ≤ x ∧ x ≤ 255) (hl : l.length ≤ 1048576) (s : Int) (s0 : 0 ≤ s) (s1 : s ≤ 1000) :
    ∃ r : Int × Int × Int, Ev (fun k => spec_l10Window.f k l s) r ∧ i64 r.1 ∧ 0 ≤ r.2.2 ∧ r.2.2 ≤ 1000002 := by
  obtain ⟨p, hp, ep⟩ := pick_ok l hb hl s ([0, 0, 5, 4294967276, 8589934589, 1099511627736] : List Int) s0 (by omega) (by simp)
  obtain ⟨y, ey, y0, y1⟩ := next_ok l hb hl (s + 1) 12 (by omega) (by omega) (by omega)
  obtain ⟨n, rfl⟩ := Int.eq_ofNat_of_zero_le y0
  obtain ⟨r, er, h⟩ := window_l0 l hb hl p n (by omega) (s + 1 + 1) 0 0 (by omega) (by omega) (by omega) (by omega)
  refine ⟨r, ?_, h⟩
  simp only [spec_l10Window.f, ep, Option.bind_some, ey]
  exact er
theorem with_ok (l : List Int) (hb : ∀ x ∈ l, 0 ≤ x ∧ x ≤ 255) (hl : l.length ≤ 1048576) : ∃ a b s : Int, Ev (fun k => spec_l10With.f k l) (a, b, s) ∧ i64 a := by
  obtain ⟨r, er, hr, c0, c1⟩ := window_ok l hb hl 0 (by omega) (by omega)
  obtain ⟨x, ex, _, _⟩ := next_ok l hb hl r.2.2 9 (by omega) (by omega) (by omega)
  obtain ⟨y, ey, _, _⟩ := next_ok l hb hl (r.2.2 + 1) 40 (by omega) (by omega) (by omega)
  obtain ⟨z, ez, _, _⟩ := next_ok l hb hl (r.2.2 + 1 + 1) 50 (by omega) (by omega) (by omega)
  obtain ⟨p, hp, ep⟩ := pick_ok l hb hl (r.2.2 + 1 + 1 + 1) ([wrap64 (wrap64 (r.1 + 1) + x), wrap64 (r.1 - y), wrap64 (r.1 + z), r.1, 0, 1099511627776, 1099511627777, (-9223372036854775808)] : List Int) (by omega) (by omega) (by simp)
  refine ⟨r.1, r.2.1, p, ?_, hr⟩
  simp only [spec_l10With.f, spec_l1Source.f, Option.bind_some]
  refine Ev.bind er ?_
  simp only [ex, ey, ez, ep, Option.bind_some]
  exact Ev.now _
theorem draw_take (l : List Int) (hb : ∀ x ∈ l, 0 ≤ x ∧ x ≤ 255) (hl : l.length ≤ 1048576) : ∃ a b s : Int, Ev (fun k => spec_DrawTakeSeq.f k l) (a, b, s) ∧ i64 a := by
  obtain ⟨a, b, s, e, h⟩ := with_ok l hb hl
  refine ⟨a, b, s, ?_, h⟩
  unfold spec_DrawTakeSeq.f
  exact Ev.bind e (Ev.now _)
end Go.Proofs.Ytodeihnbjflpaaa.Pure
set_option linter.unusedVariables false
set_option linter.unusedSimpArgs false
namespace Go.Proofs.Ytodeihnbjflpaaa.Pure
open Go.RowKit Go.Proofs.Ytodeihnbjflpaaa.G Go.Proofs.YtodeihnbjflpaaaW.PrintWords Go.Proofs.YtodeihnbjflpaaaW.PrintLast Go.Proofs.YtodeihnbjflpaaaW.PrintMore
theorem gs_same {a s m : Int} (hm : m = max (a - 31) 1) (h0 : 1 ≤ s) (h1 : s ≤ 1099511627776) (h2 : m ≤ s) (h3 : s - m < 4294967296) : gs a (s % 4294967296) = s := by
  unfold gs
  rw [← hm]
  split <;> omega
theorem gs_ge (a low : Int) (h0 : 0 ≤ low) : max (a - 31) 1 ≤ gs a low := by
  unfold gs
  generalize max (a - 31) 1 = m
  split <;> omega
theorem guess_fault (a b s : Int) (ha : i64 a) : Ev (fun k => laws_FnGuesses.j0 k s true a b) true := by
  refine ev_one ?_
  simp only [laws_FnGuesses.j0, if_true]
  refine Ev.bind (ts_impl a b s (i64_lit ha)) (Ev.bind (ts_spec a b s) ?_)
  simp only [beq_self_eq_true]; exact Ev.now _
theorem guess_ok (a b s : Int) (ha : i64 a) (hw : WF a b = 0) (s0 : 1 ≤ s) (s1 : s ≤ 1099511627776) : Ev (fun k => laws_FnGuesses.j0 k s false a b) true := by
  obtain ⟨a0, a1, b0, b1⟩ := wf_ok hw
  have el : Int.tmod s 4294967296 = s % 4294967296 := Int.tmod_eq_emod_of_nonneg (by omega)
  have hlow : 0 ≤ s % 4294967296 ∧ s % 4294967296 ≤ 4294967295 := by omega
  obtain ⟨m, hm⟩ : ∃ m, m = max (a - 31) 1 := ⟨_, rfl⟩
  have hge := gs_ge a (s % 4294967296) hlow.1
  have main : Ev (fun k => laws_FnGuesses.j1 k s m a b) true := by
    refine ev_one ?_
    simp only [laws_FnGuesses.j1, el]
    refine Ev.bind (gs_impl a b _) ?_
    have low : Ev (fun k => laws_FnGuesses.j2 k s m true a b (GS a b (s % 4294967296)).1 (GS a b (s % 4294967296)).2) true := by
      refine ev_one ?_
      simp only [laws_FnGuesses.j2, if_true, el]
      refine Ev.bind (gs_spec a b _) ?_
      simp only [if_true]
      by_cases hz : (GS a b (s % 4294967296)).1 = 0
      · have hv : (GS a b (s % 4294967296)).2 ≥ m := by
          unfold GS at hz ⊢
          rw [if_pos hw, if_pos hlow] at hz ⊢
          by_cases hc : gs a (s % 4294967296) > 1099511627776
          · rw [if_pos hc] at hz; simp at hz
          · rw [if_neg hc]; simp only; omega
        simp only [hz, if_true, hv, decide_true]; exact Ev.now _
      · simp only [hz, if_false]; exact Ev.now _
    by_cases h1 : s < m
    · simp only [h1, if_true]; exact low
    · simp only [h1, if_false]
      rw [w64d (n := s - m) (by omega) (by omega)]
      by_cases h2 : s - m ≥ 4294967296
      · simp only [h2, decide_true]; exact low
      · have hg : GS a b (s % 4294967296) = (0, s) := by
          unfold GS
          rw [if_pos hw, if_pos hlow, gs_same hm s0 s1 (by omega) (by omega), if_neg (by omega)]
        simp only [h2, decide_false, hg]
        refine ev_one ?_
        simp only [laws_FnGuesses.j2, Bool.false_eq_true, if_false, if_true, el]
        refine Ev.bind (ts_impl a b s (i64_lit ha)) (Ev.bind (tl_impl a b _ (i64_lit ha)) ?_)
        have : TL a b (s % 4294967296) = TS a b s := by
          unfold TL TS
          simp only [hg, hw, if_true]
        rw [this]
        simp only [beq_self_eq_true, Bool.and_self]; exact Ev.now _
  refine ev_one ?_
  simp only [laws_FnGuesses.j0, Bool.false_eq_true, if_false]
  rw [w64 (n := a - 32) (by omega) (by omega), w64 (n := a - 32 + 1) (by omega) (by omega)]
  by_cases h1 : a - 32 + 1 < 1
  · simp only [h1, if_true]
    have : m = 1 := by omega
    rw [this] at main; exact main
  · simp only [h1, if_false]
    have : a - 32 + 1 = m := by omega
    rw [this]; exact main
theorem FnGuesses : laws_FnGuesses.Pure := by
  intro l hm hw
  refine Ev.rounds ?_
  unfold laws_FnGuesses.f laws_lwBig.f
  simp only [Option.bind_some, decide_eq_true_eq]
  by_cases hbig : (l.length : Int) > 1048576
  · simp only [hbig, if_true]; exact Ev.now _
  simp only [hbig, if_false]
  obtain ⟨a, b, s, e, ha⟩ := draw_take l (byte_wf hw) (by omega)
  refine Ev.bind e (Ev.bind (wf_spec a b) ?_)
  by_cases h0 : WF a b = 0
  · simp only [h0, if_true]
    by_cases h1 : s < 1
    · simp only [h1, if_true]; exact guess_fault a b s ha
    · simp only [h1, if_false]
      by_cases h2 : s > 1099511627776
      · simp only [h2, decide_true]; exact guess_fault a b s ha
      · simp only [h2, decide_false]; exact guess_ok a b s ha h0 (by omega) (by omega)
  · simp only [h0, if_false]; exact guess_fault a b s ha
end Go.Proofs.Ytodeihnbjflpaaa.Pure
namespace Go.Proofs.Ytodeihnbjflpaaa.fnGuesses
open Go.ChangeShapes Go.WideShapes Go.ChangeAt
open Go.RowKit Go.Proofs.Ytodeihnbjflpaaa.G Go.Proofs.YtodeihnbjflpaaaW.PrintWords Go.Proofs.YtodeihnbjflpaaaW.PrintLast
open Go.ChangeMaps (open_string shut_string)
set_option linter.unusedVariables false
theorem own : ownKnob Try.prog.godebug = none := by kernel_rfl
theorem laidOut : laidOutB Try.prog = true := by kernel_rfl
theorem o5 : Opn.Opens Try.prog 5 (Kd.int .u8) (fun n => (Lit.int .u8 n).wf = true) := Opn.opens_int Try.underlying5 (by kernel_rfl)
set_option maxRecDepth 100000 in
theorem lifted (os : Os) (started : os.Started) (H : Type) (enc : TypeId × Value → H) :
    ReturnsInHanded {} Try.checked os 4 .any (Rows.fnGuessesSpec.pre6 enc Try.prog Try.f4 Rows.fnGuessesRow.domain false) (Rows.fnGuessesSpec.post enc Try.prog Try.f4 false true false false) := by
  refine returnsInHanded_of_change_sized (C := Try.checked) own started (by kernel_rfl) Try.func4
    (ChangeSpec.witness6 (enc := enc) (C := Try.checked) false ⟨#[], #[.slice none 0 0], []⟩ 8 (by kernel_rfl) (by kernel_rfl) (by kernel_rfl) (by kernel_rfl)) ?_
  intro W base args ds gs before hval0 hW hcnd hsz0 _
  have hval : ∀ (j : Nat) t v, Try.f4.params[j]? = some t → args[j]? = some v → Value.okWide Try.prog W .any base t v := hval0
  have hW' := hW
  obtain ⟨p, q, hA0, hV, rfl, hfz, hnd⟩ := hW
  have hA : DataW.TrodAll enc Try.prog W 0 (fun _ => true) true Try.f4.params.toList args.toList ds p := hA0
  rw [Try.params4] at hA hval
  obtain ⟨v0, vs0, d0, ds0, p0, q0, hargs, rfl, rfl, h0, r0⟩ := trodAll_cons hA
  obtain ⟨rfl, rfl, rfl⟩ := trodAll_nil r0
  obtain rfl : args = #[v0] := by cases args; simp_all
  obtain ⟨rfl, rfl⟩ := trodVars_none hV
  obtain ⟨A0, len0, c0, rfl⟩ := okWide_slice Try.underlying22 (hval 0 22 v0 rfl rfl)
  have k0 := h0
  have lt0 : ∀ x ∈ p0, x.block < W.heap.size := by obtain ⟨m, hm⟩ := k0; exact DataW.trod_lt m _ _ _ hm
  obtain ⟨l0, rfl, hr0, hc0, hm0, hg0⟩ := Opn.arg_slice Try.underlying22 (by kernel_rfl) o5 h0
  clear hA0 hval0 hsz0
  obtain ⟨k, h⟩ := Pure.FnGuesses l0 hm0 hg0
  refine (laws_FnGuesses.calls k A0 c0 l0 W hr0 hc0 h).mono fun e W' ⟨he, bel0⟩ => ?_
  have bel : Below W.heap.size W W' := bel0
  subst he
  exact ⟨_, rfl, _, _, _, [], _, [], hW', trodAll_mk1 (shut_bool Try.underlying4 _), (trodAll_cons_mk (Below.trod laidOut (by kernel_rfl) (of_decide_eq_true (by kernel_rfl)) k0 bel lt0) trodAll_mk0), rfl, bel.frame _, fun h => by cases h⟩
theorem over : Rows.fnGuessesRow.holds Try.pinned (OpenSpec.ofChange Rows.fnGuessesSpec) :=
  OpenClaim.holds_of_wide 4 Try.f4 rfl rfl rfl rfl rfl rfl rfl ⟨rfl, rfl, rfl, rfl, rfl⟩ rfl rfl rfl rfl rfl (by kernel_rfl) Try.func4 (by kernel_rfl)
    (of_decide_eq_true (by kernel_rfl)) (by unfold Func.isWrapper; first | (rw [if_pos (by decide +kernel)]; kernel_rfl) | (rw [if_neg (by decide +kernel)]; exact ⟨rfl, rfl⟩))
    (fun os started H enc _ => lifted os started H enc)
end Go.Proofs.Ytodeihnbjflpaaa.fnGuesses
namespace Go.Proofs.Ytodeihnbjflpaaa
theorem fnGuesses_holds : Rows.FnGuessesSaid := fnGuesses.over
end Go.Proofs.Ytodeihnbjflpaaa
#print axioms Go.Proofs.Ytodeihnbjflpaaa.fnGuesses_holds
