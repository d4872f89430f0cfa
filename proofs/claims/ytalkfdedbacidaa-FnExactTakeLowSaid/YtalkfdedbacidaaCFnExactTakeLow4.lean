/- FnExactTakeLow: for every input the law returns true and its arguments read afterwards as they read before. No condition. -/
import Derived.Test.YtalkfdedbacidaaCFnExactTakeLow3
import Derived.ChangeArms
import Derived.Deep.Slices
import Derived.ProofKit
import Derived.OpenShut
import Derived.Laws.BitsLemmas
import Derived.Test.YtalkfdedbacidaaRows
import Derived.WalkKit
import Derived.ShutString
import Derived.ChangeOld
import Derived.Below
import Derived.SizedLaws
set_option linter.unusedVariables false
namespace Go.Proofs.Ytalkfdedbacidaa.Opn
open Go.Proofs.YtalkfdedbacidaaW.PrintWords
def Opens {α : Type} (P : Program) (t : TypeId) (d : Kd α) (G : α → Prop) : Prop :=
  P.cellsOf t = d.sz ∧ ∀ (H : Type) (enc : TypeId × Value → H) (W : World) (base : Nat) (sp : Nat → Bool) (held : Bool) (fuel : Nat) (cs : List Value) (x : DataW H × List MemPlace),
    DataW.trod enc P W base sp held fuel t cs = some x → ∃ a, d.K W a cs ∧ G a
theorem opens_int {P : Program} {t : TypeId} {k : IntKind} (ht : P.underlying t = some (.int k)) (hc : P.cellsOf t = 1) : Opens P t (Kd.int k) (fun n => (Lit.int k n).wf = true) :=
  ⟨hc, fun H enc W base sp held fuel cs x hx => by
    obtain ⟨n, h, hx, hw⟩ := DataW.trod_int ht hx
    exact ⟨n, h, hw⟩⟩
def OpensAt {α : Type} (P : Program) (fs : List Field) (off : Nat) (d : Kd α) (G : α → Prop) : Prop :=
  ∀ (H : Type) (enc : TypeId × Value → H) (W : World) (base : Nat) (sp : Nat → Bool) (held : Bool) (n : Nat) (cs : List Value),
    cs.length = off + d.sz → (∀ f ∈ fs, ∃ y, DataW.trod enc P W base sp held n f.type ((cs.drop f.offset).take (P.cellsOf f.type)) = some y) → ∃ a, d.K W a (cs.drop off) ∧ G a
theorem at_last {α : Type} {P : Program} {f : Field} {off : Nat} {T : TypeId} {d : Kd α} {G : α → Prop} (hf : f.offset = off) (hT : f.type = T) (h : Opens P T d G) : OpensAt P [f] off d G :=
  fun H enc W base sp held n cs hl hfs => by
    subst hT
    obtain ⟨y, hy⟩ := hfs f (List.mem_singleton.2 rfl)
    rw [hf, h.1, List.take_of_length_le (by rw [List.length_drop]; omega)] at hy
    exact h.2 H enc W base sp held n _ _ hy
theorem at_cons {α β : Type} {P : Program} {f : Field} {fs : List Field} {off : Nat} {T : TypeId} {d : Kd α} {d2 : Kd β} {G : α → Prop} {G2 : β → Prop} (hf : f.offset = off) (hT : f.type = T) (h : Opens P T d G) (h2 : OpensAt P fs (off + d.sz) d2 G2) :
    OpensAt P (f :: fs) off (Kd.pair d d2) (fun x => G x.1 ∧ G2 x.2) :=
  fun H enc W base sp held n cs hl hfs => by
    subst hT
    obtain ⟨y, hy⟩ := hfs f (List.mem_cons_self)
    have hl' : cs.length = off + (d.sz + d2.sz) := hl
    rw [hf, h.1] at hy
    obtain ⟨a, k1, g1⟩ := h.2 H enc W base sp held n _ _ hy
    obtain ⟨b, k2, g2⟩ := h2 H enc W base sp held n cs (by omega) (fun f' hf' => hfs f' (List.mem_cons_of_mem _ hf'))
    refine ⟨(a, b), ⟨_, _, ?_, k1, k2⟩, g1, g2⟩
    rw [← List.drop_drop, List.take_append_drop]
theorem opens_struct {α β : Type} {P : Program} {t : TypeId} {fs : List Field} {d : Kd α} {G : α → Prop} (f : β → α) (g : α → β) (hfg : ∀ x, f (g x) = x) (ht : P.underlying t = some (.struct fs.toArray)) (hc : P.cellsOf t = d.sz) (h : OpensAt P fs 0 d G) :
    Opens P t (Kd.iso d f) (fun x => G (f x)) :=
  ⟨hc, fun H enc W base sp held fuel cs x hx => by
    obtain ⟨xs, n, _, _, hl, hlen, hf⟩ := DataW.trod_struct ht hx
    obtain ⟨a, k, g1⟩ := h H enc W base sp held n cs (by rw [hl, hc]; omega) (fun f' hf' => by
      obtain ⟨i, hi⟩ := List.getElem?_of_mem hf'
      have hi' : fs.toArray[i]? = some f' := by simpa using hi
      have hil : i < xs.length := by
        have := (List.getElem?_eq_some_iff.1 hi).1
        have h2 : xs.length = fs.length := by simpa using hlen
        omega
      have := hf i f' hi'
      rw [List.getElem?_eq_getElem hil] at this
      exact ⟨_, this⟩)
    refine ⟨g a, ?_, ?_⟩
    · show d.K W (f (g a)) cs
      rw [hfg]; simpa using k
    · show G (f (g a))
      rw [hfg]; exact g1⟩
theorem arg_struct {α : Type} {P : Program} {W : World} {r : Reach} {b0 : Nat} {t : TypeId} {fs : Array Field} {d : Kd α} {G : α → Prop} {H : Type} {enc : TypeId × Value → H} {base : Nat} {sp : Nat → Bool} {held : Bool} {v : Value} {x : DataW H} {ps : List MemPlace}
    (ht : P.underlying t = some (.struct fs)) (ho : Opens P t d G) (hv : Value.okWide P W r b0 t v) (h : DataW.Trod enc P W base sp held t v x ps) :
    ∃ (a : α) (cs : List Value), v = .agg cs.toArray ∧ d.K W a cs ∧ G a := by
  obtain ⟨cs, rfl, hsz⟩ := Go.WideShapes.okWide_struct ht hv
  obtain ⟨fuel, hf⟩ := h
  obtain ⟨a, k, g⟩ := ho.2 H enc W base sp held fuel _ _ hf
  exact ⟨a, cs.toList, by simp, by simpa [Value.cells] using k, g⟩
end Go.Proofs.Ytalkfdedbacidaa.Opn
namespace Go.Proofs.Ytalkfdedbacidaa.Pure
open Go.RowKit Go.Proofs.Ytalkfdedbacidaa.G Go.Proofs.YtalkfdedbacidaaW.PrintWords Go.Proofs.YtalkfdedbacidaaW.PrintLast
def laws_FnExactTakeLow.Pure : Prop := ∀ (x0 : Int × Int) (a1 : Int), (fun (x : Int × Int) => (fun n => (Lit.int .i64 n).wf = true) x.1 ∧ (fun n => (Lit.int .i64 n).wf = true) x.2) x0 → (Lit.int .i64 a1).wf = true → ∃ k, laws_FnExactTakeLow.f k (x0.1) (x0.2) a1 = some true
end Go.Proofs.Ytalkfdedbacidaa.Pure
set_option linter.unusedVariables false
set_option linter.unusedSimpArgs false
namespace Go.Proofs.Ytalkfdedbacidaa.Pure
open Go.RowKit Go.Proofs.Ytalkfdedbacidaa.G Go.Proofs.YtalkfdedbacidaaW.PrintWords Go.Proofs.YtalkfdedbacidaaW.PrintLast Go.Proofs.YtalkfdedbacidaaW.PrintMore
def tk (b n : Int) : Bool := (Go.bits .and .i64 (shr .i64 b n) 1) == 1
def scan (a b : Int) : Nat → Int → Int
  | 0, _ => 0
  | d + 1, x => if tk b x = true ∧ a - x < 1 then 1 else scan a b d (x + 1)
def WF (a b : Int) : Int := if 0 ≤ a ∧ a ≤ 1099511627776 ∧ 0 ≤ b ∧ b ≤ 4294967295 then (if (a = 0 ∧ b ≠ 0) ∨ (0 < a ∧ tk b 0 = false) then 1 else scan a b 32 0) else 3
theorem in_spec (a b c : Int) : spec_l1In.f a b c = some (decide (b ≤ a ∧ a ≤ c)) := by
  unfold spec_l1In.f; split
  · congr 1; simp; omega
  · congr 1; simp; omega
theorem in_impl (a b c : Int) : impl_in.f a b c = some (decide (b ≤ a ∧ a ≤ c)) := by
  unfold impl_in.f; split
  · congr 1; simp; omega
  · congr 1; simp; omega
theorem w64 {n : Int} (h0 : -9223372036854775808 ≤ n) (h1 : n ≤ 9223372036854775807) : wrap64 n = n := by unfold wrap64; omega
theorem wu64 {n : Int} (h0 : 0 ≤ n) (h1 : n ≤ 9223372036854775807) : IntKind.u64.wrap n = n := by
  simp [IntKind.wrap, IntKind.bits, IntKind.signed]; omega
theorem took (a b n : Int) (h : 0 ≤ n) : impl_Window_took.f a b n = some (tk b n) := by
  unfold impl_Window_took.f; rw [if_pos h]; rfl
theorem wf_spec_l0 (a b : Int) (ha : 0 ≤ a) (ha1 : a ≤ 1099511627776) (d : Nat) : ∀ (k : Nat) (x : Int), 0 ≤ x → x + d = 32 → d < k → spec_WindowFault.l0 k x a b = some (scan a b d x) := by
  induction d with
  | zero =>
    intro k x h0 hx hk
    obtain ⟨k, rfl⟩ : ∃ m, k = m + 1 := ⟨k - 1, by omega⟩
    simp only [spec_WindowFault.l0]; rw [if_neg (by omega)]; rfl
  | succ d ih =>
    intro k x h0 hx hk
    obtain ⟨k, rfl⟩ : ∃ m, k = m + 1 := ⟨k - 1, by omega⟩
    simp only [spec_WindowFault.l0, scan]
    rw [wu64 h0 (by omega), if_pos (by omega), if_pos h0, w64 (by omega) (by omega), w64 (n := x + 1) (by omega) (by omega), ih k (x + 1) (by omega) (by omega) (by omega)]
    by_cases ht : Go.bits .and .i64 (shr .i64 b x) 1 = 1
    · have h2 : tk b x = true := by simp [tk, ht]
      rw [if_pos ht]
      by_cases hl : a - x < 1
      · rw [if_pos hl, if_pos ⟨h2, hl⟩]
      · rw [if_neg hl, if_neg (fun h => hl h.2)]
    · have h2 : ¬ tk b x = true := by simp [tk, ht]
      rw [if_neg ht, if_neg (fun h => h2 h.1)]
theorem wf_impl_l0 (a b : Int) (ha : 0 ≤ a) (ha1 : a ≤ 1099511627776) (d : Nat) : ∀ (k : Nat) (x : Int), 0 ≤ x → x + d = 32 → d < k → impl_WindowFault.l0 k x a b = some (scan a b d x) := by
  induction d with
  | zero =>
    intro k x h0 hx hk
    obtain ⟨k, rfl⟩ : ∃ m, k = m + 1 := ⟨k - 1, by omega⟩
    simp only [impl_WindowFault.l0]; rw [if_neg (by omega)]; rfl
  | succ d ih =>
    intro k x h0 hx hk
    obtain ⟨k, rfl⟩ : ∃ m, k = m + 1 := ⟨k - 1, by omega⟩
    simp only [impl_WindowFault.l0, scan]
    rw [if_pos (by omega), took a b x h0, w64 (by omega) (by omega), w64 (n := x + 1) (by omega) (by omega), ih k (x + 1) (by omega) (by omega) (by omega)]
    simp only [Option.bind_some]
    by_cases ht : tk b x = true
    · rw [if_pos ht]
      by_cases hl : a - x < 1
      · rw [if_pos hl, if_pos ⟨ht, hl⟩]
      · rw [if_neg hl, if_neg (fun h => hl h.2)]
    · rw [if_neg ht, if_neg (fun h => ht h.1)]
theorem and_one (b : Int) : Go.bits .and .i64 b 1 = 0 ∨ Go.bits .and .i64 b 1 = 1 := by
  unfold Go.bits
  have h : ((BitVec.ofInt IntKind.i64.bits b &&& BitVec.ofInt IntKind.i64.bits 1).toNat) = 0 ∨ ((BitVec.ofInt IntKind.i64.bits b &&& BitVec.ofInt IntKind.i64.bits 1).toNat) = 1 := by
    rw [BitVec.toNat_and]
    have : (BitVec.ofInt IntKind.i64.bits 1).toNat = 1 := by decide
    rw [this, Nat.and_one_is_mod]
    omega
  rcases h with h | h
  · left; simp only [h]; decide
  · right; simp only [h]; decide
theorem tk0 (b : Int) : ((Go.bits .and .i64 b 1) == 0) = !(tk b 0) := by
  have e : shr .i64 b 0 = b := by simp [shr]
  unfold tk; rw [e]
  rcases and_one b with h | h <;> rw [h] <;> decide
theorem wf_spec (a b : Int) : Ev (fun k => spec_WindowFault.f k a b) (WF a b) := by
  refine ⟨40, fun k hk => ?_⟩
  obtain ⟨m, rfl⟩ : ∃ m, k = m + 2 := ⟨k - 2, by omega⟩
  unfold spec_WindowFault.f WF
  rw [in_spec, in_spec]
  simp only [Option.bind_some, decide_eq_true_eq]
  by_cases h1 : 0 ≤ a ∧ a ≤ 1099511627776
  · by_cases h2 : 0 ≤ b ∧ b ≤ 4294967295
    · rw [if_pos h1, if_pos ⟨h1.1, h1.2, h2⟩]
      have hl := wf_spec_l0 a b h1.1 h1.2 32 m 0 (by omega) (by omega) (by omega)
      simp only [spec_WindowFault.j0, spec_WindowFault.j1, tk0, hl]
      by_cases ha : a = 0 <;> by_cases hb : b = 0 <;> by_cases hp : 0 < a <;> cases ht : tk b 0 <;> simp [h1, h2, ha, hb, hp] <;> omega
    · rw [if_pos h1, if_neg (fun h => h2 h.2.2)]
      simp [spec_WindowFault.j0, h2]
  · rw [if_neg h1, if_neg (fun h => h1 ⟨h.1, h.2.1⟩)]
    simp [spec_WindowFault.j0]
theorem wf_impl (a b : Int) : Ev (fun k => impl_WindowFault.f k a b) (WF a b) := by
  refine ⟨40, fun k hk => ?_⟩
  obtain ⟨m, rfl⟩ : ∃ m, k = m + 2 := ⟨k - 2, by omega⟩
  unfold impl_WindowFault.f WF
  rw [in_impl, in_impl]
  simp only [Option.bind_some, decide_eq_true_eq]
  by_cases h1 : 0 ≤ a ∧ a ≤ 1099511627776
  · by_cases h2 : 0 ≤ b ∧ b ≤ 4294967295
    · rw [if_pos h1, if_pos ⟨h1.1, h1.2, h2⟩]
      have hl := wf_impl_l0 a b h1.1 h1.2 32 m 0 (by omega) (by omega) (by omega)
      simp only [impl_WindowFault.j0, impl_WindowFault.j1, took a b 0 (by omega), hl, Option.bind_some]
      by_cases ha : a = 0 <;> by_cases hb : b = 0 <;> by_cases hp : 0 < a <;> cases ht : tk b 0 <;> simp [h1, h2, ha, hb, hp] <;> omega
    · rw [if_pos h1, if_neg (fun h => h2 h.2.2)]
      simp [impl_WindowFault.j0, h2]
  · rw [if_neg h1, if_neg (fun h => h1 ⟨h.1, h.2.1⟩)]
    simp [impl_WindowFault.j0]
theorem wf_ok {a b : Int} (h : WF a b = 0) : 0 ≤ a ∧ a ≤ 1099511627776 ∧ 0 ≤ b ∧ b ≤ 4294967295 := by
  unfold WF at h
  by_cases c : 0 ≤ a ∧ a ≤ 1099511627776 ∧ 0 ≤ b ∧ b ≤ 4294967295
  · exact c
  · rw [if_neg c] at h; omega
end Go.Proofs.Ytalkfdedbacidaa.Pure
set_option linter.unusedVariables false
set_option linter.unusedSimpArgs false
namespace Go.Proofs.Ytalkfdedbacidaa.Pure
open Go.RowKit Go.Proofs.Ytalkfdedbacidaa.G Go.Proofs.YtalkfdedbacidaaW.PrintWords Go.Proofs.YtalkfdedbacidaaW.PrintLast Go.Proofs.YtalkfdedbacidaaW.PrintMore
def takeF (a b s : Int) : Int := if 1 ≤ s ∧ s ≤ 1099511627776 then (if s ≤ a - 32 then 10 else if s ≤ a ∧ tk b (a - s) = true then 7 else 0) else 3
def tkn (a b s : Int) : Int × Int := if s ≤ a then (a, Go.bits .or .i64 b (shl .i64 1 (a - s))) else if s - a < 32 then (s, Go.bits .or .i64 (Go.bits .and .i64 (shl .i64 b (s - a)) 4294967295) 1) else (s, 1)
end Go.Proofs.Ytalkfdedbacidaa.Pure
set_option linter.unusedVariables false
set_option linter.unusedSimpArgs false
namespace Go.Proofs.Ytalkfdedbacidaa.Pure
open Go.RowKit Go.Proofs.Ytalkfdedbacidaa.G Go.Proofs.YtalkfdedbacidaaW.PrintWords Go.Proofs.YtalkfdedbacidaaW.PrintLast Go.Proofs.YtalkfdedbacidaaW.PrintMore
theorem old_spec {a b s : Int} (h0 : 0 ≤ a) (h1 : a ≤ 1099511627776) : spec_l10Old.f a b s = some (decide (s ≤ a - 32)) := by
  unfold spec_l10Old.f; rw [w64 (by omega) (by omega)]
theorem had_spec {a b s : Int} (h1 : a ≤ 1099511627776) (hs : 1 ≤ s) : spec_l10Had.f a b s = some (decide (s ≤ a) && tk b (a - s)) := by
  unfold spec_l10Had.f
  by_cases h : s ≤ a
  · rw [if_pos h, w64 (by omega) (by omega), wu64 (by omega) (by omega), if_pos (by omega)]
    simp [h, tk]
  · rw [if_neg h]; simp [h]
theorem faultOf2 (x y : Int) : Ev (fun k => impl_faultOf.f k ([x, y] : List Int)) (if x = 0 then y else x) := by
  refine ⟨3, fun k hk => ?_⟩
  obtain ⟨m, rfl⟩ : ∃ m, k = m + 3 := ⟨k - 3, by omega⟩
  unfold impl_faultOf.f
  have e1 : wrap64 1 = 1 := w64 (by omega) (by omega)
  have e2 : wrap64 2 = 2 := w64 (by omega) (by omega)
  have e3 : wrap64 (1 + 1) = 2 := w64 (by omega) (by omega)
  by_cases hx : x = 0 <;> by_cases hy : y = 0 <;> simp [impl_faultOf.l0, rd, e1, e2, e3, hx, hy]
theorem takeF_impl (a b s : Int) (wa : (Lit.int .i64 a).wf = true) : ∃ t, impl_Window_takeFault.f a b s = some t ∧ (0 ≤ a → t = takeF a b s) := by
  have hb : -9223372036854775808 ≤ a ∧ a ≤ 9223372036854775807 := by
    simpa [Lit.wf, IntKind.min, IntKind.max, IntKind.signed, IntKind.bits] using wa
  unfold impl_Window_takeFault.f takeF
  rw [in_impl]
  simp only [Option.bind_some, decide_eq_true_eq]
  by_cases hs : 1 ≤ s ∧ s ≤ 1099511627776
  · rw [if_pos hs, if_pos hs]
    by_cases hl : 0 ≤ a
    · refine ⟨_, ?_, fun _ => rfl⟩
      rw [w64 (n := a - 32) (by omega) (by omega)]
      by_cases ho : s ≤ a - 32
      · rw [if_pos ho, if_pos ho]
      · rw [if_neg ho, if_neg ho]
        by_cases h2 : s ≤ a
        · rw [if_pos h2, w64 (by omega) (by omega), took a b _ (by omega)]
          simp only [Option.bind_some]
          cases tk b (a - s) <;> simp [h2]
        · rw [if_neg h2, if_neg (fun h => h2 h.1)]
    · by_cases ho : s ≤ wrap64 (a - 32)
      · rw [if_pos ho]; exact ⟨_, rfl, fun h => absurd h hl⟩
      · rw [if_neg ho, if_neg (by omega)]; exact ⟨_, rfl, fun h => absurd h hl⟩
  · rw [if_neg hs, if_neg hs]; exact ⟨_, rfl, fun _ => rfl⟩
theorem taken_impl {a b s : Int} (a0 : 0 ≤ a) (a1 : a ≤ 1099511627776) (s0 : 1 ≤ s) (s1 : s ≤ 1099511627776) : impl_Window_taken.f a b s = some (tkn a b s) := by
  unfold impl_Window_taken.f tkn
  by_cases h : s ≤ a
  · rw [if_pos h, if_pos h, w64 (by omega) (by omega), if_pos (by omega)]
  · rw [if_neg h, if_neg h, w64 (by omega) (by omega)]
    by_cases h2 : s - a < 32
    · rw [if_neg (by omega), if_pos h2, if_pos (by omega)]
    · rw [if_pos (by omega), if_neg h2]
def TQ (a b s : Int) : Int × Int × Int × Int := if takeF a b s = 0 then (0, s, (tkn a b s).1, (tkn a b s).2) else (takeF a b s, 0, 0, 0)
def TS (a b s : Int) : Int × Int × Int × Int := if WF a b = 0 then TQ a b s else (WF a b, 0, 0, 0)
theorem mask_one (x : Int) : Go.bits .and .i64 (Go.bits .or .i64 x 1) 4294967295 = Go.bits .or .i64 (Go.bits .and .i64 x 4294967295) 1 := by
  have back : ∀ v : BitVec 64, BitVec.ofInt 64 (IntKind.i64.wrap (v.toNat : Int)) = v := by
    intro v
    apply BitVec.eq_of_toInt_eq
    have h1 := v.isLt
    rw [BitVec.toInt_ofInt, BitVec.toInt_eq_toNat_bmod, IntKind.wrap_i64]
    simp only [Int.bmod_def]
    split <;> split <;> omega
  unfold Go.bits
  simp only
  rw [show IntKind.i64.bits = 64 from rfl, back, back]
  congr 2
  have e : ∀ X : BitVec 64, (X ||| BitVec.ofInt 64 1) &&& BitVec.ofInt 64 4294967295 = (X &&& BitVec.ofInt 64 4294967295) ||| BitVec.ofInt 64 1 := by
    intro X
    ext i hi
    simp only [BitVec.getElem_and, BitVec.getElem_or]
    have h1 : ∀ j : Nat, ∀ h : j < 64, (BitVec.ofInt 64 1)[j] = true → (BitVec.ofInt 64 4294967295)[j] = true := by decide
    have := h1 i hi
    cases h : (BitVec.ofInt 64 1)[i] <;> cases h' : (BitVec.ofInt 64 4294967295)[i] <;> simp_all
  rw [e]
theorem take_spec {a b s : Int} (a0 : 0 ≤ a) (a1 : a ≤ 1099511627776) : spec_l10Take.f a b s = some (TQ a b s) := by
  unfold spec_l10Take.f TQ takeF
  rw [in_spec]
  simp only [Option.bind_some, decide_eq_true_eq]
  by_cases hs : 1 ≤ s ∧ s ≤ 1099511627776
  · rw [if_pos hs, if_pos hs, old_spec a0 a1]
    simp only [Option.bind_some, decide_eq_true_eq]
    by_cases ho : s ≤ a - 32
    · rw [if_pos ho, if_pos ho]; rfl
    · rw [if_neg ho, if_neg ho, had_spec a1 hs.1]
      simp only [Option.bind_some]
      by_cases h2 : s ≤ a
      · cases ht : tk b (a - s)
        · simp only [h2, decide_true, Bool.true_and, Bool.false_eq_true, if_false, if_true, and_false]
          rw [w64 (by omega) (by omega), wu64 (by omega) (by omega), if_pos (by omega)]
          simp [tkn, h2]
        · simp [h2]
      · simp only [h2, decide_false, Bool.false_and, Bool.false_eq_true, if_false, false_and, if_true]
        rw [w64 (by omega) (by omega), wu64 (by omega) (by omega)]
        by_cases h3 : s - a < 32
        · rw [if_pos h3, if_pos (by omega), mask_one]; simp [tkn, h2, h3]
        · rw [if_neg h3]; simp [tkn, h2, h3]
  · rw [if_neg hs, if_neg hs]; rfl
theorem ts_impl (a b s : Int) (wa : (Lit.int .i64 a).wf = true) : Ev (fun k => impl_TakeSeq.f k a b s) (TS a b s) := by
  unfold impl_TakeSeq.f TS
  refine Ev.bind (wf_impl a b) ?_
  obtain ⟨t, ht, htt⟩ := takeF_impl a b s wa
  simp only [ht, Option.bind_some]
  refine Ev.bind (faultOf2 _ _) ?_
  by_cases h : WF a b = 0
  · obtain ⟨a0, a1, b0, b1⟩ := wf_ok h
    rw [htt a0]
    simp only [h, if_true, TQ]
    by_cases h2 : takeF a b s = 0
    · have hs : 1 ≤ s ∧ s ≤ 1099511627776 := by
        unfold takeF at h2
        by_cases hs : 1 ≤ s ∧ s ≤ 1099511627776
        · exact hs
        · rw [if_neg hs] at h2; omega
      simp only [h2, if_true, taken_impl a0 a1 hs.1 hs.2, Option.bind_some]; exact Ev.now _
    · simp only [h2, if_false]; exact Ev.now _
  · simp only [h, if_false]; exact Ev.now _
def gs (a low : Int) : Int := if (max (a - 31) 1) - (max (a - 31) 1) % 4294967296 + low < max (a - 31) 1 then (max (a - 31) 1) - (max (a - 31) 1) % 4294967296 + low + 4294967296 else (max (a - 31) 1) - (max (a - 31) 1) % 4294967296 + low
def GS (a b low : Int) : Int × Int := if WF a b = 0 then (if 0 ≤ low ∧ low ≤ 4294967295 then (if gs a low > 1099511627776 then (3, 0) else (0, gs a low)) else (3, 0)) else (WF a b, 0)
theorem max_spec (x y : Int) : spec_l1Max.f x y = some (max y x) := by
  unfold spec_l1Max.f
  split
  · congr 1; omega
  · congr 1; omega
theorem gs_spec (a b low : Int) : Ev (fun k => spec_GuessSeq.f k a b low) (GS a b low) := by
  unfold spec_GuessSeq.f GS
  refine Ev.bind (wf_spec a b) ?_
  by_cases h : WF a b = 0
  · obtain ⟨a0, a1, b0, b1⟩ := wf_ok h
    simp only [h, if_true, in_spec, Option.bind_some, decide_eq_true_eq]
    by_cases hl : 0 ≤ low ∧ low ≤ 4294967295
    · simp only [hl, and_self, if_true, max_spec, Option.bind_some]
      rw [w64 (n := a - 32) (by omega) (by omega), w64 (n := a - 32 + 1) (by omega) (by omega), show a - 32 + 1 = a - 31 by omega]
      obtain ⟨m, hm⟩ : ∃ m, m = max (a - 31) 1 := ⟨_, rfl⟩
      have m1 : 1 ≤ m := by omega
      have m2 : m ≤ 1099511627776 := by omega
      simp only [gs, ← hm]
      rw [w64 (n := m / 4294967296 * 4294967296) (by omega) (by omega), show m / 4294967296 * 4294967296 = m - m % 4294967296 by omega, w64 (n := m - m % 4294967296 + low) (by omega) (by omega), w64 (n := m - m % 4294967296 + low + 4294967296) (by omega) (by omega)]
      split
      · split <;> exact Ev.now _
      · split <;> exact Ev.now _
    · simp only [hl, if_false]; exact Ev.now _
  · simp only [h, if_false]; exact Ev.now _
theorem gs_impl (a b low : Int) : Ev (fun k => impl_GuessSeq.f k a b low) (GS a b low) := by
  unfold impl_GuessSeq.f GS
  refine Ev.bind (wf_impl a b) ?_
  by_cases h : WF a b = 0
  · obtain ⟨a0, a1, b0, b1⟩ := wf_ok h
    simp only [h, if_true, in_impl, Option.bind_some, decide_eq_true_eq]
    by_cases hl : 0 ≤ low ∧ low ≤ 4294967295
    · simp only [hl, and_self, if_true]
      rw [w64 (n := a - 32) (by omega) (by omega), w64 (n := a - 32 + 1) (by omega) (by omega), show a - 32 + 1 = a - 31 by omega, show mx (a - 31) 1 = max (a - 31) 1 by unfold mx; omega]
      obtain ⟨m, hm⟩ : ∃ m, m = max (a - 31) 1 := ⟨_, rfl⟩
      have m1 : 1 ≤ m := by omega
      have m2 : m ≤ 1099511627776 := by omega
      simp only [gs, ← hm]
      rw [w64 (n := m - m % 4294967296) (by omega) (by omega), w64 (n := m - m % 4294967296 + low) (by omega) (by omega), w64 (n := m - m % 4294967296 + low + 4294967296) (by omega) (by omega)]
      split
      · split <;> exact Ev.now _
      · split <;> exact Ev.now _
    · simp only [hl, if_false]; exact Ev.now _
  · simp only [h, if_false]; exact Ev.now _
def TL (a b low : Int) : Int × Int × Int × Int := if (GS a b low).1 = 0 then TQ a b (GS a b low).2 else ((GS a b low).1, 0, 0, 0)
theorem gs_ok {a b low : Int} (h : (GS a b low).1 = 0) : WF a b = 0 := by
  unfold GS at h
  by_cases c : WF a b = 0
  · exact c
  · rw [if_neg c] at h; exact h
theorem tl_spec (a b low : Int) : Ev (fun k => spec_TakeLow.f k a b low) (TL a b low) := by
  unfold spec_TakeLow.f TL
  refine Ev.bind (gs_spec a b low) ?_
  by_cases h : (GS a b low).1 = 0
  · obtain ⟨a0, a1, b0, b1⟩ := wf_ok (gs_ok h)
    simp only [h, if_true, take_spec a0 a1, Option.bind_some]; exact Ev.now _
  · simp only [h, if_false]; exact Ev.now _
theorem tl_impl (a b low : Int) (wa : (Lit.int .i64 a).wf = true) : Ev (fun k => impl_TakeLow.f k a b low) (TL a b low) := by
  unfold impl_TakeLow.f TL
  refine Ev.bind (gs_impl a b low) ?_
  by_cases h : (GS a b low).1 = 0
  · simp only [h, if_true]
    refine Ev.bind (ts_impl a b _ wa) ?_
    simp only [TS, gs_ok h, if_true]; exact Ev.now _
  · simp only [h, if_false]; exact Ev.now _
end Go.Proofs.Ytalkfdedbacidaa.Pure
namespace Go.Proofs.Ytalkfdedbacidaa.Pure
open Go.RowKit Go.Proofs.Ytalkfdedbacidaa.G Go.Proofs.YtalkfdedbacidaaW.PrintWords Go.Proofs.YtalkfdedbacidaaW.PrintLast
theorem FnExactTakeLow : laws_FnExactTakeLow.Pure := by
  intro x0 a1 hx _
  refine Ev.rounds ?_
  unfold laws_FnExactTakeLow.f laws_toWindow.f
  simp only [Option.bind_some]
  refine Ev.bind (tl_spec _ _ _) (Ev.bind (tl_impl _ _ _ hx.1) ?_)
  simp only [laws_eqWindowResult.f, laws_eqWindow.f, if_true, Option.bind_some]; exact Ev.now _
end Go.Proofs.Ytalkfdedbacidaa.Pure
namespace Go.Proofs.Ytalkfdedbacidaa.fnExactTakeLow
open Go.ChangeShapes Go.WideShapes Go.ChangeAt
open Go.RowKit Go.Proofs.Ytalkfdedbacidaa.G Go.Proofs.YtalkfdedbacidaaW.PrintWords Go.Proofs.YtalkfdedbacidaaW.PrintLast
open Go.ChangeMaps (open_string shut_string)
set_option linter.unusedVariables false
theorem own : ownKnob Try.prog.godebug = none := by kernel_rfl
theorem laidOut : laidOutB Try.prog = true := by kernel_rfl
theorem o2 : Opn.Opens Try.prog 2 (Kd.int .i64) (fun n => (Lit.int .i64 n).wf = true) := Opn.opens_int Try.underlying2 (by kernel_rfl)
theorem o23 : Opn.Opens Try.prog 23 (Kd.iso (Kd.pair (Kd.int .i64) (Kd.int .i64)) (fun x => x)) (fun (x : Int × Int) => (fun n => (Lit.int .i64 n).wf = true) x.1 ∧ (fun n => (Lit.int .i64 n).wf = true) x.2) := by
  refine Opn.opens_struct (G := fun (x : Int × Int) => (fun n => (Lit.int .i64 n).wf = true) x.1 ∧ (fun n => (Lit.int .i64 n).wf = true) x.2) (fun x => x) (fun y => y) (fun _ => rfl) Try.underlying23 (by kernel_rfl) ?_
  apply Opn.at_cons (T := 2) (G := fun n => (Lit.int .i64 n).wf = true) (G2 := fun n => (Lit.int .i64 n).wf = true)
  · rfl
  · rfl
  · exact o2
  apply Opn.at_last (T := 2)
  · rfl
  · rfl
  · exact o2
set_option maxRecDepth 100000 in
theorem lifted (os : Os) (started : os.Started) (H : Type) (enc : TypeId × Value → H) :
    ReturnsInHanded {} Try.checked os 13 .any (Rows.fnExactTakeLowSpec.pre6 enc Try.prog Try.f13 Rows.fnExactTakeLowRow.domain false) (Rows.fnExactTakeLowSpec.post enc Try.prog Try.f13 false true false false) := by
  refine returnsInHanded_of_change_sized (C := Try.checked) own started (by kernel_rfl) Try.func13
    (ChangeSpec.witness6 (enc := enc) (C := Try.checked) false ⟨#[], #[.agg #[.int .i64 0, .int .i64 0], .int .i64 0], []⟩ 8 (by kernel_rfl) (by kernel_rfl) (by kernel_rfl) (by kernel_rfl)) ?_
  intro W base args ds gs before hval0 hW hcnd hsz0 _
  have hval : ∀ (j : Nat) t v, Try.f13.params[j]? = some t → args[j]? = some v → Value.okWide Try.prog W .any base t v := hval0
  have hW' := hW
  obtain ⟨p, q, hA0, hV, rfl, hfz, hnd⟩ := hW
  have hA : DataW.TrodAll enc Try.prog W 0 (fun _ => true) true Try.f13.params.toList args.toList ds p := hA0
  rw [Try.params13] at hA hval
  obtain ⟨v0, vs0, d0, ds0, p0, q0, hargs, rfl, rfl, h0, r0⟩ := trodAll_cons hA
  obtain ⟨v1, vs1, d1, ds1, p1, q1, rfl, rfl, rfl, h1, r1⟩ := trodAll_cons r0
  obtain ⟨rfl, rfl, rfl⟩ := trodAll_nil r1
  obtain rfl : args = #[v0, v1] := by cases args; simp_all
  obtain ⟨rfl, rfl⟩ := trodVars_none hV
  have k0 := h0
  have lt0 : ∀ x ∈ p0, x.block < W.heap.size := by obtain ⟨m, hm⟩ := k0; exact DataW.trod_lt m _ _ _ hm
  obtain ⟨x0, cs0, rfl, hk0, hg0⟩ := Opn.arg_struct Try.underlying23 o23 (hval 0 23 v0 rfl rfl) h0
  obtain ⟨_, _, rfl, rfl, rfl⟩ := hk0
  obtain ⟨a1, rfl, rfl, rfl, w1⟩ := open_int Try.underlying2 (hval 1 2 v1 rfl rfl) h1
  clear hA0 hval0 hsz0
  obtain ⟨k, h⟩ := Pure.FnExactTakeLow x0 a1 hg0 w1
  refine (laws_FnExactTakeLow.calls k (x0.1) (x0.2) a1 W  h).mono fun e W' ⟨he, bel0⟩ => ?_
  have bel : Below W.heap.size W W' := bel0
  subst he
  exact ⟨_, rfl, _, _, _, [], _, [], hW', trodAll_mk1 (shut_bool Try.underlying4 _), (trodAll_cons_mk (Below.trod laidOut (by kernel_rfl) (of_decide_eq_true (by kernel_rfl)) k0 bel lt0) (trodAll_cons_mk (shut_int Try.underlying2 w1) trodAll_mk0)), rfl, bel.frame _, fun h => by cases h⟩
theorem over : Rows.fnExactTakeLowRow.holds Try.pinned (OpenSpec.ofChange Rows.fnExactTakeLowSpec) :=
  OpenClaim.holds_of_wide 13 Try.f13 rfl rfl rfl rfl rfl rfl rfl ⟨rfl, rfl, rfl, rfl, rfl⟩ rfl rfl rfl rfl rfl (by kernel_rfl) Try.func13 (by kernel_rfl)
    (of_decide_eq_true (by kernel_rfl)) (by unfold Func.isWrapper; first | (rw [if_pos (by decide +kernel)]; kernel_rfl) | (rw [if_neg (by decide +kernel)]; exact ⟨rfl, rfl⟩))
    (fun os started H enc _ => lifted os started H enc)
end Go.Proofs.Ytalkfdedbacidaa.fnExactTakeLow
namespace Go.Proofs.Ytalkfdedbacidaa
theorem fnExactTakeLow_holds : Rows.FnExactTakeLowSaid := fnExactTakeLow.over
end Go.Proofs.Ytalkfdedbacidaa
#print axioms Go.Proofs.Ytalkfdedbacidaa.fnExactTakeLow_holds
