/- FnExactTakeAll: for every input the law returns true and its arguments read afterwards as they read before. No condition. -/
import Derived.Test.YtalkfdedbacidaaCFnExactTakeAll4
import Derived.ChangeArms
import Derived.Deep.Slices
import Derived.ProofKit
import Derived.OpenShut
import Derived.Laws.BitsLemmas
import Derived.Test.YtalkfdedbacidaaRows
import Derived.WalkKit
import Derived.ShutString
import Derived.ChangeOld
import Derived.Below
import Derived.SizedLaws
set_option linter.unusedVariables false
namespace Go.Proofs.Ytalkfdedbacidaa.Opn
open Go.Proofs.YtalkfdedbacidaaW.PrintWords
def Opens {α : Type} (P : Program) (t : TypeId) (d : Kd α) (G : α → Prop) : Prop :=
  P.cellsOf t = d.sz ∧ ∀ (H : Type) (enc : TypeId × Value → H) (W : World) (base : Nat) (sp : Nat → Bool) (held : Bool) (fuel : Nat) (cs : List Value) (x : DataW H × List MemPlace),
    DataW.trod enc P W base sp held fuel t cs = some x → ∃ a, d.K W a cs ∧ G a
theorem opens_int {P : Program} {t : TypeId} {k : IntKind} (ht : P.underlying t = some (.int k)) (hc : P.cellsOf t = 1) : Opens P t (Kd.int k) (fun n => (Lit.int k n).wf = true) :=
  ⟨hc, fun H enc W base sp held fuel cs x hx => by
    obtain ⟨n, h, hx, hw⟩ := DataW.trod_int ht hx
    exact ⟨n, h, hw⟩⟩
theorem opens_slice {α : Type} {P : Program} {t e : TypeId} {d : Kd α} {G : α → Prop} (ht : P.underlying t = some (.slice e)) (hc : P.cellsOf t = 1) (he : Opens P e d G) :
    Opens P t (Kd.slice e d) (fun xs => xs.length ≤ maxLen ∧ ∀ x ∈ xs, G x) :=
  ⟨hc, fun H enc W base sp held fuel cs x hx => by
    rcases Go.Deep.open_slice ht hx with ⟨rfl, rfl⟩ | ⟨a, len, cap, m, n, D, Pl, rfl, hb, hl, hm, hmm, rfl, hel⟩
    · refine ⟨[], ⟨none, 0, rfl, Nat.le_refl _, rfl, by simp, ?_⟩, by simp, by simp⟩
      intro h; exact absurd h (by simp)
    · have hle : len ≤ m := by rw [hmm]; split <;> omega
      have key : ∀ i, i < len → ∃ p : α, ∃ c : List Value, c.length = d.sz ∧ d.K W p c ∧ G p ∧ ∀ j u, c[j]? = some u → W.cell? (a.add (i * d.sz + j)) = some u := by
        intro i hi
        obtain ⟨c, h1, h2⟩ := hel i (by omega)
        obtain ⟨p, h3, h4⟩ := he.2 H enc W base sp held n c _ h2
        obtain ⟨_, h5, h6⟩ := World.cells?_some h1
        rw [he.1] at h5 h6
        refine ⟨p, c, h5, h3, h4, fun j u hj => ?_⟩
        have hjl : j < d.sz := by
          have := (List.getElem?_eq_some_iff.1 hj).1
          omega
        rw [← Go.Deep.add_add, h6 j hjl, hj]
      have ex : ∃ ps : List α, ps.length = len ∧ ∀ i p, ps[i]? = some p → ∃ c : List Value, c.length = d.sz ∧ d.K W p c ∧ G p ∧ ∀ j u, c[j]? = some u → W.cell? (a.add (i * d.sz + j)) = some u := by
        clear hel hmm hle hl hm hx
        induction len with
        | zero => exact ⟨[], rfl, fun i p h => by simp at h⟩
        | succ k ih =>
          obtain ⟨ps, h1, h2⟩ := ih (fun i hi => key i (by omega))
          obtain ⟨p, hp⟩ := key k (by omega)
          refine ⟨ps ++ [p], by simp [h1], fun i q h => ?_⟩
          by_cases hi : i < ps.length
          · rw [List.getElem?_append_left hi] at h
            exact h2 i q h
          · rw [List.getElem?_append_right (by omega)] at h
            have hi0 : i - ps.length = 0 := by
              have := (List.getElem?_eq_some_iff.1 h).1
              simp at this
              omega
            rw [hi0] at h
            simp at h
            subst h
            have : i = k := by omega
            subst this
            exact hp
      obtain ⟨ps, h1, h2⟩ := ex
      subst h1
      refine ⟨ps, ⟨some a, cap, rfl, hl, rfl, by simp only [maxLen] at hm; omega, fun _ => ⟨a, rfl, fun j p hj => ?_⟩⟩, by omega, fun x hx' => ?_⟩
      · obtain ⟨c, g1, g2, g3, g4⟩ := h2 j p hj
        exact ⟨c, g1, g2, g4⟩
      · obtain ⟨i, hi⟩ := List.getElem?_of_mem hx'
        obtain ⟨c, g1, g2, g3, g4⟩ := h2 i x hi
        exact g3⟩
def OpensAt {α : Type} (P : Program) (fs : List Field) (off : Nat) (d : Kd α) (G : α → Prop) : Prop :=
  ∀ (H : Type) (enc : TypeId × Value → H) (W : World) (base : Nat) (sp : Nat → Bool) (held : Bool) (n : Nat) (cs : List Value),
    cs.length = off + d.sz → (∀ f ∈ fs, ∃ y, DataW.trod enc P W base sp held n f.type ((cs.drop f.offset).take (P.cellsOf f.type)) = some y) → ∃ a, d.K W a (cs.drop off) ∧ G a
theorem at_last {α : Type} {P : Program} {f : Field} {off : Nat} {T : TypeId} {d : Kd α} {G : α → Prop} (hf : f.offset = off) (hT : f.type = T) (h : Opens P T d G) : OpensAt P [f] off d G :=
  fun H enc W base sp held n cs hl hfs => by
    subst hT
    obtain ⟨y, hy⟩ := hfs f (List.mem_singleton.2 rfl)
    rw [hf, h.1, List.take_of_length_le (by rw [List.length_drop]; omega)] at hy
    exact h.2 H enc W base sp held n _ _ hy
theorem at_cons {α β : Type} {P : Program} {f : Field} {fs : List Field} {off : Nat} {T : TypeId} {d : Kd α} {d2 : Kd β} {G : α → Prop} {G2 : β → Prop} (hf : f.offset = off) (hT : f.type = T) (h : Opens P T d G) (h2 : OpensAt P fs (off + d.sz) d2 G2) :
    OpensAt P (f :: fs) off (Kd.pair d d2) (fun x => G x.1 ∧ G2 x.2) :=
  fun H enc W base sp held n cs hl hfs => by
    subst hT
    obtain ⟨y, hy⟩ := hfs f (List.mem_cons_self)
    have hl' : cs.length = off + (d.sz + d2.sz) := hl
    rw [hf, h.1] at hy
    obtain ⟨a, k1, g1⟩ := h.2 H enc W base sp held n _ _ hy
    obtain ⟨b, k2, g2⟩ := h2 H enc W base sp held n cs (by omega) (fun f' hf' => hfs f' (List.mem_cons_of_mem _ hf'))
    refine ⟨(a, b), ⟨_, _, ?_, k1, k2⟩, g1, g2⟩
    rw [← List.drop_drop, List.take_append_drop]
theorem opens_struct {α β : Type} {P : Program} {t : TypeId} {fs : List Field} {d : Kd α} {G : α → Prop} (f : β → α) (g : α → β) (hfg : ∀ x, f (g x) = x) (ht : P.underlying t = some (.struct fs.toArray)) (hc : P.cellsOf t = d.sz) (h : OpensAt P fs 0 d G) :
    Opens P t (Kd.iso d f) (fun x => G (f x)) :=
  ⟨hc, fun H enc W base sp held fuel cs x hx => by
    obtain ⟨xs, n, _, _, hl, hlen, hf⟩ := DataW.trod_struct ht hx
    obtain ⟨a, k, g1⟩ := h H enc W base sp held n cs (by rw [hl, hc]; omega) (fun f' hf' => by
      obtain ⟨i, hi⟩ := List.getElem?_of_mem hf'
      have hi' : fs.toArray[i]? = some f' := by simpa using hi
      have hil : i < xs.length := by
        have := (List.getElem?_eq_some_iff.1 hi).1
        have h2 : xs.length = fs.length := by simpa using hlen
        omega
      have := hf i f' hi'
      rw [List.getElem?_eq_getElem hil] at this
      exact ⟨_, this⟩)
    refine ⟨g a, ?_, ?_⟩
    · show d.K W (f (g a)) cs
      rw [hfg]; simpa using k
    · show G (f (g a))
      rw [hfg]; exact g1⟩
theorem arg_struct {α : Type} {P : Program} {W : World} {r : Reach} {b0 : Nat} {t : TypeId} {fs : Array Field} {d : Kd α} {G : α → Prop} {H : Type} {enc : TypeId × Value → H} {base : Nat} {sp : Nat → Bool} {held : Bool} {v : Value} {x : DataW H} {ps : List MemPlace}
    (ht : P.underlying t = some (.struct fs)) (ho : Opens P t d G) (hv : Value.okWide P W r b0 t v) (h : DataW.Trod enc P W base sp held t v x ps) :
    ∃ (a : α) (cs : List Value), v = .agg cs.toArray ∧ d.K W a cs ∧ G a := by
  obtain ⟨cs, rfl, hsz⟩ := Go.WideShapes.okWide_struct ht hv
  obtain ⟨fuel, hf⟩ := h
  obtain ⟨a, k, g⟩ := ho.2 H enc W base sp held fuel _ _ hf
  exact ⟨a, cs.toList, by simp, by simpa [Value.cells] using k, g⟩
theorem arg_slice {α : Type} {P : Program} {W : World} {t e : TypeId} {d : Kd α} {G : α → Prop} {H : Type} {enc : TypeId × Value → H} {base : Nat} {sp : Nat → Bool} {held : Bool} {A : Option Addr} {n c : Nat} {x : DataW H} {ps : List MemPlace}
    (ht : P.underlying t = some (.slice e)) (hc : P.cellsOf t = 1) (he : Opens P e d G) (h : DataW.Trod enc P W base sp held t (.slice A n c) x ps) :
    ∃ xs : List α, n = xs.length ∧ d.C W A xs.length xs ∧ xs.length ≤ c ∧ xs.length ≤ maxLen ∧ ∀ a ∈ xs, G a := by
  obtain ⟨fuel, hf⟩ := h
  obtain ⟨xs, ⟨A', c', h1, h2, h3⟩, h4, h5⟩ := (opens_slice ht hc he).2 H enc W base sp held fuel _ _ hf
  simp [Value.cells] at h1
  obtain ⟨rfl, rfl, rfl⟩ := h1
  exact ⟨xs, rfl, h3, h2, h4, h5⟩
end Go.Proofs.Ytalkfdedbacidaa.Opn
namespace Go.Proofs.Ytalkfdedbacidaa.Pure
open Go.RowKit Go.Proofs.Ytalkfdedbacidaa.G Go.Proofs.YtalkfdedbacidaaW.PrintWords Go.Proofs.YtalkfdedbacidaaW.PrintLast
def laws_FnExactTakeAll.Pure : Prop := ∀ (x0 : Int × Int) (l1 : List Int), (fun (x : Int × Int) => (fun n => (Lit.int .i64 n).wf = true) x.1 ∧ (fun n => (Lit.int .i64 n).wf = true) x.2) x0 → l1.length ≤ maxLen → (∀ x ∈ l1, (fun n => (Lit.int .i64 n).wf = true) x) → ∃ k, laws_FnExactTakeAll.f k (x0.1) (x0.2) l1 = some true
end Go.Proofs.Ytalkfdedbacidaa.Pure
set_option linter.unusedVariables false
set_option linter.unusedSimpArgs false
namespace Go.Proofs.Ytalkfdedbacidaa.Pure
open Go.RowKit Go.Proofs.Ytalkfdedbacidaa.G Go.Proofs.YtalkfdedbacidaaW.PrintWords Go.Proofs.YtalkfdedbacidaaW.PrintLast Go.Proofs.YtalkfdedbacidaaW.PrintMore
def tk (b n : Int) : Bool := (Go.bits .and .i64 (shr .i64 b n) 1) == 1
def scan (a b : Int) : Nat → Int → Int
  | 0, _ => 0
  | d + 1, x => if tk b x = true ∧ a - x < 1 then 1 else scan a b d (x + 1)
def WF (a b : Int) : Int := if 0 ≤ a ∧ a ≤ 1099511627776 ∧ 0 ≤ b ∧ b ≤ 4294967295 then (if (a = 0 ∧ b ≠ 0) ∨ (0 < a ∧ tk b 0 = false) then 1 else scan a b 32 0) else 3
theorem in_spec (a b c : Int) : spec_l1In.f a b c = some (decide (b ≤ a ∧ a ≤ c)) := by
  unfold spec_l1In.f; split
  · congr 1; simp; omega
  · congr 1; simp; omega
theorem in_impl (a b c : Int) : impl_in.f a b c = some (decide (b ≤ a ∧ a ≤ c)) := by
  unfold impl_in.f; split
  · congr 1; simp; omega
  · congr 1; simp; omega
theorem w64 {n : Int} (h0 : -9223372036854775808 ≤ n) (h1 : n ≤ 9223372036854775807) : wrap64 n = n := by unfold wrap64; omega
theorem wu64 {n : Int} (h0 : 0 ≤ n) (h1 : n ≤ 9223372036854775807) : IntKind.u64.wrap n = n := by
  simp [IntKind.wrap, IntKind.bits, IntKind.signed]; omega
theorem took (a b n : Int) (h : 0 ≤ n) : impl_Window_took.f a b n = some (tk b n) := by
  unfold impl_Window_took.f; rw [if_pos h]; rfl
theorem wf_spec_l0 (a b : Int) (ha : 0 ≤ a) (ha1 : a ≤ 1099511627776) (d : Nat) : ∀ (k : Nat) (x : Int), 0 ≤ x → x + d = 32 → d < k → spec_WindowFault.l0 k x a b = some (scan a b d x) := by
  induction d with
  | zero =>
    intro k x h0 hx hk
    obtain ⟨k, rfl⟩ : ∃ m, k = m + 1 := ⟨k - 1, by omega⟩
    simp only [spec_WindowFault.l0]; rw [if_neg (by omega)]; rfl
  | succ d ih =>
    intro k x h0 hx hk
    obtain ⟨k, rfl⟩ : ∃ m, k = m + 1 := ⟨k - 1, by omega⟩
    simp only [spec_WindowFault.l0, scan]
    rw [wu64 h0 (by omega), if_pos (by omega), if_pos h0, w64 (by omega) (by omega), w64 (n := x + 1) (by omega) (by omega), ih k (x + 1) (by omega) (by omega) (by omega)]
    by_cases ht : Go.bits .and .i64 (shr .i64 b x) 1 = 1
    · have h2 : tk b x = true := by simp [tk, ht]
      rw [if_pos ht]
      by_cases hl : a - x < 1
      · rw [if_pos hl, if_pos ⟨h2, hl⟩]
      · rw [if_neg hl, if_neg (fun h => hl h.2)]
    · have h2 : ¬ tk b x = true := by simp [tk, ht]
      rw [if_neg ht, if_neg (fun h => h2 h.1)]
theorem wf_impl_l0 (a b : Int) (ha : 0 ≤ a) (ha1 : a ≤ 1099511627776) (d : Nat) : ∀ (k : Nat) (x : Int), 0 ≤ x → x + d = 32 → d < k → impl_WindowFault.l0 k x a b = some (scan a b d x) := by
  induction d with
  | zero =>
    intro k x h0 hx hk
    obtain ⟨k, rfl⟩ : ∃ m, k = m + 1 := ⟨k - 1, by omega⟩
    simp only [impl_WindowFault.l0]; rw [if_neg (by omega)]; rfl
  | succ d ih =>
    intro k x h0 hx hk
    obtain ⟨k, rfl⟩ : ∃ m, k = m + 1 := ⟨k - 1, by omega⟩
    simp only [impl_WindowFault.l0, scan]
    rw [if_pos (by omega), took a b x h0, w64 (by omega) (by omega), w64 (n := x + 1) (by omega) (by omega), ih k (x + 1) (by omega) (by omega) (by omega)]
    simp only [Option.bind_some]
    by_cases ht : tk b x = true
    · rw [if_pos ht]
      by_cases hl : a - x < 1
      · rw [if_pos hl, if_pos ⟨ht, hl⟩]
      · rw [if_neg hl, if_neg (fun h => hl h.2)]
    · rw [if_neg ht, if_neg (fun h => ht h.1)]
theorem and_one (b : Int) : Go.bits .and .i64 b 1 = 0 ∨ Go.bits .and .i64 b 1 = 1 := by
  unfold Go.bits
  have h : ((BitVec.ofInt IntKind.i64.bits b &&& BitVec.ofInt IntKind.i64.bits 1).toNat) = 0 ∨ ((BitVec.ofInt IntKind.i64.bits b &&& BitVec.ofInt IntKind.i64.bits 1).toNat) = 1 := by
    rw [BitVec.toNat_and]
    have : (BitVec.ofInt IntKind.i64.bits 1).toNat = 1 := by decide
    rw [this, Nat.and_one_is_mod]
    omega
  rcases h with h | h
  · left; simp only [h]; decide
  · right; simp only [h]; decide
theorem tk0 (b : Int) : ((Go.bits .and .i64 b 1) == 0) = !(tk b 0) := by
  have e : shr .i64 b 0 = b := by simp [shr]
  unfold tk; rw [e]
  rcases and_one b with h | h <;> rw [h] <;> decide
theorem wf_spec (a b : Int) : Ev (fun k => spec_WindowFault.f k a b) (WF a b) := by
  refine ⟨40, fun k hk => ?_⟩
  obtain ⟨m, rfl⟩ : ∃ m, k = m + 2 := ⟨k - 2, by omega⟩
  unfold spec_WindowFault.f WF
  rw [in_spec, in_spec]
  simp only [Option.bind_some, decide_eq_true_eq]
  by_cases h1 : 0 ≤ a ∧ a ≤ 1099511627776
  · by_cases h2 : 0 ≤ b ∧ b ≤ 4294967295
    · rw [if_pos h1, if_pos ⟨h1.1, h1.2, h2⟩]
      have hl := wf_spec_l0 a b h1.1 h1.2 32 m 0 (by omega) (by omega) (by omega)
      simp only [spec_WindowFault.j0, spec_WindowFault.j1, tk0, hl]
      by_cases ha : a = 0 <;> by_cases hb : b = 0 <;> by_cases hp : 0 < a <;> cases ht : tk b 0 <;> simp [h1, h2, ha, hb, hp] <;> omega
    · rw [if_pos h1, if_neg (fun h => h2 h.2.2)]
      simp [spec_WindowFault.j0, h2]
  · rw [if_neg h1, if_neg (fun h => h1 ⟨h.1, h.2.1⟩)]
    simp [spec_WindowFault.j0]
theorem wf_impl (a b : Int) : Ev (fun k => impl_WindowFault.f k a b) (WF a b) := by
  refine ⟨40, fun k hk => ?_⟩
  obtain ⟨m, rfl⟩ : ∃ m, k = m + 2 := ⟨k - 2, by omega⟩
  unfold impl_WindowFault.f WF
  rw [in_impl, in_impl]
  simp only [Option.bind_some, decide_eq_true_eq]
  by_cases h1 : 0 ≤ a ∧ a ≤ 1099511627776
  · by_cases h2 : 0 ≤ b ∧ b ≤ 4294967295
    · rw [if_pos h1, if_pos ⟨h1.1, h1.2, h2⟩]
      have hl := wf_impl_l0 a b h1.1 h1.2 32 m 0 (by omega) (by omega) (by omega)
      simp only [impl_WindowFault.j0, impl_WindowFault.j1, took a b 0 (by omega), hl, Option.bind_some]
      by_cases ha : a = 0 <;> by_cases hb : b = 0 <;> by_cases hp : 0 < a <;> cases ht : tk b 0 <;> simp [h1, h2, ha, hb, hp] <;> omega
    · rw [if_pos h1, if_neg (fun h => h2 h.2.2)]
      simp [impl_WindowFault.j0, h2]
  · rw [if_neg h1, if_neg (fun h => h1 ⟨h.1, h.2.1⟩)]
    simp [impl_WindowFault.j0]
theorem wf_ok {a b : Int} (h : WF a b = 0) : 0 ≤ a ∧ a ≤ 1099511627776 ∧ 0 ≤ b ∧ b ≤ 4294967295 := by
  unfold WF at h
  by_cases c : 0 ≤ a ∧ a ≤ 1099511627776 ∧ 0 ≤ b ∧ b ≤ 4294967295
  · exact c
  · rw [if_neg c] at h; omega
end Go.Proofs.Ytalkfdedbacidaa.Pure
set_option linter.unusedVariables false
set_option linter.unusedSimpArgs false
namespace Go.Proofs.Ytalkfdedbacidaa.Pure
open Go.RowKit Go.Proofs.Ytalkfdedbacidaa.G Go.Proofs.YtalkfdedbacidaaW.PrintWords Go.Proofs.YtalkfdedbacidaaW.PrintLast Go.Proofs.YtalkfdedbacidaaW.PrintMore
theorem wraps_i64 (n : Int) (h₀ : 0 ≤ n) (h₁ : n < 2 ^ 63) : IntKind.i64.wrap n = n := by rw [IntKind.wrap_i64]; omega
theorem and_nat (a b : Nat) (ha : a < 2 ^ 63) (hb : b < 2 ^ 63) : Go.bits .and .i64 a b = ((a &&& b : Nat) : Int) := (bits_nat .i64 63 (by decide) wraps_i64 a b ha hb).1
theorem or_nat (a b : Nat) (ha : a < 2 ^ 63) (hb : b < 2 ^ 63) : Go.bits .or .i64 a b = ((a ||| b : Nat) : Int) := (bits_nat .i64 63 (by decide) wraps_i64 a b ha hb).2
theorem tk_nat (b : Nat) (n : Int) (hb : b < 2 ^ 63) (h0 : 0 ≤ n) (h1 : n ≤ 64) : tk b n = b.testBit n.toNat := by
  unfold tk shr
  have e : min n.toNat IntKind.i64.bits = n.toNat := by
    have : IntKind.i64.bits = 64 := rfl
    omega
  rw [e]
  have e2 : ((b : Int) / 2 ^ n.toNat) = ((b / 2 ^ n.toNat : Nat) : Int) := by simp
  have hlt : b / 2 ^ n.toNat < 2 ^ 63 := Nat.lt_of_le_of_lt (Nat.div_le_self _ _) hb
  have := and_nat (b / 2 ^ n.toNat) 1 hlt (by decide)
  rw [e2]
  rw [show ((1 : Int)) = ((1 : Nat) : Int) from rfl, this, Nat.and_one_is_mod, Nat.testBit_eq_decide_div_mod_eq]
  cases h : decide (b / 2 ^ n.toNat % 2 = 1)
  · have := of_decide_eq_false h
    simp; omega
  · have := of_decide_eq_true h
    simp [this]
theorem shl_nat (b n : Nat) (hn : n ≤ 31) (hb : b < 2 ^ 32) : shl .i64 (b : Int) (n : Int) = ((b * 2 ^ n : Nat) : Int) := by
  unfold shl
  have e : min ((n : Int)).toNat IntKind.i64.bits = n := by
    have : IntKind.i64.bits = 64 := rfl
    omega
  rw [e]
  have hlt : b * 2 ^ n < 2 ^ 63 := by
    have h1 : 2 ^ n ≤ 2 ^ 31 := Nat.pow_le_pow_right (by decide) hn
    have h2 : b * 2 ^ n ≤ b * 2 ^ 31 := Nat.mul_le_mul_left _ h1
    omega
  have e2 : ((b : Int) * 2 ^ n) = ((b * 2 ^ n : Nat) : Int) := by simp
  rw [e2]
  exact wraps_i64 _ (by omega) (by exact_mod_cast hlt)
theorem scan_zero {a b : Int} : ∀ {d : Nat} {x : Int}, scan a b d x = 0 ↔ ∀ k : Int, x ≤ k → k < x + d → tk b k = true → 1 ≤ a - k := by
  intro d
  induction d with
  | zero => intro x; simp [scan]; intro k h1 h2; omega
  | succ d ih =>
    intro x
    unfold scan
    by_cases h : tk b x = true ∧ a - x < 1
    · rw [if_pos h]
      constructor
      · intro h'; omega
      · intro h'; have := h' x (by omega) (by omega) h.1; omega
    · rw [if_neg h, ih]
      constructor
      · intro h' k h1 h2 h3
        by_cases e : k = x
        · subst e
          by_cases hl : a - k < 1
          · exact absurd ⟨h3, hl⟩ h
          · omega
        · exact h' k (by omega) (by omega) h3
      · intro h' k h1 h2 h3; exact h' k (by omega) (by omega) h3
theorem wf_iff {a b : Int} : WF a b = 0 ↔ (0 ≤ a ∧ a ≤ 1099511627776 ∧ 0 ≤ b ∧ b ≤ 4294967295) ∧ (a = 0 → b = 0) ∧ (0 < a → tk b 0 = true) ∧ ∀ k : Int, 0 ≤ k → k < 32 → tk b k = true → 1 ≤ a - k := by
  unfold WF
  by_cases c : 0 ≤ a ∧ a ≤ 1099511627776 ∧ 0 ≤ b ∧ b ≤ 4294967295
  · rw [if_pos c]
    by_cases c2 : (a = 0 ∧ b ≠ 0) ∨ (0 < a ∧ tk b 0 = false)
    · rw [if_pos c2]
      constructor
      · intro h; omega
      · rintro ⟨_, h1, h2, _⟩
        rcases c2 with ⟨h, h'⟩ | ⟨h, h'⟩
        · exact absurd (h1 h) h'
        · rw [h2 h] at h'; cases h'
    · rw [if_neg c2, scan_zero]
      constructor
      · intro h
        refine ⟨c, fun h0 => ?_, fun h0 => ?_, fun k h1 h2 h3 => h k h1 (by omega) h3⟩
        · exact Decidable.byContradiction fun h' => c2 (.inl ⟨h0, h'⟩)
        · cases ht : tk b 0
          · exact absurd (.inr ⟨h0, ht⟩) c2
          · rfl
      · rintro ⟨_, _, _, h⟩ k h1 h2 h3; exact h k h1 (by omega) h3
  · rw [if_neg c]
    constructor
    · intro h; omega
    · rintro ⟨h, _⟩; exact absurd h c
def takeF (a b s : Int) : Int := if 1 ≤ s ∧ s ≤ 1099511627776 then (if s ≤ a - 32 then 10 else if s ≤ a ∧ tk b (a - s) = true then 7 else 0) else 3
def tkn (a b s : Int) : Int × Int := if s ≤ a then (a, Go.bits .or .i64 b (shl .i64 1 (a - s))) else if s - a < 32 then (s, Go.bits .or .i64 (Go.bits .and .i64 (shl .i64 b (s - a)) 4294967295) 1) else (s, 1)
theorem tkn_top (a b s : Int) : a ≤ (tkn a b s).1 ∧ s ≤ (tkn a b s).1 := by
  unfold tkn
  split
  · exact ⟨by simp, by simpa⟩
  · split <;> simp <;> omega
theorem tkn_bits {a b s : Int} (hb0 : 0 ≤ b) (hb : b ≤ 4294967295) (ha : 0 ≤ a) (h0 : 1 ≤ s) (h1 : a - 32 < s) :
    0 ≤ (tkn a b s).2 ∧ (tkn a b s).2 ≤ 4294967295 ∧ ∀ k : Int, 0 ≤ k → k < 32 → tk (tkn a b s).2 k = (decide ((tkn a b s).1 - k = s) || (decide (0 ≤ a - ((tkn a b s).1 - k)) && tk b (a - ((tkn a b s).1 - k)))) := by
  obtain ⟨B, rfl⟩ := Int.eq_ofNat_of_zero_le hb0
  have hB : B < 2 ^ 32 := by omega
  unfold tkn
  by_cases c : s ≤ a
  · rw [if_pos c]
    obtain ⟨j, hj⟩ := Int.eq_ofNat_of_zero_le (show 0 ≤ a - s by omega)
    have hj31 : j ≤ 31 := by omega
    have hs : shl .i64 1 (a - s) = ((2 ^ j : Nat) : Int) := by
      rw [hj]
      have := shl_nat 1 j hj31 (by decide)
      simpa using this
    have hp : 2 ^ j < 2 ^ 32 := Nat.pow_lt_pow_right (by decide) (by omega)
    rw [hs, or_nat B _ (by omega) (by omega)]
    have hor : B ||| 2 ^ j < 2 ^ 32 := Nat.or_lt_two_pow hB hp
    refine ⟨by simp, by simp; omega, fun k k0 k1 => ?_⟩
    obtain ⟨m, rfl⟩ := Int.eq_ofNat_of_zero_le k0
    simp only
    rw [tk_nat _ _ (by omega) k0 (by omega), show a - (a - (m : Int)) = (m : Int) by omega, tk_nat B _ (by omega) k0 (by omega)]
    simp only [Int.toNat_natCast, Nat.testBit_or, Nat.testBit_two_pow]
    have : decide (j = m) = decide (a - (m : Int) = s) := decide_eq_decide.2 (by omega)
    rw [this]
    cases B.testBit m <;> cases decide (a - (m : Int) = s) <;> simp
  · rw [if_neg c]
    by_cases c2 : s - a < 32
    · rw [if_pos c2]
      obtain ⟨j, hj⟩ := Int.eq_ofNat_of_zero_le (show 0 ≤ s - a by omega)
      have hj31 : j ≤ 31 := by omega
      have hs : shl .i64 (B : Int) (s - a) = ((B * 2 ^ j : Nat) : Int) := by rw [hj]; exact shl_nat B j hj31 hB
      have hlt : B * 2 ^ j < 2 ^ 63 := by
        have h1 : 2 ^ j ≤ 2 ^ 31 := Nat.pow_le_pow_right (by decide) hj31
        have h2 : B * 2 ^ j ≤ B * 2 ^ 31 := Nat.mul_le_mul_left _ h1
        omega
      have hm : (4294967295 : Int) = ((4294967295 : Nat) : Int) := rfl
      rw [hs, hm, and_nat _ _ hlt (by decide)]
      have hand : (B * 2 ^ j) &&& 4294967295 < 2 ^ 32 := Nat.lt_of_le_of_lt Nat.and_le_right (by decide)
      have h1' : (1 : Int) = ((1 : Nat) : Int) := rfl
      rw [h1', or_nat _ _ (by omega) (by decide)]
      have hor : (B * 2 ^ j) &&& 4294967295 ||| 1 < 2 ^ 32 := Nat.or_lt_two_pow hand (by decide)
      refine ⟨by simp, by simp; omega, fun k k0 k1 => ?_⟩
      obtain ⟨m, rfl⟩ := Int.eq_ofNat_of_zero_le k0
      simp only
      rw [tk_nat _ _ (by omega) k0 (by omega)]
      simp only [Int.toNat_natCast, Nat.testBit_or, Nat.testBit_and, Nat.testBit_one_eq_true_iff_self_eq_zero]
      have e1 : (4294967295 : Nat).testBit m = true := by
        have : (4294967295 : Nat) = 2 ^ 32 - 1 := by decide
        rw [this, Nat.testBit_two_pow_sub_one]
        simp; omega
      have e2 : (1 : Nat).testBit m = decide (m = 0) := by
        cases m with
        | zero => rfl
        | succ m => simp [Nat.testBit_succ]
      have e3 : (B * 2 ^ j).testBit m = (decide (j ≤ m) && B.testBit (m - j)) := by
        rw [Nat.mul_comm, Nat.testBit_two_pow_mul]
      rw [e1, e2, e3, Bool.and_true]
      have e4 : decide (m = 0) = decide (s - (m : Int) = s) := decide_eq_decide.2 (by omega)
      rw [e4]
      by_cases hjm : j ≤ m
      · have e5 : a - (s - (m : Int)) = ((m - j : Nat) : Int) := by omega
        rw [e5, tk_nat B _ (by omega) (by omega) (by omega)]
        simp [hjm]
        cases B.testBit (m - j) <;> simp
      · have : ¬ 0 ≤ a - (s - (m : Int)) := by omega
        simp [hjm, this]
        intro h; omega
    · rw [if_neg c2]
      refine ⟨by simp, by simp, fun k k0 k1 => ?_⟩
      obtain ⟨m, rfl⟩ := Int.eq_ofNat_of_zero_le k0
      simp only
      rw [show (1 : Int) = ((1 : Nat) : Int) from rfl, tk_nat 1 _ (by decide) k0 (by omega)]
      have e2 : (1 : Nat).testBit m = decide (m = 0) := by
        cases m with
        | zero => rfl
        | succ m => simp [Nat.testBit_succ]
      have : ¬ 0 ≤ a - (s - (m : Int)) := by omega
      have e4 : decide (m = 0) = decide (s - (m : Int) = s) := decide_eq_decide.2 (by omega)
      simp [e2, this, e4]
      intro h; omega
theorem tkn_wf {a b s : Int} (h : WF a b = 0) (ht : takeF a b s = 0) : WF (tkn a b s).1 (tkn a b s).2 = 0 := by
  obtain ⟨⟨a0, a1, b0, b1⟩, hz, hp, hk⟩ := wf_iff.1 h
  unfold takeF at ht
  by_cases hs : 1 ≤ s ∧ s ≤ 1099511627776
  · rw [if_pos hs] at ht
    by_cases ho : s ≤ a - 32
    · rw [if_pos ho] at ht; omega
    · rw [if_neg ho] at ht
      obtain ⟨h1, h2, h3⟩ := tkn_bits b0 b1 a0 hs.1 (show a - 32 < s by omega)
      obtain ⟨t1, t2⟩ := tkn_top a b s
      have t3 : (tkn a b s).1 ≤ 1099511627776 := by
        unfold tkn; split
        · exact a1
        · split <;> exact hs.2
      have t4 : (tkn a b s).1 = a ∨ (tkn a b s).1 = s := by
        unfold tkn; split
        · exact .inl rfl
        · split <;> exact .inr rfl
      refine wf_iff.2 ⟨⟨by omega, t3, h1, h2⟩, fun h0 => by omega, fun _ => ?_, fun k k0 k1 hkt => ?_⟩
      · rw [h3 0 (by omega) (by omega)]
        rcases t4 with t4 | t4
        · rw [t4]
          have : a - (a - 0) = 0 := by omega
          rw [this, hp (by omega)]
          simp
        · rw [t4]; simp
      · rw [h3 k k0 k1] at hkt
        rcases Bool.or_eq_true _ _ ▸ hkt with h' | h'
        · have := of_decide_eq_true h'; omega
        · have h'' : 0 ≤ a - ((tkn a b s).1 - k) ∧ tk b (a - ((tkn a b s).1 - k)) = true := by simpa using h'
          have := hk _ h''.1 (by omega) h''.2
          omega
  · rw [if_neg hs] at ht; omega
end Go.Proofs.Ytalkfdedbacidaa.Pure
set_option linter.unusedVariables false
set_option linter.unusedSimpArgs false
namespace Go.Proofs.Ytalkfdedbacidaa.Pure
open Go.RowKit Go.Proofs.Ytalkfdedbacidaa.G Go.Proofs.YtalkfdedbacidaaW.PrintWords Go.Proofs.YtalkfdedbacidaaW.PrintLast Go.Proofs.YtalkfdedbacidaaW.PrintMore
theorem old_spec {a b s : Int} (h0 : 0 ≤ a) (h1 : a ≤ 1099511627776) : spec_l10Old.f a b s = some (decide (s ≤ a - 32)) := by
  unfold spec_l10Old.f; rw [w64 (by omega) (by omega)]
theorem had_spec {a b s : Int} (h1 : a ≤ 1099511627776) (hs : 1 ≤ s) : spec_l10Had.f a b s = some (decide (s ≤ a) && tk b (a - s)) := by
  unfold spec_l10Had.f
  by_cases h : s ≤ a
  · rw [if_pos h, w64 (by omega) (by omega), wu64 (by omega) (by omega), if_pos (by omega)]
    simp [h, tk]
  · rw [if_neg h]; simp [h]
theorem faultOf2 (x y : Int) : Ev (fun k => impl_faultOf.f k ([x, y] : List Int)) (if x = 0 then y else x) := by
  refine ⟨3, fun k hk => ?_⟩
  obtain ⟨m, rfl⟩ : ∃ m, k = m + 3 := ⟨k - 3, by omega⟩
  unfold impl_faultOf.f
  have e1 : wrap64 1 = 1 := w64 (by omega) (by omega)
  have e2 : wrap64 2 = 2 := w64 (by omega) (by omega)
  have e3 : wrap64 (1 + 1) = 2 := w64 (by omega) (by omega)
  by_cases hx : x = 0 <;> by_cases hy : y = 0 <;> simp [impl_faultOf.l0, rd, e1, e2, e3, hx, hy]
theorem takeF_impl (a b s : Int) (wa : (Lit.int .i64 a).wf = true) : ∃ t, impl_Window_takeFault.f a b s = some t ∧ (0 ≤ a → t = takeF a b s) := by
  have hb : -9223372036854775808 ≤ a ∧ a ≤ 9223372036854775807 := by
    simpa [Lit.wf, IntKind.min, IntKind.max, IntKind.signed, IntKind.bits] using wa
  unfold impl_Window_takeFault.f takeF
  rw [in_impl]
  simp only [Option.bind_some, decide_eq_true_eq]
  by_cases hs : 1 ≤ s ∧ s ≤ 1099511627776
  · rw [if_pos hs, if_pos hs]
    by_cases hl : 0 ≤ a
    · refine ⟨_, ?_, fun _ => rfl⟩
      rw [w64 (n := a - 32) (by omega) (by omega)]
      by_cases ho : s ≤ a - 32
      · rw [if_pos ho, if_pos ho]
      · rw [if_neg ho, if_neg ho]
        by_cases h2 : s ≤ a
        · rw [if_pos h2, w64 (by omega) (by omega), took a b _ (by omega)]
          simp only [Option.bind_some]
          cases tk b (a - s) <;> simp [h2]
        · rw [if_neg h2, if_neg (fun h => h2 h.1)]
    · by_cases ho : s ≤ wrap64 (a - 32)
      · rw [if_pos ho]; exact ⟨_, rfl, fun h => absurd h hl⟩
      · rw [if_neg ho, if_neg (by omega)]; exact ⟨_, rfl, fun h => absurd h hl⟩
  · rw [if_neg hs, if_neg hs]; exact ⟨_, rfl, fun _ => rfl⟩
theorem taken_impl {a b s : Int} (a0 : 0 ≤ a) (a1 : a ≤ 1099511627776) (s0 : 1 ≤ s) (s1 : s ≤ 1099511627776) : impl_Window_taken.f a b s = some (tkn a b s) := by
  unfold impl_Window_taken.f tkn
  by_cases h : s ≤ a
  · rw [if_pos h, if_pos h, w64 (by omega) (by omega), if_pos (by omega)]
  · rw [if_neg h, if_neg h, w64 (by omega) (by omega)]
    by_cases h2 : s - a < 32
    · rw [if_neg (by omega), if_pos h2, if_pos (by omega)]
    · rw [if_pos (by omega), if_neg h2]
def TQ (a b s : Int) : Int × Int × Int × Int := if takeF a b s = 0 then (0, s, (tkn a b s).1, (tkn a b s).2) else (takeF a b s, 0, 0, 0)
def TS (a b s : Int) : Int × Int × Int × Int := if WF a b = 0 then TQ a b s else (WF a b, 0, 0, 0)
theorem mask_one (x : Int) : Go.bits .and .i64 (Go.bits .or .i64 x 1) 4294967295 = Go.bits .or .i64 (Go.bits .and .i64 x 4294967295) 1 := by
  have back : ∀ v : BitVec 64, BitVec.ofInt 64 (IntKind.i64.wrap (v.toNat : Int)) = v := by
    intro v
    apply BitVec.eq_of_toInt_eq
    have h1 := v.isLt
    rw [BitVec.toInt_ofInt, BitVec.toInt_eq_toNat_bmod, IntKind.wrap_i64]
    simp only [Int.bmod_def]
    split <;> split <;> omega
  unfold Go.bits
  simp only
  rw [show IntKind.i64.bits = 64 from rfl, back, back]
  congr 2
  have e : ∀ X : BitVec 64, (X ||| BitVec.ofInt 64 1) &&& BitVec.ofInt 64 4294967295 = (X &&& BitVec.ofInt 64 4294967295) ||| BitVec.ofInt 64 1 := by
    intro X
    ext i hi
    simp only [BitVec.getElem_and, BitVec.getElem_or]
    have h1 : ∀ j : Nat, ∀ h : j < 64, (BitVec.ofInt 64 1)[j] = true → (BitVec.ofInt 64 4294967295)[j] = true := by decide
    have := h1 i hi
    cases h : (BitVec.ofInt 64 1)[i] <;> cases h' : (BitVec.ofInt 64 4294967295)[i] <;> simp_all
  rw [e]
theorem take_spec {a b s : Int} (a0 : 0 ≤ a) (a1 : a ≤ 1099511627776) : spec_l10Take.f a b s = some (TQ a b s) := by
  unfold spec_l10Take.f TQ takeF
  rw [in_spec]
  simp only [Option.bind_some, decide_eq_true_eq]
  by_cases hs : 1 ≤ s ∧ s ≤ 1099511627776
  · rw [if_pos hs, if_pos hs, old_spec a0 a1]
    simp only [Option.bind_some, decide_eq_true_eq]
    by_cases ho : s ≤ a - 32
    · rw [if_pos ho, if_pos ho]; rfl
    · rw [if_neg ho, if_neg ho, had_spec a1 hs.1]
      simp only [Option.bind_some]
      by_cases h2 : s ≤ a
      · cases ht : tk b (a - s)
        · simp only [h2, decide_true, Bool.true_and, Bool.false_eq_true, if_false, if_true, and_false]
          rw [w64 (by omega) (by omega), wu64 (by omega) (by omega), if_pos (by omega)]
          simp [tkn, h2]
        · simp [h2]
      · simp only [h2, decide_false, Bool.false_and, Bool.false_eq_true, if_false, false_and, if_true]
        rw [w64 (by omega) (by omega), wu64 (by omega) (by omega)]
        by_cases h3 : s - a < 32
        · rw [if_pos h3, if_pos (by omega), mask_one]; simp [tkn, h2, h3]
        · rw [if_neg h3]; simp [tkn, h2, h3]
  · rw [if_neg hs, if_neg hs]; rfl
theorem ts_impl (a b s : Int) (wa : (Lit.int .i64 a).wf = true) : Ev (fun k => impl_TakeSeq.f k a b s) (TS a b s) := by
  unfold impl_TakeSeq.f TS
  refine Ev.bind (wf_impl a b) ?_
  obtain ⟨t, ht, htt⟩ := takeF_impl a b s wa
  simp only [ht, Option.bind_some]
  refine Ev.bind (faultOf2 _ _) ?_
  by_cases h : WF a b = 0
  · obtain ⟨a0, a1, b0, b1⟩ := wf_ok h
    rw [htt a0]
    simp only [h, if_true, TQ]
    by_cases h2 : takeF a b s = 0
    · have hs : 1 ≤ s ∧ s ≤ 1099511627776 := by
        unfold takeF at h2
        by_cases hs : 1 ≤ s ∧ s ≤ 1099511627776
        · exact hs
        · rw [if_neg hs] at h2; omega
      simp only [h2, if_true, taken_impl a0 a1 hs.1 hs.2, Option.bind_some]; exact Ev.now _
    · simp only [h2, if_false]; exact Ev.now _
  · simp only [h, if_false]; exact Ev.now _
def gs (a low : Int) : Int := if (max (a - 31) 1) - (max (a - 31) 1) % 4294967296 + low < max (a - 31) 1 then (max (a - 31) 1) - (max (a - 31) 1) % 4294967296 + low + 4294967296 else (max (a - 31) 1) - (max (a - 31) 1) % 4294967296 + low
end Go.Proofs.Ytalkfdedbacidaa.Pure
set_option linter.unusedVariables false
set_option linter.unusedSimpArgs false
namespace Go.Proofs.Ytalkfdedbacidaa.Pure
open Go.RowKit Go.Proofs.Ytalkfdedbacidaa.G Go.Proofs.YtalkfdedbacidaaW.PrintWords Go.Proofs.YtalkfdedbacidaaW.PrintLast Go.Proofs.YtalkfdedbacidaaW.PrintMore
def ta : Int → Int → List Int → List Int
  | _, _, [] => []
  | a, b, s :: r => if takeF a b s = 0 then s :: ta (tkn a b s).1 (tkn a b s).2 r else ta a b r
theorem ta_length : ∀ (l : List Int) (a b : Int), (ta a b l).length ≤ l.length
  | [], _, _ => by simp [ta]
  | s :: r, a, b => by
    unfold ta; split
    · have := ta_length r (tkn a b s).1 (tkn a b s).2; simp; omega
    · have := ta_length r a b; simp; omega
theorem TQ_zero (a b s : Int) : (TQ a b s).1 = 0 ↔ takeF a b s = 0 := by
  unfold TQ; split
  · simp [*]
  · simp [*]
theorem rd_drop (l : List Int) (i : Nat) (h : i < l.length) : l.drop i = rd l (i : Int) :: l.drop (i + 1) := by
  rw [List.drop_eq_getElem_cons h]
  simp [rd, List.getD, List.getElem?_eq_getElem h]
theorem ta_spec_l0 (l : List Int) (hl : l.length ≤ 1000) (d : Nat) : ∀ (k i : Nat) (a b : Int) (acc : List Int), WF a b = 0 → i + d = l.length → d < k → acc.length + d ≤ 1000 →
    spec_TakeAll.l0 k l i a b 0 acc = some (0, acc ++ ta a b (l.drop i)) := by
  induction d with
  | zero =>
    intro k i a b acc hw hi hk hc
    obtain ⟨k, rfl⟩ : ∃ m, k = m + 1 := ⟨k - 1, by omega⟩
    simp only [spec_TakeAll.l0]; rw [if_neg (by omega), List.drop_of_length_le (by omega)]; simp [ta]
  | succ d ih =>
    intro k i a b acc hw hi hk hc
    obtain ⟨k, rfl⟩ : ∃ m, k = m + 1 := ⟨k - 1, by omega⟩
    obtain ⟨a0, a1, b0, b1⟩ := wf_ok hw
    simp only [spec_TakeAll.l0]
    rw [if_pos (by omega), if_pos (by omega), take_spec a0 a1, rd_drop l i (by omega), w64 (by omega) (by omega)]
    simp only [Option.bind_some, ta]
    by_cases ht : takeF a b (rd l i) = 0
    · rw [if_pos ((TQ_zero _ _ _).2 ht), if_pos ht, if_pos (by omega)]
      have e : TQ a b (rd l i) = (0, rd l i, (tkn a b (rd l i)).1, (tkn a b (rd l i)).2) := by unfold TQ; rw [if_pos ht]
      rw [e]
      have := ih k (i + 1) (tkn a b (rd l i)).1 (tkn a b (rd l i)).2 (acc ++ [rd l i]) (tkn_wf hw ht) (by omega) (by omega) (by simp; omega)
      simpa using this
    · rw [if_neg (fun h => ht ((TQ_zero _ _ _).1 h)), if_neg ht]
      have := ih k (i + 1) a b acc hw (by omega) (by omega) (by omega)
      simpa using this
theorem wf_lit {a b : Int} (h : WF a b = 0) : (Lit.int .i64 a).wf = true := by
  obtain ⟨a0, a1, b0, b1⟩ := wf_ok h
  simp [Lit.wf, IntKind.min, IntKind.max, IntKind.signed, IntKind.bits]; omega
theorem ta_impl_l0 (l : List Int) (hl : l.length ≤ 1000) (d : Nat) : ∀ (i : Nat) (a b : Int) (acc : List Int), WF a b = 0 → i + d = l.length → acc.length + d ≤ 1000 →
    Ev (fun k => impl_TakeAll.l0 k acc l (l.length : Int) i a b) (0, acc ++ ta a b (l.drop i)) := by
  induction d with
  | zero =>
    intro i a b acc hw hi hc
    refine ⟨1, fun k hk => ?_⟩
    obtain ⟨k, rfl⟩ : ∃ m, k = m + 1 := ⟨k - 1, by omega⟩
    simp only [impl_TakeAll.l0]; rw [if_neg (by omega), List.drop_of_length_le (by omega)]; simp [ta]
  | succ d ih =>
    intro i a b acc hw hi hc
    obtain ⟨a0, a1, b0, b1⟩ := wf_ok hw
    refine Ev.step (fun k => ?_) (f := fun k => (impl_TakeSeq.f k a b (rd l i)).bind fun bt => (if bt.1 = 0 then impl_TakeAll.l0 k (acc ++ [rd l i]) l l.length ((i + 1 : Nat) : Int) bt.2.2.1 bt.2.2.2 else impl_TakeAll.l0 k acc l l.length ((i + 1 : Nat) : Int) a b)) ?_
    · simp only [impl_TakeAll.l0]
      rw [if_pos (by omega), if_pos (by omega), if_pos (by omega), w64 (by omega) (by omega)]
      simp only [show ((i + 1 : Nat) : Int) = (i : Int) + 1 from rfl]
      congr 1
      funext bt
      rw [if_pos (show acc.length < 17592186044416 by omega)]
    · refine Ev.bind (ts_impl a b _ (wf_lit hw)) ?_
      have e0 : TS a b (rd l i) = TQ a b (rd l i) := by unfold TS; rw [if_pos hw]
      rw [rd_drop l i (by omega)]
      simp only [e0, ta]
      by_cases ht : takeF a b (rd l i) = 0
      · have e : TQ a b (rd l i) = (0, rd l i, (tkn a b (rd l i)).1, (tkn a b (rd l i)).2) := by unfold TQ; rw [if_pos ht]
        simp only [e, ht, if_true]
        have := ih (i + 1) (tkn a b (rd l i)).1 (tkn a b (rd l i)).2 (acc ++ [rd l i]) (tkn_wf hw ht) (by omega) (by simp; omega)
        simpa using this
      · simp only [(TQ_zero a b (rd l i)), ht, if_false]
        exact ih (i + 1) a b acc hw (by omega) (by omega)
def TA (a b : Int) (l : List Int) : Int × List Int := if WF a b = 0 then (if l.length > 100 then (2, []) else (0, ta a b l)) else (WF a b, [])
theorem TA_length (a b : Int) (l : List Int) : (TA a b l).2.length ≤ 100 := by
  unfold TA; split
  · split
    · simp
    · have := ta_length l a b; simp only; omega
  · simp
theorem ta_spec (a b : Int) (l : List Int) : Ev (fun k => spec_TakeAll.f k a b l) (TA a b l) := by
  unfold spec_TakeAll.f TA
  refine Ev.bind (wf_spec a b) ?_
  by_cases h : WF a b = 0
  · simp only [h, if_true]
    by_cases hl : l.length > 100
    · simp only [show (l.length : Int) > 100 by omega, hl, if_true]; exact Ev.now _
    · simp only [show ¬ (l.length : Int) > 100 by omega, hl, if_false]
      refine ⟨l.length + 1, fun k hk => ?_⟩
      have := ta_spec_l0 l (by omega) l.length k 0 a b [] h (by omega) (by omega) (by simp; omega)
      simpa using this
  · simp only [h, if_false]; exact Ev.now _
theorem ta_impl (a b : Int) (l : List Int) : Ev (fun k => impl_TakeAll.f k a b l) (TA a b l) := by
  unfold impl_TakeAll.f TA
  refine Ev.bind (wf_impl a b) ?_
  by_cases h : WF a b = 0
  · simp only [h, if_true]
    by_cases hl : l.length > 100
    · simp only [show (l.length : Int) > 100 by omega, hl, if_true]; exact Ev.now _
    · simp only [show ¬ (l.length : Int) > 100 by omega, hl, if_false]
      have := ta_impl_l0 l (by omega) l.length 0 a b [] h (by omega) (by simp; omega)
      simpa using this
  · simp only [h, if_false]; exact Ev.now _
end Go.Proofs.Ytalkfdedbacidaa.Pure
set_option linter.unusedVariables false
set_option linter.unusedSimpArgs false
namespace Go.Proofs.Ytalkfdedbacidaa.Pure
open Go.RowKit Go.Proofs.Ytalkfdedbacidaa.G Go.Proofs.YtalkfdedbacidaaW.PrintWords Go.Proofs.YtalkfdedbacidaaW.PrintLast Go.Proofs.YtalkfdedbacidaaW.PrintMore
theorem ev_succ {α : Type} {g : Nat → Option α} {r : α} (h : Ev (fun k => g (k + 1)) r) : Ev g r := by
  obtain ⟨K, hK⟩ := h
  refine ⟨K + 1, fun k hk => ?_⟩
  obtain ⟨m, rfl⟩ : ∃ m, k = m + 1 := ⟨k - 1, by omega⟩
  exact hK m (by omega)
theorem w64' {n : Int} (h0 : -9223372036854775808 ≤ n) (h1 : n ≤ 9223372036854775807) : wrap64 n = n := by unfold wrap64; omega
theorem rd_nat (l : List Int) (i : Nat) : rd l (i : Int) = l.getD i 0 := by simp [rd]
theorem set_split {α : Type} (pre rest : List α) (x y : α) : (pre ++ x :: rest).set pre.length y = pre ++ y :: rest := by
  simp
theorem toInt64S_l0 (l : List Int) (hl : l.length ≤ 9223372036854775807) (z : Int) (d : Nat) : ∀ (k i : Nat), i + d = l.length → d < k →
    laws_toInt64S.l0 k l (l.take i ++ List.replicate d z) i = some l := by
  induction d with
  | zero =>
    intro k i hi hk
    obtain ⟨k, rfl⟩ : ∃ m, k = m + 1 := ⟨k - 1, by omega⟩
    simp only [laws_toInt64S.l0]; rw [if_neg (by omega)]
    simp [List.take_of_length_le (show l.length ≤ i by omega)]
  | succ d ih =>
    intro k i hi hk
    obtain ⟨k, rfl⟩ : ∃ m, k = m + 1 := ⟨k - 1, by omega⟩
    simp only [laws_toInt64S.l0]
    rw [if_pos (by omega), if_pos (by omega), if_pos (by simp; omega), w64' (by omega) (by omega), rd_nat]
    have e : (l.take i ++ List.replicate (d + 1) z).set ((i : Int)).toNat (l.getD i 0) = l.take (i + 1) ++ List.replicate d z := by
      rw [List.replicate_succ]
      have h1 : (l.take i).length = i := by simp; omega
      have := set_split (l.take i) (List.replicate d z) z (l.getD i 0)
      rw [h1] at this
      simp only [Int.toNat_natCast]
      have hg : l.getD i 0 = l[i]'(by omega) := by simp [List.getD, List.getElem?_eq_getElem (show i < l.length by omega)]
      rw [this, hg, List.take_succ_eq_append_getElem (by omega), List.append_assoc]; rfl
    rw [e]
    have := ih k (i + 1) (by omega) (by omega)
    simpa using this
theorem toInt64S_ev (l : List Int) (hl : l.length ≤ 35184372088832) : Ev (fun k => laws_toInt64S.f k l) l := by
  refine ⟨l.length + 1, fun k hk => ?_⟩
  simp only [laws_toInt64S.f]
  rw [if_pos (by omega), if_pos (by simp; omega)]
  have := toInt64S_l0 l (by omega) 0 l.length k 0 (by omega) (by omega)
  simpa using this
theorem eqInt64S_l0 (l : List Int) (hl : l.length ≤ 9223372036854775807) (d : Nat) : ∀ (k i : Nat), i + d = l.length → d < k → laws_eqInt64S.l0 k l l i = some true := by
  induction d with
  | zero =>
    intro k i hi hk
    obtain ⟨k, rfl⟩ : ∃ m, k = m + 1 := ⟨k - 1, by omega⟩
    simp only [laws_eqInt64S.l0]; rw [if_neg (by omega)]
  | succ d ih =>
    intro k i hi hk
    obtain ⟨k, rfl⟩ : ∃ m, k = m + 1 := ⟨k - 1, by omega⟩
    simp only [laws_eqInt64S.l0]
    rw [if_pos (by omega), if_pos (by omega), if_pos (by omega), if_pos trivial, w64' (by omega) (by omega)]
    have := ih k (i + 1) (by omega) (by omega)
    simpa using this
theorem eqInt64S_ev (l : List Int) (hl : l.length ≤ 9223372036854775807) : Ev (fun k => laws_eqInt64S.f k l l) true := by
  refine ⟨l.length + 1, fun k hk => ?_⟩
  simp only [laws_eqInt64S.f, if_true]
  have := eqInt64S_l0 l hl l.length k 0 (by omega) (by omega)
  simpa using this
theorem eqIntsResult_ev (c : Int) (l : List Int) (hl : l.length ≤ 9223372036854775807) : Ev (fun k => laws_eqIntsResult.f k c l c l) true := by
  unfold laws_eqIntsResult.f
  simp only [if_true]
  refine Ev.bind (eqInt64S_ev l hl) ?_
  simp only [if_true]; exact Ev.now _
def marks (m : Int) (n : Nat) : List Int := (List.range n).map fun (i : Nat) => m + (i : Int)
theorem marks_length (m : Int) (n : Nat) : (marks m n).length = n := by simp [marks]
theorem marks_succ (m : Int) (n : Nat) : marks m (n + 1) = marks m n ++ [m + n] := by simp [marks, List.range_succ]
theorem markInt64S_l0 (l : List Int) (m : Int) (hm : 0 ≤ m) (hl : m + l.length ≤ 9223372036854775806) (d : Nat) : ∀ (k i : Nat), i + d = l.length → d < k →
    laws_markInt64S.l0 k (marks m i ++ l.drop i) (m + i) i = some (m + l.length, marks m l.length) := by
  induction d with
  | zero =>
    intro k i hi hk
    obtain ⟨k, rfl⟩ : ∃ m, k = m + 1 := ⟨k - 1, by omega⟩
    obtain rfl : i = l.length := by omega
    simp only [laws_markInt64S.l0]; rw [if_neg (by simp [marks_length])]
    simp
  | succ d ih =>
    intro k i hi hk
    obtain ⟨k, rfl⟩ : ∃ m, k = m + 1 := ⟨k - 1, by omega⟩
    simp only [laws_markInt64S.l0]
    have hlen : (marks m i ++ l.drop i).length = l.length := by simp [marks_length]; omega
    rw [if_pos (by rw [hlen]; omega), if_pos (by omega), w64' (n := m + i + 1) (by omega) (by omega), w64' (n := (i : Int) + 1) (by omega) (by omega)]
    have e : (marks m i ++ l.drop i).set ((i : Int)).toNat (m + i) = marks m (i + 1) ++ l.drop (i + 1) := by
      rw [List.drop_eq_getElem_cons (show i < l.length by omega), marks_succ]
      have := set_split (marks m i) (l.drop (i + 1)) l[i] (m + i)
      rw [marks_length] at this
      simp only [Int.toNat_natCast]
      rw [this]; simp
    rw [e]
    have := ih k (i + 1) (by omega) (by omega)
    simpa [Int.add_assoc] using this
theorem markInt64S_ev (l : List Int) (m : Int) (hm : 0 ≤ m) (hl : m + l.length ≤ 9223372036854775806) : Ev (fun k => laws_markInt64S.f k l m) (m + l.length, marks m l.length) := by
  refine ⟨l.length + 1, fun k hk => ?_⟩
  unfold laws_markInt64S.f
  have := markInt64S_l0 l m hm hl l.length k 0 (by omega) (by omega)
  simpa [marks] using this
theorem heldInt64S_l0 (n : Nat) (m : Int) (hm : 0 ≤ m) (hl : m + n ≤ 9223372036854775806) (d : Nat) : ∀ (k i : Nat), i + d = n → d < k →
    laws_heldInt64S.l0 k (marks m n) (m + i) i = some (m + n) := by
  induction d with
  | zero =>
    intro k i hi hk
    obtain ⟨k, rfl⟩ : ∃ m, k = m + 1 := ⟨k - 1, by omega⟩
    obtain rfl : i = n := by omega
    simp only [laws_heldInt64S.l0]; rw [if_neg (by simp [marks_length])]
  | succ d ih =>
    intro k i hi hk
    obtain ⟨k, rfl⟩ : ∃ m, k = m + 1 := ⟨k - 1, by omega⟩
    simp only [laws_heldInt64S.l0]
    have e : rd (marks m n) (i : Int) = m + i := by
      rw [rd_nat]
      simp [marks, List.getD, List.getElem?_map, List.getElem?_range (show i < n by omega)]
    rw [if_pos (by rw [marks_length]; omega), if_pos (by omega), if_pos e, w64' (n := m + i + 1) (by omega) (by omega), w64' (n := (i : Int) + 1) (by omega) (by omega)]
    have := ih k (i + 1) (by omega) (by omega)
    simpa [Int.add_assoc] using this
theorem heldInt64S_ev (n : Nat) (m : Int) (hm : 0 ≤ m) (hl : m + n ≤ 9223372036854775806) : Ev (fun k => laws_heldInt64S.f k (marks m n) m) (m + n) := by
  refine ⟨n + 1, fun k hk => ?_⟩
  unfold laws_heldInt64S.f
  have := heldInt64S_l0 n m hm hl n k 0 (by omega) (by omega)
  simpa using this
theorem markIntsResult_ev (c : Int) (l : List Int) (m : Int) (hm : 0 ≤ m) (hl : m + l.length ≤ 9223372036854775806) : Ev (fun k => laws_markIntsResult.f k c l m) (m + l.length, marks m l.length) := by
  unfold laws_markIntsResult.f
  exact Ev.bind (markInt64S_ev l m hm hl) (Ev.now _)
theorem heldIntsResult_ev (c : Int) (n : Nat) (m : Int) (hm : 0 ≤ m) (hl : m + n ≤ 9223372036854775806) : Ev (fun k => laws_heldIntsResult.f k c (marks m n) m) (m + n) := by
  unfold laws_heldIntsResult.f
  refine Ev.bind (heldInt64S_ev n m hm hl) ?_
  rw [if_neg (by omega)]; exact Ev.now _
end Go.Proofs.Ytalkfdedbacidaa.Pure
namespace Go.Proofs.Ytalkfdedbacidaa.Pure
open Go.RowKit Go.Proofs.Ytalkfdedbacidaa.G Go.Proofs.YtalkfdedbacidaaW.PrintWords Go.Proofs.YtalkfdedbacidaaW.PrintLast
theorem FnExactTakeAll : laws_FnExactTakeAll.Pure := by
  intro x0 l _ hm _
  refine Ev.rounds ?_
  unfold laws_FnExactTakeAll.f laws_toWindow.f
  by_cases hb : (l.length : Int) > 1048576
  · simp only [hb, if_true]; exact Ev.now _
  simp only [hb, if_false, Option.bind_some]
  have hn := TA_length x0.1 x0.2 l
  have hc := toInt64S_ev l (by omega)
  refine Ev.bind hc (Ev.bind (ta_spec _ _ _) (Ev.bind hc (Ev.bind (ta_impl _ _ _) ?_)))
  refine Ev.bind (eqIntsResult_ev _ _ (by omega)) ?_
  simp only [if_true]
  refine Ev.bind hc (Ev.bind (eqInt64S_ev l (by omega)) ?_)
  simp only [if_true]
  refine Ev.bind (markInt64S_ev l 1 (by omega) (by omega)) ?_
  simp only [show ¬ (1 + (l.length : Int)) < 0 by omega, if_false]
  refine Ev.bind (eqIntsResult_ev _ _ (by omega)) ?_
  simp only [Bool.not_true]
  refine ev_succ ?_
  simp only [laws_FnExactTakeAll.j0, Bool.false_eq_true, if_false]
  refine Ev.bind (markIntsResult_ev _ _ 1 (by omega) (by omega)) ?_
  refine Ev.bind (heldIntsResult_ev _ _ 1 (by omega) (by omega)) ?_
  simp only [show ¬ (1 + ((TA x0.1 x0.2 l).2.length : Int)) < 0 by omega, if_false, if_true, laws_toWindow.f, Option.bind_some]
  refine Ev.bind hc (Ev.bind (ta_impl _ _ _) ?_)
  refine Ev.bind (eqIntsResult_ev _ _ (by omega)) ?_
  simp only [if_true]
  refine Ev.bind (heldIntsResult_ev _ _ 1 (by omega) (by omega)) ?_
  simp only [show ¬ (1 + ((TA x0.1 x0.2 l).2.length : Int)) < 0 by omega, if_false, if_true]
  exact Ev.now _
end Go.Proofs.Ytalkfdedbacidaa.Pure
namespace Go.Proofs.Ytalkfdedbacidaa.fnExactTakeAll
open Go.ChangeShapes Go.WideShapes Go.ChangeAt
open Go.RowKit Go.Proofs.Ytalkfdedbacidaa.G Go.Proofs.YtalkfdedbacidaaW.PrintWords Go.Proofs.YtalkfdedbacidaaW.PrintLast
open Go.ChangeMaps (open_string shut_string)
set_option linter.unusedVariables false
theorem own : ownKnob Try.prog.godebug = none := by kernel_rfl
theorem laidOut : laidOutB Try.prog = true := by kernel_rfl
theorem o2 : Opn.Opens Try.prog 2 (Kd.int .i64) (fun n => (Lit.int .i64 n).wf = true) := Opn.opens_int Try.underlying2 (by kernel_rfl)
theorem o23 : Opn.Opens Try.prog 23 (Kd.iso (Kd.pair (Kd.int .i64) (Kd.int .i64)) (fun x => x)) (fun (x : Int × Int) => (fun n => (Lit.int .i64 n).wf = true) x.1 ∧ (fun n => (Lit.int .i64 n).wf = true) x.2) := by
  refine Opn.opens_struct (G := fun (x : Int × Int) => (fun n => (Lit.int .i64 n).wf = true) x.1 ∧ (fun n => (Lit.int .i64 n).wf = true) x.2) (fun x => x) (fun y => y) (fun _ => rfl) Try.underlying23 (by kernel_rfl) ?_
  apply Opn.at_cons (T := 2) (G := fun n => (Lit.int .i64 n).wf = true) (G2 := fun n => (Lit.int .i64 n).wf = true)
  · rfl
  · rfl
  · exact o2
  apply Opn.at_last (T := 2)
  · rfl
  · rfl
  · exact o2
set_option maxRecDepth 100000 in
theorem lifted (os : Os) (started : os.Started) (H : Type) (enc : TypeId × Value → H) :
    ReturnsInHanded {} Try.checked os 14 .any (Rows.fnExactTakeAllSpec.pre6 enc Try.prog Try.f14 Rows.fnExactTakeAllRow.domain false) (Rows.fnExactTakeAllSpec.post enc Try.prog Try.f14 false true false false) := by
  refine returnsInHanded_of_change_sized (C := Try.checked) own started (by kernel_rfl) Try.func14
    (ChangeSpec.witness6 (enc := enc) (C := Try.checked) false ⟨#[], #[.agg #[.int .i64 0, .int .i64 0], .slice none 0 0], []⟩ 8 (by kernel_rfl) (by kernel_rfl) (by kernel_rfl) (by kernel_rfl)) ?_
  intro W base args ds gs before hval0 hW hcnd hsz0 _
  have hval : ∀ (j : Nat) t v, Try.f14.params[j]? = some t → args[j]? = some v → Value.okWide Try.prog W .any base t v := hval0
  have hW' := hW
  obtain ⟨p, q, hA0, hV, rfl, hfz, hnd⟩ := hW
  have hA : DataW.TrodAll enc Try.prog W 0 (fun _ => true) true Try.f14.params.toList args.toList ds p := hA0
  rw [Try.params14] at hA hval
  obtain ⟨v0, vs0, d0, ds0, p0, q0, hargs, rfl, rfl, h0, r0⟩ := trodAll_cons hA
  obtain ⟨v1, vs1, d1, ds1, p1, q1, rfl, rfl, rfl, h1, r1⟩ := trodAll_cons r0
  obtain ⟨rfl, rfl, rfl⟩ := trodAll_nil r1
  obtain rfl : args = #[v0, v1] := by cases args; simp_all
  obtain ⟨rfl, rfl⟩ := trodVars_none hV
  have k0 := h0
  have lt0 : ∀ x ∈ p0, x.block < W.heap.size := by obtain ⟨m, hm⟩ := k0; exact DataW.trod_lt m _ _ _ hm
  obtain ⟨x0, cs0, rfl, hk0, hg0⟩ := Opn.arg_struct Try.underlying23 o23 (hval 0 23 v0 rfl rfl) h0
  obtain ⟨_, _, rfl, rfl, rfl⟩ := hk0
  obtain ⟨A1, len1, c1, rfl⟩ := okWide_slice Try.underlying58 (hval 1 58 v1 rfl rfl)
  have k1 := h1
  have lt1 : ∀ x ∈ p1, x.block < W.heap.size := by obtain ⟨m, hm⟩ := k1; exact DataW.trod_lt m _ _ _ hm
  obtain ⟨l1, rfl, hr1, hc1, hm1, hg1⟩ := Opn.arg_slice Try.underlying58 (by kernel_rfl) o2 h1
  clear hA0 hval0 hsz0
  obtain ⟨k, h⟩ := Pure.FnExactTakeAll x0 l1 hg0 hm1 hg1
  refine (laws_FnExactTakeAll.calls k (x0.1) (x0.2) A1 c1 l1 W hr1 hc1 h).mono fun e W' ⟨he, bel0⟩ => ?_
  have bel : Below W.heap.size W W' := bel0
  subst he
  exact ⟨_, rfl, _, _, _, [], _, [], hW', trodAll_mk1 (shut_bool Try.underlying4 _), (trodAll_cons_mk (Below.trod laidOut (by kernel_rfl) (of_decide_eq_true (by kernel_rfl)) k0 bel lt0) (trodAll_cons_mk (Below.trod laidOut (by kernel_rfl) (of_decide_eq_true (by kernel_rfl)) k1 bel lt1) trodAll_mk0)), rfl, bel.frame _, fun h => by cases h⟩
theorem over : Rows.fnExactTakeAllRow.holds Try.pinned (OpenSpec.ofChange Rows.fnExactTakeAllSpec) :=
  OpenClaim.holds_of_wide 14 Try.f14 rfl rfl rfl rfl rfl rfl rfl ⟨rfl, rfl, rfl, rfl, rfl⟩ rfl rfl rfl rfl rfl (by kernel_rfl) Try.func14 (by kernel_rfl)
    (of_decide_eq_true (by kernel_rfl)) (by unfold Func.isWrapper; first | (rw [if_pos (by decide +kernel)]; kernel_rfl) | (rw [if_neg (by decide +kernel)]; exact ⟨rfl, rfl⟩))
    (fun os started H enc _ => lifted os started H enc)
end Go.Proofs.Ytalkfdedbacidaa.fnExactTakeAll
namespace Go.Proofs.Ytalkfdedbacidaa
theorem fnExactTakeAll_holds : Rows.FnExactTakeAllSaid := fnExactTakeAll.over
end Go.Proofs.Ytalkfdedbacidaa
#print axioms Go.Proofs.Ytalkfdedbacidaa.fnExactTakeAll_holds
