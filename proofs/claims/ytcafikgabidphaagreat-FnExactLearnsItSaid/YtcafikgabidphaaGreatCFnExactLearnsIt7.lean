/- FnExactLearnsIt: for every input the law returns true and its arguments read afterwards as they read before. No condition. -/
import Derived.Test.YtcafikgabidphaaGreatCFnExactLearnsIt6
import Derived.ChangeArms
import Derived.Deep.Slices
import Derived.ProofKit
import Derived.OpenShut
import Derived.Test.YtcafikgabidphaaGreatRows
import Derived.WalkKit
import Derived.ShutString
import Derived.ChangeOld
import Derived.Below
import Derived.SizedLaws
set_option linter.unusedVariables false
namespace Go.Proofs.YtcafikgabidphaaGreat.Opn
open Go.Proofs.YtcafikgabidphaaGreatW.PrintWords
def Opens {α : Type} (P : Program) (t : TypeId) (d : Kd α) (G : α → Prop) : Prop :=
  P.cellsOf t = d.sz ∧ ∀ (H : Type) (enc : TypeId × Value → H) (W : World) (base : Nat) (sp : Nat → Bool) (held : Bool) (fuel : Nat) (cs : List Value) (x : DataW H × List MemPlace),
    DataW.trod enc P W base sp held fuel t cs = some x → ∃ a, d.K W a cs ∧ G a
theorem opens_int {P : Program} {t : TypeId} {k : IntKind} (ht : P.underlying t = some (.int k)) (hc : P.cellsOf t = 1) : Opens P t (Kd.int k) (fun n => (Lit.int k n).wf = true) :=
  ⟨hc, fun H enc W base sp held fuel cs x hx => by
    obtain ⟨n, h, hx, hw⟩ := DataW.trod_int ht hx
    exact ⟨n, h, hw⟩⟩
theorem opens_slice {α : Type} {P : Program} {t e : TypeId} {d : Kd α} {G : α → Prop} (ht : P.underlying t = some (.slice e)) (hc : P.cellsOf t = 1) (he : Opens P e d G) :
    Opens P t (Kd.slice e d) (fun xs => xs.length ≤ maxLen ∧ ∀ x ∈ xs, G x) :=
  ⟨hc, fun H enc W base sp held fuel cs x hx => by
    rcases Go.Deep.open_slice ht hx with ⟨rfl, rfl⟩ | ⟨a, len, cap, m, n, D, Pl, rfl, hb, hl, hm, hmm, rfl, hel⟩
    · refine ⟨[], ⟨none, 0, rfl, Nat.le_refl _, rfl, by simp, ?_⟩, by simp, by simp⟩
      intro h; exact absurd h (by simp)
    · have hle : len ≤ m := by rw [hmm]; split <;> omega
      have key : ∀ i, i < len → ∃ p : α, ∃ c : List Value, c.length = d.sz ∧ d.K W p c ∧ G p ∧ ∀ j u, c[j]? = some u → W.cell? (a.add (i * d.sz + j)) = some u := by
        intro i hi
        obtain ⟨c, h1, h2⟩ := hel i (by omega)
        obtain ⟨p, h3, h4⟩ := he.2 H enc W base sp held n c _ h2
        obtain ⟨_, h5, h6⟩ := World.cells?_some h1
        rw [he.1] at h5 h6
        refine ⟨p, c, h5, h3, h4, fun j u hj => ?_⟩
        have hjl : j < d.sz := by
          have := (List.getElem?_eq_some_iff.1 hj).1
          omega
        rw [← Go.Deep.add_add, h6 j hjl, hj]
      have ex : ∃ ps : List α, ps.length = len ∧ ∀ i p, ps[i]? = some p → ∃ c : List Value, c.length = d.sz ∧ d.K W p c ∧ G p ∧ ∀ j u, c[j]? = some u → W.cell? (a.add (i * d.sz + j)) = some u := by
        clear hel hmm hle hl hm hx
        induction len with
        | zero => exact ⟨[], rfl, fun i p h => by simp at h⟩
        | succ k ih =>
          obtain ⟨ps, h1, h2⟩ := ih (fun i hi => key i (by omega))
          obtain ⟨p, hp⟩ := key k (by omega)
          refine ⟨ps ++ [p], by simp [h1], fun i q h => ?_⟩
          by_cases hi : i < ps.length
          · rw [List.getElem?_append_left hi] at h
            exact h2 i q h
          · rw [List.getElem?_append_right (by omega)] at h
            have hi0 : i - ps.length = 0 := by
              have := (List.getElem?_eq_some_iff.1 h).1
              simp at this
              omega
            rw [hi0] at h
            simp at h
            subst h
            have : i = k := by omega
            subst this
            exact hp
      obtain ⟨ps, h1, h2⟩ := ex
      subst h1
      refine ⟨ps, ⟨some a, cap, rfl, hl, rfl, by simp only [maxLen] at hm; omega, fun _ => ⟨a, rfl, fun j p hj => ?_⟩⟩, by omega, fun x hx' => ?_⟩
      · obtain ⟨c, g1, g2, g3, g4⟩ := h2 j p hj
        exact ⟨c, g1, g2, g4⟩
      · obtain ⟨i, hi⟩ := List.getElem?_of_mem hx'
        obtain ⟨c, g1, g2, g3, g4⟩ := h2 i x hi
        exact g3⟩
def OpensAt {α : Type} (P : Program) (fs : List Field) (off : Nat) (d : Kd α) (G : α → Prop) : Prop :=
  ∀ (H : Type) (enc : TypeId × Value → H) (W : World) (base : Nat) (sp : Nat → Bool) (held : Bool) (n : Nat) (cs : List Value),
    cs.length = off + d.sz → (∀ f ∈ fs, ∃ y, DataW.trod enc P W base sp held n f.type ((cs.drop f.offset).take (P.cellsOf f.type)) = some y) → ∃ a, d.K W a (cs.drop off) ∧ G a
theorem at_last {α : Type} {P : Program} {f : Field} {off : Nat} {T : TypeId} {d : Kd α} {G : α → Prop} (hf : f.offset = off) (hT : f.type = T) (h : Opens P T d G) : OpensAt P [f] off d G :=
  fun H enc W base sp held n cs hl hfs => by
    subst hT
    obtain ⟨y, hy⟩ := hfs f (List.mem_singleton.2 rfl)
    rw [hf, h.1, List.take_of_length_le (by rw [List.length_drop]; omega)] at hy
    exact h.2 H enc W base sp held n _ _ hy
theorem at_cons {α β : Type} {P : Program} {f : Field} {fs : List Field} {off : Nat} {T : TypeId} {d : Kd α} {d2 : Kd β} {G : α → Prop} {G2 : β → Prop} (hf : f.offset = off) (hT : f.type = T) (h : Opens P T d G) (h2 : OpensAt P fs (off + d.sz) d2 G2) :
    OpensAt P (f :: fs) off (Kd.pair d d2) (fun x => G x.1 ∧ G2 x.2) :=
  fun H enc W base sp held n cs hl hfs => by
    subst hT
    obtain ⟨y, hy⟩ := hfs f (List.mem_cons_self)
    have hl' : cs.length = off + (d.sz + d2.sz) := hl
    rw [hf, h.1] at hy
    obtain ⟨a, k1, g1⟩ := h.2 H enc W base sp held n _ _ hy
    obtain ⟨b, k2, g2⟩ := h2 H enc W base sp held n cs (by omega) (fun f' hf' => hfs f' (List.mem_cons_of_mem _ hf'))
    refine ⟨(a, b), ⟨_, _, ?_, k1, k2⟩, g1, g2⟩
    rw [← List.drop_drop, List.take_append_drop]
theorem opens_struct {α β : Type} {P : Program} {t : TypeId} {fs : List Field} {d : Kd α} {G : α → Prop} (f : β → α) (g : α → β) (hfg : ∀ x, f (g x) = x) (ht : P.underlying t = some (.struct fs.toArray)) (hc : P.cellsOf t = d.sz) (h : OpensAt P fs 0 d G) :
    Opens P t (Kd.iso d f) (fun x => G (f x)) :=
  ⟨hc, fun H enc W base sp held fuel cs x hx => by
    obtain ⟨xs, n, _, _, hl, hlen, hf⟩ := DataW.trod_struct ht hx
    obtain ⟨a, k, g1⟩ := h H enc W base sp held n cs (by rw [hl, hc]; omega) (fun f' hf' => by
      obtain ⟨i, hi⟩ := List.getElem?_of_mem hf'
      have hi' : fs.toArray[i]? = some f' := by simpa using hi
      have hil : i < xs.length := by
        have := (List.getElem?_eq_some_iff.1 hi).1
        have h2 : xs.length = fs.length := by simpa using hlen
        omega
      have := hf i f' hi'
      rw [List.getElem?_eq_getElem hil] at this
      exact ⟨_, this⟩)
    refine ⟨g a, ?_, ?_⟩
    · show d.K W (f (g a)) cs
      rw [hfg]; simpa using k
    · show G (f (g a))
      rw [hfg]; exact g1⟩
theorem arg_struct {α : Type} {P : Program} {W : World} {r : Reach} {b0 : Nat} {t : TypeId} {fs : Array Field} {d : Kd α} {G : α → Prop} {H : Type} {enc : TypeId × Value → H} {base : Nat} {sp : Nat → Bool} {held : Bool} {v : Value} {x : DataW H} {ps : List MemPlace}
    (ht : P.underlying t = some (.struct fs)) (ho : Opens P t d G) (hv : Value.okWide P W r b0 t v) (h : DataW.Trod enc P W base sp held t v x ps) :
    ∃ (a : α) (cs : List Value), v = .agg cs.toArray ∧ d.K W a cs ∧ G a := by
  obtain ⟨cs, rfl, hsz⟩ := Go.WideShapes.okWide_struct ht hv
  obtain ⟨fuel, hf⟩ := h
  obtain ⟨a, k, g⟩ := ho.2 H enc W base sp held fuel _ _ hf
  exact ⟨a, cs.toList, by simp, by simpa [Value.cells] using k, g⟩
end Go.Proofs.YtcafikgabidphaaGreat.Opn
namespace Go.Proofs.YtcafikgabidphaaGreat.Pure
open Go.RowKit Go.Proofs.YtcafikgabidphaaGreat.G Go.Proofs.YtcafikgabidphaaGreatW.PrintWords Go.Proofs.YtcafikgabidphaaGreatW.PrintLast
def laws_FnExactLearnsIt.Pure : Prop := ∀ (x0 : List S85 × List S71 × List Int × List Int × List S90 × List S90) (a1 : Int), (fun (x : (List S85) × (List S71) × (List Int) × (List Int) × (List S90) × (List S90)) => (fun (xs : List S85) => xs.length ≤ maxLen ∧ ∀ x ∈ xs, (fun (x : S85) => (fun (x : Int × Int × Int × Int) => (fun n => (Lit.int .i64 n).wf = true) x.1 ∧ (fun (x : Int × Int × Int) => (fun n => (Lit.int .i64 n).wf = true) x.1 ∧ (fun (x : Int × Int) => (fun n => (Lit.int .i64 n).wf = true) x.1 ∧ (fun n => (Lit.int .i64 n).wf = true) x.2) x.2) x.2) (x.f0, x.f1, x.f2, x.f3)) x) x.1 ∧ (fun (x : (List S71) × (List Int) × (List Int) × (List S90) × (List S90)) => (fun (xs : List S71) => xs.length ≤ maxLen ∧ ∀ x ∈ xs, (fun (x : S71) => (fun (x : Int × Int × (List S142)) => (fun n => (Lit.int .i64 n).wf = true) x.1 ∧ (fun (x : Int × (List S142)) => (fun n => (Lit.int .i64 n).wf = true) x.1 ∧ (fun (xs : List S142) => xs.length ≤ maxLen ∧ ∀ x ∈ xs, (fun (x : S142) => (fun (x : Int × Int × Int × Int × Int × Int × Int × Int × Int × Int × Int × S139 × Int × Int × Int × S140) => (fun n => (Lit.int .i64 n).wf = true) x.1 ∧ (fun (x : Int × Int × Int × Int × Int × Int × Int × Int × Int × Int × S139 × Int × Int × Int × S140) => (fun n => (Lit.int .i64 n).wf = true) x.1 ∧ (fun (x : Int × Int × Int × Int × Int × Int × Int × Int × Int × S139 × Int × Int × Int × S140) => (fun n => (Lit.int .i64 n).wf = true) x.1 ∧ (fun (x : Int × Int × Int × Int × Int × Int × Int × Int × S139 × Int × Int × Int × S140) => (fun n => (Lit.int .i64 n).wf = true) x.1 ∧ (fun (x : Int × Int × Int × Int × Int × Int × Int × S139 × Int × Int × Int × S140) => (fun n => (Lit.int .i64 n).wf = true) x.1 ∧ (fun (x : Int × Int × Int × Int × Int × Int × S139 × Int × Int × Int × S140) => (fun n => (Lit.int .i64 n).wf = true) x.1 ∧ (fun (x : Int × Int × Int × Int × Int × S139 × Int × Int × Int × S140) => (fun n => (Lit.int .i64 n).wf = true) x.1 ∧ (fun (x : Int × Int × Int × Int × S139 × Int × Int × Int × S140) => (fun n => (Lit.int .i64 n).wf = true) x.1 ∧ (fun (x : Int × Int × Int × S139 × Int × Int × Int × S140) => (fun n => (Lit.int .i64 n).wf = true) x.1 ∧ (fun (x : Int × Int × S139 × Int × Int × Int × S140) => (fun n => (Lit.int .i64 n).wf = true) x.1 ∧ (fun (x : Int × S139 × Int × Int × Int × S140) => (fun n => (Lit.int .i64 n).wf = true) x.1 ∧ (fun (x : S139 × Int × Int × Int × S140) => (fun (x : S139) => (fun (x : Int × Int × Int × Int) => (fun n => (Lit.int .i64 n).wf = true) x.1 ∧ (fun (x : Int × Int × Int) => (fun n => (Lit.int .i64 n).wf = true) x.1 ∧ (fun (x : Int × Int) => (fun n => (Lit.int .i64 n).wf = true) x.1 ∧ (fun n => (Lit.int .i64 n).wf = true) x.2) x.2) x.2) (x.f0, x.f1, x.f2, x.f3)) x.1 ∧ (fun (x : Int × Int × Int × S140) => (fun n => (Lit.int .i64 n).wf = true) x.1 ∧ (fun (x : Int × Int × S140) => (fun n => (Lit.int .i64 n).wf = true) x.1 ∧ (fun (x : Int × S140) => (fun n => (Lit.int .i64 n).wf = true) x.1 ∧ (fun (x : S140) => (fun (x : Int × Int) => (fun n => (Lit.int .i64 n).wf = true) x.1 ∧ (fun n => (Lit.int .i64 n).wf = true) x.2) (x.f0, x.f1)) x.2) x.2) x.2) x.2) x.2) x.2) x.2) x.2) x.2) x.2) x.2) x.2) x.2) x.2) x.2) (x.f0, x.f1, x.f2, x.f3, x.f4, x.f5, x.f6, x.f7, x.f8, x.f9, x.f10, x.f11, x.f12, x.f13, x.f14, x.f15)) x) x.2) x.2) (x.f0, x.f1, x.f2)) x) x.1 ∧ (fun (x : (List Int) × (List Int) × (List S90) × (List S90)) => (fun (xs : List Int) => xs.length ≤ maxLen ∧ ∀ x ∈ xs, (fun n => (Lit.int .i64 n).wf = true) x) x.1 ∧ (fun (x : (List Int) × (List S90) × (List S90)) => (fun (xs : List Int) => xs.length ≤ maxLen ∧ ∀ x ∈ xs, (fun n => (Lit.int .i64 n).wf = true) x) x.1 ∧ (fun (x : (List S90) × (List S90)) => (fun (xs : List S90) => xs.length ≤ maxLen ∧ ∀ x ∈ xs, (fun (x : S90) => (fun (x : Int × Int × Int × Int) => (fun n => (Lit.int .i64 n).wf = true) x.1 ∧ (fun (x : Int × Int × Int) => (fun n => (Lit.int .i64 n).wf = true) x.1 ∧ (fun (x : Int × Int) => (fun n => (Lit.int .i64 n).wf = true) x.1 ∧ (fun n => (Lit.int .i64 n).wf = true) x.2) x.2) x.2) (x.f0, x.f1, x.f2, x.f3)) x) x.1 ∧ (fun (xs : List S90) => xs.length ≤ maxLen ∧ ∀ x ∈ xs, (fun (x : S90) => (fun (x : Int × Int × Int × Int) => (fun n => (Lit.int .i64 n).wf = true) x.1 ∧ (fun (x : Int × Int × Int) => (fun n => (Lit.int .i64 n).wf = true) x.1 ∧ (fun (x : Int × Int) => (fun n => (Lit.int .i64 n).wf = true) x.1 ∧ (fun n => (Lit.int .i64 n).wf = true) x.2) x.2) x.2) (x.f0, x.f1, x.f2, x.f3)) x) x.2) x.2) x.2) x.2) x.2) x0 → (Lit.int .i64 a1).wf = true → ∃ k, laws_FnExactLearnsIt.f k (x0.1) (x0.2.1) (x0.2.2.1) (x0.2.2.2.1) (x0.2.2.2.2.1) (x0.2.2.2.2.2) a1 = some true
end Go.Proofs.YtcafikgabidphaaGreat.Pure
set_option linter.unusedVariables false
set_option linter.unusedSimpArgs false
namespace Go.Proofs.YtcafikgabidphaaGreat.Pure
open Go.RowKit Go.Proofs.YtcafikgabidphaaGreat.G Go.Proofs.YtcafikgabidphaaGreatW.PrintWords Go.Proofs.YtcafikgabidphaaGreatW.PrintLast Go.Proofs.YtcafikgabidphaaGreatW.PrintMore
theorem ev_succ {α : Type} {g : Nat → Option α} {r : α} (h : Ev (fun k => g (k + 1)) r) : Ev g r := by
  obtain ⟨K, hK⟩ := h
  refine ⟨K + 1, fun k hk => ?_⟩
  obtain ⟨m, rfl⟩ : ∃ m, k = m + 1 := ⟨k - 1, by omega⟩
  exact hK m (by omega)
theorem w64' {n : Int} (h0 : -9223372036854775808 ≤ n) (h1 : n ≤ 9223372036854775807) : wrap64 n = n := by unfold wrap64; omega
theorem rd_nat (l : List Int) (i : Nat) : rd l (i : Int) = l.getD i 0 := by simp [rd]
theorem set_split {α : Type} (pre rest : List α) (x y : α) : (pre ++ x :: rest).set pre.length y = pre ++ y :: rest := by
  simp
theorem toInt64S_l0 (l : List Int) (hl : l.length ≤ 9223372036854775807) (z : Int) (d : Nat) : ∀ (k i : Nat), i + d = l.length → d < k →
    laws_toInt64S.l0 k l (l.take i ++ List.replicate d z) i = some l := by
  induction d with
  | zero =>
    intro k i hi hk
    obtain ⟨k, rfl⟩ : ∃ m, k = m + 1 := ⟨k - 1, by omega⟩
    simp only [laws_toInt64S.l0]; rw [if_neg (by omega)]
    simp [List.take_of_length_le (show l.length ≤ i by omega)]
  | succ d ih =>
    intro k i hi hk
    obtain ⟨k, rfl⟩ : ∃ m, k = m + 1 := ⟨k - 1, by omega⟩
    simp only [laws_toInt64S.l0]
    rw [if_pos (by omega), if_pos (by omega), if_pos (by simp; omega), w64' (by omega) (by omega), rd_nat]
    have e : (l.take i ++ List.replicate (d + 1) z).set ((i : Int)).toNat (l.getD i 0) = l.take (i + 1) ++ List.replicate d z := by
      rw [List.replicate_succ]
      have h1 : (l.take i).length = i := by simp; omega
      have := set_split (l.take i) (List.replicate d z) z (l.getD i 0)
      rw [h1] at this
      simp only [Int.toNat_natCast]
      have hg : l.getD i 0 = l[i]'(by omega) := by simp [List.getD, List.getElem?_eq_getElem (show i < l.length by omega)]
      rw [this, hg, List.take_succ_eq_append_getElem (by omega), List.append_assoc]; rfl
    rw [e]
    have := ih k (i + 1) (by omega) (by omega)
    simpa using this
theorem toInt64S_ev (l : List Int) (hl : l.length ≤ 35184372088832) : Ev (fun k => laws_toInt64S.f k l) l := by
  refine ⟨l.length + 1, fun k hk => ?_⟩
  simp only [laws_toInt64S.f]
  rw [if_pos (by omega), if_pos (by simp; omega)]
  have := toInt64S_l0 l (by omega) 0 l.length k 0 (by omega) (by omega)
  simpa using this
theorem eqInt64S_l0 (l : List Int) (hl : l.length ≤ 9223372036854775807) (d : Nat) : ∀ (k i : Nat), i + d = l.length → d < k → laws_eqInt64S.l0 k l l i = some true := by
  induction d with
  | zero =>
    intro k i hi hk
    obtain ⟨k, rfl⟩ : ∃ m, k = m + 1 := ⟨k - 1, by omega⟩
    simp only [laws_eqInt64S.l0]; rw [if_neg (by omega)]
  | succ d ih =>
    intro k i hi hk
    obtain ⟨k, rfl⟩ : ∃ m, k = m + 1 := ⟨k - 1, by omega⟩
    simp only [laws_eqInt64S.l0]
    rw [if_pos (by omega), if_pos (by omega), if_pos (by omega), if_pos trivial, w64' (by omega) (by omega)]
    have := ih k (i + 1) (by omega) (by omega)
    simpa using this
theorem eqInt64S_ev (l : List Int) (hl : l.length ≤ 9223372036854775807) : Ev (fun k => laws_eqInt64S.f k l l) true := by
  refine ⟨l.length + 1, fun k hk => ?_⟩
  simp only [laws_eqInt64S.f, if_true]
  have := eqInt64S_l0 l hl l.length k 0 (by omega) (by omega)
  simpa using this
end Go.Proofs.YtcafikgabidphaaGreat.Pure
set_option linter.unusedVariables false
namespace Go.Proofs.YtcafikgabidphaaGreat.Pure
open Go.RowKit Go.Proofs.YtcafikgabidphaaGreat.G Go.Proofs.YtcafikgabidphaaGreatW.PrintWords
def idxFrom : Int → List Bool → List Int
  | _, [] => []
  | s, b :: bs => if b = true then s :: idxFrom (s + 1) bs else idxFrom (s + 1) bs
theorem riseF_nil (x : Int) : riseF [] x = [x] := by simp [riseF, riseAt]
theorem riseF_lt {a x : Int} (l : List Int) (h : a < x) : riseF (a :: l) x = a :: riseF l x := by
  have e : riseAt (a :: l) x = riseAt l x + 1 := by simp [riseAt, List.takeWhile, h]
  have e2 : rd (a :: l) ((riseAt l x + 1 : Nat) : Int) = rd l (riseAt l x : Int) := by
    unfold rd
    rw [Int.toNat_natCast, Int.toNat_natCast, List.getD_cons_succ]
  unfold riseF
  rw [e, e2]
  simp only [List.length_cons, Nat.add_lt_add_iff_right, List.take_succ_cons, List.drop_succ_cons]
  by_cases hc : riseAt l x < l.length ∧ rd l (riseAt l x : Int) = x
  · rw [if_pos hc, if_pos hc]
  · rw [if_neg hc, if_neg hc]
    simp
theorem riseF_eq (a : Int) (l : List Int) : riseF (a :: l) a = a :: l := by
  have e : riseAt (a :: l) a = 0 := by simp [riseAt, List.takeWhile]
  unfold riseF
  rw [e, if_pos ⟨by simp, by simp [rd]⟩]
theorem riseF_gt {x : Int} (l : List Int) (h : ∀ y ∈ l, x < y) : riseF l x = x :: l := by
  cases l with
  | nil => exact riseF_nil x
  | cons a l =>
    have ha : x < a := h a List.mem_cons_self
    have e : riseAt (a :: l) x = 0 := by
      have : ¬ a < x := by omega
      simp [riseAt, List.takeWhile, this]
    unfold riseF
    rw [e, if_neg (fun hc => by have := hc.2; simp [rd] at this; omega)]
    simp
theorem idxFrom_ge : ∀ (F : List Bool) (s : Int), ∀ y ∈ idxFrom s F, s ≤ y
  | [], s, y, h => by simp [idxFrom] at h
  | b :: bs, s, y, h => by
    unfold idxFrom at h
    have ih := idxFrom_ge bs (s + 1)
    split at h
    · rcases List.mem_cons.1 h with h | h
      · omega
      · have := ih y h; omega
    · have := ih y h; omega
theorem riseF_idx : ∀ (F : List Bool) (s : Int) (i : Nat), i < F.length → riseF (idxFrom s F) (s + i) = idxFrom s (F.set i true)
  | [], s, i, h => by simp at h
  | b :: bs, s, 0, h => by
    show riseF (idxFrom s (b :: bs)) (s + (0 : Nat)) = idxFrom s (true :: bs)
    have e0 : s + ((0 : Nat) : Int) = s := by omega
    rw [e0]
    cases b with
    | true => unfold idxFrom; rw [if_pos rfl]; exact riseF_eq _ _
    | false =>
      unfold idxFrom
      rw [if_neg (by decide), if_pos rfl]
      exact riseF_gt _ (fun y hy => by have := idxFrom_ge bs (s + 1) y hy; omega)
  | b :: bs, s, i + 1, h => by
    show riseF (idxFrom s (b :: bs)) (s + ((i + 1 : Nat) : Int)) = idxFrom s (b :: bs.set i true)
    have e1 : s + ((i + 1 : Nat) : Int) = (s + 1) + (i : Int) := by push_cast; omega
    have ih := riseF_idx bs (s + 1) i (by simpa using h)
    rw [e1]
    unfold idxFrom
    cases b with
    | true => rw [if_pos rfl, if_pos rfl, riseF_lt _ (by omega), ih]
    | false => rw [if_neg (by decide), if_neg (by decide), ih]
theorem idxFrom_none : ∀ (n : Nat) (s : Int), idxFrom s (List.replicate n false) = []
  | 0, s => rfl
  | n + 1, s => by rw [List.replicate_succ]; unfold idxFrom; rw [if_neg (by decide)]; exact idxFrom_none n _
theorem riseF_last : ∀ (l : List Int) (x : Int), (∀ y ∈ l, y < x) → riseF l x = l ++ [x]
  | [], x, _ => riseF_nil x
  | a :: l, x, h => by rw [riseF_lt l (h a List.mem_cons_self), riseF_last l x (fun y hy => h y (List.mem_cons_of_mem _ hy))]; rfl
end Go.Proofs.YtcafikgabidphaaGreat.Pure
set_option linter.unusedVariables false
set_option linter.unusedSimpArgs false
namespace Go.Proofs.YtcafikgabidphaaGreat.Pure
open Go.RowKit Go.Proofs.YtcafikgabidphaaGreat.G Go.Proofs.YtcafikgabidphaaGreatW.PrintWords Go.Proofs.YtcafikgabidphaaGreatW.PrintLast
def hasF (l : List Int) (x : Int) : Nat → Nat → Bool
  | _, 0 => false
  | i, d + 1 => if rd l (i : Int) = x then true else hasF l x (i + 1) d
theorem has_spec (l : List Int) (x : Int) (hl : l.length ≤ 9223372036854775806) (d : Nat) : ∀ (i : Nat), i + d = l.length → Ev (fun k => spec_l1Has.l0 k l x i) (hasF l x i d) := by
  induction d with
  | zero =>
    intro i hi
    refine ev_succ ?_
    simp only [spec_l1Has.l0, show ¬ (i : Int) < (l.length : Int) by omega, if_false]; exact Ev.now _
  | succ d ih =>
    intro i hi
    refine ev_succ ?_
    rw [hasF]
    simp only [spec_l1Has.l0, show (i : Int) < (l.length : Int) by omega, show 0 ≤ (i : Int) by omega, if_true, show wrap64 ((i : Int) + 1) = ((i + 1 : Nat) : Int) by rw [w64' (by omega) (by omega)]; omega]
    by_cases h : rd l (i : Int) = x
    · simp only [if_pos h]; exact Ev.now _
    · simp only [if_neg h]; exact ih (i + 1) (by omega)
def ixF (l : List Int) (x : Int) : Nat → Nat → Int
  | _, 0 => -1
  | i, d + 1 => if x = rd l (i : Int) then i else ixF l x (i + 1) d
theorem ix_impl (l : List Int) (x : Int) (hl : l.length ≤ 9223372036854775806) (d : Nat) : ∀ (i : Nat), i + d = l.length → Ev (fun k => slices_Index_int64_int64.l0 k l x (l.length : Int) i) (ixF l x i d) := by
  induction d with
  | zero =>
    intro i hi
    refine ev_succ ?_
    simp only [slices_Index_int64_int64.l0, show ¬ (i : Int) < (l.length : Int) by omega, if_false]; exact Ev.now _
  | succ d ih =>
    intro i hi
    refine ev_succ ?_
    rw [ixF]
    simp only [slices_Index_int64_int64.l0, show (i : Int) < (l.length : Int) by omega, show 0 ≤ (i : Int) by omega, if_true, show wrap64 ((i : Int) + 1) = ((i + 1 : Nat) : Int) by rw [w64' (by omega) (by omega)]; omega]
    by_cases h : x = rd l (i : Int)
    · simp only [if_pos h]; exact Ev.now _
    · simp only [if_neg h]; exact ih (i + 1) (by omega)
theorem ix_has (l : List Int) (x : Int) (d : Nat) : ∀ i : Nat, decide (ixF l x i d ≥ 0) = hasF l x i d := by
  induction d with
  | zero => intro i; simp [ixF, hasF]
  | succ d ih =>
    intro i
    rw [ixF, hasF]
    by_cases h : rd l (i : Int) = x
    · rw [if_pos h, if_pos h.symm]; exact decide_eq_true (by omega)
    · rw [if_neg h, if_neg (fun e => h e.symm)]; exact ih (i + 1)
theorem has_ev (l : List Int) (x : Int) (hl : l.length ≤ 9223372036854775806) : Ev (fun k => spec_l1Has.f k l x) (hasF l x 0 l.length) := has_spec l x hl l.length 0 (by omega)
theorem contains_ev (l : List Int) (x : Int) (hl : l.length ≤ 9223372036854775806) : Ev (fun k => slices_Contains_int64_int64.f k l x) (hasF l x 0 l.length) := by
  unfold slices_Contains_int64_int64.f
  refine Ev.bind (ix_impl l x hl l.length 0 (by omega)) ?_
  rw [ix_has]
  exact Ev.now _
def knT (lb : List Int) (t : S83) : Bool := decide (t.f0 = 2) && (decide (t.f3 ≤ 9) || hasF lb t.f3 0 lb.length)
def knL (lb : List Int) : Nat → List S83 → List Bool → List Bool
  | _, [], F => F
  | i, t :: ts, F => knL lb (i + 1) ts (if knT lb t = true then F.set i true else F)
theorem kt_ev (lb : List Int) (hl : lb.length ≤ 9223372036854775806) : ∀ (ts : List S83) (i : Nat) (F : List Bool), Ev (fun k => ktL (slices_Contains_int64_int64.f k lb) i ts F) (knL lb i ts F)
  | [], i, F => Ev.now _
  | t :: ts, i, F => by
    unfold ktL knL knT
    by_cases h2 : t.f0 = 2
    · simp only [if_pos h2, decide_eq_true h2, Bool.true_and]
      by_cases h9 : t.f3 ≤ 9
      · simp only [if_pos h9, decide_eq_true h9, Bool.true_or, if_true]; exact kt_ev lb hl ts (i + 1) _
      · simp only [if_neg h9, decide_eq_false h9, Bool.false_or]
        refine Ev.bind (contains_ev lb t.f3 hl) ?_
        by_cases hb : hasF lb t.f3 0 lb.length = true
        · simp only [if_pos hb]; exact kt_ev lb hl ts (i + 1) _
        · simp only [if_neg hb]; exact kt_ev lb hl ts (i + 1) _
    · simp only [if_neg h2, decide_eq_false h2, Bool.false_and, if_false, Bool.false_eq_true]; exact kt_ev lb hl ts (i + 1) _
theorem idx_le : ∀ (F : List Bool) (s : Int), (idxFrom s F).length ≤ F.length
  | [], s => Nat.le_refl _
  | b :: bs, s => by
    have := idx_le bs (s + 1)
    unfold idxFrom
    split <;> simp <;> omega
theorem kw_ev (lb : List Int) (hl : lb.length ≤ 9223372036854775806) : ∀ (ts : List S83) (i : Nat) (F : List Bool), i + ts.length = F.length → F.length ≤ 100000 → Ev (fun k => kwL (spec_l1Has.f k lb) i ts (idxFrom 0 F)) (idxFrom 0 (knL lb i ts F))
  | [], i, F, _, _ => Ev.now _
  | t :: ts, i, F, hi, hF => by
    have hlt : i < F.length := by simp at hi; omega
    have hr : spec_l1Rise.f (idxFrom 0 F) (i : Int) = some (idxFrom 0 (F.set i true)) := by
      unfold spec_l1Rise.f
      have := idx_le F 0
      rw [if_pos (by omega)]
      have e := riseF_idx F 0 i hlt
      rw [Int.zero_add] at e
      rw [e]
    have hs : i + 1 + ts.length = (F.set i true).length := by simp at hi ⊢; omega
    have hn : i + 1 + ts.length = F.length := by simp at hi; omega
    have hL : (F.set i true).length ≤ 100000 := by simpa using hF
    unfold kwL knL knT
    by_cases h2 : t.f0 = 2
    · simp only [if_pos h2, decide_eq_true h2, Bool.true_and]
      by_cases h9 : t.f3 ≤ 9
      · simp only [if_pos (show t.f3 < 10 by omega), decide_eq_true h9, Bool.true_or, if_true, hr, Option.bind_some]; exact kw_ev lb hl ts (i + 1) _ hs hL
      · simp only [if_neg (show ¬ t.f3 < 10 by omega), decide_eq_false h9, Bool.false_or]
        refine Ev.bind (has_ev lb t.f3 hl) ?_
        by_cases hb : hasF lb t.f3 0 lb.length = true
        · simp only [if_pos hb, hr, Option.bind_some]; exact kw_ev lb hl ts (i + 1) _ hs hL
        · simp only [if_neg hb]; exact kw_ev lb hl ts (i + 1) _ hn hF
    · simp only [if_neg h2, decide_eq_false h2, Bool.false_and, if_false, Bool.false_eq_true]; exact kw_ev lb hl ts (i + 1) _ hn hF
end Go.Proofs.YtcafikgabidphaaGreat.Pure
set_option linter.unusedVariables false
set_option linter.unusedSimpArgs false
namespace Go.Proofs.YtcafikgabidphaaGreat.Pure
open Go.RowKit Go.Proofs.YtcafikgabidphaaGreat.G Go.Proofs.YtcafikgabidphaaGreatW.PrintWords Go.Proofs.YtcafikgabidphaaGreatW.PrintLast Go.Proofs.YtcafikgabidphaaGreatW.PrintMore
def tk (b n : Int) : Bool := (Go.bits .and .i64 (shr .i64 b n) 1) == 1
def scan (a b : Int) : Nat → Int → Int
  | 0, _ => 0
  | d + 1, x => if tk b x = true ∧ a - x < 1 then 1 else scan a b d (x + 1)
def WF (a b : Int) : Int := if 0 ≤ a ∧ a ≤ 1099511627776 ∧ 0 ≤ b ∧ b ≤ 4294967295 then (if (a = 0 ∧ b ≠ 0) ∨ (0 < a ∧ tk b 0 = false) then 1 else scan a b 32 0) else 3
theorem in_spec (a b c : Int) : spec_l1In.f a b c = some (decide (b ≤ a ∧ a ≤ c)) := by
  unfold spec_l1In.f; split
  · congr 1; simp; omega
  · congr 1; simp; omega
theorem in_impl (a b c : Int) : impl_in.f a b c = some (decide (b ≤ a ∧ a ≤ c)) := by
  unfold impl_in.f; split
  · congr 1; simp; omega
  · congr 1; simp; omega
theorem w64 {n : Int} (h0 : -9223372036854775808 ≤ n) (h1 : n ≤ 9223372036854775807) : wrap64 n = n := by unfold wrap64; omega
theorem wu64 {n : Int} (h0 : 0 ≤ n) (h1 : n ≤ 9223372036854775807) : IntKind.u64.wrap n = n := by
  simp [IntKind.wrap, IntKind.bits, IntKind.signed]; omega
theorem took (a b n : Int) (h : 0 ≤ n) : impl_Window_took.f a b n = some (tk b n) := by
  unfold impl_Window_took.f; rw [if_pos h]; rfl
theorem wf_spec_l0 (a b : Int) (ha : 0 ≤ a) (ha1 : a ≤ 1099511627776) (d : Nat) : ∀ (k : Nat) (x : Int), 0 ≤ x → x + d = 32 → d < k → spec_WindowFault.l0 k x a b = some (scan a b d x) := by
  induction d with
  | zero =>
    intro k x h0 hx hk
    obtain ⟨k, rfl⟩ : ∃ m, k = m + 1 := ⟨k - 1, by omega⟩
    simp only [spec_WindowFault.l0]; rw [if_neg (by omega)]; rfl
  | succ d ih =>
    intro k x h0 hx hk
    obtain ⟨k, rfl⟩ : ∃ m, k = m + 1 := ⟨k - 1, by omega⟩
    simp only [spec_WindowFault.l0, scan]
    rw [wu64 h0 (by omega), if_pos (by omega), if_pos h0, w64 (by omega) (by omega), w64 (n := x + 1) (by omega) (by omega), ih k (x + 1) (by omega) (by omega) (by omega)]
    by_cases ht : Go.bits .and .i64 (shr .i64 b x) 1 = 1
    · have h2 : tk b x = true := by simp [tk, ht]
      rw [if_pos ht]
      by_cases hl : a - x < 1
      · rw [if_pos hl, if_pos ⟨h2, hl⟩]
      · rw [if_neg hl, if_neg (fun h => hl h.2)]
    · have h2 : ¬ tk b x = true := by simp [tk, ht]
      rw [if_neg ht, if_neg (fun h => h2 h.1)]
theorem wf_impl_l0 (a b : Int) (ha : 0 ≤ a) (ha1 : a ≤ 1099511627776) (d : Nat) : ∀ (k : Nat) (x : Int), 0 ≤ x → x + d = 32 → d < k → impl_WindowFault.l0 k x a b = some (scan a b d x) := by
  induction d with
  | zero =>
    intro k x h0 hx hk
    obtain ⟨k, rfl⟩ : ∃ m, k = m + 1 := ⟨k - 1, by omega⟩
    simp only [impl_WindowFault.l0]; rw [if_neg (by omega)]; rfl
  | succ d ih =>
    intro k x h0 hx hk
    obtain ⟨k, rfl⟩ : ∃ m, k = m + 1 := ⟨k - 1, by omega⟩
    simp only [impl_WindowFault.l0, scan]
    rw [if_pos (by omega), took a b x h0, w64 (by omega) (by omega), w64 (n := x + 1) (by omega) (by omega), ih k (x + 1) (by omega) (by omega) (by omega)]
    simp only [Option.bind_some]
    by_cases ht : tk b x = true
    · rw [if_pos ht]
      by_cases hl : a - x < 1
      · rw [if_pos hl, if_pos ⟨ht, hl⟩]
      · rw [if_neg hl, if_neg (fun h => hl h.2)]
    · rw [if_neg ht, if_neg (fun h => ht h.1)]
theorem and_one (b : Int) : Go.bits .and .i64 b 1 = 0 ∨ Go.bits .and .i64 b 1 = 1 := by
  unfold Go.bits
  have h : ((BitVec.ofInt IntKind.i64.bits b &&& BitVec.ofInt IntKind.i64.bits 1).toNat) = 0 ∨ ((BitVec.ofInt IntKind.i64.bits b &&& BitVec.ofInt IntKind.i64.bits 1).toNat) = 1 := by
    rw [BitVec.toNat_and]
    have : (BitVec.ofInt IntKind.i64.bits 1).toNat = 1 := by decide
    rw [this, Nat.and_one_is_mod]
    omega
  rcases h with h | h
  · left; simp only [h]; decide
  · right; simp only [h]; decide
theorem tk0 (b : Int) : ((Go.bits .and .i64 b 1) == 0) = !(tk b 0) := by
  have e : shr .i64 b 0 = b := by simp [shr]
  unfold tk; rw [e]
  rcases and_one b with h | h <;> rw [h] <;> decide
theorem wf_spec (a b : Int) : Ev (fun k => spec_WindowFault.f k a b) (WF a b) := by
  refine ⟨40, fun k hk => ?_⟩
  obtain ⟨m, rfl⟩ : ∃ m, k = m + 2 := ⟨k - 2, by omega⟩
  unfold spec_WindowFault.f WF
  rw [in_spec, in_spec]
  simp only [Option.bind_some, decide_eq_true_eq]
  by_cases h1 : 0 ≤ a ∧ a ≤ 1099511627776
  · by_cases h2 : 0 ≤ b ∧ b ≤ 4294967295
    · rw [if_pos h1, if_pos ⟨h1.1, h1.2, h2⟩]
      have hl := wf_spec_l0 a b h1.1 h1.2 32 m 0 (by omega) (by omega) (by omega)
      simp only [spec_WindowFault.j0, spec_WindowFault.j1, tk0, hl]
      by_cases ha : a = 0 <;> by_cases hb : b = 0 <;> by_cases hp : 0 < a <;> cases ht : tk b 0 <;> simp [h1, h2, ha, hb, hp] <;> omega
    · rw [if_pos h1, if_neg (fun h => h2 h.2.2)]
      simp [spec_WindowFault.j0, h2]
  · rw [if_neg h1, if_neg (fun h => h1 ⟨h.1, h.2.1⟩)]
    simp [spec_WindowFault.j0]
theorem wf_impl (a b : Int) : Ev (fun k => impl_WindowFault.f k a b) (WF a b) := by
  refine ⟨40, fun k hk => ?_⟩
  obtain ⟨m, rfl⟩ : ∃ m, k = m + 2 := ⟨k - 2, by omega⟩
  unfold impl_WindowFault.f WF
  rw [in_impl, in_impl]
  simp only [Option.bind_some, decide_eq_true_eq]
  by_cases h1 : 0 ≤ a ∧ a ≤ 1099511627776
  · by_cases h2 : 0 ≤ b ∧ b ≤ 4294967295
    · rw [if_pos h1, if_pos ⟨h1.1, h1.2, h2⟩]
      have hl := wf_impl_l0 a b h1.1 h1.2 32 m 0 (by omega) (by omega) (by omega)
      simp only [impl_WindowFault.j0, impl_WindowFault.j1, took a b 0 (by omega), hl, Option.bind_some]
      by_cases ha : a = 0 <;> by_cases hb : b = 0 <;> by_cases hp : 0 < a <;> cases ht : tk b 0 <;> simp [h1, h2, ha, hb, hp] <;> omega
    · rw [if_pos h1, if_neg (fun h => h2 h.2.2)]
      simp [impl_WindowFault.j0, h2]
  · rw [if_neg h1, if_neg (fun h => h1 ⟨h.1, h.2.1⟩)]
    simp [impl_WindowFault.j0]
def toT (x : S85) : S83 := ⟨x.f0, x.f1, x.f2, x.f3⟩
theorem toTermS_l0 (l : List S85) (hl : l.length ≤ 9223372036854775807) (z : S83) (d : Nat) : ∀ (k i : Nat), i + d = l.length → d < k →
    laws_toTermS.l0 k l ((l.map toT).take i ++ List.replicate d z) i = some (l.map toT) := by
  induction d with
  | zero =>
    intro k i hi hk
    obtain ⟨k, rfl⟩ : ∃ m, k = m + 1 := ⟨k - 1, by omega⟩
    simp only [laws_toTermS.l0]; rw [if_neg (by omega)]
    simp [List.take_of_length_le (show (l.map toT).length ≤ i by simp; omega)]
  | succ d ih =>
    intro k i hi hk
    obtain ⟨k, rfl⟩ : ∃ m, k = m + 1 := ⟨k - 1, by omega⟩
    simp only [laws_toTermS.l0, laws_toTerm.f, Option.bind_some]
    rw [if_pos (by omega), if_pos (by omega), if_pos (by simp; omega), w64' (by omega) (by omega)]
    have e : ((l.map toT).take i ++ List.replicate (d + 1) z).set ((i : Int)).toNat (⟨(rd_T85 l i).f0, (rd_T85 l i).f1, (rd_T85 l i).f2, (rd_T85 l i).f3⟩ : S83) = (l.map toT).take (i + 1) ++ List.replicate d z := by
      rw [List.replicate_succ]
      have h1 : ((l.map toT).take i).length = i := by simp; omega
      have := set_split ((l.map toT).take i) (List.replicate d z) z (toT (rd_T85 l i))
      rw [h1] at this
      simp only [Int.toNat_natCast]
      have hg : toT (rd_T85 l i) = (l.map toT)[i]'(by simp; omega) := by simp [rd_T85, List.getD, List.getElem?_eq_getElem (show i < l.length by omega)]
      rw [List.take_succ_eq_append_getElem (by simp; omega), ← hg, List.append_assoc]
      exact this
    rw [e]
    have := ih k (i + 1) (by omega) (by omega)
    simpa using this
theorem toTermS_ev (l : List S85) (hl : l.length ≤ 8796093022208) : Ev (fun k => laws_toTermS.f k l) (l.map toT) := by
  refine ⟨l.length + 1, fun k hk => ?_⟩
  simp only [laws_toTermS.f]
  rw [if_pos (by omega), if_pos (by simp; omega)]
  have := toTermS_l0 l (by omega) z83 l.length k 0 (by omega) (by omega)
  simpa using this
theorem eqTermS_l0 (l : List S83) (hl : l.length ≤ 9223372036854775807) (d : Nat) : ∀ (k i : Nat), i + d = l.length → d < k → laws_eqTermS.l0 k l l i = some true := by
  induction d with
  | zero =>
    intro k i hi hk
    obtain ⟨k, rfl⟩ : ∃ m, k = m + 1 := ⟨k - 1, by omega⟩
    simp only [laws_eqTermS.l0]; rw [if_neg (by omega)]
  | succ d ih =>
    intro k i hi hk
    obtain ⟨k, rfl⟩ : ∃ m, k = m + 1 := ⟨k - 1, by omega⟩
    simp only [laws_eqTermS.l0, laws_eqTerm.f, if_true, Option.bind_some]
    rw [if_pos (by omega), if_pos (by omega), if_pos (by omega), w64' (by omega) (by omega)]
    have := ih k (i + 1) (by omega) (by omega)
    simpa using this
theorem eqTermS_ev (l : List S83) (hl : l.length ≤ 9223372036854775807) : Ev (fun k => laws_eqTermS.f k l l) true := by
  refine ⟨l.length + 1, fun k hk => ?_⟩
  simp only [laws_eqTermS.f, if_true]
  have := eqTermS_l0 l hl l.length k 0 (by omega) (by omega)
  simpa using this
theorem in_specT (a b c : Int) : spec_l1In.f a b c = some (decide (b ≤ a ∧ a ≤ c)) := by
  unfold spec_l1In.f; split
  · congr 1; simp; omega
  · congr 1; simp; omega
theorem kids_ev (a : Int) : Ev (fun k => spec_l5Kids.f k a) (if a = 3 ∨ a = 4 ∨ a = 5 ∨ a = 7 then 2 else if a = 6 then 1 else 0) := by
  refine ⟨1, fun k hk => ?_⟩
  obtain ⟨m, rfl⟩ : ∃ m, k = m + 1 := ⟨k - 1, by omega⟩
  unfold spec_l5Kids.f
  by_cases h3 : a = 3
  · simp [spec_l5Kids.j0, h3]
  · by_cases h4 : a = 4
    · simp [spec_l5Kids.j0, h4]
    · by_cases h5 : a = 5
      · simp [spec_l5Kids.j0, h5]
      · by_cases h7 : a = 7
        · simp [spec_l5Kids.j0, h7]
        · by_cases h6 : a = 6
          · simp [spec_l5Kids.j0, h6]
          · simp [spec_l5Kids.j0, h3, h4, h5, h6, h7]
theorem notIn_iff (l : List S83) (x : Int) : notIn l x = false ↔ (0 ≤ x ∧ x < (l.length : Int)) := by
  unfold notIn; simp; omega
theorem term_ev (a0 a1 a2 a3 : Int) (l : List S83) (hl : l.length ≤ 9223372036854775807) : Ev (fun k => spec_l5Term.f k l a0 a1 a2 a3) (tfault a0 a1 a2 a3 l) := by
  have hw : wrap64 ((l.length : Int) - 1) = (l.length : Int) - 1 := w64' (by omega) (by omega)
  unfold spec_l5Term.f
  simp only [in_specT, Option.bind_some, decide_eq_true_eq]
  unfold tfault
  by_cases hop : 1 ≤ a0 ∧ a0 ≤ 7
  rotate_left
  · simp only [if_neg hop]; exact Ev.now _
  simp only [if_pos hop]
  refine Ev.bind (kids_ev a0) ?_
  -- what stands behind the form's test
  have j2 : ∀ (n : Int) (t : Bool), (t = (a0 == 6 || a0 == 7)) → (a0 = 6 ∨ a0 = 7 → notIn l a1 = false ∧ (n > 1 → notIn l a2 = false)) → Ev (fun k => spec_l5Term.j2 k l n t a0 a1 a2 a3) (if a0 = 6 ∨ a0 = 7 then (if notFresh l a1 = true then 1 else if n > 1 then (if notFresh l a2 = true ∨ a1 > a2 then 1 else 0) else 0) else 0) := by
    intro n t ht hin
    refine ev_succ ?_
    simp only [spec_l5Term.j2]
    by_cases h67 : a0 = 6 ∨ a0 = 7
    · obtain ⟨i1, i2⟩ := hin h67
      rw [notIn_iff] at i1
      have ht' : t = true := by rw [ht]; rcases h67 with h | h <;> simp [h]
      simp only [ht', if_true, if_pos h67, i1.1, i1.2]
      by_cases hf : (rd_T83 l a1).f0 = 2
      · have hf' : notFresh l a1 = false := by unfold notFresh; simp [hf]
        simp only [hf, hf', if_true, Bool.false_eq_true, if_false]
        by_cases hn : n > 1
        · have i2' := i2 hn
          rw [notIn_iff] at i2'
          simp only [hn, if_true, i2'.1, i2'.2]
          by_cases hg : (rd_T83 l a2).f0 = 2
          · have hg' : notFresh l a2 = false := by unfold notFresh; simp [hg]
            simp only [hg, hg', if_true, Bool.false_eq_true, false_or]
            by_cases hgt : a1 > a2
            · simp only [hgt, if_true]; exact Ev.now _
            · simp only [hgt, if_false]; exact Ev.now _
          · have hg' : notFresh l a2 = true := by unfold notFresh; simpa using hg
            simp only [hg, hg', if_false, true_or, if_true]; exact Ev.now _
        · simp only [hn, if_false]; exact Ev.now _
      · have hf' : notFresh l a1 = true := by unfold notFresh; simpa using hf
        simp only [hf, hf', if_false, if_true]; exact Ev.now _
    · have ht' : t = false := by rw [ht]; simp only [not_or] at h67; simp [h67]
      simp only [ht', if_neg h67, Bool.false_eq_true, if_false]; exact Ev.now _
  have j1 : ∀ (n : Int) (t : Bool), (a0 = 6 ∨ a0 = 7 → t = false → notIn l a1 = false ∧ (n > 1 → notIn l a2 = false)) → Ev (fun k => spec_l5Term.j1 k l n t a0 a1 a2 a3) (if t = true then 3 else (if a0 = 6 ∨ a0 = 7 then (if notFresh l a1 = true then 1 else if n > 1 then (if notFresh l a2 = true ∨ a1 > a2 then 1 else 0) else 0) else 0)) := by
    intro n t hin
    refine ev_succ ?_
    simp only [spec_l5Term.j1]
    cases t with
    | true => simp only [if_true]; exact Ev.now _
    | false =>
      simp only [Bool.false_eq_true, if_false]
      by_cases h6 : a0 = 6
      · simp only [if_pos h6]; exact j2 n true (by simp [h6]) (fun h => hin h rfl)
      · simp only [if_neg h6]; exact j2 n (a0 == 7) (by simp [h6]) (fun h => hin h rfl)
  have dn : ∀ x : Int, (!decide (0 ≤ x ∧ x ≤ (l.length : Int) - 1)) = notIn l x := fun x => rfl
  have dt : ∀ x : Int, (0 ≤ x ∧ x ≤ (l.length : Int) - 1) ↔ notIn l x = false := fun x => by rw [notIn_iff]; omega
  by_cases h12 : a0 = 1 ∨ a0 = 2
  · -- names
    have hk : ¬ (a0 = 3 ∨ a0 = 4 ∨ a0 = 5 ∨ a0 = 7) := by omega
    have hk6 : ¬ a0 = 6 := by omega
    have h67 : ¬ (a0 = 6 ∨ a0 = 7) := by omega
    simp only [if_neg hk, if_neg hk6, if_pos h12, show ¬ (0 : Int) > 0 by omega, if_false, show (0 : Int) < 1 by omega, show (0 : Int) < 2 by omega, if_true]
    by_cases ha : a1 = 0
    · simp only [ha, if_true, true_and]
      refine ev_succ ?_
      simp only [spec_l5Term.j0]
      by_cases hb : a2 = 0
      · simp only [hb, bne_self_eq_false, Bool.false_eq_true, if_false, if_true, in_specT, Option.bind_some, decide_eq_true_eq, show ¬ (0 : Int) > 0 by omega, show ¬ (0 : Int) > 1 by omega]
        by_cases hn : 0 ≤ a3 ∧ a3 ≤ 9999
        · simp only [hn, and_self, if_true]
          have := j1 0 false (fun h => absurd h h67)
          simp only [Bool.false_eq_true, if_false, if_neg h67, ha, hb] at this
          exact this
        · simp only [if_neg hn]
          have := j1 0 true (fun h => absurd h h67)
          simp only [if_true, ha, hb] at this
          exact this
      · have hb' : (a2 != 0) = true := by simpa using hb
        simp only [hb', if_true, hb, if_false]; exact Ev.now _
    · simp only [ha, if_false, false_and]
      refine ev_succ ?_
      simp only [spec_l5Term.j0, if_true]; exact Ev.now _
  · by_cases h6 : a0 = 6
    · have hk : ¬ (a0 = 3 ∨ a0 = 4 ∨ a0 = 5 ∨ a0 = 7) := by omega
      simp only [if_neg hk, if_pos h6, if_neg h12, show (1 : Int) > 0 by omega, if_true, show ¬ (1 : Int) < 1 by omega, if_false, show (1 : Int) < 2 by omega]
      by_cases hn : a3 = 0
      · simp only [hn, if_true, and_true]
        refine ev_succ ?_
        simp only [spec_l5Term.j0]
        by_cases hb : a2 = 0
        · simp only [hb, bne_self_eq_false, Bool.false_eq_true, if_false, if_true, in_specT, Option.bind_some, decide_eq_true_eq, show (1 : Int) > 0 by omega, show ¬ (1 : Int) > 1 by omega, show (0 : Int) ≤ 0 ∧ (0 : Int) ≤ 9999 by omega, and_self, hw, List.any_cons, List.any_nil, Bool.or_false]
          cases hi : notIn l a1 with
          | false =>
            simp only [if_pos ((dt a1).2 hi), Bool.false_eq_true, if_false]
            have := j1 1 false (fun h _ => ⟨hi, fun h => absurd h (by omega)⟩)
            simp only [Bool.false_eq_true, if_false, h6, true_or, if_true, show ¬ (1 : Int) > 1 by omega, hb, hn] at this
            rw [h6]
            exact this
          | true =>
            simp only [if_neg (show ¬ (0 ≤ a1 ∧ a1 ≤ (l.length : Int) - 1) from fun h => by rw [(dt a1).1 h] at hi; cases hi), if_true]
            have := j1 1 true (fun _ h => by cases h)
            simp only [if_true, hb, hn] at this
            exact this
        · have hb' : (a2 != 0) = true := by simpa using hb
          simp only [hb', if_true, hb, if_false]; exact Ev.now _
      · simp only [hn, if_false, and_false]
        refine ev_succ ?_
        simp only [spec_l5Term.j0, if_true]; exact Ev.now _
    · have hk : a0 = 3 ∨ a0 = 4 ∨ a0 = 5 ∨ a0 = 7 := by omega
      simp only [if_pos hk, if_neg h6, if_neg h12, show (2 : Int) > 0 by omega, if_true, show ¬ (2 : Int) < 1 by omega, if_false, show ¬ (2 : Int) < 2 by omega]
      by_cases hn : a3 = 0
      · simp only [hn, if_true]
        refine ev_succ ?_
        simp only [spec_l5Term.j0, Bool.false_eq_true, if_false, if_true, in_specT, Option.bind_some, decide_eq_true_eq, show (2 : Int) > 0 by omega, show (2 : Int) > 1 by omega, show (0 : Int) ≤ 0 ∧ (0 : Int) ≤ 9999 by omega, and_self, hw, dn, List.any_cons, List.any_nil, Bool.or_false]
        cases hi : notIn l a1 with
        | true =>
          simp only [if_neg (show ¬ (0 ≤ a1 ∧ a1 ≤ (l.length : Int) - 1) from fun h => by rw [(dt a1).1 h] at hi; cases hi), Bool.true_or, if_true]
          have := j1 2 true (fun _ h => by cases h)
          simp only [if_true, hn] at this
          exact this
        | false =>
          simp only [if_pos ((dt a1).2 hi), Bool.false_or]
          have := j1 2 (notIn l a2) (fun _ h => ⟨hi, fun _ => h⟩)
          simp only [show (2 : Int) > 1 by omega, if_true, h6, false_or, hn] at this
          have e : (if notIn l a2 = true then (3 : Int) else if a0 = 7 then (if notFresh l a1 = true then 1 else if notFresh l a2 = true ∨ a1 > a2 then 1 else 0) else 0) = (if notIn l a2 = true then 3 else if a0 = 7 then (if (notFresh l a1 || notFresh l a2) = true ∨ a1 > a2 then 1 else 0) else 0) := by
            by_cases q0 : notIn l a2 = true
            · rw [if_pos q0, if_pos q0]
            · rw [if_neg q0, if_neg q0]
              by_cases q7 : a0 = 7
              · rw [if_pos q7, if_pos q7]
                cases notFresh l a1 <;> cases notFresh l a2 <;> simp
              · rw [if_neg q7, if_neg q7]
          rw [e] at this
          exact this
      · simp only [hn, if_false]
        refine ev_succ ?_
        simp only [spec_l5Term.j0, if_true]; exact Ev.now _
theorem drop_rdT (l : List S83) (i : Nat) (h : i < l.length) : l.drop i = rd_T83 l (i : Int) :: l.drop (i + 1) := by
  rw [List.drop_eq_getElem_cons h]
  simp [rd_T83, List.getD, List.getElem?_eq_getElem h]
theorem take_rdT (l : List S83) (i : Nat) (h : i < l.length) : l.take (i + 1) = l.take i ++ [rd_T83 l (i : Int)] := by
  rw [List.take_succ_eq_append_getElem h]
  simp [rd_T83, List.getD, List.getElem?_eq_getElem h]
def tidx (l : List S83) (x : S83) (i : Nat) : Int :=
  match (l.drop i).findIdx? fun y => eq4 x y with
  | some j => ((i + j : Nat) : Int)
  | none => -1
theorem find_l0 (l : List S83) (hl : l.length ≤ 9223372036854775807) (x : S83) (d : Nat) : ∀ (k i : Nat), i + d = l.length → d < k → spec_l5Find.l0 k l i x.f0 x.f1 x.f2 x.f3 = some (tidx l x i) := by
  induction d with
  | zero =>
    intro k i hi hk
    obtain ⟨k, rfl⟩ : ∃ m, k = m + 1 := ⟨k - 1, by omega⟩
    simp only [spec_l5Find.l0]; rw [if_neg (by omega)]; unfold tidx; rw [List.drop_of_length_le (by omega)]; rfl
  | succ d ih =>
    intro k i hi hk
    obtain ⟨k, rfl⟩ : ∃ m, k = m + 1 := ⟨k - 1, by omega⟩
    simp only [spec_l5Find.l0]
    rw [if_pos (by omega), if_pos (by omega), w64' (by omega) (by omega)]
    have e := ih k (i + 1) (by omega) (by omega)
    have e' : spec_l5Find.l0 k l ((i : Int) + 1) x.f0 x.f1 x.f2 x.f3 = some (tidx l x (i + 1)) := by simpa using e
    rw [e']
    have sw : (((rd_T83 l i).f0) == x.f0 && (((rd_T83 l i).f1) == x.f1 && (((rd_T83 l i).f2) == x.f2 && (((rd_T83 l i).f3) == x.f3)))) = eq4 x (rd_T83 l i) := by
      unfold eq4; rw [BEq.comm (b := x.f0), BEq.comm (b := x.f1), BEq.comm (b := x.f2), BEq.comm (b := x.f3)]
    rw [sw]
    unfold tidx
    rw [drop_rdT l i (by omega), List.findIdx?_cons]
    cases h : eq4 x (rd_T83 l i)
    · simp only [Bool.false_eq_true, if_false]
      cases (l.drop (i + 1)).findIdx? fun y => eq4 x y with
      | none => rfl
      | some j => simp; omega
    · simp
theorem find_ev (l : List S83) (hl : l.length ≤ 9223372036854775807) (x : S83) : Ev (fun k => spec_l5Find.f k l x.f0 x.f1 x.f2 x.f3) (tidx l x 0) := by
  refine ⟨l.length + 1, fun k hk => ?_⟩
  have := find_l0 l hl x l.length k 0 (by omega) (by omega)
  simpa [spec_l5Find.f] using this
theorem tidx_nonneg (l : List S83) (x : S83) : tidx l x 0 ≥ 0 ↔ l.any (eq4 x) = true := by
  unfold tidx
  rw [List.drop_zero]
  cases h : l.findIdx? fun y => eq4 x y with
  | none =>
    rw [List.findIdx?_eq_none_iff] at h
    constructor
    · intro h'; simp at h'
    · intro h'
      obtain ⟨y, hy, hq⟩ := List.any_eq_true.1 h'
      have := h y hy
      rw [hq] at this; cases this
  | some j =>
    rw [List.findIdx?_eq_some_iff_getElem] at h
    obtain ⟨hj, h3, _⟩ := h
    constructor
    · intro _; exact List.any_eq_true.2 ⟨_, List.getElem_mem hj, h3⟩
    · intro _; simp only [Nat.zero_add]; omega
def TF (l : List S83) : Int := if 400 < l.length then 2 else TFs [] l
theorem tf_spec_l0 (l : List S83) (hl : l.length ≤ 400) (d : Nat) : ∀ (i : Nat), i + d = l.length → Ev (fun k => spec_TermsFault.l0 k l i) (TFs (l.take i) (l.drop i)) := by
  induction d with
  | zero =>
    intro i hi
    refine ev_succ ?_
    simp only [spec_TermsFault.l0, show ¬ (i : Int) < (l.length : Int) by omega, if_false]
    rw [List.drop_of_length_le (by omega)]; exact Ev.now _
  | succ d ih =>
    intro i hi
    refine ev_succ ?_
    simp only [spec_TermsFault.l0, show (i : Int) < (l.length : Int) by omega, show 0 ≤ (i : Int) by omega, show (i : Int) ≤ (l.length : Int) by omega, if_true, Int.toNat_natCast]
    rw [drop_rdT l i (by omega)]
    generalize hx : rd_T83 l (i : Int) = x
    simp only [TFs]
    refine Ev.bind (term_ev _ _ _ _ _ (by rw [List.length_take]; omega)) ?_
    by_cases h0 : tfault x.f0 x.f1 x.f2 x.f3 (l.take i) = 0
    · simp only [h0, if_true]
      refine Ev.bind (find_ev _ (by rw [List.length_take]; omega) x) ?_
      by_cases hh : (l.take i).any (eq4 x) = true
      · simp only [if_pos hh, if_pos ((tidx_nonneg _ _).2 hh)]; exact Ev.now _
      · simp only [if_neg hh, if_neg (fun h => hh ((tidx_nonneg _ _).1 h))]
        rw [w64' (by omega) (by omega), ← hx, ← take_rdT l i (by omega)]
        have := ih (i + 1) (by omega)
        simpa using this
    · simp only [h0, if_false]; exact Ev.now _
theorem tf_spec (l : List S83) : Ev (fun k => spec_TermsFault.f k l) (TF l) := by
  unfold spec_TermsFault.f TF
  by_cases h : 400 < l.length
  · simp only [show (l.length : Int) > 400 by omega, h, if_true]; exact Ev.now _
  · simp only [show ¬ (l.length : Int) > 400 by omega, h, if_false]
    have := tf_spec_l0 l (by omega) l.length 0 (by omega)
    simpa using this
theorem tf_impl {l : List S83} (h : l.all wf4 = true) : impl_TermsFault.f l = some (TF l) := by
  unfold impl_TermsFault.f TF
  rw [if_pos h]
theorem TFs_ok : ∀ (l pre : List S83), TFs pre l = 0 → ∀ i : Nat, i < l.length → tfault (rd_T83 l i).f0 (rd_T83 l i).f1 (rd_T83 l i).f2 (rd_T83 l i).f3 (pre ++ l.take i) = 0
  | [], _, _, i, hi => absurd hi (Nat.not_lt_zero _)
  | x :: r, pre, h, i, hi => by
    simp only [TFs] at h
    by_cases h0 : tfault x.f0 x.f1 x.f2 x.f3 pre = 0
    · rw [if_pos h0] at h
      by_cases hh : pre.any (eq4 x) = true
      · rw [if_pos hh] at h; cases h
      · rw [if_neg hh] at h
        match i, hi with
        | 0, _ => simpa [rd_T83] using h0
        | i + 1, hi =>
          have := TFs_ok r _ h i (by simpa using hi)
          have e : rd_T83 (x :: r) ((i + 1 : Nat) : Int) = rd_T83 r (i : Int) := by simp [rd_T83, List.getD, show ((i : Int) + 1).toNat = i + 1 by omega]
          rw [e, List.take_succ_cons]
          simpa using this
    · rw [if_neg h0] at h; exact absurd h h0
theorem at_ev (l : List S83) (hl : l.length ≤ 9223372036854775807) (a : Int) : spec_l5At.f l a = some (!notIn l a) := by
  unfold spec_l5At.f
  rw [in_specT, w64' (n := (l.length : Int) - 1) (by omega) (by omega)]
  unfold notIn
  simp
theorem wf4_map (l : List S85) (h : ∀ x ∈ l, ((Lit.int .i64 x.f0).wf = true ∧ (Lit.int .i64 x.f1).wf = true ∧ (Lit.int .i64 x.f2).wf = true ∧ (Lit.int .i64 x.f3).wf = true)) : (l.map toT).all wf4 = true := by
  rw [List.all_eq_true]
  intro y hy
  obtain ⟨x, hx, rfl⟩ := List.mem_map.1 hy
  obtain ⟨h0, h1, h2, h3⟩ := h x hx
  unfold wf4 toT
  simp [h0, h1, h2, h3]
def toTk (x : S142) : S114 := ⟨x.f0, x.f1, x.f2, x.f3, x.f4, x.f5, x.f6, x.f7, x.f8, x.f9, x.f10, ⟨x.f11.f0, x.f11.f1, x.f11.f2, x.f11.f3⟩, x.f12, x.f13, x.f14, ⟨x.f15.f0, x.f15.f1⟩⟩
theorem toTalkS_l0 (l : List S142) (hl : l.length ≤ 9223372036854775807) (z : S114) (d : Nat) : ∀ (k i : Nat), i + d = l.length → d < k →
    laws_toTalkS.l0 k l ((l.map toTk).take i ++ List.replicate d z) i = some (l.map toTk) := by
  induction d with
  | zero =>
    intro k i hi hk
    obtain ⟨k, rfl⟩ : ∃ m, k = m + 1 := ⟨k - 1, by omega⟩
    simp only [laws_toTalkS.l0]; rw [if_neg (by omega)]
    simp [List.take_of_length_le (show (l.map toTk).length ≤ i by simp; omega)]
  | succ d ih =>
    intro k i hi hk
    obtain ⟨k, rfl⟩ : ∃ m, k = m + 1 := ⟨k - 1, by omega⟩
    simp only [laws_toTalkS.l0, laws_toTalk.f, laws_toKeys.f, laws_toWindow.f, Option.bind_some]
    rw [if_pos (by omega), if_pos (by omega), if_pos (by simp; omega), w64' (by omega) (by omega)]
    have e : ((l.map toTk).take i ++ List.replicate (d + 1) z).set ((i : Int)).toNat (toTk (rd_T142 l i)) = (l.map toTk).take (i + 1) ++ List.replicate d z := by
      rw [List.replicate_succ]
      have h1 : ((l.map toTk).take i).length = i := by simp; omega
      have := set_split ((l.map toTk).take i) (List.replicate d z) z (toTk (rd_T142 l i))
      rw [h1] at this
      simp only [Int.toNat_natCast]
      have hg : toTk (rd_T142 l i) = (l.map toTk)[i]'(by simp; omega) := by simp [rd_T142, List.getD, List.getElem?_eq_getElem (show i < l.length by omega)]
      rw [List.take_succ_eq_append_getElem (by simp; omega), ← hg, List.append_assoc]
      exact this
    refine (congrArg (fun t => laws_toTalkS.l0 k l t ((i : Int) + 1)) e).trans ?_
    have := ih k (i + 1) (by omega) (by omega)
    simpa using this
theorem toTalkS_ev (l : List S142) (hl : l.length ≤ 1759218604441) : Ev (fun k => laws_toTalkS.f k l) (l.map toTk) := by
  refine ⟨l.length + 1, fun k hk => ?_⟩
  simp only [laws_toTalkS.f]
  rw [if_pos (by omega), if_pos (by simp; omega)]
  have := toTalkS_l0 l (by omega) z114 l.length k 0 (by omega) (by omega)
  simpa using this
theorem eqTalk_same (x : S114) : laws_eqTalk.f x.f0 x.f1 x.f2 x.f3 x.f4 x.f5 x.f6 x.f7 x.f8 x.f9 x.f10 x.f11.f0 x.f11.f1 x.f11.f2 x.f11.f3 x.f12 x.f13 x.f14 x.f15.f0 x.f15.f1 x.f0 x.f1 x.f2 x.f3 x.f4 x.f5 x.f6 x.f7 x.f8 x.f9 x.f10 x.f11.f0 x.f11.f1 x.f11.f2 x.f11.f3 x.f12 x.f13 x.f14 x.f15.f0 x.f15.f1 = some true := by
  unfold laws_eqTalk.f laws_eqKeys.f laws_eqWindow.f
  simp only [if_true, Option.bind_some]
theorem eqTalkS_l0 (l : List S114) (hl : l.length ≤ 9223372036854775807) (d : Nat) : ∀ (k i : Nat), i + d = l.length → d < k → laws_eqTalkS.l0 k l l i = some true := by
  induction d with
  | zero =>
    intro k i hi hk
    obtain ⟨k, rfl⟩ : ∃ m, k = m + 1 := ⟨k - 1, by omega⟩
    simp only [laws_eqTalkS.l0]; rw [if_neg (by omega)]
  | succ d ih =>
    intro k i hi hk
    obtain ⟨k, rfl⟩ : ∃ m, k = m + 1 := ⟨k - 1, by omega⟩
    simp only [laws_eqTalkS.l0, eqTalk_same, if_true, Option.bind_some]
    rw [if_pos (by omega), if_pos (by omega), if_pos (by omega), w64' (by omega) (by omega)]
    have := ih k (i + 1) (by omega) (by omega)
    simpa using this
theorem eqTalkS_ev (l : List S114) (hl : l.length ≤ 9223372036854775807) : Ev (fun k => laws_eqTalkS.f k l l) true := by
  refine ⟨l.length + 1, fun k hk => ?_⟩
  simp only [laws_eqTalkS.f, if_true]
  have := eqTalkS_l0 l hl l.length k 0 (by omega) (by omega)
  simpa using this
def shp (x0 x1 x2 x17 x18 x19 : Int) : Bool :=
  if x1 = 2 ∧ x2 = 1 then false else if ((x1 == 1) || (x2 == 3)) != (x0 != 0) then false else if x2 = 3 then true else if x17 = 0 then (x18 == 0 && (x19 == 0)) else false
theorem form_impl (k : Nat) (x0 x1 x2 x3 x4 x5 x6 x7 x8 x9 x10 x11 x12 x13 x14 x15 x16 x17 x18 x19 : Int) (h : x1 = 1 ∨ x1 = 2) : impl_Talk_formOk.f (k + 2) x0 x1 x2 x3 x4 x5 x6 x7 x8 x9 x10 x11 x12 x13 x14 x15 x16 x17 x18 x19 = some (shp x0 x1 x2 x17 x18 x19, x0, x1, x2, x3, x4, x5, x6, x7, x8, x9, x10, x11, x12, x13, x14, x15, x16, x17, x18, x19) := by
  unfold impl_Talk_formOk.f shp
  simp only [impl_Talk_formOk.j0, impl_Talk_formOk.j1]
  by_cases h0 : x0 = 0
  · rcases h with rfl | rfl
    · by_cases h2 : x2 = 3 <;> by_cases h3 : x2 = 1 <;> by_cases h4 : x17 = 0 <;> first | (simp [h0, h2, h3, h4]; done) | (have q2 : (x2 == 3) = false := (by simpa using h2); have q0 : (x0 != 0) = true := (by simpa using h0); simp [h0, h2, h3, h4, q2, q0]; done)
    · by_cases h2 : x2 = 3 <;> by_cases h3 : x2 = 1 <;> by_cases h4 : x17 = 0 <;> first | (simp [h0, h2, h3, h4]; done) | (have q2 : (x2 == 3) = false := (by simpa using h2); have q0 : (x0 != 0) = true := (by simpa using h0); simp [h0, h2, h3, h4, q2, q0]; done)
  · rcases h with rfl | rfl
    · by_cases h2 : x2 = 3 <;> by_cases h3 : x2 = 1 <;> by_cases h4 : x17 = 0 <;> first | (simp [h0, h2, h3, h4]; done) | (have q2 : (x2 == 3) = false := (by simpa using h2); have q0 : (x0 != 0) = true := (by simpa using h0); simp [h0, h2, h3, h4, q2, q0]; done)
    · by_cases h2 : x2 = 3 <;> by_cases h3 : x2 = 1 <;> by_cases h4 : x17 = 0 <;> first | (simp [h0, h2, h3, h4]; done) | (have q2 : (x2 == 3) = false := (by simpa using h2); have q0 : (x0 != 0) = true := (by simpa using h0); simp [h0, h2, h3, h4, q2, q0]; done)
theorem shape_spec (k : Nat) (x0 x1 x2 x3 x4 x5 x6 x7 x8 x9 x10 x11 x12 x13 x14 x15 x16 x17 x18 x19 : Int) (h : x1 = 1 ∨ x1 = 2) : spec_l11Shape.f (k + 1) x0 x1 x2 x3 x4 x5 x6 x7 x8 x9 x10 x11 x12 x13 x14 x15 x16 x17 x18 x19 = some (shp x0 x1 x2 x17 x18 x19) := by
  unfold spec_l11Shape.f shp
  simp only [spec_l11Shape.j0]
  by_cases h0 : x0 = 0
  · rcases h with rfl | rfl
    · by_cases h2 : x2 = 3 <;> by_cases h3 : x2 = 1 <;> by_cases h4 : x17 = 0 <;> first | (simp [h0, h2, h3, h4]; done) | (have q2 : (x2 == 3) = false := (by simpa using h2); have q0 : (x0 != 0) = true := (by simpa using h0); simp [h0, h2, h3, h4, q2, q0]; done)
    · by_cases h2 : x2 = 3 <;> by_cases h3 : x2 = 1 <;> by_cases h4 : x17 = 0 <;> first | (simp [h0, h2, h3, h4]; done) | (have q2 : (x2 == 3) = false := (by simpa using h2); have q0 : (x0 != 0) = true := (by simpa using h0); simp [h0, h2, h3, h4, q2, q0]; done)
  · rcases h with rfl | rfl
    · by_cases h2 : x2 = 3 <;> by_cases h3 : x2 = 1 <;> by_cases h4 : x17 = 0 <;> first | (simp [h0, h2, h3, h4]; done) | (have q2 : (x2 == 3) = false := (by simpa using h2); have q0 : (x0 != 0) = true := (by simpa using h0); simp [h0, h2, h3, h4, q2, q0]; done)
    · by_cases h2 : x2 = 3 <;> by_cases h3 : x2 = 1 <;> by_cases h4 : x17 = 0 <;> first | (simp [h0, h2, h3, h4]; done) | (have q2 : (x2 == 3) = false := (by simpa using h2); have q0 : (x0 != 0) = true := (by simpa using h0); simp [h0, h2, h3, h4, q2, q0]; done)
def finF (l : List S83) (x2 x7 x8 : Int) : Int := if (rd_T83 l x7).f0 = 2 then (if 2 ≤ x2 then (if (rd_T83 l x8).f0 = 6 then 0 else 1) else 0) else 1
def tkF (l : List S83) (x0 x1 x2 x3 x4 x5 x6 x7 x8 x9 x10 x11 x12 x13 x14 x15 x16 x17 x18 x19 : Int) : Int :=
  if (decide (0 ≤ x0 ∧ x0 ≤ 9) && decide (1 ≤ x1 ∧ x1 ≤ 2) && decide (1 ≤ x2 ∧ x2 ≤ 3) && decide (0 ≤ x3 ∧ x3 ≤ 9999) && decide (0 ≤ x4 ∧ x4 ≤ 9999) && decide (0 ≤ x17 ∧ x17 ≤ 9999)) = true then (if WF x18 x19 = 0 then (if shp x0 x1 x2 x17 x18 x19 = true then (if (tkAny l x2 0 [x5, x7, x9] || tkAny l x2 1 [x6, x8, x10, x11, x12, x13, x14] || tkAny l x2 2 [x15, x16]) = true then 3 else finF l x2 x7 x8) else 1) else WF x18 x19) else 3
theorem tk_impl (l : List S83) (x0 x1 x2 x3 x4 x5 x6 x7 x8 x9 x10 x11 x12 x13 x14 x15 x16 x17 x18 x19 : Int) : Ev (fun k => impl_TalkFault.f k l x0 x1 x2 x3 x4 x5 x6 x7 x8 x9 x10 x11 x12 x13 x14 x15 x16 x17 x18 x19) (tkF l x0 x1 x2 x3 x4 x5 x6 x7 x8 x9 x10 x11 x12 x13 x14 x15 x16 x17 x18 x19) := by
  unfold impl_TalkFault.f tkF
  by_cases hc : (decide (0 ≤ x0 ∧ x0 ≤ 9) && decide (1 ≤ x1 ∧ x1 ≤ 2) && decide (1 ≤ x2 ∧ x2 ≤ 3) && decide (0 ≤ x3 ∧ x3 ≤ 9999) && decide (0 ≤ x4 ∧ x4 ≤ 9999) && decide (0 ≤ x17 ∧ x17 ≤ 9999)) = true
  rotate_left
  · simp only [if_neg hc]; exact Ev.now _
  simp only [if_pos hc]
  refine Ev.bind (wf_impl _ _) ?_
  by_cases hw : WF x18 x19 = 0
  rotate_left
  · simp only [if_neg hw]; exact Ev.now _
  simp only [if_pos hw]
  have h1 : x1 = 1 ∨ x1 = 2 := by simp only [Bool.and_eq_true, decide_eq_true_eq] at hc; omega
  have hf : Ev (fun k => impl_Talk_formOk.f k x0 x1 x2 x3 x4 x5 x6 x7 x8 x9 x10 x11 x12 x13 x14 x15 x16 x17 x18 x19) (shp x0 x1 x2 x17 x18 x19, x0, x1, x2, x3, x4, x5, x6, x7, x8, x9, x10, x11, x12, x13, x14, x15, x16, x17, x18, x19) := ⟨2, fun k hk => by obtain ⟨j, rfl⟩ : ∃ j, k = j + 2 := ⟨k - 2, by omega⟩; exact form_impl j x0 x1 x2 x3 x4 x5 x6 x7 x8 x9 x10 x11 x12 x13 x14 x15 x16 x17 x18 x19 h1⟩
  refine Ev.bind hf ?_
  cases shp x0 x1 x2 x17 x18 x19 with
  | false => simp only [Bool.false_eq_true, if_false]; exact Ev.now _
  | true =>
    simp only [if_true]
    unfold finF
    by_cases ha : (tkAny l x2 0 [x5, x7, x9] || tkAny l x2 1 [x6, x8, x10, x11, x12, x13, x14] || tkAny l x2 2 [x15, x16]) = true
    · simp only [if_pos ha]; exact Ev.now _
    · simp only [if_neg ha]
      split
      · split
        · split <;> exact Ev.now _
        · exact Ev.now _
      · exact Ev.now _
theorem l1_ev (l : List S83) (nt : List Int) (x0 x1 x2 x3 x4 x5 x6 x7 x8 x9 x10 x11 x12 x13 x14 x15 x16 x17 x18 x19 : Int) (hnt : nt.length ≤ 100) (h7 : 0 ≤ x7 ∧ x7 < (l.length : Int)) (h8 : x2 > 1 → 0 ≤ x8 ∧ x8 < (l.length : Int)) (d : Nat) : ∀ (i : Nat), i + d = nt.length →
    Ev (fun k => spec_l11Talk.l1 k l nt i x0 x1 x2 x3 x4 x5 x6 x7 x8 x9 x10 x11 x12 x13 x14 x15 x16 x17 x18 x19) (if (nt.drop i).any (fun x => x != -1) = true then 3 else finF l x2 x7 x8) := by
  induction d with
  | zero =>
    intro i hi
    refine ev_succ ?_
    simp only [spec_l11Talk.l1]
    rw [List.drop_eq_nil_of_le (by omega)]
    simp only [show ¬ (i : Int) < (nt.length : Int) by omega, if_false, h7.1, h7.2, if_true, List.any_nil, Bool.false_eq_true]
    unfold finF
    by_cases f7 : (rd_T83 l x7).f0 = 2
    · simp only [if_pos f7]
      by_cases g : x2 > 1
      · simp only [if_pos g, show 2 ≤ x2 by omega, if_true, (h8 g).1, (h8 g).2]
        split <;> exact Ev.now _
      · simp only [if_neg g, show ¬ 2 ≤ x2 by omega, if_false]; exact Ev.now _
    · simp only [if_neg f7]; exact Ev.now _
  | succ d ih =>
    intro i hi
    refine ev_succ ?_
    simp only [spec_l11Talk.l1]
    have e : nt.drop i = rd nt (i : Int) :: nt.drop (i + 1) := by
      rw [List.drop_eq_getElem_cons (show i < nt.length by omega)]
      congr 1
      simp [rd, List.getD, List.getElem?_eq_getElem (show i < nt.length by omega)]
    rw [e, List.any_cons]
    simp only [show (i : Int) < (nt.length : Int) by omega, show 0 ≤ (i : Int) by omega, if_true, show wrap64 ((i : Int) + 1) = ((i + 1 : Nat) : Int) by rw [w64' (by omega) (by omega)]; omega]
    by_cases h : rd nt (i : Int) = -1
    · have := ih (i + 1) (by omega)
      simp only [if_pos h]
      simpa [h] using this
    · simp only [if_neg h]
      have : (rd nt (i : Int) != -1) = true := by simpa using h
      rw [this]
      simp only [Bool.true_or, if_true]; exact Ev.now _
theorem l0_ev (l : List S83) (hl : l.length ≤ 9223372036854775807) (mu nt : List Int) (x0 x1 x2 x3 x4 x5 x6 x7 x8 x9 x10 x11 x12 x13 x14 x15 x16 x17 x18 x19 : Int) (hmu : mu.length ≤ 100) (hnt : nt.length ≤ 100) (m7 : x7 ∈ mu) (m8 : x2 > 1 → x8 ∈ mu) (d : Nat) : ∀ (i : Nat), i + d = mu.length → (∀ x ∈ mu.take i, notIn l x = false) →
    Ev (fun k => spec_l11Talk.l0 k l mu nt i x0 x1 x2 x3 x4 x5 x6 x7 x8 x9 x10 x11 x12 x13 x14 x15 x16 x17 x18 x19) (if (mu.drop i).any (notIn l) = true then 3 else (if nt.any (fun x => x != -1) = true then 3 else finF l x2 x7 x8)) := by
  induction d with
  | zero =>
    intro i hi hp
    refine ev_succ ?_
    simp only [spec_l11Talk.l0]
    rw [List.drop_eq_nil_of_le (by omega)]
    simp only [show ¬ (i : Int) < (mu.length : Int) by omega, if_false, List.any_nil, Bool.false_eq_true]
    rw [List.take_of_length_le (by omega)] at hp
    have := l1_ev l nt x0 x1 x2 x3 x4 x5 x6 x7 x8 x9 x10 x11 x12 x13 x14 x15 x16 x17 x18 x19 hnt ((notIn_iff l x7).1 (hp _ m7)) (fun g => (notIn_iff l x8).1 (hp _ (m8 g))) nt.length 0 (by omega)
    simpa using this
  | succ d ih =>
    intro i hi hp
    refine ev_succ ?_
    simp only [spec_l11Talk.l0]
    have hg : mu[i]'(by omega) = rd mu (i : Int) := by simp [rd, List.getD, List.getElem?_eq_getElem (show i < mu.length by omega)]
    have e : mu.drop i = rd mu (i : Int) :: mu.drop (i + 1) := by rw [List.drop_eq_getElem_cons (show i < mu.length by omega), hg]
    rw [e, List.any_cons]
    simp only [show (i : Int) < (mu.length : Int) by omega, show 0 ≤ (i : Int) by omega, if_true, show wrap64 ((i : Int) + 1) = ((i + 1 : Nat) : Int) by rw [w64' (by omega) (by omega)]; omega, at_ev l hl, Option.bind_some]
    cases h : notIn l (rd mu (i : Int)) with
    | true => simp only [Bool.not_true, Bool.false_eq_true, if_false, Bool.true_or, if_true]; exact Ev.now _
    | false =>
      simp only [Bool.not_false, if_true, Bool.false_or]
      refine ih (i + 1) (by omega) (fun x hx => ?_)
      rw [List.take_succ_eq_append_getElem (by omega), List.mem_append] at hx
      rcases hx with hx | hx
      · exact hp x hx
      · rw [List.mem_singleton, hg] at hx; rw [hx]; exact h
theorem word9_ev (n : Int) : spec_l9Word.f n = some (decide (0 ≤ n ∧ n ≤ 9999)) := by
  unfold spec_l9Word.f
  rw [in_specT]; rfl
theorem tk_spec (l : List S83) (hl : l.length ≤ 9223372036854775807) (x0 x1 x2 x3 x4 x5 x6 x7 x8 x9 x10 x11 x12 x13 x14 x15 x16 x17 x18 x19 : Int) : Ev (fun k => spec_l11Talk.f k l x0 x1 x2 x3 x4 x5 x6 x7 x8 x9 x10 x11 x12 x13 x14 x15 x16 x17 x18 x19) (tkF l x0 x1 x2 x3 x4 x5 x6 x7 x8 x9 x10 x11 x12 x13 x14 x15 x16 x17 x18 x19) := by
  unfold spec_l11Talk.f tkF
  simp only [in_specT, word9_ev, Option.bind_some]
  have hj : ∀ b : Bool, b = true → Ev (fun k => spec_l11Talk.j0 k l b x0 x1 x2 x3 x4 x5 x6 x7 x8 x9 x10 x11 x12 x13 x14 x15 x16 x17 x18 x19) 3 := fun b hb => by
    refine ev_succ ?_
    simp only [spec_l11Talk.j0, hb, if_true]; exact Ev.now _
  by_cases c1 : decide (0 ≤ x0 ∧ x0 ≤ 9) = true
  rotate_left
  · rw [Bool.not_eq_true] at c1; simp only [c1, Bool.false_and, Bool.false_eq_true, if_false]; exact hj _ rfl
  by_cases c2 : decide (1 ≤ x1 ∧ x1 ≤ 2) = true
  rotate_left
  · rw [Bool.not_eq_true] at c2; simp only [c1, c2, if_true, Bool.and_false, Bool.false_and, Bool.false_eq_true, if_false]; exact hj _ rfl
  by_cases c3 : decide (1 ≤ x2 ∧ x2 ≤ 3) = true
  rotate_left
  · rw [Bool.not_eq_true] at c3; simp only [c1, c2, c3, if_true, Bool.and_false, Bool.false_and, Bool.false_eq_true, if_false]; exact hj _ rfl
  by_cases c4 : decide (0 ≤ x3 ∧ x3 ≤ 9999) = true
  rotate_left
  · rw [Bool.not_eq_true] at c4; simp only [c1, c2, c3, c4, if_true, Bool.and_false, Bool.false_and, Bool.false_eq_true, if_false]; exact hj _ rfl
  by_cases c5 : decide (0 ≤ x4 ∧ x4 ≤ 9999) = true
  rotate_left
  · rw [Bool.not_eq_true] at c5; simp only [c1, c2, c3, c4, c5, if_true, Bool.and_false, Bool.false_and, Bool.false_eq_true, if_false]; exact hj _ rfl
  by_cases c6 : decide (0 ≤ x17 ∧ x17 ≤ 9999) = true
  rotate_left
  · rw [Bool.not_eq_true] at c6; simp only [c1, c2, c3, c4, c5, c6, if_true, Bool.and_false, Bool.not_false, Bool.false_eq_true, if_false]; exact hj _ rfl
  simp only [c1, c2, c3, c4, c5, c6, if_true, Bool.and_true, Bool.not_true]
  have h1 : x1 = 1 ∨ x1 = 2 := by simp only [decide_eq_true_eq] at c2; omega
  have h2 : 1 ≤ x2 ∧ x2 ≤ 3 := by simpa using c3
  clear c1 c2 c3 c4 c5 c6 hj
  refine ev_succ ?_
  simp only [spec_l11Talk.j0, Bool.false_eq_true, if_false]
  refine Ev.bind (wf_spec _ _) ?_
  by_cases hw : WF x18 x19 = 0
  rotate_left
  · simp only [if_neg hw]; exact Ev.now _
  simp only [if_pos hw]
  have hf : Ev (fun k => spec_l11Shape.f k x0 x1 x2 x3 x4 x5 x6 x7 x8 x9 x10 x11 x12 x13 x14 x15 x16 x17 x18 x19) (shp x0 x1 x2 x17 x18 x19) := ⟨1, fun k hk => by obtain ⟨j, rfl⟩ : ∃ j, k = j + 1 := ⟨k - 1, by omega⟩; exact shape_spec j x0 x1 x2 x3 x4 x5 x6 x7 x8 x9 x10 x11 x12 x13 x14 x15 x16 x17 x18 x19 h1⟩
  refine Ev.bind hf ?_
  cases shp x0 x1 x2 x17 x18 x19 with
  | false => simp only [Bool.false_eq_true, if_false]; exact Ev.now _
  | true =>
    simp only [if_true]
    have key : ∀ mu nt : List Int, mu.length ≤ 100 → nt.length ≤ 100 → x7 ∈ mu → (x2 > 1 → x8 ∈ mu) → (mu.any (notIn l) || nt.any (fun x => x != -1)) = (tkAny l x2 0 [x5, x7, x9] || tkAny l x2 1 [x6, x8, x10, x11, x12, x13, x14] || tkAny l x2 2 [x15, x16]) → spec_l11Must.f x0 x1 x2 x3 x4 x5 x6 x7 x8 x9 x10 x11 x12 x13 x14 x15 x16 x17 x18 x19 = some (mu, nt) →
        Ev (fun k => (spec_l11Must.f x0 x1 x2 x3 x4 x5 x6 x7 x8 x9 x10 x11 x12 x13 x14 x15 x16 x17 x18 x19).bind fun bt421 => spec_l11Talk.l0 k l bt421.1 bt421.2 0 x0 x1 x2 x3 x4 x5 x6 x7 x8 x9 x10 x11 x12 x13 x14 x15 x16 x17 x18 x19) (if (tkAny l x2 0 [x5, x7, x9] || tkAny l x2 1 [x6, x8, x10, x11, x12, x13, x14] || tkAny l x2 2 [x15, x16]) = true then 3 else finF l x2 x7 x8) := by
      intro mu nt q1 q2 q3 q4 q5 q6
      rw [q6]
      have := l0_ev l hl mu nt x0 x1 x2 x3 x4 x5 x6 x7 x8 x9 x10 x11 x12 x13 x14 x15 x16 x17 x18 x19 q1 q2 q3 q4 mu.length 0 (by omega) (by simp)
      simp only [List.drop_zero] at this
      rw [← q5]
      simp only [Option.bind_some]
      cases hm : mu.any (notIn l) with
      | true => simpa [hm] using this
      | false => simpa [hm] using this
    have hP : ∀ b : Bool, tkP l b = fun x => if b = true then notIn l x else x != -1 := fun b => rfl
    rcases (show x2 = 1 ∨ x2 = 2 ∨ x2 = 3 by omega) with rfl | rfl | rfl
    · refine key [x5, x7, x9] [x6, x8, x10, x11, x12, x13, x14, x15, x16] (by simp) (by simp) (by simp) (fun h => absurd h (by decide)) ?_ ?_
      · simp [tkAny, tkP, Bool.or_assoc]
      · simp [spec_l11Must.f]
    · refine key [x5, x7, x9, x6, x8, x10, x11, x12, x13, x14] [x15, x16] (by simp) (by simp) (by simp) (by simp) ?_ ?_
      · simp [tkAny, tkP, Bool.or_assoc]
      · simp [spec_l11Must.f]
    · refine key [x5, x7, x9, x6, x8, x10, x11, x12, x13, x14, x15, x16] [] (by simp) (by simp) (by simp) (by simp) ?_ ?_
      · simp [tkAny, tkP, Bool.or_assoc]
      · simp [spec_l11Must.f]
def gtF (l : List S83) (t : List S114) : Nat → Nat → Int
  | _, 0 => 0
  | i, d + 1 => if (tkF l (rd_T114 t (i : Int)).f0 (rd_T114 t (i : Int)).f1 (rd_T114 t (i : Int)).f2 (rd_T114 t (i : Int)).f3 (rd_T114 t (i : Int)).f4 (rd_T114 t (i : Int)).f5 (rd_T114 t (i : Int)).f6 (rd_T114 t (i : Int)).f7 (rd_T114 t (i : Int)).f8 (rd_T114 t (i : Int)).f9 (rd_T114 t (i : Int)).f10 (rd_T114 t (i : Int)).f11.f0 (rd_T114 t (i : Int)).f11.f1 (rd_T114 t (i : Int)).f11.f2 (rd_T114 t (i : Int)).f11.f3 (rd_T114 t (i : Int)).f12 (rd_T114 t (i : Int)).f13 (rd_T114 t (i : Int)).f14 (rd_T114 t (i : Int)).f15.f0 (rd_T114 t (i : Int)).f15.f1) = 0 then gtF l t (i + 1) d else (tkF l (rd_T114 t (i : Int)).f0 (rd_T114 t (i : Int)).f1 (rd_T114 t (i : Int)).f2 (rd_T114 t (i : Int)).f3 (rd_T114 t (i : Int)).f4 (rd_T114 t (i : Int)).f5 (rd_T114 t (i : Int)).f6 (rd_T114 t (i : Int)).f7 (rd_T114 t (i : Int)).f8 (rd_T114 t (i : Int)).f9 (rd_T114 t (i : Int)).f10 (rd_T114 t (i : Int)).f11.f0 (rd_T114 t (i : Int)).f11.f1 (rd_T114 t (i : Int)).f11.f2 (rd_T114 t (i : Int)).f11.f3 (rd_T114 t (i : Int)).f12 (rd_T114 t (i : Int)).f13 (rd_T114 t (i : Int)).f14 (rd_T114 t (i : Int)).f15.f0 (rd_T114 t (i : Int)).f15.f1)
theorem gt_impl (l : List S83) (t : List S114) (ht : t.length ≤ 100) (d : Nat) : ∀ (i : Nat), i + d = t.length → Ev (fun k => impl_GateFault.l0 k l t (t.length : Int) i) (gtF l t i d) := by
  induction d with
  | zero =>
    intro i hi
    refine ev_succ ?_
    simp only [impl_GateFault.l0, show ¬ (i : Int) < (t.length : Int) by omega, if_false]; exact Ev.now _
  | succ d ih =>
    intro i hi
    refine ev_succ ?_
    simp only [impl_GateFault.l0, show (i : Int) < (t.length : Int) by omega, show 0 ≤ (i : Int) by omega, if_true]
    refine Ev.bind (tk_impl l (rd_T114 t (i : Int)).f0 (rd_T114 t (i : Int)).f1 (rd_T114 t (i : Int)).f2 (rd_T114 t (i : Int)).f3 (rd_T114 t (i : Int)).f4 (rd_T114 t (i : Int)).f5 (rd_T114 t (i : Int)).f6 (rd_T114 t (i : Int)).f7 (rd_T114 t (i : Int)).f8 (rd_T114 t (i : Int)).f9 (rd_T114 t (i : Int)).f10 (rd_T114 t (i : Int)).f11.f0 (rd_T114 t (i : Int)).f11.f1 (rd_T114 t (i : Int)).f11.f2 (rd_T114 t (i : Int)).f11.f3 (rd_T114 t (i : Int)).f12 (rd_T114 t (i : Int)).f13 (rd_T114 t (i : Int)).f14 (rd_T114 t (i : Int)).f15.f0 (rd_T114 t (i : Int)).f15.f1) ?_
    rw [gtF]
    by_cases h : (tkF l (rd_T114 t (i : Int)).f0 (rd_T114 t (i : Int)).f1 (rd_T114 t (i : Int)).f2 (rd_T114 t (i : Int)).f3 (rd_T114 t (i : Int)).f4 (rd_T114 t (i : Int)).f5 (rd_T114 t (i : Int)).f6 (rd_T114 t (i : Int)).f7 (rd_T114 t (i : Int)).f8 (rd_T114 t (i : Int)).f9 (rd_T114 t (i : Int)).f10 (rd_T114 t (i : Int)).f11.f0 (rd_T114 t (i : Int)).f11.f1 (rd_T114 t (i : Int)).f11.f2 (rd_T114 t (i : Int)).f11.f3 (rd_T114 t (i : Int)).f12 (rd_T114 t (i : Int)).f13 (rd_T114 t (i : Int)).f14 (rd_T114 t (i : Int)).f15.f0 (rd_T114 t (i : Int)).f15.f1) = 0
    · rw [if_pos h]
      simp only [if_pos h, show wrap64 ((i : Int) + 1) = ((i + 1 : Nat) : Int) by rw [w64' (by omega) (by omega)]; omega]
      exact ih (i + 1) (by omega)
    · rw [if_neg h]
      simp only [if_neg h]; exact Ev.now _
theorem gt_spec (l : List S83) (hl : l.length ≤ 9223372036854775807) (a b : Int) (t : List S114) (ht : t.length ≤ 100) (d : Nat) : ∀ (i : Nat), i + d = t.length → Ev (fun k => spec_l11Gate.l0 k l i a b t) (gtF l t i d) := by
  induction d with
  | zero =>
    intro i hi
    refine ev_succ ?_
    simp only [spec_l11Gate.l0, show ¬ (i : Int) < (t.length : Int) by omega, if_false]; exact Ev.now _
  | succ d ih =>
    intro i hi
    refine ev_succ ?_
    simp only [spec_l11Gate.l0, show (i : Int) < (t.length : Int) by omega, show 0 ≤ (i : Int) by omega, if_true]
    refine Ev.bind (tk_spec l hl (rd_T114 t (i : Int)).f0 (rd_T114 t (i : Int)).f1 (rd_T114 t (i : Int)).f2 (rd_T114 t (i : Int)).f3 (rd_T114 t (i : Int)).f4 (rd_T114 t (i : Int)).f5 (rd_T114 t (i : Int)).f6 (rd_T114 t (i : Int)).f7 (rd_T114 t (i : Int)).f8 (rd_T114 t (i : Int)).f9 (rd_T114 t (i : Int)).f10 (rd_T114 t (i : Int)).f11.f0 (rd_T114 t (i : Int)).f11.f1 (rd_T114 t (i : Int)).f11.f2 (rd_T114 t (i : Int)).f11.f3 (rd_T114 t (i : Int)).f12 (rd_T114 t (i : Int)).f13 (rd_T114 t (i : Int)).f14 (rd_T114 t (i : Int)).f15.f0 (rd_T114 t (i : Int)).f15.f1) ?_
    rw [gtF]
    by_cases h : (tkF l (rd_T114 t (i : Int)).f0 (rd_T114 t (i : Int)).f1 (rd_T114 t (i : Int)).f2 (rd_T114 t (i : Int)).f3 (rd_T114 t (i : Int)).f4 (rd_T114 t (i : Int)).f5 (rd_T114 t (i : Int)).f6 (rd_T114 t (i : Int)).f7 (rd_T114 t (i : Int)).f8 (rd_T114 t (i : Int)).f9 (rd_T114 t (i : Int)).f10 (rd_T114 t (i : Int)).f11.f0 (rd_T114 t (i : Int)).f11.f1 (rd_T114 t (i : Int)).f11.f2 (rd_T114 t (i : Int)).f11.f3 (rd_T114 t (i : Int)).f12 (rd_T114 t (i : Int)).f13 (rd_T114 t (i : Int)).f14 (rd_T114 t (i : Int)).f15.f0 (rd_T114 t (i : Int)).f15.f1) = 0
    · rw [if_pos h]
      simp only [if_pos h, show wrap64 ((i : Int) + 1) = ((i + 1 : Nat) : Int) by rw [w64' (by omega) (by omega)]; omega]
      exact ih (i + 1) (by omega)
    · rw [if_neg h]
      simp only [if_neg h]; exact Ev.now _
def gF (l : List S83) (a b : Int) (t : List S114) : Int :=
  if TF l = 0 then (if (decide (1 ≤ a ∧ a ≤ 9) && decide (0 ≤ b ∧ b ≤ 90)) = true then (if 12 < t.length then 2 else gtF l t 0 t.length) else 3) else TF l
theorem in_implG (a b c : Int) : impl_in.f a b c = some (decide (b ≤ a ∧ a ≤ c)) := impl_in_eq a b c
theorem gf_impl {l : List S83} (hw : l.all wf4 = true) (a b : Int) (t : List S114) : Ev (fun k => impl_GateFault.f k l a b t) (gF l a b t) := by
  unfold impl_GateFault.f gF impl_isId.f
  simp only [tf_impl hw, Option.bind_some, in_implG]
  by_cases h0 : TF l = 0
  rotate_left
  · simp only [if_neg h0]; exact Ev.now _
  simp only [if_pos h0]
  have hj : ∀ c : Bool, Ev (fun k => impl_GateFault.j0 k l c a b t) (if c = true then 3 else if 12 < t.length then 2 else gtF l t 0 t.length) := fun c => by
    refine ev_succ ?_
    simp only [impl_GateFault.j0]
    cases c with
    | true => simp only [if_true]; exact Ev.now _
    | false =>
      simp only [Bool.false_eq_true, if_false]
      by_cases h : 12 < t.length
      · simp only [show (t.length : Int) > 12 by omega, if_true, h]; exact Ev.now _
      · simp only [show ¬ (t.length : Int) > 12 by omega, if_false, h]
        exact gt_impl l t (by omega) t.length 0 (by omega)
  cases h1 : decide (1 ≤ a ∧ a ≤ 9) with
  | false => simpa using hj true
  | true =>
    cases h2 : decide (0 ≤ b ∧ b ≤ 90) with
    | false => simpa using hj true
    | true => simpa using hj false
end Go.Proofs.YtcafikgabidphaaGreat.Pure
set_option linter.unusedVariables false
set_option linter.unusedSimpArgs false
namespace Go.Proofs.YtcafikgabidphaaGreat.Pure
open Go.RowKit Go.Proofs.YtcafikgabidphaaGreat.G Go.Proofs.YtcafikgabidphaaGreatW.PrintWords Go.Proofs.YtcafikgabidphaaGreatW.PrintLast
def bfF (l : List Int) : Nat → Nat → Int
  | _, 0 => 0
  | i, d + 1 => if 9011 ≤ rd l (i : Int) ∧ rd l (i : Int) ≤ 9099 then (if i > 0 then (if rd l (i : Int) ≤ rd l ((i - 1 : Nat) : Int) then 1 else bfF l (i + 1) d) else bfF l (i + 1) d) else 3
theorem inN_spec (a b c : Int) : spec_l1In.f a b c = some (decide (b ≤ a ∧ a ≤ c)) := by
  unfold spec_l1In.f
  by_cases h1 : b ≤ a <;> by_cases h2 : a ≤ c <;> simp [h1, h2]
theorem inN_impl (a b c : Int) : impl_in.f a b c = some (decide (b ≤ a ∧ a ≤ c)) := by
  unfold impl_in.f
  by_cases h1 : b ≤ a <;> by_cases h2 : a ≤ c <;> simp [h1, h2]
theorem broken_spec (l : List Int) (hl : l.length ≤ 10) (d : Nat) : ∀ (i : Nat), i + d = l.length → Ev (fun k => spec_l12Broken.l0 k l i) (bfF l i d) := by
  induction d with
  | zero =>
    intro i hi
    refine ev_succ ?_
    simp only [spec_l12Broken.l0, show ¬ (i : Int) < (l.length : Int) by omega, if_false]; exact Ev.now _
  | succ d ih =>
    intro i hi
    refine ev_succ ?_
    rw [bfF]
    simp only [spec_l12Broken.l0, show (i : Int) < (l.length : Int) by omega, show 0 ≤ (i : Int) by omega, if_true, inN_spec, Option.bind_some, decide_eq_true_eq, show wrap64 ((i : Int) + 1) = ((i + 1 : Nat) : Int) by rw [w64' (by omega) (by omega)]; omega]
    by_cases h : 9011 ≤ rd l (i : Int) ∧ rd l (i : Int) ≤ 9099
    · simp only [if_pos h]
      by_cases h0 : i > 0
      · simp only [show (i : Int) > 0 by omega, h0, if_true, show wrap64 ((i : Int) - 1) = ((i - 1 : Nat) : Int) by rw [w64' (by omega) (by omega)]; omega, show 0 ≤ ((i - 1 : Nat) : Int) by omega, show ((i - 1 : Nat) : Int) < (l.length : Int) by omega]
        by_cases h2 : rd l (i : Int) ≤ rd l ((i - 1 : Nat) : Int)
        · simp only [if_pos h2]; exact Ev.now _
        · simp only [if_neg h2]; exact ih (i + 1) (by omega)
      · simp only [show ¬ (i : Int) > 0 by omega, h0, if_false]; exact ih (i + 1) (by omega)
    · simp only [if_neg h]; exact Ev.now _
theorem broken_impl (l : List Int) (hl : l.length ≤ 10) (d : Nat) : ∀ (i : Nat), i + d = l.length → Ev (fun k => impl_brokenFault.l0 k l l (l.length : Int) i) (bfF l i d) := by
  induction d with
  | zero =>
    intro i hi
    refine ev_succ ?_
    simp only [impl_brokenFault.l0, show ¬ (i : Int) < (l.length : Int) by omega, if_false]; exact Ev.now _
  | succ d ih =>
    intro i hi
    refine ev_succ ?_
    rw [bfF]
    simp only [impl_brokenFault.l0, show (i : Int) < (l.length : Int) by omega, show 0 ≤ (i : Int) by omega, if_true, inN_impl, Option.bind_some, decide_eq_true_eq, show wrap64 ((i : Int) + 1) = ((i + 1 : Nat) : Int) by rw [w64' (by omega) (by omega)]; omega]
    by_cases h : 9011 ≤ rd l (i : Int) ∧ rd l (i : Int) ≤ 9099
    · simp only [if_pos h]
      by_cases h0 : i > 0
      · simp only [show (i : Int) > 0 by omega, h0, if_true, show wrap64 ((i : Int) - 1) = ((i - 1 : Nat) : Int) by rw [w64' (by omega) (by omega)]; omega, show 0 ≤ ((i - 1 : Nat) : Int) by omega, show ((i - 1 : Nat) : Int) < (l.length : Int) by omega]
        by_cases h2 : rd l (i : Int) ≤ rd l ((i - 1 : Nat) : Int)
        · simp only [show rd l ((i - 1 : Nat) : Int) ≥ rd l (i : Int) from h2, if_pos h2, if_true]; exact Ev.now _
        · simp only [show ¬ rd l ((i - 1 : Nat) : Int) ≥ rd l (i : Int) from h2, if_neg h2, if_false]; exact ih (i + 1) (by omega)
      · simp only [show ¬ (i : Int) > 0 by omega, h0, if_false]; exact ih (i + 1) (by omega)
    · simp only [if_neg h]; exact Ev.now _
def bf (l : List Int) : Int := if l.length > 10 then 2 else bfF l 0 l.length
theorem bf_spec (l : List Int) : Ev (fun k => spec_l12Broken.f k l) (bf l) := by
  unfold spec_l12Broken.f bf
  by_cases h : l.length > 10
  · simp only [show (l.length : Int) > 10 by omega, h, if_true]; exact Ev.now _
  · simp only [show ¬ (l.length : Int) > 10 by omega, h, if_false]; exact broken_spec l (by omega) l.length 0 (by omega)
theorem bf_impl (l : List Int) : Ev (fun k => impl_brokenFault.f k l) (bf l) := by
  unfold impl_brokenFault.f bf
  by_cases h : l.length > 10
  · simp only [show (l.length : Int) > 10 by omega, h, if_true]; exact Ev.now _
  · simp only [show ¬ (l.length : Int) > 10 by omega, h, if_false]; exact broken_impl l (by omega) l.length 0 (by omega)
end Go.Proofs.YtcafikgabidphaaGreat.Pure
set_option linter.unusedVariables false
set_option linter.unusedSimpArgs false
namespace Go.Proofs.YtcafikgabidphaaGreat.Pure
open Go.RowKit Go.Proofs.YtcafikgabidphaaGreat.G Go.Proofs.YtcafikgabidphaaGreatW.PrintWords Go.Proofs.YtcafikgabidphaaGreatW.PrintLast Go.Proofs.YtcafikgabidphaaGreatW.PrintMore
def toGv (x : S90) : S88 := ⟨x.f0, x.f1, x.f2, x.f3⟩
def toGt (x : S71) : S76 := ⟨x.f0, x.f1, x.f2.map toTk⟩
theorem set_row {α : Type} (L : List α) (i d : Nat) (z : α) (h : i < L.length) : (L.take i ++ List.replicate (d + 1) z).set i (L[i]'h) = L.take (i + 1) ++ List.replicate d z := by
  rw [List.replicate_succ]
  have h1 : (L.take i).length = i := by simp; omega
  have := set_split (L.take i) (List.replicate d z) z (L[i]'h)
  rw [h1] at this
  rw [List.take_succ_eq_append_getElem h, List.append_assoc]
  exact this
theorem toGivenS_l0 (l : List S90) (hl : l.length ≤ 9223372036854775807) (z : S88) (d : Nat) : ∀ (i : Nat), i + d = l.length →
    Ev (fun k => laws_toGivenS.l0 k l ((l.map toGv).take i ++ List.replicate d z) i) (l.map toGv) := by
  induction d with
  | zero =>
    intro i hi
    refine ev_succ ?_
    simp only [laws_toGivenS.l0, show ¬ (i : Int) < (l.length : Int) by omega, if_false]
    rw [List.replicate_zero, List.append_nil, List.take_of_length_le (show (l.map toGv).length ≤ i by simp; omega)]
    exact Ev.now _
  | succ d ih =>
    intro i hi
    refine ev_succ ?_
    have hlen : ((l.map toGv).take i ++ List.replicate (d + 1) z).length = l.length := by simp; omega
    simp only [laws_toGivenS.l0, laws_toGiven.f, Option.bind_some, show (i : Int) < (l.length : Int) by omega, show 0 ≤ (i : Int) by omega, if_true, hlen, show wrap64 ((i : Int) + 1) = ((i + 1 : Nat) : Int) by rw [w64' (by omega) (by omega)]; omega, Int.toNat_natCast]
    have hg : (⟨(rd_T90 l i).f0, (rd_T90 l i).f1, (rd_T90 l i).f2, (rd_T90 l i).f3⟩ : S88) = (l.map toGv)[i]'(by simp; omega) := by simp [rd_T90, List.getD, List.getElem?_eq_getElem (show i < l.length by omega), toGv]
    rw [hg, set_row (l.map toGv) i d z (by simp; omega)]
    exact ih (i + 1) (by omega)
theorem toGivenS_ev (l : List S90) (hl : l.length ≤ 8796093022208) : Ev (fun k => laws_toGivenS.f k l) (l.map toGv) := by
  unfold laws_toGivenS.f
  simp only [show 0 ≤ (l.length : Int) by omega, Int.toNat_natCast, hl, if_true]
  have := toGivenS_l0 l (by omega) z88 l.length 0 (by omega)
  simpa using this
theorem toGateS_l0 (l : List S71) (hl : l.length ≤ 9223372036854775807) (hb : ∀ i : Nat, i < l.length → (rd_T71 l i).f2.length ≤ 1759218604441) (z : S76) (d : Nat) : ∀ (i : Nat), i + d = l.length →
    Ev (fun k => laws_toGateS.l0 k l ((l.map toGt).take i ++ List.replicate d z) i) (l.map toGt) := by
  induction d with
  | zero =>
    intro i hi
    refine ev_succ ?_
    simp only [laws_toGateS.l0, show ¬ (i : Int) < (l.length : Int) by omega, if_false]
    rw [List.replicate_zero, List.append_nil, List.take_of_length_le (show (l.map toGt).length ≤ i by simp; omega)]
    exact Ev.now _
  | succ d ih =>
    intro i hi
    refine ev_succ ?_
    have hlen : ((l.map toGt).take i ++ List.replicate (d + 1) z).length = l.length := by simp; omega
    simp only [laws_toGateS.l0, show (i : Int) < (l.length : Int) by omega, show 0 ≤ (i : Int) by omega, if_true, hlen, show wrap64 ((i : Int) + 1) = ((i + 1 : Nat) : Int) by rw [w64' (by omega) (by omega)]; omega, Int.toNat_natCast]
    have ht : Ev (fun k => laws_toGate.f k (rd_T71 l i).f0 (rd_T71 l i).f1 (rd_T71 l i).f2) ((rd_T71 l i).f0, (rd_T71 l i).f1, (rd_T71 l i).f2.map toTk) := by
      unfold laws_toGate.f
      exact Ev.bind (toTalkS_ev _ (hb i (by omega))) (Ev.now _)
    refine Ev.bind ht ?_
    have hg : (⟨(rd_T71 l i).f0, (rd_T71 l i).f1, (rd_T71 l i).f2.map toTk⟩ : S76) = (l.map toGt)[i]'(by simp; omega) := by simp [rd_T71, List.getD, List.getElem?_eq_getElem (show i < l.length by omega), toGt]
    rw [hg, set_row (l.map toGt) i d z (by simp; omega)]
    exact ih (i + 1) (by omega)
theorem toGateS_ev (l : List S71) (hl : l.length ≤ 1048576) (hb : ∀ i : Nat, i < l.length → (rd_T71 l i).f2.length ≤ 1759218604441) : Ev (fun k => laws_toGateS.f k l) (l.map toGt) := by
  unfold laws_toGateS.f
  simp only [show 0 ≤ (l.length : Int) by omega, Int.toNat_natCast, show l.length ≤ 7036874417766 by omega, if_true]
  have := toGateS_l0 l (by omega) hb z76 l.length 0 (by omega)
  simpa using this
theorem eqGivenS_l0 (l : List S88) (hl : l.length ≤ 9223372036854775806) (d : Nat) : ∀ (i : Nat), i + d = l.length → Ev (fun k => laws_eqGivenS.l0 k l l i) true := by
  induction d with
  | zero =>
    intro i hi
    refine ev_succ ?_
    simp only [laws_eqGivenS.l0, show ¬ (i : Int) < (l.length : Int) by omega, if_false]; exact Ev.now _
  | succ d ih =>
    intro i hi
    refine ev_succ ?_
    simp only [laws_eqGivenS.l0, laws_eqGiven.f, Option.bind_some, show (i : Int) < (l.length : Int) by omega, show 0 ≤ (i : Int) by omega, if_true, show wrap64 ((i : Int) + 1) = ((i + 1 : Nat) : Int) by rw [w64' (by omega) (by omega)]; omega]
    exact ih (i + 1) (by omega)
theorem eqGivenS_ev (l : List S88) (hl : l.length ≤ 1048576) : Ev (fun k => laws_eqGivenS.f k l l) true := by
  unfold laws_eqGivenS.f
  simp only [if_true]
  exact eqGivenS_l0 l (by omega) l.length 0 (by omega)
theorem eqGateS_l0 (l : List S76) (hl : l.length ≤ 9223372036854775806) (hb : ∀ i : Nat, i < l.length → (rd_T76 l i).f2.length ≤ 9223372036854775807) (d : Nat) : ∀ (i : Nat), i + d = l.length → Ev (fun k => laws_eqGateS.l0 k l l i) true := by
  induction d with
  | zero =>
    intro i hi
    refine ev_succ ?_
    simp only [laws_eqGateS.l0, show ¬ (i : Int) < (l.length : Int) by omega, if_false]; exact Ev.now _
  | succ d ih =>
    intro i hi
    refine ev_succ ?_
    simp only [laws_eqGateS.l0, show (i : Int) < (l.length : Int) by omega, show 0 ≤ (i : Int) by omega, if_true, show wrap64 ((i : Int) + 1) = ((i + 1 : Nat) : Int) by rw [w64' (by omega) (by omega)]; omega]
    have hq : Ev (fun k => laws_eqGate.f k (rd_T76 l i).f0 (rd_T76 l i).f1 (rd_T76 l i).f2 (rd_T76 l i).f0 (rd_T76 l i).f1 (rd_T76 l i).f2) true := by
      unfold laws_eqGate.f
      simp only [if_true]
      refine Ev.bind (eqTalkS_ev _ (hb i (by omega))) ?_
      simp only [if_true]; exact Ev.now _
    refine Ev.bind hq ?_
    simp only [if_true]
    exact ih (i + 1) (by omega)
theorem eqGateS_ev (l : List S76) (hl : l.length ≤ 1048576) (hb : ∀ i : Nat, i < l.length → (rd_T76 l i).f2.length ≤ 9223372036854775807) : Ev (fun k => laws_eqGateS.f k l l) true := by
  unfold laws_eqGateS.f
  simp only [if_true]
  exact eqGateS_l0 l (by omega) hb l.length 0 (by omega)
theorem sz_take {α : Type} (l : List α) (a : Int) (h0 : 0 ≤ a) (h1 : a ≤ 1048576) (hl : l.length ≤ 9223372036854775807) : ∃ v, (if (wrap64 (a - (l.length : Int))) < 0 then (some (-1)) else (some (wrap64 (a - (l.length : Int))))) = some v ∧ (v < 0 ∨ (0 ≤ v ∧ v ≤ a ∧ l.length ≤ 1048576)) := by
  rw [w64' (show -9223372036854775808 ≤ a - (l.length : Int) by omega) (show a - (l.length : Int) ≤ 9223372036854775807 by omega)]
  by_cases h : a - (l.length : Int) < 0
  · exact ⟨-1, if_pos h, .inl (by omega)⟩
  · exact ⟨_, if_neg h, .inr ⟨by omega, by omega, by omega⟩⟩
theorem szGateS_l0 (l : List S71) (hm : l.length ≤ 9223372036854775807) (hb : ∀ i : Nat, i < l.length → (rd_T71 l i).f2.length ≤ 9223372036854775807) (d : Nat) : ∀ (i : Nat) (a : Int), i + d = l.length → 0 ≤ a → a ≤ 1048576 →
    ∃ v, Ev (fun k => laws_szGateS.l0 k l a i) v ∧ (v < 0 ∨ (0 ≤ v ∧ v ≤ a ∧ ∀ j : Nat, i ≤ j → j < l.length → (rd_T71 l j).f2.length ≤ 1048576)) := by
  induction d with
  | zero =>
    intro i a hi h0 h1
    refine ⟨a, ev_succ ?_, .inr ⟨h0, by omega, fun j hj hj' => by omega⟩⟩
    simp only [laws_szGateS.l0, show ¬ (i : Int) < (l.length : Int) by omega, if_false]; exact Ev.now _
  | succ d ih =>
    intro i a hi h0 h1
    obtain ⟨v, hv, hq⟩ := sz_take (rd_T71 l i).f2 a h0 h1 (hb i (by omega))
    have hs : laws_szGate.f (rd_T71 l i).f0 (rd_T71 l i).f1 (rd_T71 l i).f2 a = some (if v < 0 then -1 else v) := by
      unfold laws_szGate.f laws_szTalkS.f
      rw [hv]
      simp only [Option.bind_some]
      by_cases h : v < 0
      · simp only [if_pos h]
      · simp only [if_neg h]
    rcases hq with hq | ⟨h2, h3, h4⟩
    · refine ⟨-1, ev_succ ?_, .inl (by omega)⟩
      simp only [laws_szGateS.l0, show (i : Int) < (l.length : Int) by omega, show 0 ≤ (i : Int) by omega, if_true, hs, Option.bind_some, if_pos hq, show (-1 : Int) < 0 by decide]
      exact Ev.now _
    · obtain ⟨u, hu, hx⟩ := ih (i + 1) v (by omega) h2 (by omega)
      refine ⟨u, ev_succ ?_, ?_⟩
      · simp only [laws_szGateS.l0, show (i : Int) < (l.length : Int) by omega, show 0 ≤ (i : Int) by omega, if_true, hs, Option.bind_some, show ¬ v < 0 by omega, if_false, show wrap64 ((i : Int) + 1) = ((i + 1 : Nat) : Int) by rw [w64' (by omega) (by omega)]; omega]
        exact hu
      · rcases hx with hx | ⟨x0, x1, x2⟩
        · exact .inl hx
        · refine .inr ⟨x0, by omega, fun j hj hj' => ?_⟩
          by_cases e : j = i
          · subst e; exact h4
          · exact x2 j (by omega) hj'
theorem szGateS_ev (l : List S71) (a : Int) (hm : l.length ≤ 9223372036854775807) (hb : ∀ i : Nat, i < l.length → (rd_T71 l i).f2.length ≤ 9223372036854775807) (h0 : 0 ≤ a) (h1 : a ≤ 1048576) :
    ∃ v, Ev (fun k => laws_szGateS.f k l a) v ∧ (v < 0 ∨ (0 ≤ v ∧ v ≤ a ∧ l.length ≤ 1048576 ∧ ∀ j : Nat, j < l.length → (rd_T71 l j).f2.length ≤ 1048576)) := by
  unfold laws_szGateS.f
  rw [w64' (show -9223372036854775808 ≤ a - (l.length : Int) by omega) (show a - (l.length : Int) ≤ 9223372036854775807 by omega)]
  by_cases h : a - (l.length : Int) < 0
  · exact ⟨-1, by simp only [if_pos h]; exact Ev.now _, .inl (by omega)⟩
  · obtain ⟨v, hv, hq⟩ := szGateS_l0 l hm hb l.length 0 (a - (l.length : Int)) (by omega) (by omega) (by omega)
    refine ⟨v, by simp only [if_neg h]; exact hv, ?_⟩
    rcases hq with hq | ⟨x0, x1, x2⟩
    · exact .inl hq
    · exact .inr ⟨x0, by omega, by omega, fun j hj => x2 j (by omega) hj⟩
theorem szNet_ev (l0 : List S85) (l1 : List S71) (l2 l3 : List Int) (l4 l5 : List S90) (hm0 : l0.length ≤ 9223372036854775807) (hm1 : l1.length ≤ 9223372036854775807) (hm2 : l2.length ≤ 9223372036854775807) (hm3 : l3.length ≤ 9223372036854775807) (hm4 : l4.length ≤ 9223372036854775807) (hm5 : l5.length ≤ 9223372036854775807) (hb : ∀ i : Nat, i < l1.length → (rd_T71 l1 i).f2.length ≤ 9223372036854775807) :
    ∃ v, Ev (fun k => laws_szNet.f k l0 l1 l2 l3 l4 l5 1048576) v ∧ (v < 0 ∨ (l0.length ≤ 1048576 ∧ l1.length ≤ 1048576 ∧ l2.length ≤ 1048576 ∧ l3.length ≤ 1048576 ∧ l4.length ≤ 1048576 ∧ l5.length ≤ 1048576 ∧ ∀ j : Nat, j < l1.length → (rd_T71 l1 j).f2.length ≤ 1048576)) := by
  unfold laws_szNet.f laws_szTermS.f laws_szInt64S.f laws_szGivenS.f
  obtain ⟨v0, e0, q0⟩ := sz_take l0 1048576 (by omega) (by omega) hm0
  rw [e0]
  simp only [Option.bind_some]
  rcases q0 with q0 | ⟨a0, b0, c0⟩
  · exact ⟨-1, by simp only [if_pos q0]; exact Ev.now _, .inl (by omega)⟩
  simp only [show ¬ v0 < 0 by omega, if_false]
  obtain ⟨v1, e1, q1⟩ := szGateS_ev l1 v0 hm1 hb a0 b0
  rcases q1 with q1 | ⟨a1, b1, c1, d1⟩
  · exact ⟨-1, Ev.bind e1 (by simp only [if_pos q1]; exact Ev.now _), .inl (by omega)⟩
  obtain ⟨v2, e2, q2⟩ := sz_take l2 v1 a1 (by omega) hm2
  rcases q2 with q2 | ⟨a2, b2, c2⟩
  · exact ⟨-1, Ev.bind e1 (by simp only [show ¬ v1 < 0 by omega, if_false, e2, Option.bind_some, if_pos q2]; exact Ev.now _), .inl (by omega)⟩
  obtain ⟨v3, e3, q3⟩ := sz_take l3 v2 a2 (by omega) hm3
  rcases q3 with q3 | ⟨a3, b3, c3⟩
  · exact ⟨-1, Ev.bind e1 (by simp only [show ¬ v1 < 0 by omega, if_false, e2, Option.bind_some, show ¬ v2 < 0 by omega, e3, if_pos q3]; exact Ev.now _), .inl (by omega)⟩
  obtain ⟨v4, e4, q4⟩ := sz_take l4 v3 a3 (by omega) hm4
  rcases q4 with q4 | ⟨a4, b4, c4⟩
  · exact ⟨-1, Ev.bind e1 (by simp only [show ¬ v1 < 0 by omega, if_false, e2, Option.bind_some, show ¬ v2 < 0 by omega, e3, show ¬ v3 < 0 by omega, e4, if_pos q4]; exact Ev.now _), .inl (by omega)⟩
  obtain ⟨v5, e5, q5⟩ := sz_take l5 v4 a4 (by omega) hm5
  rcases q5 with q5 | ⟨a5, b5, c5⟩
  · exact ⟨-1, Ev.bind e1 (by simp only [show ¬ v1 < 0 by omega, if_false, e2, Option.bind_some, show ¬ v2 < 0 by omega, e3, show ¬ v3 < 0 by omega, e4, show ¬ v4 < 0 by omega, e5, if_pos q5]; exact Ev.now _), .inl (by omega)⟩
  exact ⟨v5, Ev.bind e1 (by simp only [show ¬ v1 < 0 by omega, if_false, e2, Option.bind_some, show ¬ v2 < 0 by omega, e3, show ¬ v3 < 0 by omega, e4, show ¬ v4 < 0 by omega, e5, show ¬ v5 < 0 by omega]; exact Ev.now _), .inr ⟨c0, c1, c2, c3, c4, c5, d1⟩⟩
theorem toNet_ev (l0 : List S85) (l1 : List S71) (l2 l3 : List Int) (l4 l5 : List S90) (h0 : l0.length ≤ 1048576) (h1 : l1.length ≤ 1048576) (h2 : l2.length ≤ 1048576) (h3 : l3.length ≤ 1048576) (h4 : l4.length ≤ 1048576) (h5 : l5.length ≤ 1048576) (hb : ∀ j : Nat, j < l1.length → (rd_T71 l1 j).f2.length ≤ 1048576) :
    Ev (fun k => laws_toNet.f k l0 l1 l2 l3 l4 l5) (l0.map toT, l1.map toGt, l2, l3, l4.map toGv, l5.map toGv) := by
  unfold laws_toNet.f
  exact Ev.bind (toTermS_ev l0 (by omega)) (Ev.bind (toGateS_ev l1 h1 (fun i hi => Nat.le_trans (hb i hi) (by decide))) (Ev.bind (toInt64S_ev l2 (by omega)) (Ev.bind (toInt64S_ev l3 (by omega)) (Ev.bind (toGivenS_ev l4 (by omega)) (Ev.bind (toGivenS_ev l5 (by omega)) (Ev.now _))))))
theorem eqNet_ev (l0 : List S83) (l1 : List S76) (l2 l3 : List Int) (l4 l5 : List S88) (h0 : l0.length ≤ 1048576) (h1 : l1.length ≤ 1048576) (h2 : l2.length ≤ 1048576) (h3 : l3.length ≤ 1048576) (h4 : l4.length ≤ 1048576) (h5 : l5.length ≤ 1048576) (hb : ∀ j : Nat, j < l1.length → (rd_T76 l1 j).f2.length ≤ 1048576) :
    Ev (fun k => laws_eqNet.f k l0 l1 l2 l3 l4 l5 l0 l1 l2 l3 l4 l5) true := by
  unfold laws_eqNet.f
  refine Ev.bind (eqTermS_ev l0 (by omega)) ?_
  simp only [if_true]
  refine Ev.bind (eqGateS_ev l1 h1 (fun i hi => Nat.le_trans (hb i hi) (by decide))) ?_
  simp only [if_true]
  refine Ev.bind (eqInt64S_ev l2 (by omega)) ?_
  simp only [if_true]
  refine Ev.bind (eqInt64S_ev l3 (by omega)) ?_
  simp only [if_true]
  refine Ev.bind (eqGivenS_ev l4 h4) ?_
  simp only [if_true]
  refine Ev.bind (eqGivenS_ev l5 h5) ?_
  simp only [if_true]
  exact Ev.now _
theorem place_impl (l : List S83) (hl : l.length ≤ 9223372036854775807) (a : Int) : impl_isPlace.f l a = some (!notIn l a) := by
  unfold impl_isPlace.f notIn
  rw [w64' (by omega) (by omega), impl_in_eq]
  simp
def kfF (L : List S83) (l : List Int) : Nat → Nat → Int
  | _, 0 => 0
  | i, d + 1 => if notIn L (rd l (i : Int)) = false then (if i > 0 then (if rd l (i : Int) ≤ rd l ((i - 1 : Nat) : Int) then 1 else kfF L l (i + 1) d) else kfF L l (i + 1) d) else 3
theorem known_spec (L : List S83) (hL : L.length ≤ 9223372036854775807) (l : List Int) (hl : l.length ≤ 400) (d : Nat) : ∀ (i : Nat), i + d = l.length → Ev (fun k => spec_KnownFault.l0 k L l i) (kfF L l i d) := by
  induction d with
  | zero =>
    intro i hi
    refine ev_succ ?_
    simp only [spec_KnownFault.l0, show ¬ (i : Int) < (l.length : Int) by omega, if_false]; exact Ev.now _
  | succ d ih =>
    intro i hi
    refine ev_succ ?_
    rw [kfF]
    simp only [spec_KnownFault.l0, show (i : Int) < (l.length : Int) by omega, show 0 ≤ (i : Int) by omega, if_true, at_ev L hL, Option.bind_some, show wrap64 ((i : Int) + 1) = ((i + 1 : Nat) : Int) by rw [w64' (by omega) (by omega)]; omega]
    cases h : notIn L (rd l (i : Int)) with
    | false =>
      simp only [Bool.not_false, if_true]
      by_cases h0 : i > 0
      · simp only [show (i : Int) > 0 by omega, h0, if_true, show wrap64 ((i : Int) - 1) = ((i - 1 : Nat) : Int) by rw [w64' (by omega) (by omega)]; omega, show 0 ≤ ((i - 1 : Nat) : Int) by omega, show ((i - 1 : Nat) : Int) < (l.length : Int) by omega]
        by_cases h2 : rd l (i : Int) ≤ rd l ((i - 1 : Nat) : Int)
        · simp only [if_pos h2]; exact Ev.now _
        · simp only [if_neg h2]; exact ih (i + 1) (by omega)
      · simp only [show ¬ (i : Int) > 0 by omega, h0, if_false]; exact ih (i + 1) (by omega)
    | true => simp only [Bool.not_true, Bool.false_eq_true, if_false, Bool.true_eq_false]; exact Ev.now _
theorem known_impl (L : List S83) (hL : L.length ≤ 9223372036854775807) (l : List Int) (hl : l.length ≤ 400) (d : Nat) : ∀ (i : Nat), i + d = l.length → Ev (fun k => impl_KnownFault.l0 k L l l (l.length : Int) i) (kfF L l i d) := by
  induction d with
  | zero =>
    intro i hi
    refine ev_succ ?_
    simp only [impl_KnownFault.l0, show ¬ (i : Int) < (l.length : Int) by omega, if_false]; exact Ev.now _
  | succ d ih =>
    intro i hi
    refine ev_succ ?_
    rw [kfF]
    simp only [impl_KnownFault.l0, show (i : Int) < (l.length : Int) by omega, show 0 ≤ (i : Int) by omega, if_true, place_impl L hL, Option.bind_some, show wrap64 ((i : Int) + 1) = ((i + 1 : Nat) : Int) by rw [w64' (by omega) (by omega)]; omega]
    cases h : notIn L (rd l (i : Int)) with
    | false =>
      simp only [Bool.not_false, if_true]
      by_cases h0 : i > 0
      · simp only [show (i : Int) > 0 by omega, h0, if_true, show wrap64 ((i : Int) - 1) = ((i - 1 : Nat) : Int) by rw [w64' (by omega) (by omega)]; omega, show 0 ≤ ((i - 1 : Nat) : Int) by omega, show ((i - 1 : Nat) : Int) < (l.length : Int) by omega]
        by_cases h2 : rd l (i : Int) ≤ rd l ((i - 1 : Nat) : Int)
        · simp only [show rd l ((i - 1 : Nat) : Int) ≥ rd l (i : Int) from h2, if_pos h2, if_true]; exact Ev.now _
        · simp only [show ¬ rd l ((i - 1 : Nat) : Int) ≥ rd l (i : Int) from h2, if_neg h2, if_false]; exact ih (i + 1) (by omega)
      · simp only [show ¬ (i : Int) > 0 by omega, h0, if_false]; exact ih (i + 1) (by omega)
    | true => simp only [Bool.not_true, Bool.false_eq_true, if_false, Bool.true_eq_false]; exact Ev.now _
def kf (L : List S83) (l : List Int) : Int := if TF L = 0 then (if l.length > 400 then 2 else kfF L l 0 l.length) else TF L
theorem kf_spec (L : List S83) (hL : L.length ≤ 9223372036854775807) (l : List Int) : Ev (fun k => spec_KnownFault.f k L l) (kf L l) := by
  unfold spec_KnownFault.f kf
  refine Ev.bind (tf_spec L) ?_
  by_cases h0 : TF L = 0
  · simp only [if_pos h0]
    by_cases h : l.length > 400
    · simp only [show (l.length : Int) > 400 by omega, h, if_true]; exact Ev.now _
    · simp only [show ¬ (l.length : Int) > 400 by omega, h, if_false]; exact known_spec L hL l (by omega) l.length 0 (by omega)
  · simp only [if_neg h0]; exact Ev.now _
theorem kf_impl {L : List S83} (hw : L.all wf4 = true) (hL : L.length ≤ 9223372036854775807) (l : List Int) : Ev (fun k => impl_KnownFault.f k L l) (kf L l) := by
  unfold impl_KnownFault.f kf
  simp only [tf_impl hw, Option.bind_some]
  by_cases h0 : TF L = 0
  · simp only [if_pos h0]
    by_cases h : l.length > 400
    · simp only [show (l.length : Int) > 400 by omega, h, if_true]; exact Ev.now _
    · simp only [show ¬ (l.length : Int) > 400 by omega, h, if_false]; exact known_impl L hL l (by omega) l.length 0 (by omega)
  · simp only [if_neg h0]; exact Ev.now _
def g11F (l : List S83) (a b : Int) (t : List S114) : Int := if (decide (1 ≤ a ∧ a ≤ 9) && decide (0 ≤ b ∧ b ≤ 90)) = true then (if 12 < t.length then 2 else gtF l t 0 t.length) else 3
theorem g11_spec {l : List S83} (hl : l.length ≤ 9223372036854775807) (a b : Int) (t : List S114) : Ev (fun k => spec_l11Gate.f k l a b t) (g11F l a b t) := by
  unfold g11F
  have hj : ∀ c : Bool, Ev (fun k => spec_l11Gate.j0 k l c a b t) (if c = true then 3 else if 12 < t.length then 2 else gtF l t 0 t.length) := fun c => by
    refine ev_succ ?_
    simp only [spec_l11Gate.j0]
    cases c with
    | true => simp only [if_true]; exact Ev.now _
    | false =>
      simp only [Bool.false_eq_true, if_false]
      by_cases h : 12 < t.length
      · simp only [show (t.length : Int) > 12 by omega, if_true, h]; exact Ev.now _
      · simp only [show ¬ (t.length : Int) > 12 by omega, if_false, h]
        exact gt_spec l hl a b t (by omega) t.length 0 (by omega)
  unfold spec_l11Gate.f
  simp only [in_specT, Option.bind_some]
  cases h1 : decide (1 ≤ a ∧ a ≤ 9) with
  | false => simpa using hj true
  | true =>
    cases h2 : decide (0 ≤ b ∧ b ≤ 90) with
    | false => simpa using hj true
    | true => simpa using hj false
theorem g11_impl {l : List S83} (hw : l.all wf4 = true) (h0 : TF l = 0) (a b : Int) (t : List S114) : Ev (fun k => impl_GateFault.f k l a b t) (g11F l a b t) := by
  have := gf_impl hw a b t
  unfold gF at this
  rw [if_pos h0] at this
  exact this
def nfG (V : Int → Int → List S114 → Int) : Int → List S76 → Int
  | _, [] => 0
  | i, g :: gs => if V g.f0 g.f1 g.f2 = 0 then (if g.f0 = i + 1 then nfG V (i + 1) gs else 1) else V g.f0 g.f1 g.f2
theorem nfG_ev {F : Nat → Int → Int → List S114 → Option Int} {V : Int → Int → List S114 → Int} (h : ∀ a b t, Ev (fun k => F k a b t) (V a b t)) : ∀ (l : List S76) (i : Int), Ev (fun k => nfGates (F k) i l) (nfG V i l)
  | [], i => Ev.now _
  | g :: gs, i => by
    simp only [nfGates, nfG]
    refine Ev.bind (h _ _ _) ?_
    by_cases h0 : V g.f0 g.f1 g.f2 = 0
    · simp only [if_pos h0]
      by_cases h1 : g.f0 = i + 1
      · simp only [if_pos h1]; exact nfG_ev h gs (i + 1)
      · simp only [if_neg h1]; exact Ev.now _
    · simp only [if_neg h0]; exact Ev.now _
theorem faultOf_one (x : Int) : Ev (fun k => impl_faultOf.f k [x]) x := by
  refine ⟨2, fun k hk => ?_⟩
  obtain ⟨k, rfl⟩ : ∃ m, k = m + 2 := ⟨k - 2, by omega⟩
  by_cases h : x = 0 <;> simp [impl_faultOf.f, impl_faultOf.l0, rd, h, wrap64]
theorem faultOf_two (x y : Int) : Ev (fun k => impl_faultOf.f k [x, y]) (if x = 0 then y else x) := by
  refine ⟨3, fun k hk => ?_⟩
  obtain ⟨k, rfl⟩ : ∃ m, k = m + 3 := ⟨k - 3, by omega⟩
  by_cases h : x = 0 <;> by_cases h2 : y = 0 <;> simp [impl_faultOf.f, impl_faultOf.l0, rd, h, h2, wrap64]
def netF (L : List S83) (G : List S76) (B H : List Int) (V W : List S88) : Int :=
  if TF L = 0 then (if 2 ≤ G.length ∧ G.length ≤ 4 ∧ V.length ≤ 60 ∧ W.length ≤ 60 then
    (if nfG (g11F L) 0 G = 0 then (if bf B = 0 then (if kf L H = 0 then (if V.any (gvBad L G) = true then 3 else if W.any (gvBad L G) = true then 3 else 0) else kf L H) else bf B) else nfG (g11F L) 0 G) else 2) else TF L
theorem net_spec (L : List S83) (hL : L.length ≤ 9223372036854775807) (G : List S76) (B H : List Int) (V W : List S88) : Ev (fun k => spec_NetFault.f k L G B H V W) (netF L G B H V W) := by
  unfold spec_NetFault.f netF
  refine Ev.bind (tf_spec L) ?_
  by_cases h0 : TF L = 0
  rotate_left
  · simp only [if_neg h0]; exact Ev.now _
  simp only [if_pos h0]
  by_cases h1 : 2 ≤ G.length ∧ G.length ≤ 4 ∧ V.length ≤ 60 ∧ W.length ≤ 60
  rotate_left
  · rw [if_neg h1]
    by_cases q1 : (G.length : Int) < 2
    · simp only [if_pos q1]; exact Ev.now _
    by_cases q2 : 4 < (G.length : Int)
    · simp only [if_neg q1, if_pos q2]; exact Ev.now _
    by_cases q3 : 60 < (V.length : Int)
    · simp only [if_neg q1, if_neg q2, if_pos q3]; exact Ev.now _
    by_cases q4 : 60 < (W.length : Int)
    · simp only [if_neg q1, if_neg q2, if_neg q3, if_pos q4]; exact Ev.now _
    · exact absurd (by omega) h1
  rw [if_pos h1]
  simp only [show ¬ (G.length : Int) < 2 by omega, show ¬ 4 < (G.length : Int) by omega, show ¬ 60 < (V.length : Int) by omega, show ¬ 60 < (W.length : Int) by omega, if_false]
  refine Ev.bind (nfG_ev (F := fun k => spec_l11Gate.f k L) (fun a b t => g11_spec hL a b t) G 0) ?_
  simp only [spec_NetFault.g]
  by_cases h2 : nfG (g11F L) 0 G = 0
  rotate_left
  · simp only [if_neg h2]; exact Ev.now _
  simp only [if_pos h2]
  refine Ev.bind (bf_spec B) ?_
  by_cases h3 : bf B = 0
  rotate_left
  · simp only [if_neg h3]; exact Ev.now _
  simp only [if_pos h3]
  refine Ev.bind (kf_spec L hL H) ?_
  by_cases h4 : kf L H = 0
  rotate_left
  · simp only [if_neg h4]; exact Ev.now _
  simp only [if_pos h4]
  by_cases h5 : V.any (gvBad L G) = true
  · simp only [if_pos h5]; exact Ev.now _
  simp only [if_neg h5]
  by_cases h6 : W.any (gvBad L G) = true
  · simp only [if_pos h6]; exact Ev.now _
  simp only [if_neg h6]; exact Ev.now _
theorem net_impl {L : List S83} (hw : L.all wf4 = true) (hL : L.length ≤ 9223372036854775807) (G : List S76) (B H : List Int) (V W : List S88) : Ev (fun k => impl_NetFault.f k L G B H V W) (netF L G B H V W) := by
  unfold impl_NetFault.f netF impl_Net_gatesFault.f
  simp only [tf_impl hw, Option.bind_some]
  refine Ev.bind (faultOf_one _) ?_
  by_cases h0 : TF L = 0
  rotate_left
  · simp only [if_neg h0]; exact Ev.now _
  simp only [if_pos h0]
  by_cases h1 : 2 ≤ G.length ∧ G.length ≤ 4 ∧ V.length ≤ 60 ∧ W.length ≤ 60
  rotate_left
  · rw [if_neg h1]
    have hx : Ev (fun k => if 2 ≤ G.length ∧ G.length ≤ 4 then (if V.length ≤ 60 then (if W.length ≤ 60 then nfGates (impl_GateFault.f k L) 0 G else some 2) else some 2) else some 2) 2 := by
      by_cases q1 : 2 ≤ G.length ∧ G.length ≤ 4
      · simp only [if_pos q1]
        by_cases q3 : V.length ≤ 60
        · simp only [if_pos q3]
          by_cases q4 : W.length ≤ 60
          · exact absurd ⟨q1.1, q1.2, q3, q4⟩ h1
          · simp only [if_neg q4]; exact Ev.now _
        · simp only [if_neg q3]; exact Ev.now _
      · simp only [if_neg q1]; exact Ev.now _
    refine Ev.bind hx ?_
    simp only [show ¬ (2 : Int) = 0 by decide, if_false]; exact Ev.now _
  rw [if_pos h1]
  have hx : Ev (fun k => if 2 ≤ G.length ∧ G.length ≤ 4 then (if V.length ≤ 60 then (if W.length ≤ 60 then nfGates (impl_GateFault.f k L) 0 G else some 2) else some 2) else some 2) (nfG (g11F L) 0 G) := by
    simp only [if_pos (show 2 ≤ G.length ∧ G.length ≤ 4 from ⟨h1.1, h1.2.1⟩), if_pos h1.2.2.1, if_pos h1.2.2.2]
    exact nfG_ev (F := fun k => impl_GateFault.f k L) (fun a b t => g11_impl hw h0 a b t) G 0
  refine Ev.bind hx ?_
  by_cases h2 : nfG (g11F L) 0 G = 0
  rotate_left
  · simp only [if_neg h2]; exact Ev.now _
  simp only [if_pos h2]
  refine Ev.bind (bf_impl B) (Ev.bind (kf_impl hw hL H) (Ev.bind (faultOf_two _ _) ?_))
  by_cases h3 : bf B = 0
  rotate_left
  · simp only [if_neg h3]; exact Ev.now _
  simp only [if_pos h3]
  by_cases h4 : kf L H = 0
  rotate_left
  · simp only [if_neg h4]; exact Ev.now _
  simp only [if_pos h4]
  have hc : impl_Given_58.f [V, W] = some (V ++ W) := by
    unfold impl_Given_58.f
    rw [if_pos (show ([V, W] : List (List S88)).flatten.length * 32 ≤ 140737488355328 by simp; omega)]
    simp
  simp only [hc, Option.bind_some, List.any_append]
  cases h5 : V.any (gvBad L G) with
  | true => simp only [Bool.true_or, if_true]; exact Ev.now _
  | false =>
    cases h6 : W.any (gvBad L G) with
    | true => simp only [Bool.or_true, if_true, Bool.false_eq_true, if_false]; exact Ev.now _
    | false => simp only [Bool.or_false, Bool.false_eq_true, if_false]; exact Ev.now _
theorem rd_map_gt (l : List S71) (j : Nat) (h : j < l.length) : (rd_T76 (l.map toGt) j).f2.length = (rd_T71 l j).f2.length := by
  simp [rd_T76, rd_T71, List.getD, List.getElem?_eq_getElem h, toGt]
end Go.Proofs.YtcafikgabidphaaGreat.Pure
set_option linter.unusedVariables false
set_option linter.unusedSimpArgs false
namespace Go.Proofs.YtcafikgabidphaaGreat.Pure
open Go.RowKit Go.Proofs.YtcafikgabidphaaGreat.G Go.Proofs.YtcafikgabidphaaGreatW.PrintWords Go.Proofs.YtcafikgabidphaaGreatW.PrintLast
theorem rd_drop (F : List Bool) (i : Nat) (h : i < F.length) : F.drop i = rdOf false F (i : Int) :: F.drop (i + 1) := by
  rw [List.drop_eq_getElem_cons h]
  simp [rdOf, List.getD, List.getElem?_eq_getElem h]
theorem risen_l0 (F : List Bool) (hF : F.length ≤ 100000) (d : Nat) : ∀ (i : Nat) (out : List Int), i + d = F.length → out.length ≤ i → Ev (fun k => impl_risen.l0 k out F (F.length : Int) i) (out ++ idxFrom i (F.drop i)) := by
  induction d with
  | zero =>
    intro i out hi ho
    refine ev_succ ?_
    have e : F.drop i = [] := List.drop_eq_nil_of_le (by omega)
    simp only [impl_risen.l0, show ¬ (i : Int) < (F.length : Int) by omega, if_false, e, idxFrom, List.append_nil]; exact Ev.now _
  | succ d ih =>
    intro i out hi ho
    refine ev_succ ?_
    rw [rd_drop F i (by omega)]
    simp only [impl_risen.l0, show (i : Int) < (F.length : Int) by omega, show 0 ≤ (i : Int) by omega, if_true, show out.length < 17592186044416 by omega, show wrap64 ((i : Int) + 1) = ((i + 1 : Nat) : Int) by rw [w64' (by omega) (by omega)]; omega]
    rw [idxFrom, show (i : Int) + 1 = ((i + 1 : Nat) : Int) by push_cast; rfl]
    by_cases h : rdOf false F (i : Int) = true
    · simp only [if_pos h]
      have := ih (i + 1) (out ++ [(i : Int)]) (by omega) (by simp; omega)
      rwa [List.append_assoc] at this
    · simp only [if_neg h]; exact ih (i + 1) out (by omega) (by omega)
theorem risen_ev (F : List Bool) (hF : F.length ≤ 100000) : Ev (fun k => impl_risen.f k F) (idxFrom 0 F) := by
  have := risen_l0 F hF F.length 0 [] (by omega) (Nat.le_refl _)
  show Ev (fun k => impl_risen.l0 k [] F (F.length : Int) 0) (idxFrom 0 F)
  simpa using this
def setL (l : List Int) : Nat → Nat → List Bool → List Bool
  | _, 0, F => F
  | i, d + 1, F => setL l (i + 1) d (F.set (rd l (i : Int)).toNat true)
theorem kfF_zero {L : List S83} {l : List Int} {i d : Nat} (h : kfF L l i (d + 1) = 0) : (0 ≤ rd l (i : Int) ∧ rd l (i : Int) < (L.length : Int)) ∧ (0 < i → rd l ((i - 1 : Nat) : Int) < rd l (i : Int)) ∧ kfF L l (i + 1) d = 0 := by
  rw [kfF] at h
  by_cases h1 : notIn L (rd l (i : Int)) = false
  rotate_left
  · rw [if_neg h1] at h; omega
  rw [if_pos h1] at h
  refine ⟨by simp [notIn] at h1; omega, ?_⟩
  by_cases h0 : i > 0
  · rw [if_pos h0] at h
    by_cases h2 : rd l (i : Int) ≤ rd l ((i - 1 : Nat) : Int)
    · rw [if_pos h2] at h; omega
    · rw [if_neg h2] at h; exact ⟨fun _ => by omega, h⟩
  · rw [if_neg h0] at h; exact ⟨fun h3 => absurd h3 h0, h⟩
theorem flags_l0 (L : List S83) (l : List Int) (hl : l.length ≤ 400) (d : Nat) : ∀ (i : Nat) (F : List Bool), i + d = l.length → F.length = L.length → kfF L l i d = 0 → Ev (fun k => impl_flags.l0 k F l (l.length : Int) i) (setL l i d F) := by
  induction d with
  | zero =>
    intro i F hi hF hk
    refine ev_succ ?_
    simp only [impl_flags.l0, show ¬ (i : Int) < (l.length : Int) by omega, if_false]; exact Ev.now _
  | succ d ih =>
    intro i F hi hF hk
    obtain ⟨⟨h0, h1⟩, _, hk⟩ := kfF_zero hk
    refine ev_succ ?_
    simp only [impl_flags.l0, show (i : Int) < (l.length : Int) by omega, show 0 ≤ (i : Int) by omega, if_true, if_pos h0, show rd l (i : Int) < (F.length : Int) by omega, show wrap64 ((i : Int) + 1) = ((i + 1 : Nat) : Int) by rw [w64' (by omega) (by omega)]; omega]
    exact ih (i + 1) _ (by omega) (by simpa using hF) hk
theorem setL_length (l : List Int) : ∀ (d i : Nat) (F : List Bool), (setL l i d F).length = F.length
  | 0, i, F => rfl
  | d + 1, i, F => by rw [setL, setL_length l d]; simp
theorem take_rd (l : List Int) (i : Nat) (h : i < l.length) : l.take (i + 1) = l.take i ++ [rd l (i : Int)] := by
  rw [List.take_succ_eq_append_getElem h]
  simp [rd, List.getD, List.getElem?_eq_getElem h]
theorem idx_setL (L : List S83) (l : List Int) (d : Nat) : ∀ (i : Nat) (F : List Bool), i + d = l.length → F.length = L.length → kfF L l i d = 0 → idxFrom 0 F = l.take i → (∀ y ∈ l.take i, y ≤ rd l ((i - 1 : Nat) : Int)) → idxFrom 0 (setL l i d F) = l := by
  induction d with
  | zero =>
    intro i F hi hF hk he hy
    rw [setL, he, List.take_of_length_le (by omega)]
  | succ d ih =>
    intro i F hi hF hk he hy
    obtain ⟨⟨h0, h1⟩, h2, hk⟩ := kfF_zero hk
    rw [setL]
    have hlt : ∀ y ∈ l.take i, y < rd l (i : Int) := fun y hm => by
      by_cases hz : 0 < i
      · have := hy y hm; have := h2 hz; omega
      · obtain rfl : i = 0 := by omega
        simp at hm
    refine ih (i + 1) _ (by omega) (by simpa using hF) hk ?_ ?_
    · have e := riseF_idx F 0 (rd l (i : Int)).toNat (by omega)
      rw [show (0 : Int) + ((rd l (i : Int)).toNat : Int) = rd l (i : Int) by omega, he, riseF_last _ _ hlt] at e
      rw [← e, take_rd l i (by omega)]
    · intro y hm
      rw [take_rd l i (by omega)] at hm
      show y ≤ rd l (i : Int)
      rcases List.mem_append.1 hm with hm | hm
      · have := hlt y hm; omega
      · simp at hm; omega
theorem flags_ev (L : List S83) (hL : L.length ≤ 100000) (l : List Int) (hl : l.length ≤ 400) (hk : kfF L l 0 l.length = 0) : ∃ F : List Bool, Ev (fun k => impl_flags.f k L l) F ∧ F.length = L.length ∧ idxFrom 0 F = l := by
  refine ⟨setL l 0 l.length (List.replicate L.length false), ?_, by rw [setL_length, List.length_replicate], idx_setL L l l.length 0 _ (by omega) List.length_replicate hk (by rw [idxFrom_none]; rfl) (by simp)⟩
  unfold impl_flags.f
  simp only [show 0 ≤ (L.length : Int) by omega, if_true, Int.toNat_natCast, show L.length ≤ 281474976710656 by omega]
  exact flags_l0 L l hl l.length 0 _ (by omega) List.length_replicate hk
theorem knL_length (lb : List Int) : ∀ (ts : List S83) (i : Nat) (F : List Bool), (knL lb i ts F).length = F.length
  | [], i, F => rfl
  | t :: ts, i, F => by rw [knL, knL_length lb ts]; split <;> simp
theorem known_idx (L : List S83) (hL : L.length ≤ 100000) (B H : List Int) (hB : B.length ≤ 9223372036854775806) (hH : H.length ≤ 400) (hk : kfF L H 0 H.length = 0) : ∃ G : List Bool, G.length = L.length ∧ Ev (fun k => impl_Net_knownTo.f k L B H) (idxFrom 0 G) ∧ Ev (fun k => spec_l12Known.f k L B H) (idxFrom 0 G) := by
  obtain ⟨F, hF, hFL, hFi⟩ := flags_ev L hL H hH hk
  refine ⟨knL B 0 L F, by rw [knL_length]; exact hFL, ?_, ?_⟩
  · unfold impl_Net_knownTo.f
    refine Ev.bind hF ?_
    simp only [if_pos hFL]
    exact Ev.bind (kt_ev B hB L 0 F) (risen_ev _ (by rw [knL_length]; omega))
  · unfold spec_l12Known.f
    simp only [if_pos (show H.length ≤ 100000 by omega)]
    have := kw_ev B hB L 0 F (by omega) (by omega)
    rwa [hFi] at this
end Go.Proofs.YtcafikgabidphaaGreat.Pure
set_option linter.unusedVariables false
set_option linter.unusedSimpArgs false
namespace Go.Proofs.YtcafikgabidphaaGreat.Pure
open Go.RowKit Go.Proofs.YtcafikgabidphaaGreat.G Go.Proofs.YtcafikgabidphaaGreatW.PrintWords Go.Proofs.YtcafikgabidphaaGreatW.PrintLast Go.Proofs.YtcafikgabidphaaGreatW.PrintMore
theorem TF_len {l : List S83} (h : TF l = 0) : l.length ≤ 400 := by
  unfold TF at h
  by_cases hb : 400 < l.length
  · rw [if_pos hb] at h; cases h
  · omega
def kid (t : S83) : List Int := if t.f0 = 1 ∨ t.f0 = 2 then [] else if t.f0 = 6 then [t.f1] else [t.f1, t.f2]
def sets (b : List Bool) (ks : List Int) : List Bool := ks.foldl (fun b x => b.set x.toNat true) b
def dn (L : List S83) : Nat → List Bool → List Bool
  | 0, b => b
  | n + 1, b => dn L n (if b.getD n false = true then sets b (kid (rd_T83 L (n : Int))) else b)
theorem rd_take {L : List S83} {i : Nat} {a : Int} (h0 : 0 ≤ a) (h1 : a < (i : Int)) : rd_T83 (L.take i) a = rd_T83 L a := by
  unfold rd_T83
  have : a.toNat < i := by omega
  simp [List.getD, List.getElem?_take, this]
theorem node_ok {L : List S83} (h : TF L = 0) (i : Nat) (hi : i < L.length) :
    ((rd_T83 L i).f0 = 1 ∨ (rd_T83 L i).f0 = 2) ∧ (rd_T83 L i).f1 = 0 ∧ (rd_T83 L i).f2 = 0 ∧ (0 ≤ (rd_T83 L i).f3 ∧ (rd_T83 L i).f3 ≤ 9999) ∨
    (rd_T83 L i).f0 = 6 ∧ (rd_T83 L i).f2 = 0 ∧ (rd_T83 L i).f3 = 0 ∧ (0 ≤ (rd_T83 L i).f1 ∧ (rd_T83 L i).f1 < i) ∧ (rd_T83 L (rd_T83 L i).f1).f0 = 2 ∨
    ((rd_T83 L i).f0 = 3 ∨ (rd_T83 L i).f0 = 4 ∨ (rd_T83 L i).f0 = 5 ∨ (rd_T83 L i).f0 = 7) ∧ (rd_T83 L i).f3 = 0 ∧ (0 ≤ (rd_T83 L i).f1 ∧ (rd_T83 L i).f1 < i) ∧ (0 ≤ (rd_T83 L i).f2 ∧ (rd_T83 L i).f2 < i) ∧ ((rd_T83 L i).f0 = 7 → (rd_T83 L (rd_T83 L i).f1).f0 = 2 ∧ (rd_T83 L (rd_T83 L i).f2).f0 = 2 ∧ (rd_T83 L i).f1 ≤ (rd_T83 L i).f2) := by
  have hl := TF_len h
  unfold TF at h
  rw [if_neg (by omega)] at h
  have ht := TFs_ok L [] h i hi
  rw [List.nil_append] at ht
  generalize rd_T83 L (i : Int) = x at ht ⊢
  have hlen : (L.take i).length = i := by rw [List.length_take]; omega
  unfold tfault at ht
  split at ht
  rotate_left
  · cases ht
  rename_i hop
  split at ht
  · rename_i h12
    split at ht
    · rename_i hz
      split at ht
      · rename_i hn
        exact .inl ⟨h12, hz.1, hz.2, hn⟩
      · cases ht
    · cases ht
  rename_i h12
  split at ht
  · rename_i h6
    split at ht
    · rename_i hz
      split at ht
      · cases ht
      · rename_i hin
        split at ht
        · cases ht
        · rename_i hf
          simp only [List.any_cons, List.any_nil, Bool.or_false, Bool.not_eq_true] at hin hf
          have e1 := (notIn_iff _ _).1 hin
          rw [hlen] at e1
          unfold notFresh at hf
          rw [rd_take e1.1 e1.2] at hf
          exact .inr (.inl ⟨h6, hz.1, hz.2, e1, by simpa using hf⟩)
    · cases ht
  rename_i h6
  split at ht
  · rename_i hz
    split at ht
    · cases ht
    · rename_i hin
      simp only [List.any_cons, List.any_nil, Bool.or_false, Bool.or_eq_true, not_or, Bool.not_eq_true] at hin
      have e1 := (notIn_iff _ _).1 hin.1
      have e2 := (notIn_iff _ _).1 hin.2
      rw [hlen] at e1 e2
      refine .inr (.inr ⟨by omega, hz, e1, e2, fun h7 => ?_⟩)
      rw [if_pos h7] at ht
      split at ht
      · cases ht
      · rename_i hf
        simp only [List.any_cons, List.any_nil, Bool.or_false, Bool.or_eq_true, not_or, Bool.not_eq_true] at hf
        unfold notFresh at hf
        rw [rd_take e1.1 e1.2, rd_take e2.1 e2.2] at hf
        exact ⟨by simpa using hf.1.1, by simpa using hf.1.2, by omega⟩
  · cases ht
end Go.Proofs.YtcafikgabidphaaGreat.Pure
set_option linter.unusedVariables false
set_option linter.unusedSimpArgs false
namespace Go.Proofs.YtcafikgabidphaaGreat.Pure
open Go.RowKit Go.Proofs.YtcafikgabidphaaGreat.G Go.Proofs.YtcafikgabidphaaGreatW.PrintWords Go.Proofs.YtcafikgabidphaaGreatW.PrintLast
def bit (F : List Bool) (i : Nat) : Bool := F.getD i false
def Le (F G : List Bool) : Prop := ∀ i, bit F i = true → bit G i = true
theorem Le.refl (F : List Bool) : Le F F := fun _ h => h
theorem Le.trans {F G H : List Bool} (h : Le F G) (k : Le G H) : Le F H := fun i hi => k i (h i hi)
theorem bit_set (F : List Bool) (i j : Nat) (h : i < F.length) (b : Bool) : bit (F.set i b) j = if i = j then b else bit F j := by
  unfold bit
  simp only [List.getD, List.getElem?_set]
  by_cases e : i = j
  · subst e; rw [if_pos rfl, if_pos rfl, if_pos h]; rfl
  · rw [if_neg e, if_neg e]
theorem le_set (F : List Bool) (i : Nat) (h : i < F.length) : Le F (F.set i true) := fun j hj => by
  rw [bit_set F i j h]
  split
  · rfl
  · exact hj
theorem bit_lt {F : List Bool} {i : Nat} (h : bit F i = true) : i < F.length := by
  unfold bit at h
  by_cases hi : i < F.length
  · exact hi
  · simp [List.getD, List.getElem?_eq_none (show F.length ≤ i by omega)] at h
theorem bits_ext {F G : List Bool} (hl : F.length = G.length) (h : ∀ i, i < F.length → bit F i = bit G i) : F = G := by
  apply List.ext_getElem hl
  intro i h1 h2
  have := h i h1
  simpa [bit, List.getD, h1, h2] using this
theorem le_anti {F G : List Bool} (hl : F.length = G.length) (h : Le F G) (k : Le G F) : F = G := by
  refine bits_ext hl (fun i _ => ?_)
  cases hF : bit F i <;> cases hG : bit G i
  · rfl
  · rw [k i hG] at hF; cases hF
  · rw [h i hF] at hG; cases hG
  · rfl
theorem le_cons {a b : Bool} {F G : List Bool} (h : Le (a :: F) (b :: G)) : (a = true → b = true) ∧ Le F G :=
  ⟨fun ha => by have := h 0; simp only [bit, List.getD_cons_zero] at this; exact this ha, fun i hi => by have := h (i + 1); simp only [bit, List.getD_cons_succ] at this; exact this hi⟩
theorem le_count : ∀ (F G : List Bool), F.length = G.length → Le F G → F.count true ≤ G.count true ∧ (F.count true = G.count true → F = G)
  | [], [], _, _ => ⟨Nat.le_refl _, fun _ => rfl⟩
  | [], _ :: _, h, _ => by simp at h
  | _ :: _, [], h, _ => by simp at h
  | a :: F, b :: G, hl, h => by
    obtain ⟨h1, h2⟩ := le_cons h
    obtain ⟨h3, h4⟩ := le_count F G (by simpa using hl) h2
    cases a <;> cases b <;> simp only [List.count_cons] <;> simp
    · exact ⟨h3, fun e => h4 e⟩
    · exact ⟨by omega, fun e => by omega⟩
    · exact absurd (h1 rfl) (by simp)
    · exact ⟨h3, fun e => h4 e⟩
theorem idx_count : ∀ (F : List Bool) (s : Int), (idxFrom s F).length = F.count true
  | [], s => rfl
  | b :: bs, s => by
    unfold idxFrom
    cases b <;> simp [idx_count bs (s + 1)]
theorem idx_mem : ∀ (F : List Bool) (s : Int) (y : Int), y ∈ idxFrom s F ↔ (s ≤ y ∧ bit F (y - s).toNat = true)
  | [], s, y => by simp [idxFrom, bit]
  | b :: bs, s, y => by
    have ih := idx_mem bs (s + 1) y
    have e : s + 1 ≤ y → bit (b :: bs) (y - s).toNat = bit bs (y - (s + 1)).toNat := fun h => by
      rw [show (y - s).toNat = (y - (s + 1)).toNat + 1 by omega]
      simp [bit]
    have e0 : bit (b :: bs) (s - s).toNat = b := by simp [bit]
    unfold idxFrom
    split
    · rename_i hb
      rw [List.mem_cons, ih]
      constructor
      · rintro (rfl | ⟨h1, h2⟩)
        · exact ⟨by omega, by rw [e0]; exact hb⟩
        · exact ⟨by omega, by rw [e h1]; exact h2⟩
      · rintro ⟨h1, h2⟩
        by_cases hy : y = s
        · exact .inl hy
        · exact .inr ⟨by omega, by rw [← e (by omega)]; exact h2⟩
    · rename_i hb
      rw [ih]
      constructor
      · rintro ⟨h1, h2⟩
        exact ⟨by omega, by rw [e h1]; exact h2⟩
      · rintro ⟨h1, h2⟩
        by_cases hy : y = s
        · subst hy; rw [e0] at h2; exact absurd h2 hb
        · exact ⟨by omega, by rw [← e (by omega)]; exact h2⟩
theorem idx0_mem (F : List Bool) (y : Int) : y ∈ idxFrom 0 F ↔ (0 ≤ y ∧ bit F y.toNat = true) := by have := idx_mem F 0 y; rwa [show y - 0 = y by omega] at this
theorem idx_fold : ∀ (F : List Bool) (pre : List Bool), (idxFrom (pre.length : Int) F).foldl (fun G x => G.set x.toNat true) (pre ++ List.replicate F.length false) = pre ++ F
  | [], pre => by simp [idxFrom]
  | b :: bs, pre => by
    have ih := idx_fold bs (pre ++ [b])
    rw [List.length_append, List.append_assoc, List.append_assoc] at ih
    rw [show ((pre.length + [b].length : Nat) : Int) = (pre.length : Int) + 1 by simp] at ih
    unfold idxFrom
    cases b with
    | true =>
      rw [if_pos rfl, List.foldl_cons]
      have : (pre ++ List.replicate (true :: bs).length false).set ((pre.length : Int)).toNat true = pre ++ ([true] ++ List.replicate bs.length false) := by
        rw [List.length_cons, List.replicate_succ, Int.toNat_natCast]; simp
      rw [this]; exact ih
    | false =>
      rw [if_neg (by decide)]
      exact ih
theorem idx_fold0 (F : List Bool) : (idxFrom 0 F).foldl (fun G x => G.set x.toNat true) (List.replicate F.length false) = F := idx_fold F []
theorem rd_dropI (l : List Int) (i : Nat) (h : i < l.length) : l.drop i = rd l (i : Int) :: l.drop (i + 1) := by
  rw [List.drop_eq_getElem_cons h]
  simp [rd, List.getD, List.getElem?_eq_getElem h]
theorem rdOf_bit (F : List Bool) (x : Int) : rdOf false F x = bit F x.toNat := rfl
theorem ob_bit (F : List Bool) (x : Int) : ob F x = bit F x.toNat := rfl
theorem mkHs_iff (L : List S83) (F : List Bool) (x : Int) : ∀ m, mkHs L F m x = true ↔ ∃ i, i < m ∧ (rd_T83 L (i : Int)).f0 = 6 ∧ bit F i = true ∧ (rd_T83 L (i : Int)).f1 = x
  | 0 => by simp [mkHs]
  | m + 1 => by
    have ih := mkHs_iff L F x m
    unfold mkHs
    by_cases hc : (rd_T83 L (m : Int)).f0 = 6 ∧ F.getD m false = true
    · rw [if_pos hc]
      unfold bput
      by_cases hx : x = (rd_T83 L (m : Int)).f1
      · rw [if_pos hx]
        exact ⟨fun _ => ⟨m, by omega, hc.1, hc.2, hx.symm⟩, fun _ => rfl⟩
      · rw [if_neg hx, ih]
        constructor
        · rintro ⟨i, h1, h2⟩; exact ⟨i, by omega, h2⟩
        · rintro ⟨i, h1, h2, h3, h4⟩
          by_cases hi : i = m
          · subst hi; exact absurd h4.symm hx
          · exact ⟨i, by omega, h2, h3, h4⟩
    · rw [if_neg hc, ih]
      constructor
      · rintro ⟨i, h1, h2⟩; exact ⟨i, by omega, h2⟩
      · rintro ⟨i, h1, h2, h3, h4⟩
        by_cases hi : i = m
        · subst hi; exact absurd ⟨h2, h3⟩ hc
        · exact ⟨i, by omega, h2, h3, h4⟩
def wayV (C : List Bool) (H : Int → Bool) (t : S83) : Bool := if t.f0 = 1 then true else if t.f0 = 3 ∨ t.f0 = 4 ∨ t.f0 = 5 then (ob C t.f1 && ob C t.f2) else if t.f0 = 6 then ob C t.f1 else if t.f0 = 7 then ((ob C t.f1 && (ob C t.f2 || H t.f2)) || (ob C t.f2 && H t.f1)) else false
theorem mkO_keep (L : List S83) (F : List Bool) (H : Int → Bool) (j : Nat) : ∀ d, j + 1 + d ≤ L.length → bit (mkO L F H (j + 1 + d)) j = bit (mkO L F H (j + 1)) j
  | 0, _ => rfl
  | d + 1, hd => by
    rw [show j + 1 + (d + 1) = (j + 1 + d) + 1 by omega, mkO, bit_set _ _ _ (by rw [mkO_length]; omega), if_neg (by omega)]
    exact mkO_keep L F H j d (by omega)
theorem mkO_new (L : List S83) (F : List Bool) (H : Int → Bool) (j : Nat) : ∀ i, i ≤ j → i ≤ L.length → bit (mkO L F H i) j = false
  | 0, _, _ => by
    unfold mkO bit
    by_cases hj : j < L.length
    · simp [List.getD, hj]
    · simp [List.getD, List.getElem?_eq_none (show (List.replicate L.length false).length ≤ j by simp; omega)]
  | i + 1, h, hl => by
    rw [mkO, bit_set _ _ _ (by rw [mkO_length]; omega), if_neg (by omega)]
    exact mkO_new L F H j i (by omega) (by omega)
theorem opC_at {L : List S83} (h : TF L = 0) (F : List Bool) (i : Nat) (hi : i < L.length) : bit (opC L F) i = (wayV (opC L F) (mkHs L F L.length) (rd_T83 L (i : Int)) || bit F i) := by
  obtain ⟨H, hH⟩ : ∃ H, H = mkHs L F L.length := ⟨_, rfl⟩
  unfold opC
  rw [← hH]
  have key : ∀ x : Int, 0 ≤ x → x < (i : Int) → ob (mkO L F H i) x = ob (mkO L F H L.length) x := fun x h0 h1 => by
    rw [ob_bit, ob_bit]
    have e1 := mkO_keep L F H x.toNat (i - (x.toNat + 1)) (by omega)
    have e2 := mkO_keep L F H x.toNat (L.length - (x.toNat + 1)) (by omega)
    rw [show x.toNat + 1 + (i - (x.toNat + 1)) = i by omega] at e1
    rw [show x.toNat + 1 + (L.length - (x.toNat + 1)) = L.length by omega] at e2
    rw [e1, e2]
  have e3 := mkO_keep L F H i (L.length - (i + 1)) (by omega)
  rw [show i + 1 + (L.length - (i + 1)) = L.length by omega] at e3
  rw [e3, mkO, bit_set _ _ _ (by rw [mkO_length]; exact hi), if_pos rfl]
  congr 1
  have hn := node_ok h i hi
  have hnew := mkO_new L F H i i (Nat.le_refl _) (by omega)
  unfold mkB wayV
  generalize rd_T83 L (i : Int) = t at hn ⊢
  dsimp only
  rcases hn with ⟨h12, _⟩ | ⟨h6, _, _, ⟨a0, a1⟩, _⟩ | ⟨h3, _, ⟨a0, a1⟩, ⟨b0, b1⟩, _⟩
  · by_cases h1 : t.f0 = 1
    · rw [if_pos h1, if_pos h1]
    · rw [if_neg h1, if_neg (by omega), if_neg (by omega), if_neg (by omega), if_neg h1, if_neg (by omega), if_neg (by omega), if_neg (by omega)]
      exact hnew
  · rw [if_neg (by omega), if_neg (by omega), if_pos h6, if_neg (by omega), if_neg (by omega), if_pos h6, key _ a0 a1]
  · by_cases h7 : t.f0 = 7
    · rw [if_neg (by omega), if_neg (by omega), if_neg (by omega), if_pos h7, if_neg (by omega), if_neg (by omega), if_neg (by omega), if_pos h7, key _ a0 a1, key _ b0 b1]
    · rw [if_neg (by omega), if_pos (by omega), if_neg (by omega), if_pos (by omega), key _ a0 a1, key _ b0 b1]
theorem wayV_mono {L : List S83} {C D : List Bool} {H K : Int → Bool} {t : S83} (h1 : ob C t.f1 = true → ob D t.f1 = true) (h2 : ob C t.f2 = true → ob D t.f2 = true) (hH : ∀ x, H x = true → K x = true) (h : wayV C H t = true) : wayV D K t = true := by
  unfold wayV at h ⊢
  split
  · rfl
  · rename_i n1
    rw [if_neg n1] at h
    split
    · rename_i p3
      rw [if_pos p3] at h
      simp only [Bool.and_eq_true] at h ⊢
      exact ⟨h1 h.1, h2 h.2⟩
    · rename_i n3
      rw [if_neg n3] at h
      split
      · rename_i p6
        rw [if_pos p6] at h
        exact h1 h
      · rename_i n6
        rw [if_neg n6] at h
        split
        · rename_i p7
          rw [if_pos p7] at h
          simp only [Bool.or_eq_true, Bool.and_eq_true] at h ⊢
          rcases h with ⟨a, b | b⟩ | ⟨a, b⟩
          · exact .inl ⟨h1 a, .inl (h2 b)⟩
          · exact .inl ⟨h1 a, .inr (hH _ b)⟩
          · exact .inr ⟨h2 a, hH _ b⟩
        · rename_i n7
          rw [if_neg n7] at h
          exact h
theorem opC_mono {L : List S83} (h : TF L = 0) {F G : List Bool} (hl : Le F G) : Le (opC L F) (opC L G) := by
  have hH : ∀ x, mkHs L F L.length x = true → mkHs L G L.length x = true := fun x hx => by
    obtain ⟨i, a, b, c, d⟩ := (mkHs_iff L F x L.length).1 hx
    exact (mkHs_iff L G x L.length).2 ⟨i, a, b, hl i c, d⟩
  intro i
  induction i using Nat.strongRecOn with
  | _ i ih =>
    intro hi
    have hlt : i < L.length := by have := bit_lt hi; rwa [opC_length] at this
    rw [opC_at h F i hlt, Bool.or_eq_true] at hi
    rw [opC_at h G i hlt, Bool.or_eq_true]
    rcases hi with hi | hi
    · refine .inl ?_
      have hn := node_ok h i hlt
      generalize rd_T83 L (i : Int) = t at hn hi ⊢
      have kid : ∀ x : Int, 0 ≤ x → x < (i : Int) → ob (opC L F) x = true → ob (opC L G) x = true := fun x h0 h1 hx => ih x.toNat (by omega) hx
      rcases hn with ⟨h12, e1, e2, _⟩ | ⟨h6, e2, _, ⟨a0, a1⟩, _⟩ | ⟨h3, _, ⟨a0, a1⟩, ⟨b0, b1⟩, _⟩
      · unfold wayV at hi ⊢
        by_cases h1 : t.f0 = 1
        · rw [if_pos h1]
        · rw [if_neg h1, if_neg (by omega), if_neg (by omega), if_neg (by omega)] at hi; cases hi
      · unfold wayV at hi ⊢
        rw [if_neg (by omega), if_neg (by omega), if_pos h6] at hi ⊢
        exact kid _ a0 a1 hi
      · exact wayV_mono (L := L) (kid _ a0 a1) (kid _ b0 b1) hH hi
    · exact .inr (hl i hi)
def Clo (L : List S83) (D : List Bool) : Prop := ∀ i, i < L.length → bit D i = true → ((rd_T83 L (i : Int)).f0 = 3 → bit D (rd_T83 L (i : Int)).f1.toNat = true ∧ bit D (rd_T83 L (i : Int)).f2.toNat = true) ∧ ((rd_T83 L (i : Int)).f0 = 5 → ob (opC L D) (rd_T83 L (i : Int)).f1 = true → bit D (rd_T83 L (i : Int)).f2.toNat = true)
structure Rnd (L : List S83) (f : List Bool → List Bool) : Prop where
  len : ∀ F, F.length = L.length → (f F).length = L.length
  ge : ∀ F, F.length = L.length → Le F (f F)
  le : ∀ F D, F.length = L.length → D.length = L.length → Clo L D → Le F D → Le (f F) D
  clo : ∀ F, F.length = L.length → f F = F → Clo L F
inductive Reach (f : List Bool → List Bool) : List Bool → List Bool → Prop
  | stop {F : List Bool} : f F = F → Reach f F F
  | go {F X : List Bool} : f F ≠ F → Reach f (f F) X → Reach f F X
theorem reach_ex {L : List S83} {f : List Bool → List Bool} (hf : Rnd L f) : ∀ (m : Nat) (F : List Bool), F.length = L.length → L.length - F.count true ≤ m → ∃ X, Reach f F X
  | m, F, hF, hm => by
    by_cases e : f F = F
    · exact ⟨F, .stop e⟩
    · obtain ⟨c1, c2⟩ := le_count F (f F) (by rw [hf.len F hF, hF]) (hf.ge F hF)
      have c3 : F.count true ≠ (f F).count true := fun h => e (c2 h).symm
      have c4 : (f F).count true ≤ (f F).length := List.count_le_length
      rw [hf.len F hF] at c4
      cases m with
      | zero => omega
      | succ m =>
        obtain ⟨X, hX⟩ := reach_ex hf m (f F) (hf.len F hF) (by omega)
        exact ⟨X, .go e hX⟩
theorem Reach.props {L : List S83} {f : List Bool → List Bool} (hf : Rnd L f) {F X : List Bool} (h : Reach f F X) : F.length = L.length → X.length = L.length ∧ Le F X ∧ Clo L X ∧ ∀ D, D.length = L.length → Clo L D → Le F D → Le X D := by
  induction h with
  | stop e => exact fun hF => ⟨hF, Le.refl _, hf.clo _ hF e, fun D _ _ h => h⟩
  | go e _ ih =>
    intro hF
    obtain ⟨h1, h2, h3, h4⟩ := ih (hf.len _ hF)
    exact ⟨h1, (hf.ge _ hF).trans h2, h3, fun D hD hc hl => h4 D hD hc (hf.le _ D hF hD hc hl)⟩
theorem reach_same {L : List S83} {f g : List Bool → List Bool} (hf : Rnd L f) (hg : Rnd L g) {F X Y : List Bool} (hF : F.length = L.length) (h : Reach f F X) (k : Reach g F Y) : X = Y := by
  obtain ⟨h1, h2, h3, h4⟩ := h.props hf hF
  obtain ⟨k1, k2, k3, k4⟩ := k.props hg hF
  exact le_anti (by rw [h1, k1]) (h4 Y k1 k3 k2) (k4 X h1 h3 h2)
theorem opT_ge {L : List S83} (h : TF L = 0) (C F : List Bool) (hF : F.length = L.length) (i : Nat) (hi : i < L.length) : Le F (opT C F i (rd_T83 L (i : Int))) := by
  have hn := node_ok h i hi
  generalize rd_T83 L (i : Int) = t at hn ⊢
  unfold opT
  split
  · split
    · rename_i h3
      have : (0 ≤ t.f1 ∧ t.f1 < (i : Int)) ∧ 0 ≤ t.f2 ∧ t.f2 < (i : Int) := by omega
      exact (le_set F _ (by omega)).trans (le_set _ _ (by rw [List.length_set]; omega))
    · split
      · rename_i h5
        have : (0 ≤ t.f1 ∧ t.f1 < (i : Int)) ∧ 0 ≤ t.f2 ∧ t.f2 < (i : Int) := by omega
        exact le_set F _ (by omega)
      · exact Le.refl _
  · exact Le.refl _
theorem opT_le {L : List S83} (h : TF L = 0) {C F D : List Bool} (hF : F.length = L.length) (hc : Clo L D) (hC : Le C (opC L D)) (hl : Le F D) (i : Nat) (hi : i < L.length) : Le (opT C F i (rd_T83 L (i : Int))) D := by
  have hn := node_ok h i hi
  have hci := hc i hi
  generalize rd_T83 L (i : Int) = t at hn hci ⊢
  unfold opT
  split
  · rename_i hb
    obtain ⟨k3, k5⟩ := hci (hl i hb)
    split
    · rename_i h3
      obtain ⟨a, b⟩ := k3 h3
      have : (0 ≤ t.f1 ∧ t.f1 < (i : Int)) ∧ 0 ≤ t.f2 ∧ t.f2 < (i : Int) := by omega
      intro j hj
      rw [bit_set _ _ _ (by rw [List.length_set]; omega)] at hj
      split at hj
      · rename_i e; rw [← e]; exact b
      · rw [bit_set _ _ _ (by omega)] at hj
        split at hj
        · rename_i e; rw [← e]; exact a
        · exact hl j hj
    · split
      · rename_i h5
        have : (0 ≤ t.f1 ∧ t.f1 < (i : Int)) ∧ 0 ≤ t.f2 ∧ t.f2 < (i : Int) := by omega
        have b := k5 h5.1 (hC _ h5.2)
        intro j hj
        rw [bit_set _ _ _ (by omega)] at hj
        split at hj
        · rename_i e; rw [← e]; exact b
        · exact hl j hj
      · exact hl
  · exact hl
theorem opT_clo {L : List S83} (h : TF L = 0) {C F : List Bool} (hF : F.length = L.length) (i : Nat) (hi : i < L.length) (he : opT C F i (rd_T83 L (i : Int)) = F) (hb : bit F i = true) : ((rd_T83 L (i : Int)).f0 = 3 → bit F (rd_T83 L (i : Int)).f1.toNat = true ∧ bit F (rd_T83 L (i : Int)).f2.toNat = true) ∧ ((rd_T83 L (i : Int)).f0 = 5 → ob C (rd_T83 L (i : Int)).f1 = true → bit F (rd_T83 L (i : Int)).f2.toNat = true) := by
  have hn := node_ok h i hi
  generalize rd_T83 L (i : Int) = t at hn he ⊢
  unfold opT at he
  rw [if_pos (show F.getD i false = true from hb)] at he
  constructor
  · intro h3
    rw [if_pos h3] at he
    have : (0 ≤ t.f1 ∧ t.f1 < (i : Int)) ∧ 0 ≤ t.f2 ∧ t.f2 < (i : Int) := by omega
    constructor
    · rw [← he, bit_set _ _ _ (by rw [List.length_set]; omega)]
      split
      · rfl
      · rw [bit_set _ _ _ (by omega), if_pos rfl]
    · rw [← he, bit_set _ _ _ (by rw [List.length_set]; omega), if_pos rfl]
  · intro h5 hk
    rw [if_neg (by omega), if_pos ⟨h5, hk⟩] at he
    have : (0 ≤ t.f1 ∧ t.f1 < (i : Int)) ∧ 0 ≤ t.f2 ∧ t.f2 < (i : Int) := by omega
    rw [← he, bit_set _ _ _ (by omega), if_pos rfl]
theorem fold_ge {L : List S83} (h : TF L = 0) (C : List Bool) : ∀ (ps : List Nat) (F : List Bool), F.length = L.length → (∀ p ∈ ps, p < L.length) → Le F (ps.foldl (fun F p => opT C F p (rd_T83 L (p : Int))) F)
  | [], F, _, _ => Le.refl _
  | p :: ps, F, hF, hp => (opT_ge h C F hF p (hp p List.mem_cons_self)).trans (fold_ge h C ps _ (by rw [opT_length]; exact hF) (fun q hq => hp q (List.mem_cons_of_mem _ hq)))
theorem fold_le {L : List S83} (h : TF L = 0) {C D : List Bool} (hc : Clo L D) (hC : Le C (opC L D)) : ∀ (ps : List Nat) (F : List Bool), F.length = L.length → (∀ p ∈ ps, p < L.length) → Le F D → Le (ps.foldl (fun F p => opT C F p (rd_T83 L (p : Int))) F) D
  | [], F, _, _, hl => hl
  | p :: ps, F, hF, hp, hl => fold_le h hc hC ps _ (by rw [opT_length]; exact hF) (fun q hq => hp q (List.mem_cons_of_mem _ hq)) (opT_le h hF hc hC hl p (hp p List.mem_cons_self))
theorem fold_len {L : List S83} (C : List Bool) : ∀ (ps : List Nat) (F : List Bool), (ps.foldl (fun F p => opT C F p (rd_T83 L (p : Int))) F).length = F.length
  | [], F => rfl
  | p :: ps, F => by rw [List.foldl_cons, fold_len C ps, opT_length]
theorem fold_fix {L : List S83} (h : TF L = 0) (C : List Bool) : ∀ (ps : List Nat) (F : List Bool), F.length = L.length → (∀ p ∈ ps, p < L.length) → ps.foldl (fun F p => opT C F p (rd_T83 L (p : Int))) F = F → ∀ p ∈ ps, opT C F p (rd_T83 L (p : Int)) = F
  | [], F, _, _, _, p, hp => by cases hp
  | q :: ps, F, hF, hp, he, p, hm => by
    rw [List.foldl_cons] at he
    have g1 := opT_ge h C F hF q (hp q List.mem_cons_self)
    have l1 : (opT C F q (rd_T83 L (q : Int))).length = L.length := by rw [opT_length]; exact hF
    have g2 := fold_ge h C ps _ l1 (fun q hq => hp q (List.mem_cons_of_mem _ hq))
    rw [he] at g2
    have e1 : opT C F q (rd_T83 L (q : Int)) = F := le_anti (by rw [opT_length]) g2 g1
    rcases List.mem_cons.1 hm with rfl | hm
    · exact e1
    · rw [e1] at he
      exact fold_fix h C ps F hF (fun q hq => hp q (List.mem_cons_of_mem _ hq)) he p hm
theorem rnd_of {L : List S83} (h : TF L = 0) (ps : List Bool → List Nat) (h1 : ∀ F, F.length = L.length → ∀ p ∈ ps F, p < L.length) (h2 : ∀ F, F.length = L.length → ∀ i, bit F i = true → i ∈ ps F) : Rnd L (fun F => (ps F).foldl (fun G p => opT (opC L F) G p (rd_T83 L (p : Int))) F) where
  len F hF := by rw [fold_len]; exact hF
  ge F hF := fold_ge h _ _ F hF (h1 F hF)
  le F D hF hD hc hl := fold_le h hc (opC_mono h hl) _ F hF (h1 F hF) hl
  clo F hF he := fun i hi hb => opT_clo h hF i hi (fold_fix h _ _ F hF (h1 F hF) he i (h2 F hF i hb)) hb
def psI (L : List S83) : List Nat := (List.range L.length).map fun j => L.length - 1 - j
def psS (F : List Bool) : List Nat := (idxFrom 0 F).map Int.toNat
def rdI (L : List S83) (F : List Bool) : List Bool := (psI L).foldl (fun G p => opT (opC L F) G p (rd_T83 L (p : Int))) F
def rdS (L : List S83) (F : List Bool) : List Bool := (psS F).foldl (fun G p => opT (opC L F) G p (rd_T83 L (p : Int))) F
theorem rdI_eq (L : List S83) (F : List Bool) : opRnd L F = rdI L F := by
  unfold opRnd rdI psI
  rw [List.foldl_map]
  rfl
theorem rndI {L : List S83} (h : TF L = 0) : Rnd L (rdI L) := rnd_of h (fun _ => psI L) (fun F hF p hp => by
  unfold psI at hp
  obtain ⟨j, hj, rfl⟩ := List.mem_map.1 hp
  have := List.mem_range.1 hj
  omega) (fun F hF i hi => by
  have := bit_lt hi
  exact List.mem_map.2 ⟨L.length - 1 - i, List.mem_range.2 (by omega), by omega⟩)
theorem rndS {L : List S83} (h : TF L = 0) : Rnd L (rdS L) := rnd_of h psS (fun F hF p hp => by
  unfold psS at hp
  obtain ⟨y, hy, rfl⟩ := List.mem_map.1 hp
  have := bit_lt ((idx0_mem F y).1 hy).2
  omega) (fun F hF i hi => List.mem_map.2 ⟨(i : Int), (idx0_mem F i).2 ⟨by omega, by rw [Int.toNat_natCast]; exact hi⟩, by omega⟩)
theorem opL_ev {L : List S83} {F X : List Bool} (hr : Reach (rdI L) F X) : Ev (fun k => opL L k F) X := by
  induction hr with
  | stop e =>
    refine ev_succ ?_
    simp only [opL, rdI_eq, e, if_true]
    exact Ev.now _
  | @go F X e _ ih =>
    refine ev_succ ?_
    simp only [opL, rdI_eq, if_neg (show ¬ F = rdI L F from fun h => e h.symm)]
    exact ih
theorem m0_ev (L : List S83) (hL : L.length ≤ 400) (l : List Int) (hl : l.length ≤ 400) (r : List Bool) (hm : ∀ x ∈ l, 0 ≤ x ∧ x < (L.length : Int)) (d : Nat) : ∀ (i : Nat) (F : List Bool), i + d = l.length → F.length = L.length → Ev (fun k => spec_l6Make.l1 k L ((l.drop i).foldl (fun G x => G.set x.toNat true) F) (List.replicate L.length false) 0) r → Ev (fun k => spec_l6Make.l0 k L l F i) r := by
  induction d with
  | zero =>
    intro i F hi hF h
    refine ev_succ ?_
    rw [List.drop_eq_nil_of_le (by omega)] at h
    simp only [spec_l6Make.l0, show ¬ (i : Int) < (l.length : Int) by omega, if_false, show 0 ≤ (L.length : Int) by omega, if_true, Int.toNat_natCast, show L.length ≤ 281474976710656 by omega]
    exact h
  | succ d ih =>
    intro i F hi hF h
    refine ev_succ ?_
    rw [rd_dropI l i (by omega), List.foldl_cons] at h
    obtain ⟨h0, h1⟩ := hm (rd l (i : Int)) (by
      have : rd l (i : Int) = l[i]'(by omega) := by simp [rd, List.getD, List.getElem?_eq_getElem (show i < l.length by omega)]
      rw [this]; exact List.getElem_mem _)
    simp only [spec_l6Make.l0, show (i : Int) < (l.length : Int) by omega, show 0 ≤ (i : Int) by omega, if_true, if_pos h0, show rd l (i : Int) < (F.length : Int) by omega, show wrap64 ((i : Int) + 1) = ((i + 1 : Nat) : Int) by rw [w64' (by omega) (by omega)]; omega]
    exact ih (i + 1) _ (by omega) (by simpa using hF) h
theorem m1_ev {L : List S83} (h : TF L = 0) (F : List Bool) (hF : F.length = L.length) (r : List Bool) (hr : ∀ Hf : List Bool, Hf.length = L.length → (∀ x, x < L.length → bit Hf x = mkHs L F L.length (x : Int)) → Ev (fun k => spec_l6Make.l2 k L F Hf 0) r) (d : Nat) : ∀ (i : Nat) (Hf : List Bool), i + d = L.length → Hf.length = L.length → (∀ x, x < L.length → bit Hf x = mkHs L F i (x : Int)) → Ev (fun k => spec_l6Make.l1 k L F Hf i) r := by
  have hL := TF_len h
  induction d with
  | zero =>
    intro i Hf hi hH hx
    refine ev_succ ?_
    obtain rfl : i = L.length := by omega
    simp only [spec_l6Make.l1, show ¬ (L.length : Int) < (L.length : Int) by omega, if_false]
    exact hr Hf hH hx
  | succ d ih =>
    intro i Hf hi hH hx
    refine ev_succ ?_
    have hn := node_ok h i (by omega)
    simp only [spec_l6Make.l1, show (i : Int) < (L.length : Int) by omega, show 0 ≤ (i : Int) by omega, if_true, show (i : Int) < (F.length : Int) by omega, show wrap64 ((i : Int) + 1) = ((i + 1 : Nat) : Int) by rw [w64' (by omega) (by omega)]; omega, rdOf_bit, Int.toNat_natCast]
    have hstep : ∀ x : Nat, mkHs L F (i + 1) (x : Int) = if (rd_T83 L (i : Int)).f0 = 6 ∧ bit F i = true then bput (mkHs L F i) (rd_T83 L (i : Int)).f1 (x : Int) else mkHs L F i (x : Int) := fun x => by
      show (if (rd_T83 L (i : Int)).f0 = 6 ∧ F.getD i false = true then bput (mkHs L F i) (rd_T83 L (i : Int)).f1 else mkHs L F i) (x : Int) = _
      unfold bit
      split <;> rfl
    generalize rd_T83 L (i : Int) = t at hn hstep ⊢
    by_cases h6 : t.f0 = 6
    · have hk : 0 ≤ t.f1 ∧ t.f1 < (i : Int) := by omega
      simp only [if_pos h6]
      cases hb : bit F i with
      | true =>
        simp only [if_true, if_pos hk.1, show t.f1 < (Hf.length : Int) by omega]
        refine ih (i + 1) _ (by omega) (by simpa using hH) (fun x hxl => ?_)
        rw [bit_set _ _ _ (by omega), hstep, if_pos (show t.f0 = 6 ∧ bit F i = true from ⟨h6, hb⟩)]
        unfold bput
        by_cases e : t.f1.toNat = x
        · rw [if_pos e, if_pos (by omega)]
        · rw [if_neg e, if_neg (by omega)]; exact hx x hxl
      | false =>
        simp only [Bool.false_eq_true, if_false]
        refine ih (i + 1) _ (by omega) hH (fun x hxl => ?_)
        rw [hstep, if_neg (fun hc => by rw [hb] at hc; exact absurd hc.2 (by decide))]; exact hx x hxl
    · simp only [if_neg h6]
      refine ih (i + 1) _ (by omega) hH (fun x hxl => ?_)
      rw [hstep, if_neg (fun hc => h6 hc.1)]; exact hx x hxl
theorem m2_ev {L : List S83} (h : TF L = 0) (F : List Bool) (hF : F.length = L.length) (Hf : List Bool) (hH : Hf.length = L.length) (hx : ∀ x, x < L.length → bit Hf x = mkHs L F L.length (x : Int)) (d : Nat) : ∀ (i : Nat) (S : List Bool), i + d = L.length → S.length = L.length → (∀ j, j < i → bit S j = bit (opC L F) j) → (∀ j, i ≤ j → bit S j = bit F j) → Ev (fun k => spec_l6Make.l2 k L S Hf i) (opC L F) := by
  have hL := TF_len h
  induction d with
  | zero =>
    intro i S hi hS h1 h2
    refine ev_succ ?_
    simp only [spec_l6Make.l2, show ¬ (i : Int) < (L.length : Int) by omega, if_false]
    rw [bits_ext (F := S) (G := opC L F) (by rw [hS, opC_length]) (fun j hj => h1 j (by omega))]
    exact Ev.now _
  | succ d ih =>
    intro i S hi hS h1 h2
    refine ev_succ ?_
    have hn := node_ok h i (by omega)
    have hat := opC_at h F i (by omega)
    have hbi : bit S i = bit F i := h2 i (Nat.le_refl _)
    have hnext : wrap64 ((i : Int) + 1) = ((i + 1 : Nat) : Int) := by rw [w64' (by omega) (by omega)]; omega
    have step : ∀ b : Bool, b = bit (opC L F) i → Ev (fun k => spec_l6Make.l2 k L (S.set i b) Hf ((i + 1 : Nat) : Int)) (opC L F) := fun b hb => by
      refine ih (i + 1) _ (by omega) (by simpa using hS) (fun j hj => ?_) (fun j hj => ?_)
      · rw [bit_set _ _ _ (by omega)]
        split
        · rename_i e; rw [← e]; exact hb
        · exact h1 j (by omega)
      · rw [bit_set _ _ _ (by omega), if_neg (by omega)]; exact h2 j (by omega)
    have kb : ∀ x : Int, 0 ≤ x → x < (i : Int) → bit S x.toNat = ob (opC L F) x := fun x h0 hlt => h1 x.toNat (by omega)
    simp only [spec_l6Make.l2, show (i : Int) < (L.length : Int) by omega, show 0 ≤ (i : Int) by omega, if_true, show (i : Int) < (S.length : Int) by omega, hnext, Int.toNat_natCast]
    generalize rd_T83 L (i : Int) = t at hn hat ⊢
    rcases hn with ⟨h12, _⟩ | ⟨h6, _, _, ⟨a0, a1⟩, _⟩ | ⟨h3, _, ⟨a0, a1⟩, ⟨b0, b1⟩, _⟩
    · by_cases e1 : t.f0 = 1
      · simp only [if_pos e1]
        refine step true ?_
        rw [hat]; unfold wayV; rw [if_pos e1]; rfl
      · have e2 : t.f0 = 2 := by omega
        simp only [if_neg e1, show ¬ t.f0 = 3 by omega, show ¬ t.f0 = 4 by omega, if_false]
        refine ev_succ ?_
        simp only [spec_l6Make.j3, show (t.f0 == 5) = false by simp [e2], Bool.false_eq_true, if_false, show ¬ t.f0 = 6 by omega, show ¬ t.f0 = 7 by omega, hnext]
        refine ih (i + 1) _ (by omega) hS (fun j hj => ?_) (fun j hj => h2 j (by omega))
        by_cases ej : j = i
        · subst ej
          rw [hbi, hat]; unfold wayV
          rw [if_neg e1, if_neg (by omega), if_neg (by omega), if_neg (by omega)]; rfl
        · exact h1 j (by omega)
    · simp only [show ¬ t.f0 = 1 by omega, show ¬ t.f0 = 3 by omega, show ¬ t.f0 = 4 by omega, if_false]
      refine ev_succ ?_
      have hw : wayV (opC L F) (mkHs L F L.length) t = ob (opC L F) t.f1 := by unfold wayV; rw [if_neg (by omega), if_neg (by omega), if_pos h6]
      rw [hw] at hat
      simp only [spec_l6Make.j3, show (t.f0 == 5) = false by simp [h6], Bool.false_eq_true, if_false, if_pos h6, show 0 ≤ (i : Int) by omega, if_true, show (i : Int) < (S.length : Int) by omega, hnext, rdOf_bit, Int.toNat_natCast, if_pos a0, show t.f1 < (S.length : Int) by omega, kb _ a0 a1, hbi]
      cases hb : bit F i with
      | true => simp only [if_true]; exact step true (by rw [hat, hb, Bool.or_true])
      | false => simp only [Bool.false_eq_true, if_false]; exact step _ (by rw [hat, hb, Bool.or_false])
    · have hop : t.f0 = 7 ∨ (t.f0 = 3 ∨ t.f0 = 4 ∨ t.f0 = 5) := by omega
      rcases hop with h7 | h345
      · simp only [show ¬ t.f0 = 1 by omega, show ¬ t.f0 = 3 by omega, show ¬ t.f0 = 4 by omega, if_false]
        refine ev_succ ?_
        have hw : wayV (opC L F) (mkHs L F L.length) t = ((ob (opC L F) t.f1 && (ob (opC L F) t.f2 || mkHs L F L.length t.f2)) || (ob (opC L F) t.f2 && mkHs L F L.length t.f1)) := by unfold wayV; rw [if_neg (by omega), if_neg (by omega), if_neg (by omega), if_pos h7]
        rw [hw] at hat
        have q1 : bit Hf t.f1.toNat = mkHs L F L.length t.f1 := by have := hx t.f1.toNat (by omega); rwa [show ((t.f1.toNat : Nat) : Int) = t.f1 by omega] at this
        have q2 : bit Hf t.f2.toNat = mkHs L F L.length t.f2 := by have := hx t.f2.toNat (by omega); rwa [show ((t.f2.toNat : Nat) : Int) = t.f2 by omega] at this
        simp only [spec_l6Make.j3, show (t.f0 == 5) = false by simp [h7], Bool.false_eq_true, if_false, show ¬ t.f0 = 6 by omega, if_pos h7, show 0 ≤ (i : Int) by omega, if_true, show (i : Int) < (S.length : Int) by omega, hnext, rdOf_bit, Int.toNat_natCast, if_pos a0, if_pos b0, show t.f1 < (S.length : Int) by omega, show t.f2 < (S.length : Int) by omega, show t.f1 < (Hf.length : Int) by omega, show t.f2 < (Hf.length : Int) by omega, kb _ a0 a1, kb _ b0 b1, hbi, q1, q2]
        rw [← hnext] at step
        generalize ob (opC L F) t.f1 = u at hat ⊢
        generalize ob (opC L F) t.f2 = v at hat ⊢
        generalize mkHs L F L.length t.f1 = p at hat ⊢
        generalize mkHs L F L.length t.f2 = q at hat ⊢
        rw [← hnext] at *
        cases hb : bit F i
        · rw [hb, Bool.or_false] at hat
          cases u <;> cases v <;> cases p <;> cases q <;> simp only [Bool.false_eq_true, if_false, if_true] <;> exact step _ (by rw [hat]; rfl)
        · simp only [if_true]; exact step true (by rw [hat, hb, Bool.or_true])
      · have hw : wayV (opC L F) (mkHs L F L.length) t = (ob (opC L F) t.f1 && ob (opC L F) t.f2) := by unfold wayV; rw [if_neg (by omega), if_pos (by omega)]
        rw [hw] at hat
        have fin : ∀ c e g : Int, Ev (fun k => spec_l6Make.j3 k L S Hf (i : Int) c true e t.f1 t.f2 g) (opC L F) := fun c e g => by
          refine ev_succ ?_
          simp only [spec_l6Make.j3, if_true, show 0 ≤ (i : Int) by omega, show (i : Int) < (S.length : Int) by omega, hnext, rdOf_bit, Int.toNat_natCast, if_pos a0, if_pos b0, show t.f1 < (S.length : Int) by omega, show t.f2 < (S.length : Int) by omega, kb _ a0 a1, kb _ b0 b1, hbi]
          cases hb : bit F i
          · rw [hb, Bool.or_false] at hat
            simp only [Bool.false_eq_true, if_false]
            cases hu : ob (opC L F) t.f1
            · simp only [Bool.false_eq_true, if_false]; exact step _ (by rw [hat, hu]; rfl)
            · simp only [if_true]; exact step _ (by rw [hat, hu]; rfl)
          · simp only [if_true]; exact step true (by rw [hat, hb, Bool.or_true])
        simp only [show ¬ t.f0 = 1 by omega, if_false]
        by_cases e3 : t.f0 = 3
        · simp only [if_pos e3, show (t.f0 == 3) = true by simp [e3]]; exact fin _ _ _
        · by_cases e4 : t.f0 = 4
          · simp only [if_neg e3, if_pos e4, show (t.f0 == 4) = true by simp [e4]]; exact fin _ _ _
          · simp only [if_neg e3, if_neg e4, show (t.f0 == 5) = true by simp; omega]; exact fin _ _ _
theorem idx_len (F : List Bool) : (idxFrom 0 F).length ≤ F.length := by rw [idx_count]; exact List.count_le_length
theorem make_ev {L : List S83} (h : TF L = 0) (F : List Bool) (hF : F.length = L.length) : Ev (fun k => spec_l6Make.f k L (idxFrom 0 F)) (opC L F) := by
  have hL := TF_len h
  have hi := idx_len F
  unfold spec_l6Make.f
  simp only [show 0 ≤ (L.length : Int) by omega, if_true, Int.toNat_natCast, show L.length ≤ 281474976710656 by omega]
  refine m0_ev L hL (idxFrom 0 F) (by omega) _ (fun x hx => ?_) (idxFrom 0 F).length 0 _ (by omega) List.length_replicate ?_
  · obtain ⟨h0, h1⟩ := (idx0_mem F x).1 hx
    have := bit_lt h1
    omega
  · rw [List.drop_zero, ← hF, idx_fold0]
    rw [hF]
    refine m1_ev h F hF _ (fun Hf hH hx => ?_) L.length 0 _ (by omega) List.length_replicate (fun x hx => ?_)
    · exact m2_ev h F hF Hf hH hx L.length 0 F (by omega) hF (fun j hj => absurd hj (Nat.not_lt_zero _)) (fun j _ => rfl)
    · unfold bit mkHs; simp [List.getD, hx]
theorem rise_idx (G : List Bool) (hG : G.length ≤ 100000) (x : Int) (h0 : 0 ≤ x) (h1 : x < (G.length : Int)) : spec_l1Rise.f (idxFrom 0 G) x = some (idxFrom 0 (G.set x.toNat true)) := by
  unfold spec_l1Rise.f
  have := idx_len G
  rw [if_pos (by omega)]
  have e := riseF_idx G 0 x.toNat (by omega)
  rw [show (0 : Int) + (x.toNat : Int) = x by omega] at e
  rw [e]
theorem oxT_step {L : List S83} (h : TF L = 0) (C G : List Bool) (hC : C.length = L.length) (hG : G.length = L.length) (p : Int) (h0 : 0 ≤ p) (hb : bit G p.toNat = true) : oxT L C (idxFrom 0 G) p = some (idxFrom 0 (opT C G p.toNat (rd_T83 L ((p.toNat : Nat) : Int)))) := by
  have hL := TF_len h
  have hp := bit_lt hb
  have hn := node_ok h p.toNat (by omega)
  unfold oxT opT
  rw [if_pos (by omega), if_pos (show G.getD p.toNat false = true from hb)]
  rw [show ((p.toNat : Nat) : Int) = p by omega] at hn ⊢
  generalize rd_T83 L p = t at hn ⊢
  by_cases h3 : t.f0 = 3
  · rw [if_pos h3, if_pos h3, rise_idx G (by omega) t.f1 (by omega) (by omega), Option.bind_some, rise_idx _ (by rw [List.length_set]; omega) t.f2 (by omega) (by rw [List.length_set]; omega)]
  · rw [if_neg h3, if_neg h3]
    by_cases h5 : t.f0 = 5
    · rw [if_pos h5, if_pos (by omega)]
      by_cases hk : C.getD t.f1.toNat false = true
      · rw [if_pos hk, if_pos ⟨h5, hk⟩, rise_idx G (by omega) t.f2 (by omega) (by omega)]
      · rw [if_neg hk, if_neg (fun hc => hk hc.2)]
    · rw [if_neg h5, if_neg (fun hc => h5 hc.1)]
theorem oxL_fold {L : List S83} (h : TF L = 0) (C : List Bool) (hC : C.length = L.length) : ∀ (ps : List Int) (G : List Bool), G.length = L.length → (∀ p ∈ ps, 0 ≤ p ∧ bit G p.toNat = true) → oxL L C ps (idxFrom 0 G) = some (idxFrom 0 ((ps.map Int.toNat).foldl (fun G p => opT C G p (rd_T83 L (p : Int))) G))
  | [], G, _, _ => rfl
  | p :: ps, G, hG, hp => by
    obtain ⟨h0, hb⟩ := hp p List.mem_cons_self
    have hlt := bit_lt hb
    unfold oxL
    rw [oxT_step h C G hC hG p h0 hb, Option.bind_some, List.map_cons, List.foldl_cons]
    have ge := opT_ge h C G hG p.toNat (by omega)
    exact oxL_fold h C hC ps _ (by rw [opT_length]; exact hG) (fun q hq => ⟨(hp q (List.mem_cons_of_mem _ hq)).1, ge _ (hp q (List.mem_cons_of_mem _ hq)).2⟩)
theorem oxO_ev {L : List S83} (h : TF L = 0) {F X : List Bool} (hr : Reach (rdS L) F X) : F.length = L.length → ∃ N, ∀ K k, N ≤ K → N ≤ k → oxO K L k (idxFrom 0 F) = some (idxFrom 0 X) := by
  have hL := TF_len h
  have one : ∀ F : List Bool, F.length = L.length → ∃ N, ∀ K, N ≤ K → ∀ k, oxO K L (k + 1) (idxFrom 0 F) = if rdS L F = F then some (idxFrom 0 F) else oxO K L k (idxFrom 0 (rdS L F)) := fun F hF => by
    obtain ⟨N, hN⟩ := make_ev h F hF
    refine ⟨N, fun K hK k => ?_⟩
    have hi := idx_len F
    have hl := (rndS h).len F hF
    conv => lhs; unfold oxO
    rw [show spec_l6Make.f K L (idxFrom 0 F) = some (opC L F) from hN K hK, Option.bind_some, if_pos (by omega), oxL_fold h (opC L F) (opC_length L F) (idxFrom 0 F) F hF (fun p hp => (idx0_mem F p).1 hp), Option.bind_some]
    show (if (idxFrom 0 (rdS L F)).length = (idxFrom 0 F).length then _ else oxO K L k (idxFrom 0 (rdS L F))) = _
    by_cases e : rdS L F = F
    · rw [if_pos (by rw [e]), if_pos e]
    · have hne : ¬ (idxFrom 0 (rdS L F)).length = (idxFrom 0 F).length := fun hc => e (by
        rw [idx_count, idx_count] at hc
        exact ((le_count F (rdS L F) (by rw [hl, hF]) ((rndS h).ge F hF)).2 hc.symm).symm)
      rw [if_neg hne, if_neg e]
  induction hr with
  | stop e =>
    intro hF
    obtain ⟨N, hN⟩ := one _ hF
    refine ⟨N + 1, fun K k hK hk => ?_⟩
    obtain ⟨m, rfl⟩ : ∃ m, k = m + 1 := ⟨k - 1, by omega⟩
    rw [hN K (by omega), if_pos e]
  | go e _ ih =>
    intro hF
    obtain ⟨N, hN⟩ := one _ hF
    obtain ⟨M, hM⟩ := ih ((rndS h).len _ hF)
    refine ⟨max N M + 1, fun K k hK hk => ?_⟩
    obtain ⟨m, rfl⟩ : ∃ m, k = m + 1 := ⟨k - 1, by omega⟩
    rw [hN K (by omega), if_neg e]
    exact hM K m (by omega) (by omega)
theorem open_both {L : List S83} (h : TF L = 0) (F : List Bool) (hF : F.length = L.length) : ∃ X : List Bool, X.length = L.length ∧ Le F X ∧ Clo L X ∧ Ev (fun k => opL L k F) X ∧ Ev (fun k => spec_l6Open.f k L (idxFrom 0 F)) (idxFrom 0 X) := by
  have hL := TF_len h
  obtain ⟨X, hX⟩ := reach_ex (rndI h) L.length F hF (Nat.sub_le _ _)
  obtain ⟨Y, hY⟩ := reach_ex (rndS h) L.length F hF (Nat.sub_le _ _)
  obtain ⟨x1, x2, x3, _⟩ := hX.props (rndI h) hF
  have e := reach_same (rndI h) (rndS h) hF hX hY
  subst e
  refine ⟨X, x1, x2, x3, opL_ev hX, ?_⟩
  obtain ⟨N, hN⟩ := oxO_ev h hY hF
  refine ⟨N, fun k hk => ?_⟩
  have hi := idx_len F
  show (if (idxFrom 0 F).length ≤ 100000 then oxO k L k (idxFrom 0 F) else none) = _
  rw [if_pos (by omega)]
  exact hN k k hk hk
theorem flags_fold (L : List S83) (l : List Int) (hl : l.length ≤ 400) (hm : ∀ x ∈ l, 0 ≤ x ∧ x < (L.length : Int)) (d : Nat) : ∀ (i : Nat) (F : List Bool), i + d = l.length → F.length = L.length → Ev (fun k => impl_flags.l0 k F l (l.length : Int) i) ((l.drop i).foldl (fun G x => G.set x.toNat true) F) := by
  induction d with
  | zero =>
    intro i F hi hF
    refine ev_succ ?_
    rw [List.drop_eq_nil_of_le (by omega)]
    simp only [impl_flags.l0, show ¬ (i : Int) < (l.length : Int) by omega, if_false]; exact Ev.now _
  | succ d ih =>
    intro i F hi hF
    refine ev_succ ?_
    rw [rd_dropI l i (by omega), List.foldl_cons]
    obtain ⟨h0, h1⟩ := hm (rd l (i : Int)) (by
      have : rd l (i : Int) = l[i]'(by omega) := by simp [rd, List.getD, List.getElem?_eq_getElem (show i < l.length by omega)]
      rw [this]; exact List.getElem_mem _)
    simp only [impl_flags.l0, show (i : Int) < (l.length : Int) by omega, show 0 ≤ (i : Int) by omega, if_true, if_pos h0, show rd l (i : Int) < (F.length : Int) by omega, show wrap64 ((i : Int) + 1) = ((i + 1 : Nat) : Int) by rw [w64' (by omega) (by omega)]; omega]
    exact ih (i + 1) _ (by omega) (by simpa using hF)
theorem flags_idx (L : List S83) (hL : L.length ≤ 400) (F : List Bool) (hF : F.length = L.length) : Ev (fun k => impl_flags.f k L (idxFrom 0 F)) F := by
  have hi := idx_len F
  unfold impl_flags.f
  simp only [show 0 ≤ (L.length : Int) by omega, if_true, Int.toNat_natCast, show L.length ≤ 281474976710656 by omega]
  have := flags_fold L (idxFrom 0 F) (by omega) (fun x hx => by
    obtain ⟨h0, h1⟩ := (idx0_mem F x).1 hx
    have := bit_lt h1
    omega) (idxFrom 0 F).length 0 (List.replicate L.length false) (by omega) List.length_replicate
  rw [List.drop_zero, ← hF, idx_fold0] at this
  rwa [← hF]
theorem mkOk_of {L : List S83} (h : TF L = 0) : mkOk L = true := by
  unfold mkOk
  refine List.all_eq_true.2 (fun i hi => ?_)
  have hi := List.mem_range.1 hi
  have hn := node_ok h i hi
  generalize rd_T83 L (i : Int) = t at hn ⊢
  unfold mkIn
  simp only [Bool.or_eq_true, Bool.and_eq_true, decide_eq_true_eq]
  omega
theorem opened_ev {L : List S83} (h : TF L = 0) {F X : List Bool} (hF : F.length = L.length) (hX : Ev (fun k => opL L k F) X) : Ev (fun k => impl_opened.f k L (idxFrom 0 F)) X := by
  have hL := TF_len h
  unfold impl_opened.f
  refine Ev.bind (flags_idx L hL F hF) ?_
  simp only [if_pos (show F.length = L.length ∧ mkOk L = true ∧ L.length ≤ 400 from ⟨hF, mkOk_of h, hL⟩)]
  exact hX
theorem makeable_some {L : List S83} (h : TF L = 0) (X : List Bool) (hX : X.length = L.length) : impl_makeable.f L X = some (opC L X) := by
  unfold impl_makeable.f
  rw [if_pos ⟨hX, mkOk_of h, TF_len h⟩]
  rfl
theorem derives_ev {L : List S83} (h : TF L = 0) {F X : List Bool} (hX : X.length = L.length) (ho : Ev (fun k => spec_l6Open.f k L (idxFrom 0 F)) (idxFrom 0 X)) : Ev (fun k => spec_l6Derives.f k L (idxFrom 0 F)) (opC L X) := by
  unfold spec_l6Derives.f
  exact Ev.bind ho (Ev.bind (make_ev h X hX) (Ev.now _))
theorem netF_right {L : List S83} {G : List S76} {B H : List Int} {V W : List S88} (h : netF L G B H V W = 0) : TF L = 0 ∧ H.length ≤ 400 ∧ kfF L H 0 H.length = 0 := by
  unfold netF at h
  by_cases h0 : TF L = 0
  rotate_left
  · rw [if_neg h0] at h; exact absurd h h0
  rw [if_pos h0] at h
  split at h
  rotate_left
  · omega
  split at h
  rotate_left
  · contradiction
  split at h
  rotate_left
  · contradiction
  by_cases hk : kf L H = 0
  rotate_left
  · rw [if_neg hk] at h; exact absurd h hk
  unfold kf at hk
  rw [if_pos h0] at hk
  by_cases h2 : H.length > 400
  · rw [if_pos h2] at hk; omega
  · rw [if_neg h2] at hk; exact ⟨h0, by omega, hk⟩
theorem learn_both {L : List S83} (h : TF L = 0) (B H : List Int) (hB : B.length ≤ 9223372036854775806) (hH : H.length ≤ 400) (hk : kfF L H 0 H.length = 0) : ∃ C : List Bool, C.length = L.length ∧ Ev (fun k => impl_Net_learnt.f k L B H) C ∧ ∀ a : Int, 0 ≤ a → a < (L.length : Int) → Ev (fun k => spec_l12Learns.f k L B H a) (C.getD a.toNat false) := by
  have hL := TF_len h
  obtain ⟨G, hG, k1, k2⟩ := known_idx L (by omega) B H hB hH hk
  obtain ⟨X, hX, _, _, o1, o2⟩ := open_both h G hG
  refine ⟨opC L X, opC_length _ _, ?_, fun a h0 h1 => ?_⟩
  · unfold impl_Net_learnt.f
    refine Ev.bind k1 (Ev.bind (opened_ev h hG o1) ?_)
    simp only [makeable_some h X hX]
    exact Ev.now _
  · unfold spec_l12Learns.f
    refine Ev.bind k2 (Ev.bind (derives_ev h hX o2) ?_)
    simp only [if_pos (show 0 ≤ a ∧ a < ((opC L X).length : Int) by rw [opC_length]; omega)]
    exact Ev.now _
theorem learnsIt_both {L : List S83} (hw : L.all wf4 = true) (hL : L.length ≤ 1048576) (G : List S76) (B H : List Int) (hB : B.length ≤ 1048576) (V W : List S88) (a : Int) : ∃ b : Bool, Ev (fun k => spec_LearnsIt.f k L G B H V W a) b ∧ Ev (fun k => impl_LearnsIt.f k L G B H V W a) b := by
  have n1 := net_spec L (by omega) G B H V W
  have n2 := net_impl hw (by omega) G B H V W
  unfold spec_LearnsIt.f impl_LearnsIt.f
  by_cases hc : netF L G B H V W = 0
  rotate_left
  · refine ⟨false, Ev.bind n1 ?_, Ev.bind n2 ?_⟩ <;> (simp only [if_neg hc]; exact Ev.now _)
  obtain ⟨h0, hH, hk⟩ := netF_right hc
  have hl := TF_len h0
  have hs : spec_l5At.f L a = some (decide (0 ≤ a ∧ a ≤ (L.length : Int) - 1)) := by unfold spec_l5At.f; rw [in_specT, w64' (by omega) (by omega)]; rfl
  have hi : impl_isPlace.f L a = some (decide (0 ≤ a ∧ a ≤ (L.length : Int) - 1)) := by unfold impl_isPlace.f; rw [impl_in_eq, w64' (by omega) (by omega)]; rfl
  obtain ⟨C, hC, c1, c2⟩ := learn_both h0 B H (by omega) hH hk
  by_cases hp : 0 ≤ a ∧ a ≤ (L.length : Int) - 1
  · refine ⟨C.getD a.toNat false, Ev.bind n1 ?_, Ev.bind n2 ?_⟩
    · simp only [if_pos hc, hs, Option.bind_some, decide_eq_true hp, if_true]
      exact c2 a hp.1 (by omega)
    · simp only [if_pos hc, hi, Option.bind_some, decide_eq_true hp, if_true]
      refine Ev.bind c1 ?_
      simp only [if_pos (show 0 ≤ a ∧ a < (C.length : Int) by omega)]
      exact Ev.now _
  · refine ⟨false, Ev.bind n1 ?_, Ev.bind n2 ?_⟩
    · simp only [if_pos hc, hs, Option.bind_some, decide_eq_false hp, Bool.false_eq_true, if_false]; exact Ev.now _
    · simp only [if_pos hc, hi, Option.bind_some, decide_eq_false hp, Bool.false_eq_true, if_false]; exact Ev.now _
theorem FnExactLearnsIt : laws_FnExactLearnsIt.Pure := by
  rintro ⟨l0, l1, l2, l3, l4, l5⟩ a1 ⟨⟨hm0, hw0⟩, ⟨hm1, hw1⟩, ⟨hm2, _⟩, ⟨hm3, _⟩, ⟨hm4, _⟩, ⟨hm5, _⟩⟩ _
  have hML : ∀ n, n ≤ maxLen → n ≤ 9223372036854775807 := fun n h => by unfold maxLen at h; exact Nat.le_trans h (by decide)
  have hb : ∀ i : Nat, i < l1.length → (rd_T71 l1 i).f2.length ≤ 9223372036854775807 := fun i hi => by
    have e : rd_T71 l1 i = l1[i] := by simp [rd_T71, List.getD, List.getElem?_eq_getElem hi]
    rw [e]
    exact hML _ (hw1 _ (List.getElem_mem hi)).2.2.1
  have hwf : (l0.map toT).all wf4 = true := wf4_map l0 hw0
  refine Ev.rounds ?_
  show Ev (fun k => laws_FnExactLearnsIt.f k l0 l1 l2 l3 l4 l5 a1) true
  unfold laws_FnExactLearnsIt.f
  obtain ⟨v, hv, hq⟩ := szNet_ev l0 l1 l2 l3 l4 l5 (hML _ hm0) (hML _ hm1) (hML _ hm2) (hML _ hm3) (hML _ hm4) (hML _ hm5) hb
  refine Ev.bind hv ?_
  by_cases hv0 : v < 0
  · simp only [if_pos hv0]; exact Ev.now _
  simp only [if_neg hv0]
  rcases hq with hq | ⟨b0, b1, b2, b3, b4, b5, b6⟩
  · exact absurd hq hv0
  have ht := toNet_ev l0 l1 l2 l3 l4 l5 b0 b1 b2 b3 b4 b5 b6
  have hL0 : (l0.map toT).length ≤ 1048576 := by rw [List.length_map]; omega
  have hL1 : (l1.map toGt).length ≤ 1048576 := by rw [List.length_map]; omega
  have hL4 : (l4.map toGv).length ≤ 1048576 := by rw [List.length_map]; omega
  have hL5 : (l5.map toGv).length ≤ 1048576 := by rw [List.length_map]; omega
  have hLb : ∀ j : Nat, j < (l1.map toGt).length → (rd_T76 (l1.map toGt) j).f2.length ≤ 1048576 := fun j hj => by
    rw [List.length_map] at hj
    rw [rd_map_gt l1 j hj]; exact b6 j hj
  generalize l0.map toT = L at ht hL0 hwf
  generalize l1.map toGt = G at ht hL1 hLb
  generalize l4.map toGv = V at ht hL4
  generalize l5.map toGv = W at ht hL5
  have hLm : ∀ t ∈ G, t.f2.length ≤ 1048576 := fun t hm => by
    obtain ⟨j, hj, rfl⟩ := List.getElem_of_mem hm
    have := hLb j hj
    simpa [rd_T76, List.getD, List.getElem?_eq_getElem hj] using this
  obtain ⟨b, k1, k2⟩ := learnsIt_both hwf hL0 G l2 l3 b2 V W a1
  refine Ev.bind ht (Ev.bind k1 (Ev.bind ht (Ev.bind k2 ?_)))
  simp only [bne_self_eq_false, Bool.false_eq_true, if_false]
  refine Ev.bind ht (Ev.bind (eqNet_ev L G l2 l3 V W hL0 hL1 b2 b3 hL4 hL5 hLb) ?_)
  simp only [if_true]
  exact Ev.now _
end Go.Proofs.YtcafikgabidphaaGreat.Pure
namespace Go.Proofs.YtcafikgabidphaaGreat.fnExactLearnsIt
open Go.ChangeShapes Go.WideShapes Go.ChangeAt
open Go.RowKit Go.Proofs.YtcafikgabidphaaGreat.G Go.Proofs.YtcafikgabidphaaGreatW.PrintWords Go.Proofs.YtcafikgabidphaaGreatW.PrintLast
open Go.ChangeMaps (open_string shut_string)
set_option linter.unusedVariables false
theorem own : ownKnob Tryz.prog.godebug = none := by kernel_rfl
theorem laidOut : laidOutB Tryz.prog = true := by kernel_rfl
def A2 {α β : Type} (G : α → Prop) (H : β → Prop) : α × β → Prop := fun x => G x.1 ∧ H x.2
def gs {α : Type} (G : α → Prop) : List α → Prop := fun xs => xs.length ≤ maxLen ∧ ∀ x ∈ xs, G x
theorem A2c {α β : Type} {P : Program} {f : Field} {fs : List Field} {off : Nat} {T : TypeId} {d : Kd α} {d2 : Kd β} {G : α → Prop} {G2 : β → Prop} (h : Opn.Opens P T d G) (h2 : Opn.OpensAt P fs (off + d.sz) d2 G2) (hf : f.offset = off := by rfl) (hT : f.type = T := by rfl) : Opn.OpensAt P (f :: fs) off (Kd.pair d d2) (A2 G G2) := Opn.at_cons hf hT h h2
theorem A2l {α : Type} {P : Program} {f : Field} {off : Nat} {T : TypeId} {d : Kd α} {G : α → Prop} (h : Opn.Opens P T d G) (hf : f.offset = off := by rfl) (hT : f.type = T := by rfl) : Opn.OpensAt P [f] off d G := Opn.at_last hf hT h
def gi_i64 (n : Int) : Prop := (Lit.int .i64 n).wf = true
theorem o2 : Opn.Opens Tryz.prog 2 (Kd.int .i64) gi_i64 := Opn.opens_int Tryz.underlying2 (by kernel_rfl)
def g85 (x : S85) : Prop := (A2 gi_i64 (A2 gi_i64 (A2 gi_i64 gi_i64))) (x.f0, x.f1, x.f2, x.f3)
theorem o85 : Opn.Opens Tryz.prog 85 k85 g85 := Opn.opens_struct (G := (A2 gi_i64 (A2 gi_i64 (A2 gi_i64 gi_i64)))) (fun x : S85 => (x.f0, x.f1, x.f2, x.f3)) (fun y => ⟨y.1, y.2.1, y.2.2.1, y.2.2.2⟩) (fun _ => rfl) Tryz.underlying85 (by kernel_rfl) (A2c o2 (A2c o2 (A2c o2 (A2l o2))))
theorem o22 : Opn.Opens Tryz.prog 22 (Kd.slice 85 k85) (gs g85) := Opn.opens_slice Tryz.underlying22 (by kernel_rfl) o85
def g139 (x : S139) : Prop := (A2 gi_i64 (A2 gi_i64 (A2 gi_i64 gi_i64))) (x.f0, x.f1, x.f2, x.f3)
theorem o139 : Opn.Opens Tryz.prog 139 k139 g139 := Opn.opens_struct (G := (A2 gi_i64 (A2 gi_i64 (A2 gi_i64 gi_i64)))) (fun x : S139 => (x.f0, x.f1, x.f2, x.f3)) (fun y => ⟨y.1, y.2.1, y.2.2.1, y.2.2.2⟩) (fun _ => rfl) Tryz.underlying139 (by kernel_rfl) (A2c o2 (A2c o2 (A2c o2 (A2l o2))))
def g140 (x : S140) : Prop := (A2 gi_i64 gi_i64) (x.f0, x.f1)
theorem o140 : Opn.Opens Tryz.prog 140 k140 g140 := Opn.opens_struct (G := (A2 gi_i64 gi_i64)) (fun x : S140 => (x.f0, x.f1)) (fun y => ⟨y.1, y.2⟩) (fun _ => rfl) Tryz.underlying140 (by kernel_rfl) (A2c o2 (A2l o2))
def g142 (x : S142) : Prop := (A2 gi_i64 (A2 gi_i64 (A2 gi_i64 (A2 gi_i64 (A2 gi_i64 (A2 gi_i64 (A2 gi_i64 (A2 gi_i64 (A2 gi_i64 (A2 gi_i64 (A2 gi_i64 (A2 g139 (A2 gi_i64 (A2 gi_i64 (A2 gi_i64 g140))))))))))))))) (x.f0, x.f1, x.f2, x.f3, x.f4, x.f5, x.f6, x.f7, x.f8, x.f9, x.f10, x.f11, x.f12, x.f13, x.f14, x.f15)
theorem o142 : Opn.Opens Tryz.prog 142 k142 g142 := Opn.opens_struct (G := (A2 gi_i64 (A2 gi_i64 (A2 gi_i64 (A2 gi_i64 (A2 gi_i64 (A2 gi_i64 (A2 gi_i64 (A2 gi_i64 (A2 gi_i64 (A2 gi_i64 (A2 gi_i64 (A2 g139 (A2 gi_i64 (A2 gi_i64 (A2 gi_i64 g140)))))))))))))))) (fun x : S142 => (x.f0, x.f1, x.f2, x.f3, x.f4, x.f5, x.f6, x.f7, x.f8, x.f9, x.f10, x.f11, x.f12, x.f13, x.f14, x.f15)) (fun y => ⟨y.1, y.2.1, y.2.2.1, y.2.2.2.1, y.2.2.2.2.1, y.2.2.2.2.2.1, y.2.2.2.2.2.2.1, y.2.2.2.2.2.2.2.1, y.2.2.2.2.2.2.2.2.1, y.2.2.2.2.2.2.2.2.2.1, y.2.2.2.2.2.2.2.2.2.2.1, y.2.2.2.2.2.2.2.2.2.2.2.1, y.2.2.2.2.2.2.2.2.2.2.2.2.1, y.2.2.2.2.2.2.2.2.2.2.2.2.2.1, y.2.2.2.2.2.2.2.2.2.2.2.2.2.2.1, y.2.2.2.2.2.2.2.2.2.2.2.2.2.2.2⟩) (fun _ => rfl) Tryz.underlying142 (by kernel_rfl) (A2c o2 (A2c o2 (A2c o2 (A2c o2 (A2c o2 (A2c o2 (A2c o2 (A2c o2 (A2c o2 (A2c o2 (A2c o2 (A2c o139 (A2c o2 (A2c o2 (A2c o2 (A2l o140))))))))))))))))
theorem o69 : Opn.Opens Tryz.prog 69 (Kd.slice 142 k142) (gs g142) := Opn.opens_slice Tryz.underlying69 (by kernel_rfl) o142
def g71 (x : S71) : Prop := (A2 gi_i64 (A2 gi_i64 (gs g142))) (x.f0, x.f1, x.f2)
theorem o71 : Opn.Opens Tryz.prog 71 k71 g71 := Opn.opens_struct (G := (A2 gi_i64 (A2 gi_i64 (gs g142)))) (fun x : S71 => (x.f0, x.f1, x.f2)) (fun y => ⟨y.1, y.2.1, y.2.2⟩) (fun _ => rfl) Tryz.underlying71 (by kernel_rfl) (A2c o2 (A2c o2 (A2l o69)))
theorem o23 : Opn.Opens Tryz.prog 23 (Kd.slice 71 k71) (gs g71) := Opn.opens_slice Tryz.underlying23 (by kernel_rfl) o71
theorem o24 : Opn.Opens Tryz.prog 24 (Kd.slice 2 (Kd.int .i64)) (gs gi_i64) := Opn.opens_slice Tryz.underlying24 (by kernel_rfl) o2
def g90 (x : S90) : Prop := (A2 gi_i64 (A2 gi_i64 (A2 gi_i64 gi_i64))) (x.f0, x.f1, x.f2, x.f3)
theorem o90 : Opn.Opens Tryz.prog 90 k90 g90 := Opn.opens_struct (G := (A2 gi_i64 (A2 gi_i64 (A2 gi_i64 gi_i64)))) (fun x : S90 => (x.f0, x.f1, x.f2, x.f3)) (fun y => ⟨y.1, y.2.1, y.2.2.1, y.2.2.2⟩) (fun _ => rfl) Tryz.underlying90 (by kernel_rfl) (A2c o2 (A2c o2 (A2c o2 (A2l o2))))
theorem o25 : Opn.Opens Tryz.prog 25 (Kd.slice 90 k90) (gs g90) := Opn.opens_slice Tryz.underlying25 (by kernel_rfl) o90
theorem o27 : Opn.Opens Tryz.prog 27 (Kd.iso (Kd.pair (Kd.slice 85 k85) (Kd.pair (Kd.slice 71 k71) (Kd.pair (Kd.slice 2 (Kd.int .i64)) (Kd.pair (Kd.slice 2 (Kd.int .i64)) (Kd.pair (Kd.slice 90 k90) (Kd.slice 90 k90)))))) (fun x => x)) (A2 (gs g85) (A2 (gs g71) (A2 (gs gi_i64) (A2 (gs gi_i64) (A2 (gs g90) (gs g90)))))) := Opn.opens_struct (G := (A2 (gs g85) (A2 (gs g71) (A2 (gs gi_i64) (A2 (gs gi_i64) (A2 (gs g90) (gs g90))))))) (fun x => x) (fun y => y) (fun _ => rfl) Tryz.underlying27 (by kernel_rfl) (A2c o22 (A2c o23 (A2c o24 (A2c o24 (A2c o25 (A2l o25))))))
set_option maxRecDepth 100000 in
theorem lifted (os : Os) (started : os.Started) (H : Type) (enc : TypeId × Value → H) :
    ReturnsInHanded {} Tryz.checked os 3 .any (Rows.fnExactLearnsItSpec.pre6 enc Tryz.prog Tryz.f3 Rows.fnExactLearnsItRow.domain false) (Rows.fnExactLearnsItSpec.post enc Tryz.prog Tryz.f3 false true false false) := by
  refine returnsInHanded_of_change_sized (C := Tryz.checked) own started (by kernel_rfl) Tryz.func3
    (ChangeSpec.witness6 (enc := enc) (C := Tryz.checked) false ⟨#[], #[.agg #[.slice none 0 0, .slice none 0 0, .slice none 0 0, .slice none 0 0, .slice none 0 0, .slice none 0 0], .int .i64 0], []⟩ 8 (by kernel_rfl) (by kernel_rfl) (by kernel_rfl) (by kernel_rfl)) ?_
  intro W base args ds gs before hval0 hW hcnd hsz0 _
  have hval : ∀ (j : Nat) t v, Tryz.f3.params[j]? = some t → args[j]? = some v → Value.okWide Tryz.prog W .any base t v := hval0
  have hW' := hW
  obtain ⟨p, q, hA0, hV, rfl, hfz, hnd⟩ := hW
  have hA : DataW.TrodAll enc Tryz.prog W 0 (fun _ => true) true Tryz.f3.params.toList args.toList ds p := hA0
  rw [Tryz.params3] at hA hval
  obtain ⟨v0, vs0, d0, ds0, p0, q0, hargs, rfl, rfl, h0, r0⟩ := trodAll_cons hA
  obtain ⟨v1, vs1, d1, ds1, p1, q1, rfl, rfl, rfl, h1, r1⟩ := trodAll_cons r0
  obtain ⟨rfl, rfl, rfl⟩ := trodAll_nil r1
  obtain rfl : args = #[v0, v1] := by cases args; simp_all
  obtain ⟨rfl, rfl⟩ := trodVars_none hV
  have k0 := h0
  have lt0 : ∀ x ∈ p0, x.block < W.heap.size := by obtain ⟨m, hm⟩ := k0; exact DataW.trod_lt m _ _ _ hm
  obtain ⟨x0, cs0, rfl, hk0, hg0⟩ := Opn.arg_struct Tryz.underlying27 o27 (hval 0 27 v0 rfl rfl) h0
  obtain ⟨_, _, rfl, ⟨A0_0, c0_0, rfl, hc0_0, hr0_0⟩, ⟨_, _, rfl, ⟨A0_1, c0_1, rfl, hc0_1, hr0_1⟩, ⟨_, _, rfl, ⟨A0_2, c0_2, rfl, hc0_2, hr0_2⟩, ⟨_, _, rfl, ⟨A0_3, c0_3, rfl, hc0_3, hr0_3⟩, ⟨_, _, rfl, ⟨A0_4, c0_4, rfl, hc0_4, hr0_4⟩, ⟨A0_5, c0_5, rfl, hc0_5, hr0_5⟩⟩⟩⟩⟩⟩ := hk0
  obtain ⟨a1, rfl, rfl, rfl, w1⟩ := open_int Tryz.underlying2 (hval 1 2 v1 rfl rfl) h1
  clear hA0 hval0 hsz0
  obtain ⟨k, h⟩ := Pure.FnExactLearnsIt x0 a1 hg0 w1
  refine (laws_FnExactLearnsIt.calls k A0_0 c0_0 x0.1 A0_1 c0_1 x0.2.1 A0_2 c0_2 x0.2.2.1 A0_3 c0_3 x0.2.2.2.1 A0_4 c0_4 x0.2.2.2.2.1 A0_5 c0_5 x0.2.2.2.2.2 a1 W hr0_0 hc0_0 hr0_1 hc0_1 hr0_2 hc0_2 hr0_3 hc0_3 hr0_4 hc0_4 hr0_5 hc0_5 h).mono fun e W' ⟨he, bel0⟩ => ?_
  have bel : Below W.heap.size W W' := bel0
  subst he
  exact ⟨_, rfl, _, _, _, [], _, [], hW', trodAll_mk1 (shut_bool Tryz.underlying4 _), (trodAll_cons_mk (Below.trod laidOut (by kernel_rfl) (of_decide_eq_true (by kernel_rfl)) k0 bel lt0) (trodAll_cons_mk (shut_int Tryz.underlying2 w1) trodAll_mk0)), rfl, bel.frame _, fun h => by cases h⟩
theorem over : Rows.fnExactLearnsItRow.holds Tryz.pinned (OpenSpec.ofChange Rows.fnExactLearnsItSpec) :=
  OpenClaim.holds_of_wide 3 Tryz.f3 rfl rfl rfl rfl rfl rfl rfl ⟨rfl, rfl, rfl, rfl, rfl⟩ rfl rfl rfl rfl rfl (by kernel_rfl) Tryz.func3 (by kernel_rfl)
    (of_decide_eq_true (by kernel_rfl)) (by unfold Func.isWrapper; first | (rw [if_pos (by decide +kernel)]; kernel_rfl) | (rw [if_neg (by decide +kernel)]; exact ⟨rfl, rfl⟩))
    (fun os started H enc _ => lifted os started H enc)
end Go.Proofs.YtcafikgabidphaaGreat.fnExactLearnsIt
namespace Go.Proofs.YtcafikgabidphaaGreat
theorem fnExactLearnsIt_holds : Rows.FnExactLearnsItSaid := fnExactLearnsIt.over
end Go.Proofs.YtcafikgabidphaaGreat
#print axioms Go.Proofs.YtcafikgabidphaaGreat.fnExactLearnsIt_holds
