/- FnExactPutList: for every input the law returns true and its arguments read afterwards as they read before. No condition. -/
import Derived.Test.YtgognaaljleioaaCFnExactPutList3
import Derived.ChangeArms
import Derived.Deep.Slices
import Derived.ProofKit
import Derived.OpenShut
import Derived.Test.YtgognaaljleioaaRows
import Derived.WalkKit
import Derived.ShutString
import Derived.ChangeOld
import Derived.Below
import Derived.SizedLaws
set_option linter.unusedVariables false
namespace Go.Proofs.Ytgognaaljleioaa.Opn
open Go.Proofs.YtgognaaljleioaaW.PrintWords
def Opens {α : Type} (P : Program) (t : TypeId) (d : Kd α) (G : α → Prop) : Prop :=
  P.cellsOf t = d.sz ∧ ∀ (H : Type) (enc : TypeId × Value → H) (W : World) (base : Nat) (sp : Nat → Bool) (held : Bool) (fuel : Nat) (cs : List Value) (x : DataW H × List MemPlace),
    DataW.trod enc P W base sp held fuel t cs = some x → ∃ a, d.K W a cs ∧ G a
theorem opens_int {P : Program} {t : TypeId} {k : IntKind} (ht : P.underlying t = some (.int k)) (hc : P.cellsOf t = 1) : Opens P t (Kd.int k) (fun n => (Lit.int k n).wf = true) :=
  ⟨hc, fun H enc W base sp held fuel cs x hx => by
    obtain ⟨n, h, hx, hw⟩ := DataW.trod_int ht hx
    exact ⟨n, h, hw⟩⟩
theorem opens_slice {α : Type} {P : Program} {t e : TypeId} {d : Kd α} {G : α → Prop} (ht : P.underlying t = some (.slice e)) (hc : P.cellsOf t = 1) (he : Opens P e d G) :
    Opens P t (Kd.slice e d) (fun xs => xs.length ≤ maxLen ∧ ∀ x ∈ xs, G x) :=
  ⟨hc, fun H enc W base sp held fuel cs x hx => by
    rcases Go.Deep.open_slice ht hx with ⟨rfl, rfl⟩ | ⟨a, len, cap, m, n, D, Pl, rfl, hb, hl, hm, hmm, rfl, hel⟩
    · refine ⟨[], ⟨none, 0, rfl, Nat.le_refl _, rfl, by simp, ?_⟩, by simp, by simp⟩
      intro h; exact absurd h (by simp)
    · have hle : len ≤ m := by rw [hmm]; split <;> omega
      have key : ∀ i, i < len → ∃ p : α, ∃ c : List Value, c.length = d.sz ∧ d.K W p c ∧ G p ∧ ∀ j u, c[j]? = some u → W.cell? (a.add (i * d.sz + j)) = some u := by
        intro i hi
        obtain ⟨c, h1, h2⟩ := hel i (by omega)
        obtain ⟨p, h3, h4⟩ := he.2 H enc W base sp held n c _ h2
        obtain ⟨_, h5, h6⟩ := World.cells?_some h1
        rw [he.1] at h5 h6
        refine ⟨p, c, h5, h3, h4, fun j u hj => ?_⟩
        have hjl : j < d.sz := by
          have := (List.getElem?_eq_some_iff.1 hj).1
          omega
        rw [← Go.Deep.add_add, h6 j hjl, hj]
      have ex : ∃ ps : List α, ps.length = len ∧ ∀ i p, ps[i]? = some p → ∃ c : List Value, c.length = d.sz ∧ d.K W p c ∧ G p ∧ ∀ j u, c[j]? = some u → W.cell? (a.add (i * d.sz + j)) = some u := by
        clear hel hmm hle hl hm hx
        induction len with
        | zero => exact ⟨[], rfl, fun i p h => by simp at h⟩
        | succ k ih =>
          obtain ⟨ps, h1, h2⟩ := ih (fun i hi => key i (by omega))
          obtain ⟨p, hp⟩ := key k (by omega)
          refine ⟨ps ++ [p], by simp [h1], fun i q h => ?_⟩
          by_cases hi : i < ps.length
          · rw [List.getElem?_append_left hi] at h
            exact h2 i q h
          · rw [List.getElem?_append_right (by omega)] at h
            have hi0 : i - ps.length = 0 := by
              have := (List.getElem?_eq_some_iff.1 h).1
              simp at this
              omega
            rw [hi0] at h
            simp at h
            subst h
            have : i = k := by omega
            subst this
            exact hp
      obtain ⟨ps, h1, h2⟩ := ex
      subst h1
      refine ⟨ps, ⟨some a, cap, rfl, hl, rfl, by simp only [maxLen] at hm; omega, fun _ => ⟨a, rfl, fun j p hj => ?_⟩⟩, by omega, fun x hx' => ?_⟩
      · obtain ⟨c, g1, g2, g3, g4⟩ := h2 j p hj
        exact ⟨c, g1, g2, g4⟩
      · obtain ⟨i, hi⟩ := List.getElem?_of_mem hx'
        obtain ⟨c, g1, g2, g3, g4⟩ := h2 i x hi
        exact g3⟩
def OpensAt {α : Type} (P : Program) (fs : List Field) (off : Nat) (d : Kd α) (G : α → Prop) : Prop :=
  ∀ (H : Type) (enc : TypeId × Value → H) (W : World) (base : Nat) (sp : Nat → Bool) (held : Bool) (n : Nat) (cs : List Value),
    cs.length = off + d.sz → (∀ f ∈ fs, ∃ y, DataW.trod enc P W base sp held n f.type ((cs.drop f.offset).take (P.cellsOf f.type)) = some y) → ∃ a, d.K W a (cs.drop off) ∧ G a
theorem at_last {α : Type} {P : Program} {f : Field} {off : Nat} {T : TypeId} {d : Kd α} {G : α → Prop} (hf : f.offset = off) (hT : f.type = T) (h : Opens P T d G) : OpensAt P [f] off d G :=
  fun H enc W base sp held n cs hl hfs => by
    subst hT
    obtain ⟨y, hy⟩ := hfs f (List.mem_singleton.2 rfl)
    rw [hf, h.1, List.take_of_length_le (by rw [List.length_drop]; omega)] at hy
    exact h.2 H enc W base sp held n _ _ hy
theorem at_cons {α β : Type} {P : Program} {f : Field} {fs : List Field} {off : Nat} {T : TypeId} {d : Kd α} {d2 : Kd β} {G : α → Prop} {G2 : β → Prop} (hf : f.offset = off) (hT : f.type = T) (h : Opens P T d G) (h2 : OpensAt P fs (off + d.sz) d2 G2) :
    OpensAt P (f :: fs) off (Kd.pair d d2) (fun x => G x.1 ∧ G2 x.2) :=
  fun H enc W base sp held n cs hl hfs => by
    subst hT
    obtain ⟨y, hy⟩ := hfs f (List.mem_cons_self)
    have hl' : cs.length = off + (d.sz + d2.sz) := hl
    rw [hf, h.1] at hy
    obtain ⟨a, k1, g1⟩ := h.2 H enc W base sp held n _ _ hy
    obtain ⟨b, k2, g2⟩ := h2 H enc W base sp held n cs (by omega) (fun f' hf' => hfs f' (List.mem_cons_of_mem _ hf'))
    refine ⟨(a, b), ⟨_, _, ?_, k1, k2⟩, g1, g2⟩
    rw [← List.drop_drop, List.take_append_drop]
theorem opens_struct {α β : Type} {P : Program} {t : TypeId} {fs : List Field} {d : Kd α} {G : α → Prop} (f : β → α) (g : α → β) (hfg : ∀ x, f (g x) = x) (ht : P.underlying t = some (.struct fs.toArray)) (hc : P.cellsOf t = d.sz) (h : OpensAt P fs 0 d G) :
    Opens P t (Kd.iso d f) (fun x => G (f x)) :=
  ⟨hc, fun H enc W base sp held fuel cs x hx => by
    obtain ⟨xs, n, _, _, hl, hlen, hf⟩ := DataW.trod_struct ht hx
    obtain ⟨a, k, g1⟩ := h H enc W base sp held n cs (by rw [hl, hc]; omega) (fun f' hf' => by
      obtain ⟨i, hi⟩ := List.getElem?_of_mem hf'
      have hi' : fs.toArray[i]? = some f' := by simpa using hi
      have hil : i < xs.length := by
        have := (List.getElem?_eq_some_iff.1 hi).1
        have h2 : xs.length = fs.length := by simpa using hlen
        omega
      have := hf i f' hi'
      rw [List.getElem?_eq_getElem hil] at this
      exact ⟨_, this⟩)
    refine ⟨g a, ?_, ?_⟩
    · show d.K W (f (g a)) cs
      rw [hfg]; simpa using k
    · show G (f (g a))
      rw [hfg]; exact g1⟩
theorem arg_struct {α : Type} {P : Program} {W : World} {r : Reach} {b0 : Nat} {t : TypeId} {fs : Array Field} {d : Kd α} {G : α → Prop} {H : Type} {enc : TypeId × Value → H} {base : Nat} {sp : Nat → Bool} {held : Bool} {v : Value} {x : DataW H} {ps : List MemPlace}
    (ht : P.underlying t = some (.struct fs)) (ho : Opens P t d G) (hv : Value.okWide P W r b0 t v) (h : DataW.Trod enc P W base sp held t v x ps) :
    ∃ (a : α) (cs : List Value), v = .agg cs.toArray ∧ d.K W a cs ∧ G a := by
  obtain ⟨cs, rfl, hsz⟩ := Go.WideShapes.okWide_struct ht hv
  obtain ⟨fuel, hf⟩ := h
  obtain ⟨a, k, g⟩ := ho.2 H enc W base sp held fuel _ _ hf
  exact ⟨a, cs.toList, by simp, by simpa [Value.cells] using k, g⟩
theorem arg_slice {α : Type} {P : Program} {W : World} {t e : TypeId} {d : Kd α} {G : α → Prop} {H : Type} {enc : TypeId × Value → H} {base : Nat} {sp : Nat → Bool} {held : Bool} {A : Option Addr} {n c : Nat} {x : DataW H} {ps : List MemPlace}
    (ht : P.underlying t = some (.slice e)) (hc : P.cellsOf t = 1) (he : Opens P e d G) (h : DataW.Trod enc P W base sp held t (.slice A n c) x ps) :
    ∃ xs : List α, n = xs.length ∧ d.C W A xs.length xs ∧ xs.length ≤ c ∧ xs.length ≤ maxLen ∧ ∀ a ∈ xs, G a := by
  obtain ⟨fuel, hf⟩ := h
  obtain ⟨xs, ⟨A', c', h1, h2, h3⟩, h4, h5⟩ := (opens_slice ht hc he).2 H enc W base sp held fuel _ _ hf
  simp [Value.cells] at h1
  obtain ⟨rfl, rfl, rfl⟩ := h1
  exact ⟨xs, rfl, h3, h2, h4, h5⟩
end Go.Proofs.Ytgognaaljleioaa.Opn
namespace Go.Proofs.Ytgognaaljleioaa.Pure
open Go.RowKit Go.Proofs.Ytgognaaljleioaa.G Go.Proofs.YtgognaaljleioaaW.PrintWords Go.Proofs.YtgognaaljleioaaW.PrintLast
def laws_FnExactPutList.Pure : Prop := ∀ (l0 : List S35) (l1 : List Int), l0.length ≤ maxLen → (∀ x ∈ l0, (fun (x : S35) => (fun (x : Int × Int × Int × Int) => (fun n => (Lit.int .i64 n).wf = true) x.1 ∧ (fun (x : Int × Int × Int) => (fun n => (Lit.int .i64 n).wf = true) x.1 ∧ (fun (x : Int × Int) => (fun n => (Lit.int .i64 n).wf = true) x.1 ∧ (fun n => (Lit.int .i64 n).wf = true) x.2) x.2) x.2) (x.f0, x.f1, x.f2, x.f3)) x) → l1.length ≤ maxLen → (∀ x ∈ l1, (fun n => (Lit.int .i64 n).wf = true) x) → ∃ k, laws_FnExactPutList.f k l0 l1 = some true
end Go.Proofs.Ytgognaaljleioaa.Pure
set_option linter.unusedVariables false
set_option linter.unusedSimpArgs false
namespace Go.Proofs.Ytgognaaljleioaa.Pure
open Go.RowKit Go.Proofs.Ytgognaaljleioaa.G Go.Proofs.YtgognaaljleioaaW.PrintWords Go.Proofs.YtgognaaljleioaaW.PrintLast Go.Proofs.YtgognaaljleioaaW.PrintMore
theorem ev_succ {α : Type} {g : Nat → Option α} {r : α} (h : Ev (fun k => g (k + 1)) r) : Ev g r := by
  obtain ⟨K, hK⟩ := h
  refine ⟨K + 1, fun k hk => ?_⟩
  obtain ⟨m, rfl⟩ : ∃ m, k = m + 1 := ⟨k - 1, by omega⟩
  exact hK m (by omega)
theorem w64' {n : Int} (h0 : -9223372036854775808 ≤ n) (h1 : n ≤ 9223372036854775807) : wrap64 n = n := by unfold wrap64; omega
theorem rd_nat (l : List Int) (i : Nat) : rd l (i : Int) = l.getD i 0 := by simp [rd]
theorem set_split {α : Type} (pre rest : List α) (x y : α) : (pre ++ x :: rest).set pre.length y = pre ++ y :: rest := by
  simp
theorem toInt64S_l0 (l : List Int) (hl : l.length ≤ 9223372036854775807) (z : Int) (d : Nat) : ∀ (k i : Nat), i + d = l.length → d < k →
    laws_toInt64S.l0 k l (l.take i ++ List.replicate d z) i = some l := by
  induction d with
  | zero =>
    intro k i hi hk
    obtain ⟨k, rfl⟩ : ∃ m, k = m + 1 := ⟨k - 1, by omega⟩
    simp only [laws_toInt64S.l0]; rw [if_neg (by omega)]
    simp [List.take_of_length_le (show l.length ≤ i by omega)]
  | succ d ih =>
    intro k i hi hk
    obtain ⟨k, rfl⟩ : ∃ m, k = m + 1 := ⟨k - 1, by omega⟩
    simp only [laws_toInt64S.l0]
    rw [if_pos (by omega), if_pos (by omega), if_pos (by simp; omega), w64' (by omega) (by omega), rd_nat]
    have e : (l.take i ++ List.replicate (d + 1) z).set ((i : Int)).toNat (l.getD i 0) = l.take (i + 1) ++ List.replicate d z := by
      rw [List.replicate_succ]
      have h1 : (l.take i).length = i := by simp; omega
      have := set_split (l.take i) (List.replicate d z) z (l.getD i 0)
      rw [h1] at this
      simp only [Int.toNat_natCast]
      have hg : l.getD i 0 = l[i]'(by omega) := by simp [List.getD, List.getElem?_eq_getElem (show i < l.length by omega)]
      rw [this, hg, List.take_succ_eq_append_getElem (by omega), List.append_assoc]; rfl
    rw [e]
    have := ih k (i + 1) (by omega) (by omega)
    simpa using this
theorem toInt64S_ev (l : List Int) (hl : l.length ≤ 35184372088832) : Ev (fun k => laws_toInt64S.f k l) l := by
  refine ⟨l.length + 1, fun k hk => ?_⟩
  simp only [laws_toInt64S.f]
  rw [if_pos (by omega), if_pos (by simp; omega)]
  have := toInt64S_l0 l (by omega) 0 l.length k 0 (by omega) (by omega)
  simpa using this
theorem eqInt64S_l0 (l : List Int) (hl : l.length ≤ 9223372036854775807) (d : Nat) : ∀ (k i : Nat), i + d = l.length → d < k → laws_eqInt64S.l0 k l l i = some true := by
  induction d with
  | zero =>
    intro k i hi hk
    obtain ⟨k, rfl⟩ : ∃ m, k = m + 1 := ⟨k - 1, by omega⟩
    simp only [laws_eqInt64S.l0]; rw [if_neg (by omega)]
  | succ d ih =>
    intro k i hi hk
    obtain ⟨k, rfl⟩ : ∃ m, k = m + 1 := ⟨k - 1, by omega⟩
    simp only [laws_eqInt64S.l0]
    rw [if_pos (by omega), if_pos (by omega), if_pos (by omega), if_pos trivial, w64' (by omega) (by omega)]
    have := ih k (i + 1) (by omega) (by omega)
    simpa using this
theorem eqInt64S_ev (l : List Int) (hl : l.length ≤ 9223372036854775807) : Ev (fun k => laws_eqInt64S.f k l l) true := by
  refine ⟨l.length + 1, fun k hk => ?_⟩
  simp only [laws_eqInt64S.f, if_true]
  have := eqInt64S_l0 l hl l.length k 0 (by omega) (by omega)
  simpa using this
theorem eqIntsResult_ev (c : Int) (l : List Int) (hl : l.length ≤ 9223372036854775807) : Ev (fun k => laws_eqIntsResult.f k c l c l) true := by
  unfold laws_eqIntsResult.f
  simp only [if_true]
  refine Ev.bind (eqInt64S_ev l hl) ?_
  simp only [if_true]; exact Ev.now _
def marks (m : Int) (n : Nat) : List Int := (List.range n).map fun (i : Nat) => m + (i : Int)
theorem marks_length (m : Int) (n : Nat) : (marks m n).length = n := by simp [marks]
theorem marks_succ (m : Int) (n : Nat) : marks m (n + 1) = marks m n ++ [m + n] := by simp [marks, List.range_succ]
theorem markInt64S_l0 (l : List Int) (m : Int) (hm : 0 ≤ m) (hl : m + l.length ≤ 9223372036854775806) (d : Nat) : ∀ (k i : Nat), i + d = l.length → d < k →
    laws_markInt64S.l0 k (marks m i ++ l.drop i) (m + i) i = some (m + l.length, marks m l.length) := by
  induction d with
  | zero =>
    intro k i hi hk
    obtain ⟨k, rfl⟩ : ∃ m, k = m + 1 := ⟨k - 1, by omega⟩
    obtain rfl : i = l.length := by omega
    simp only [laws_markInt64S.l0]; rw [if_neg (by simp [marks_length])]
    simp
  | succ d ih =>
    intro k i hi hk
    obtain ⟨k, rfl⟩ : ∃ m, k = m + 1 := ⟨k - 1, by omega⟩
    simp only [laws_markInt64S.l0]
    have hlen : (marks m i ++ l.drop i).length = l.length := by simp [marks_length]; omega
    rw [if_pos (by rw [hlen]; omega), if_pos (by omega), w64' (n := m + i + 1) (by omega) (by omega), w64' (n := (i : Int) + 1) (by omega) (by omega)]
    have e : (marks m i ++ l.drop i).set ((i : Int)).toNat (m + i) = marks m (i + 1) ++ l.drop (i + 1) := by
      rw [List.drop_eq_getElem_cons (show i < l.length by omega), marks_succ]
      have := set_split (marks m i) (l.drop (i + 1)) l[i] (m + i)
      rw [marks_length] at this
      simp only [Int.toNat_natCast]
      rw [this]; simp
    rw [e]
    have := ih k (i + 1) (by omega) (by omega)
    simpa [Int.add_assoc] using this
theorem markInt64S_ev (l : List Int) (m : Int) (hm : 0 ≤ m) (hl : m + l.length ≤ 9223372036854775806) : Ev (fun k => laws_markInt64S.f k l m) (m + l.length, marks m l.length) := by
  refine ⟨l.length + 1, fun k hk => ?_⟩
  unfold laws_markInt64S.f
  have := markInt64S_l0 l m hm hl l.length k 0 (by omega) (by omega)
  simpa [marks] using this
theorem heldInt64S_l0 (n : Nat) (m : Int) (hm : 0 ≤ m) (hl : m + n ≤ 9223372036854775806) (d : Nat) : ∀ (k i : Nat), i + d = n → d < k →
    laws_heldInt64S.l0 k (marks m n) (m + i) i = some (m + n) := by
  induction d with
  | zero =>
    intro k i hi hk
    obtain ⟨k, rfl⟩ : ∃ m, k = m + 1 := ⟨k - 1, by omega⟩
    obtain rfl : i = n := by omega
    simp only [laws_heldInt64S.l0]; rw [if_neg (by simp [marks_length])]
  | succ d ih =>
    intro k i hi hk
    obtain ⟨k, rfl⟩ : ∃ m, k = m + 1 := ⟨k - 1, by omega⟩
    simp only [laws_heldInt64S.l0]
    have e : rd (marks m n) (i : Int) = m + i := by
      rw [rd_nat]
      simp [marks, List.getD, List.getElem?_map, List.getElem?_range (show i < n by omega)]
    rw [if_pos (by rw [marks_length]; omega), if_pos (by omega), if_pos e, w64' (n := m + i + 1) (by omega) (by omega), w64' (n := (i : Int) + 1) (by omega) (by omega)]
    have := ih k (i + 1) (by omega) (by omega)
    simpa [Int.add_assoc] using this
theorem heldInt64S_ev (n : Nat) (m : Int) (hm : 0 ≤ m) (hl : m + n ≤ 9223372036854775806) : Ev (fun k => laws_heldInt64S.f k (marks m n) m) (m + n) := by
  refine ⟨n + 1, fun k hk => ?_⟩
  unfold laws_heldInt64S.f
  have := heldInt64S_l0 n m hm hl n k 0 (by omega) (by omega)
  simpa using this
theorem markIntsResult_ev (c : Int) (l : List Int) (m : Int) (hm : 0 ≤ m) (hl : m + l.length ≤ 9223372036854775806) : Ev (fun k => laws_markIntsResult.f k c l m) (m + l.length, marks m l.length) := by
  unfold laws_markIntsResult.f
  exact Ev.bind (markInt64S_ev l m hm hl) (Ev.now _)
theorem heldIntsResult_ev (c : Int) (n : Nat) (m : Int) (hm : 0 ≤ m) (hl : m + n ≤ 9223372036854775806) : Ev (fun k => laws_heldIntsResult.f k c (marks m n) m) (m + n) := by
  unfold laws_heldIntsResult.f
  refine Ev.bind (heldInt64S_ev n m hm hl) ?_
  rw [if_neg (by omega)]; exact Ev.now _
end Go.Proofs.Ytgognaaljleioaa.Pure
set_option linter.unusedVariables false
set_option linter.unusedSimpArgs false
namespace Go.Proofs.Ytgognaaljleioaa.Pure
open Go.RowKit Go.Proofs.Ytgognaaljleioaa.G Go.Proofs.YtgognaaljleioaaW.PrintWords Go.Proofs.YtgognaaljleioaaW.PrintLast Go.Proofs.YtgognaaljleioaaW.PrintMore
def toT (x : S35) : S39 := ⟨x.f0, x.f1, x.f2, x.f3⟩
theorem toTermS_l0 (l : List S35) (hl : l.length ≤ 9223372036854775807) (z : S39) (d : Nat) : ∀ (k i : Nat), i + d = l.length → d < k →
    laws_toTermS.l0 k l ((l.map toT).take i ++ List.replicate d z) i = some (l.map toT) := by
  induction d with
  | zero =>
    intro k i hi hk
    obtain ⟨k, rfl⟩ : ∃ m, k = m + 1 := ⟨k - 1, by omega⟩
    simp only [laws_toTermS.l0]; rw [if_neg (by omega)]
    simp [List.take_of_length_le (show (l.map toT).length ≤ i by simp; omega)]
  | succ d ih =>
    intro k i hi hk
    obtain ⟨k, rfl⟩ : ∃ m, k = m + 1 := ⟨k - 1, by omega⟩
    simp only [laws_toTermS.l0, laws_toTerm.f, Option.bind_some]
    rw [if_pos (by omega), if_pos (by omega), if_pos (by simp; omega), w64' (by omega) (by omega)]
    have e : ((l.map toT).take i ++ List.replicate (d + 1) z).set ((i : Int)).toNat (⟨(rd_T35 l i).f0, (rd_T35 l i).f1, (rd_T35 l i).f2, (rd_T35 l i).f3⟩ : S39) = (l.map toT).take (i + 1) ++ List.replicate d z := by
      rw [List.replicate_succ]
      have h1 : ((l.map toT).take i).length = i := by simp; omega
      have := set_split ((l.map toT).take i) (List.replicate d z) z (toT (rd_T35 l i))
      rw [h1] at this
      simp only [Int.toNat_natCast]
      have hg : toT (rd_T35 l i) = (l.map toT)[i]'(by simp; omega) := by simp [rd_T35, List.getD, List.getElem?_eq_getElem (show i < l.length by omega)]
      rw [List.take_succ_eq_append_getElem (by simp; omega), ← hg, List.append_assoc]
      exact this
    rw [e]
    have := ih k (i + 1) (by omega) (by omega)
    simpa using this
theorem toTermS_ev (l : List S35) (hl : l.length ≤ 8796093022208) : Ev (fun k => laws_toTermS.f k l) (l.map toT) := by
  refine ⟨l.length + 1, fun k hk => ?_⟩
  simp only [laws_toTermS.f]
  rw [if_pos (by omega), if_pos (by simp; omega)]
  have := toTermS_l0 l (by omega) z39 l.length k 0 (by omega) (by omega)
  simpa using this
theorem eqTermS_l0 (l : List S39) (hl : l.length ≤ 9223372036854775807) (d : Nat) : ∀ (k i : Nat), i + d = l.length → d < k → laws_eqTermS.l0 k l l i = some true := by
  induction d with
  | zero =>
    intro k i hi hk
    obtain ⟨k, rfl⟩ : ∃ m, k = m + 1 := ⟨k - 1, by omega⟩
    simp only [laws_eqTermS.l0]; rw [if_neg (by omega)]
  | succ d ih =>
    intro k i hi hk
    obtain ⟨k, rfl⟩ : ∃ m, k = m + 1 := ⟨k - 1, by omega⟩
    simp only [laws_eqTermS.l0, laws_eqTerm.f, if_true, Option.bind_some]
    rw [if_pos (by omega), if_pos (by omega), if_pos (by omega), w64' (by omega) (by omega)]
    have := ih k (i + 1) (by omega) (by omega)
    simpa using this
theorem eqTermS_ev (l : List S39) (hl : l.length ≤ 9223372036854775807) : Ev (fun k => laws_eqTermS.f k l l) true := by
  refine ⟨l.length + 1, fun k hk => ?_⟩
  simp only [laws_eqTermS.f, if_true]
  have := eqTermS_l0 l hl l.length k 0 (by omega) (by omega)
  simpa using this
def tmark (m : Int) (i : Nat) : S39 := ⟨m + 4 * i, m + 4 * i + 1, m + 4 * i + 1 + 1, m + 4 * i + 1 + 1 + 1⟩
def tmarks (m : Int) (n : Nat) : List S39 := (List.range n).map (tmark m)
theorem tmarks_length (m : Int) (n : Nat) : (tmarks m n).length = n := by simp [tmarks]
theorem tmarks_succ (m : Int) (n : Nat) : tmarks m (n + 1) = tmarks m n ++ [tmark m n] := by simp [tmarks, List.range_succ]
theorem rd_setT (l : List S39) (i : Nat) (h : i < l.length) (x : S39) : rd_T39 (l.set i x) (i : Int) = x := by
  simp [rd_T39, List.getD, h]
theorem markTermS_l0 (l : List S39) (m : Int) (hm : 0 ≤ m) (hl : m + 4 * l.length ≤ 9223372036854775800) (d : Nat) : ∀ (k i : Nat), i + d = l.length → d < k →
    laws_markTermS.l0 k (tmarks m i ++ l.drop i) (m + 4 * i) i = some (m + 4 * l.length, tmarks m l.length) := by
  induction d with
  | zero =>
    intro k i hi hk
    obtain ⟨k, rfl⟩ : ∃ m, k = m + 1 := ⟨k - 1, by omega⟩
    obtain rfl : i = l.length := by omega
    simp only [laws_markTermS.l0]; rw [if_neg (by simp [tmarks_length])]
    simp
  | succ d ih =>
    intro k i hi hk
    obtain ⟨k, rfl⟩ : ∃ m, k = m + 1 := ⟨k - 1, by omega⟩
    simp only [laws_markTermS.l0]
    have hlen : (tmarks m i ++ l.drop i).length = l.length := by simp [tmarks_length]; omega
    have hle : i < (tmarks m i ++ l.drop i).length := by omega
    have e1 : wrap64 (m + 4 * i + 1) = m + 4 * i + 1 := w64' (by omega) (by omega)
    have e2 : wrap64 (m + 4 * i + 1 + 1) = m + 4 * i + 1 + 1 := w64' (by omega) (by omega)
    have e3 : wrap64 (m + 4 * i + 1 + 1 + 1) = m + 4 * i + 1 + 1 + 1 := w64' (by omega) (by omega)
    have e4 : wrap64 (m + 4 * i + 1 + 1 + 1 + 1) = m + 4 * i + 1 + 1 + 1 + 1 := w64' (by omega) (by omega)
    rw [e1, e2, e3, e4, w64' (n := (i : Int) + 1) (by omega) (by omega)]
    simp only [Option.bind_some, Int.toNat_natCast, show (i : Int) < ((tmarks m i ++ l.drop i).length : Int) by omega, show 0 ≤ (i : Int) by omega, if_true]
    simp only [List.set_set, rd_setT _ i hle]
    have e : (tmarks m i ++ l.drop i).set i (⟨m + 4 * i, m + 4 * i + 1, m + 4 * i + 1 + 1, m + 4 * i + 1 + 1 + 1⟩ : S39) = tmarks m (i + 1) ++ l.drop (i + 1) := by
      rw [List.drop_eq_getElem_cons (show i < l.length by omega), tmarks_succ]
      have := set_split (tmarks m i) (l.drop (i + 1)) l[i] (tmark m i)
      rw [tmarks_length] at this
      show _ = _
      rw [show (⟨m + 4 * i, m + 4 * i + 1, m + 4 * i + 1 + 1, m + 4 * i + 1 + 1 + 1⟩ : S39) = tmark m i from rfl, this]; simp
    rw [e]
    have := ih k (i + 1) (by omega) (by omega)
    rw [show m + 4 * (i : Int) + 1 + 1 + 1 + 1 = m + 4 * ((i + 1 : Nat) : Int) by omega, show (i : Int) + 1 = ((i + 1 : Nat) : Int) by omega]
    exact this
theorem markTermS_ev (l : List S39) (m : Int) (hm : 0 ≤ m) (hl : m + 4 * l.length ≤ 9223372036854775800) : Ev (fun k => laws_markTermS.f k l m) (m + 4 * l.length, tmarks m l.length) := by
  refine ⟨l.length + 1, fun k hk => ?_⟩
  unfold laws_markTermS.f
  have := markTermS_l0 l m hm hl l.length k 0 (by omega) (by omega)
  simpa [tmarks] using this
theorem in_specT (a b c : Int) : spec_l1In.f a b c = some (decide (b ≤ a ∧ a ≤ c)) := by
  unfold spec_l1In.f; split
  · congr 1; simp; omega
  · congr 1; simp; omega
theorem kids_ev (a : Int) : Ev (fun k => spec_l5Kids.f k a) (if a = 3 ∨ a = 4 ∨ a = 5 ∨ a = 7 then 2 else if a = 6 then 1 else 0) := by
  refine ⟨1, fun k hk => ?_⟩
  obtain ⟨m, rfl⟩ : ∃ m, k = m + 1 := ⟨k - 1, by omega⟩
  unfold spec_l5Kids.f
  by_cases h3 : a = 3
  · simp [spec_l5Kids.j0, h3]
  · by_cases h4 : a = 4
    · simp [spec_l5Kids.j0, h4]
    · by_cases h5 : a = 5
      · simp [spec_l5Kids.j0, h5]
      · by_cases h7 : a = 7
        · simp [spec_l5Kids.j0, h7]
        · by_cases h6 : a = 6
          · simp [spec_l5Kids.j0, h6]
          · simp [spec_l5Kids.j0, h3, h4, h5, h6, h7]
theorem notIn_iff (l : List S39) (x : Int) : notIn l x = false ↔ (0 ≤ x ∧ x < (l.length : Int)) := by
  unfold notIn; simp; omega
theorem term_ev (a0 a1 a2 a3 : Int) (l : List S39) (hl : l.length ≤ 9223372036854775807) : Ev (fun k => spec_l5Term.f k l a0 a1 a2 a3) (tfault a0 a1 a2 a3 l) := by
  have hw : wrap64 ((l.length : Int) - 1) = (l.length : Int) - 1 := w64' (by omega) (by omega)
  unfold spec_l5Term.f
  simp only [in_specT, Option.bind_some, decide_eq_true_eq]
  unfold tfault
  by_cases hop : 1 ≤ a0 ∧ a0 ≤ 7
  rotate_left
  · simp only [if_neg hop]; exact Ev.now _
  simp only [if_pos hop]
  refine Ev.bind (kids_ev a0) ?_
  -- what stands behind the form's test
  have j2 : ∀ (n : Int) (t : Bool), (t = (a0 == 6 || a0 == 7)) → (a0 = 6 ∨ a0 = 7 → notIn l a1 = false ∧ (n > 1 → notIn l a2 = false)) → Ev (fun k => spec_l5Term.j2 k l n t a0 a1 a2 a3) (if a0 = 6 ∨ a0 = 7 then (if notFresh l a1 = true then 1 else if n > 1 then (if notFresh l a2 = true ∨ a1 > a2 then 1 else 0) else 0) else 0) := by
    intro n t ht hin
    refine ev_succ ?_
    simp only [spec_l5Term.j2]
    by_cases h67 : a0 = 6 ∨ a0 = 7
    · obtain ⟨i1, i2⟩ := hin h67
      rw [notIn_iff] at i1
      have ht' : t = true := by rw [ht]; rcases h67 with h | h <;> simp [h]
      simp only [ht', if_true, if_pos h67, i1.1, i1.2]
      by_cases hf : (rd_T39 l a1).f0 = 2
      · have hf' : notFresh l a1 = false := by unfold notFresh; simp [hf]
        simp only [hf, hf', if_true, Bool.false_eq_true, if_false]
        by_cases hn : n > 1
        · have i2' := i2 hn
          rw [notIn_iff] at i2'
          simp only [hn, if_true, i2'.1, i2'.2]
          by_cases hg : (rd_T39 l a2).f0 = 2
          · have hg' : notFresh l a2 = false := by unfold notFresh; simp [hg]
            simp only [hg, hg', if_true, Bool.false_eq_true, false_or]
            by_cases hgt : a1 > a2
            · simp only [hgt, if_true]; exact Ev.now _
            · simp only [hgt, if_false]; exact Ev.now _
          · have hg' : notFresh l a2 = true := by unfold notFresh; simpa using hg
            simp only [hg, hg', if_false, true_or, if_true]; exact Ev.now _
        · simp only [hn, if_false]; exact Ev.now _
      · have hf' : notFresh l a1 = true := by unfold notFresh; simpa using hf
        simp only [hf, hf', if_false, if_true]; exact Ev.now _
    · have ht' : t = false := by rw [ht]; simp only [not_or] at h67; simp [h67]
      simp only [ht', if_neg h67, Bool.false_eq_true, if_false]; exact Ev.now _
  have j1 : ∀ (n : Int) (t : Bool), (a0 = 6 ∨ a0 = 7 → t = false → notIn l a1 = false ∧ (n > 1 → notIn l a2 = false)) → Ev (fun k => spec_l5Term.j1 k l n t a0 a1 a2 a3) (if t = true then 3 else (if a0 = 6 ∨ a0 = 7 then (if notFresh l a1 = true then 1 else if n > 1 then (if notFresh l a2 = true ∨ a1 > a2 then 1 else 0) else 0) else 0)) := by
    intro n t hin
    refine ev_succ ?_
    simp only [spec_l5Term.j1]
    cases t with
    | true => simp only [if_true]; exact Ev.now _
    | false =>
      simp only [Bool.false_eq_true, if_false]
      by_cases h6 : a0 = 6
      · simp only [if_pos h6]; exact j2 n true (by simp [h6]) (fun h => hin h rfl)
      · simp only [if_neg h6]; exact j2 n (a0 == 7) (by simp [h6]) (fun h => hin h rfl)
  have dn : ∀ x : Int, (!decide (0 ≤ x ∧ x ≤ (l.length : Int) - 1)) = notIn l x := fun x => rfl
  have dt : ∀ x : Int, (0 ≤ x ∧ x ≤ (l.length : Int) - 1) ↔ notIn l x = false := fun x => by rw [notIn_iff]; omega
  by_cases h12 : a0 = 1 ∨ a0 = 2
  · -- names
    have hk : ¬ (a0 = 3 ∨ a0 = 4 ∨ a0 = 5 ∨ a0 = 7) := by omega
    have hk6 : ¬ a0 = 6 := by omega
    have h67 : ¬ (a0 = 6 ∨ a0 = 7) := by omega
    simp only [if_neg hk, if_neg hk6, if_pos h12, show ¬ (0 : Int) > 0 by omega, if_false, show (0 : Int) < 1 by omega, show (0 : Int) < 2 by omega, if_true]
    by_cases ha : a1 = 0
    · simp only [ha, if_true, true_and]
      refine ev_succ ?_
      simp only [spec_l5Term.j0]
      by_cases hb : a2 = 0
      · simp only [hb, bne_self_eq_false, Bool.false_eq_true, if_false, if_true, in_specT, Option.bind_some, decide_eq_true_eq, show ¬ (0 : Int) > 0 by omega, show ¬ (0 : Int) > 1 by omega]
        by_cases hn : 0 ≤ a3 ∧ a3 ≤ 9999
        · simp only [hn, and_self, if_true]
          have := j1 0 false (fun h => absurd h h67)
          simp only [Bool.false_eq_true, if_false, if_neg h67, ha, hb] at this
          exact this
        · simp only [if_neg hn]
          have := j1 0 true (fun h => absurd h h67)
          simp only [if_true, ha, hb] at this
          exact this
      · have hb' : (a2 != 0) = true := by simpa using hb
        simp only [hb', if_true, hb, if_false]; exact Ev.now _
    · simp only [ha, if_false, false_and]
      refine ev_succ ?_
      simp only [spec_l5Term.j0, if_true]; exact Ev.now _
  · by_cases h6 : a0 = 6
    · have hk : ¬ (a0 = 3 ∨ a0 = 4 ∨ a0 = 5 ∨ a0 = 7) := by omega
      simp only [if_neg hk, if_pos h6, if_neg h12, show (1 : Int) > 0 by omega, if_true, show ¬ (1 : Int) < 1 by omega, if_false, show (1 : Int) < 2 by omega]
      by_cases hn : a3 = 0
      · simp only [hn, if_true, and_true]
        refine ev_succ ?_
        simp only [spec_l5Term.j0]
        by_cases hb : a2 = 0
        · simp only [hb, bne_self_eq_false, Bool.false_eq_true, if_false, if_true, in_specT, Option.bind_some, decide_eq_true_eq, show (1 : Int) > 0 by omega, show ¬ (1 : Int) > 1 by omega, show (0 : Int) ≤ 0 ∧ (0 : Int) ≤ 9999 by omega, and_self, hw, List.any_cons, List.any_nil, Bool.or_false]
          cases hi : notIn l a1 with
          | false =>
            simp only [if_pos ((dt a1).2 hi), Bool.false_eq_true, if_false]
            have := j1 1 false (fun h _ => ⟨hi, fun h => absurd h (by omega)⟩)
            simp only [Bool.false_eq_true, if_false, h6, true_or, if_true, show ¬ (1 : Int) > 1 by omega, hb, hn] at this
            rw [h6]
            exact this
          | true =>
            simp only [if_neg (show ¬ (0 ≤ a1 ∧ a1 ≤ (l.length : Int) - 1) from fun h => by rw [(dt a1).1 h] at hi; cases hi), if_true]
            have := j1 1 true (fun _ h => by cases h)
            simp only [if_true, hb, hn] at this
            exact this
        · have hb' : (a2 != 0) = true := by simpa using hb
          simp only [hb', if_true, hb, if_false]; exact Ev.now _
      · simp only [hn, if_false, and_false]
        refine ev_succ ?_
        simp only [spec_l5Term.j0, if_true]; exact Ev.now _
    · have hk : a0 = 3 ∨ a0 = 4 ∨ a0 = 5 ∨ a0 = 7 := by omega
      simp only [if_pos hk, if_neg h6, if_neg h12, show (2 : Int) > 0 by omega, if_true, show ¬ (2 : Int) < 1 by omega, if_false, show ¬ (2 : Int) < 2 by omega]
      by_cases hn : a3 = 0
      · simp only [hn, if_true]
        refine ev_succ ?_
        simp only [spec_l5Term.j0, Bool.false_eq_true, if_false, if_true, in_specT, Option.bind_some, decide_eq_true_eq, show (2 : Int) > 0 by omega, show (2 : Int) > 1 by omega, show (0 : Int) ≤ 0 ∧ (0 : Int) ≤ 9999 by omega, and_self, hw, dn, List.any_cons, List.any_nil, Bool.or_false]
        cases hi : notIn l a1 with
        | true =>
          simp only [if_neg (show ¬ (0 ≤ a1 ∧ a1 ≤ (l.length : Int) - 1) from fun h => by rw [(dt a1).1 h] at hi; cases hi), Bool.true_or, if_true]
          have := j1 2 true (fun _ h => by cases h)
          simp only [if_true, hn] at this
          exact this
        | false =>
          simp only [if_pos ((dt a1).2 hi), Bool.false_or]
          have := j1 2 (notIn l a2) (fun _ h => ⟨hi, fun _ => h⟩)
          simp only [show (2 : Int) > 1 by omega, if_true, h6, false_or, hn] at this
          have e : (if notIn l a2 = true then (3 : Int) else if a0 = 7 then (if notFresh l a1 = true then 1 else if notFresh l a2 = true ∨ a1 > a2 then 1 else 0) else 0) = (if notIn l a2 = true then 3 else if a0 = 7 then (if (notFresh l a1 || notFresh l a2) = true ∨ a1 > a2 then 1 else 0) else 0) := by
            by_cases q0 : notIn l a2 = true
            · rw [if_pos q0, if_pos q0]
            · rw [if_neg q0, if_neg q0]
              by_cases q7 : a0 = 7
              · rw [if_pos q7, if_pos q7]
                cases notFresh l a1 <;> cases notFresh l a2 <;> simp
              · rw [if_neg q7, if_neg q7]
          rw [e] at this
          exact this
      · simp only [hn, if_false]
        refine ev_succ ?_
        simp only [spec_l5Term.j0, if_true]; exact Ev.now _
theorem drop_rdT (l : List S39) (i : Nat) (h : i < l.length) : l.drop i = rd_T39 l (i : Int) :: l.drop (i + 1) := by
  rw [List.drop_eq_getElem_cons h]
  simp [rd_T39, List.getD, List.getElem?_eq_getElem h]
theorem take_rdT (l : List S39) (i : Nat) (h : i < l.length) : l.take (i + 1) = l.take i ++ [rd_T39 l (i : Int)] := by
  rw [List.take_succ_eq_append_getElem h]
  simp [rd_T39, List.getD, List.getElem?_eq_getElem h]
def tidx (l : List S39) (x : S39) (i : Nat) : Int :=
  match (l.drop i).findIdx? fun y => eq4 x y with
  | some j => ((i + j : Nat) : Int)
  | none => -1
theorem find_l0 (l : List S39) (hl : l.length ≤ 9223372036854775807) (x : S39) (d : Nat) : ∀ (k i : Nat), i + d = l.length → d < k → spec_l5Find.l0 k l i x.f0 x.f1 x.f2 x.f3 = some (tidx l x i) := by
  induction d with
  | zero =>
    intro k i hi hk
    obtain ⟨k, rfl⟩ : ∃ m, k = m + 1 := ⟨k - 1, by omega⟩
    simp only [spec_l5Find.l0]; rw [if_neg (by omega)]; unfold tidx; rw [List.drop_of_length_le (by omega)]; rfl
  | succ d ih =>
    intro k i hi hk
    obtain ⟨k, rfl⟩ : ∃ m, k = m + 1 := ⟨k - 1, by omega⟩
    simp only [spec_l5Find.l0]
    rw [if_pos (by omega), if_pos (by omega), w64' (by omega) (by omega)]
    have e := ih k (i + 1) (by omega) (by omega)
    have e' : spec_l5Find.l0 k l ((i : Int) + 1) x.f0 x.f1 x.f2 x.f3 = some (tidx l x (i + 1)) := by simpa using e
    rw [e']
    have sw : (((rd_T39 l i).f0) == x.f0 && (((rd_T39 l i).f1) == x.f1 && (((rd_T39 l i).f2) == x.f2 && (((rd_T39 l i).f3) == x.f3)))) = eq4 x (rd_T39 l i) := by
      unfold eq4; rw [BEq.comm (b := x.f0), BEq.comm (b := x.f1), BEq.comm (b := x.f2), BEq.comm (b := x.f3)]
    rw [sw]
    unfold tidx
    rw [drop_rdT l i (by omega), List.findIdx?_cons]
    cases h : eq4 x (rd_T39 l i)
    · simp only [Bool.false_eq_true, if_false]
      cases (l.drop (i + 1)).findIdx? fun y => eq4 x y with
      | none => rfl
      | some j => simp; omega
    · simp
theorem find_ev (l : List S39) (hl : l.length ≤ 9223372036854775807) (x : S39) : Ev (fun k => spec_l5Find.f k l x.f0 x.f1 x.f2 x.f3) (tidx l x 0) := by
  refine ⟨l.length + 1, fun k hk => ?_⟩
  have := find_l0 l hl x l.length k 0 (by omega) (by omega)
  simpa [spec_l5Find.f] using this
theorem tidx_nonneg (l : List S39) (x : S39) : tidx l x 0 ≥ 0 ↔ l.any (eq4 x) = true := by
  unfold tidx
  rw [List.drop_zero]
  cases h : l.findIdx? fun y => eq4 x y with
  | none =>
    rw [List.findIdx?_eq_none_iff] at h
    constructor
    · intro h'; simp at h'
    · intro h'
      obtain ⟨y, hy, hq⟩ := List.any_eq_true.1 h'
      have := h y hy
      rw [hq] at this; cases this
  | some j =>
    rw [List.findIdx?_eq_some_iff_getElem] at h
    obtain ⟨hj, h3, _⟩ := h
    constructor
    · intro _; exact List.any_eq_true.2 ⟨_, List.getElem_mem hj, h3⟩
    · intro _; simp only [Nat.zero_add]; omega
def TF (l : List S39) : Int := if 400 < l.length then 2 else TFs [] l
theorem tf_spec_l0 (l : List S39) (hl : l.length ≤ 400) (d : Nat) : ∀ (i : Nat), i + d = l.length → Ev (fun k => spec_TermsFault.l0 k l i) (TFs (l.take i) (l.drop i)) := by
  induction d with
  | zero =>
    intro i hi
    refine ev_succ ?_
    simp only [spec_TermsFault.l0, show ¬ (i : Int) < (l.length : Int) by omega, if_false]
    rw [List.drop_of_length_le (by omega)]; exact Ev.now _
  | succ d ih =>
    intro i hi
    refine ev_succ ?_
    simp only [spec_TermsFault.l0, show (i : Int) < (l.length : Int) by omega, show 0 ≤ (i : Int) by omega, show (i : Int) ≤ (l.length : Int) by omega, if_true, Int.toNat_natCast]
    rw [drop_rdT l i (by omega)]
    generalize hx : rd_T39 l (i : Int) = x
    simp only [TFs]
    refine Ev.bind (term_ev _ _ _ _ _ (by rw [List.length_take]; omega)) ?_
    by_cases h0 : tfault x.f0 x.f1 x.f2 x.f3 (l.take i) = 0
    · simp only [h0, if_true]
      refine Ev.bind (find_ev _ (by rw [List.length_take]; omega) x) ?_
      by_cases hh : (l.take i).any (eq4 x) = true
      · simp only [if_pos hh, if_pos ((tidx_nonneg _ _).2 hh)]; exact Ev.now _
      · simp only [if_neg hh, if_neg (fun h => hh ((tidx_nonneg _ _).1 h))]
        rw [w64' (by omega) (by omega), ← hx, ← take_rdT l i (by omega)]
        have := ih (i + 1) (by omega)
        simpa using this
    · simp only [h0, if_false]; exact Ev.now _
theorem tf_spec (l : List S39) : Ev (fun k => spec_TermsFault.f k l) (TF l) := by
  unfold spec_TermsFault.f TF
  by_cases h : 400 < l.length
  · simp only [show (l.length : Int) > 400 by omega, h, if_true]; exact Ev.now _
  · simp only [show ¬ (l.length : Int) > 400 by omega, h, if_false]
    have := tf_spec_l0 l (by omega) l.length 0 (by omega)
    simpa using this
theorem tf_impl {l : List S39} (h : l.all wf4 = true) : impl_TermsFault.f l = some (TF l) := by
  unfold impl_TermsFault.f TF
  rw [if_pos h]
theorem TFs_ok : ∀ (l pre : List S39), TFs pre l = 0 → ∀ i : Nat, i < l.length → tfault (rd_T39 l i).f0 (rd_T39 l i).f1 (rd_T39 l i).f2 (rd_T39 l i).f3 (pre ++ l.take i) = 0
  | [], _, _, i, hi => absurd hi (Nat.not_lt_zero _)
  | x :: r, pre, h, i, hi => by
    simp only [TFs] at h
    by_cases h0 : tfault x.f0 x.f1 x.f2 x.f3 pre = 0
    · rw [if_pos h0] at h
      by_cases hh : pre.any (eq4 x) = true
      · rw [if_pos hh] at h; cases h
      · rw [if_neg hh] at h
        match i, hi with
        | 0, _ => simpa [rd_T39] using h0
        | i + 1, hi =>
          have := TFs_ok r _ h i (by simpa using hi)
          have e : rd_T39 (x :: r) ((i + 1 : Nat) : Int) = rd_T39 r (i : Int) := by simp [rd_T39, List.getD, show ((i : Int) + 1).toNat = i + 1 by omega]
          rw [e, List.take_succ_cons]
          simpa using this
    · rw [if_neg h0] at h; exact absurd h h0
theorem TF_kids {l : List S39} (h : TF l = 0) (a : Int) (h0 : 0 ≤ a) (h1 : a < (l.length : Int)) : l.length ≤ 400 ∧ ((rd_T39 l a).f0 = 3 ∨ (rd_T39 l a).f0 = 4 ∨ (rd_T39 l a).f0 = 5 ∨ (rd_T39 l a).f0 = 7 → (0 ≤ (rd_T39 l a).f1 ∧ (rd_T39 l a).f1 < a) ∧ (0 ≤ (rd_T39 l a).f2 ∧ (rd_T39 l a).f2 < a)) := by
  unfold TF at h
  by_cases hb : 400 < l.length
  · rw [if_pos hb] at h; cases h
  rw [if_neg hb] at h
  refine ⟨by omega, fun hop => ?_⟩
  obtain ⟨i, rfl⟩ := Int.eq_ofNat_of_zero_le h0
  have ht := TFs_ok l [] h i (by omega)
  rw [List.nil_append] at ht
  generalize rd_T39 l (i : Int) = x at ht hop ⊢
  unfold tfault at ht
  rw [if_pos (by omega), if_neg (by omega), if_neg (by omega)] at ht
  have hlen : (l.take i).length = i := by rw [List.length_take]; omega
  split at ht
  · split at ht
    · cases ht
    · rename_i hn
      simp only [List.any_cons, List.any_nil, Bool.or_false, Bool.or_eq_true, not_or, Bool.not_eq_true] at hn
      have e1 := (notIn_iff _ _).1 hn.1
      have e2 := (notIn_iff _ _).1 hn.2
      rw [hlen] at e1 e2
      exact ⟨e1, e2⟩
  · cases ht
def PF (l : List S39) (ps : List Int) : Int := if TF l = 0 then (if ps.any (notIn l) = true then 3 else 0) else TF l
theorem pf_impl {l : List S39} (h : l.all wf4 = true) (ps : List Int) : impl_placesFault.f l ps = some (PF l ps) := by
  unfold impl_placesFault.f PF
  rw [tf_impl h]
  simp only [Option.bind_some]
  split
  · split <;> rfl
  · rfl
theorem at_ev (l : List S39) (hl : l.length ≤ 9223372036854775807) (a : Int) : spec_l5At.f l a = some (!notIn l a) := by
  unfold spec_l5At.f
  rw [in_specT, w64' (n := (l.length : Int) - 1) (by omega) (by omega)]
  unfold notIn
  simp
theorem asked9_l0 (l : List S39) (hl : l.length ≤ 9223372036854775807) (ps : List Int) (hp : ps.length ≤ 9223372036854775807) (d : Nat) : ∀ (k i : Nat), i + d = ps.length → d < k → spec_l9Asked.l0 k l ps i = some (if (ps.drop i).any (notIn l) = true then 3 else 0) := by
  induction d with
  | zero =>
    intro k i hi hk
    obtain ⟨k, rfl⟩ : ∃ m, k = m + 1 := ⟨k - 1, by omega⟩
    simp only [spec_l9Asked.l0]; rw [if_neg (by omega), List.drop_of_length_le (by omega)]; rfl
  | succ d ih =>
    intro k i hi hk
    obtain ⟨k, rfl⟩ : ∃ m, k = m + 1 := ⟨k - 1, by omega⟩
    simp only [spec_l9Asked.l0]
    rw [if_pos (by omega), if_pos (by omega), w64' (by omega) (by omega), at_ev l hl]
    have e := ih k (i + 1) (by omega) (by omega)
    have e' : spec_l9Asked.l0 k l ps ((i : Int) + 1) = some (if (ps.drop (i + 1)).any (notIn l) = true then 3 else 0) := by simpa using e
    rw [e']
    have hd : ps.drop i = rd ps (i : Int) :: ps.drop (i + 1) := by
      rw [List.drop_eq_getElem_cons (by omega)]
      simp [rd, List.getD, List.getElem?_eq_getElem (show i < ps.length by omega)]
    rw [hd, List.any_cons]
    cases notIn l (rd ps (i : Int)) <;> simp
theorem asked9_ev (l : List S39) (hl : l.length ≤ 9223372036854775807) (ps : List Int) (hp : ps.length ≤ 9223372036854775807) : Ev (fun k => spec_l9Asked.f k l ps) (PF l ps) := by
  unfold spec_l9Asked.f PF
  refine Ev.bind (tf_spec l) ?_
  by_cases h : TF l = 0
  · simp only [h, if_true]
    refine ⟨ps.length + 1, fun k hk => ?_⟩
    have := asked9_l0 l hl ps hp ps.length k 0 (by omega) (by omega)
    simpa using this
  · simp only [h, if_false]; exact Ev.now _
theorem asked5_ev (l : List S39) (hl : l.length ≤ 9223372036854775807) (a : Int) : Ev (fun k => spec_l5Asked.f k l a) (PF l [a]) := by
  unfold spec_l5Asked.f PF
  refine Ev.bind (tf_spec l) ?_
  by_cases h : TF l = 0
  · simp only [h, if_true, at_ev l hl, Option.bind_some, List.any_cons, List.any_nil, Bool.or_false]
    cases notIn l a
    · simp only [Bool.not_false, if_true, Bool.false_eq_true, if_false]; exact Ev.now _
    · simp only [Bool.not_true, Bool.false_eq_true, if_false, if_true]; exact Ev.now _
  · simp only [h, if_false]; exact Ev.now _
theorem PF_ok {l : List S39} {ps : List Int} (h : PF l ps = 0) : TF l = 0 ∧ ∀ x ∈ ps, 0 ≤ x ∧ x < (l.length : Int) := by
  unfold PF at h
  by_cases h0 : TF l = 0
  · rw [if_pos h0] at h
    refine ⟨h0, fun x hx => (notIn_iff l x).1 ?_⟩
    split at h
    · cases h
    · rename_i hn
      cases hq : notIn l x
      · rfl
      · exact absurd (List.any_eq_true.2 ⟨x, hx, hq⟩) hn
  · rw [if_neg h0] at h; exact absurd h h0
theorem wf4_map (l : List S35) (h : ∀ x ∈ l, ((Lit.int .i64 x.f0).wf = true ∧ (Lit.int .i64 x.f1).wf = true ∧ (Lit.int .i64 x.f2).wf = true ∧ (Lit.int .i64 x.f3).wf = true)) : (l.map toT).all wf4 = true := by
  rw [List.all_eq_true]
  intro y hy
  obtain ⟨x, hx, rfl⟩ := List.mem_map.1 hy
  obtain ⟨h0, h1, h2, h3⟩ := h x hx
  unfold wf4 toT
  simp [h0, h1, h2, h3]
end Go.Proofs.Ytgognaaljleioaa.Pure
set_option linter.unusedVariables false
set_option linter.unusedSimpArgs false
namespace Go.Proofs.Ytgognaaljleioaa.Pure
open Go.RowKit Go.Proofs.Ytgognaaljleioaa.G Go.Proofs.YtgognaaljleioaaW.PrintWords Go.Proofs.YtgognaaljleioaaW.PrintLast Go.Proofs.YtgognaaljleioaaW.PrintMore
theorem heldTermS_l0 (n : Nat) (m : Int) (hm : 0 ≤ m) (hl : m + 4 * n ≤ 9223372036854775800) (d : Nat) : ∀ (k i : Nat), i + d = n → d < k →
    laws_heldTermS.l0 k (tmarks m n) (m + 4 * i) i = some (m + 4 * n) := by
  induction d with
  | zero =>
    intro k i hi hk
    obtain ⟨k, rfl⟩ : ∃ m, k = m + 1 := ⟨k - 1, by omega⟩
    obtain rfl : i = n := by omega
    simp only [laws_heldTermS.l0]; rw [if_neg (by simp [tmarks_length])]
  | succ d ih =>
    intro k i hi hk
    obtain ⟨k, rfl⟩ : ∃ m, k = m + 1 := ⟨k - 1, by omega⟩
    simp only [laws_heldTermS.l0]
    have e : rd_T39 (tmarks m n) (i : Int) = tmark m i := by
      simp [rd_T39, tmarks, List.getD, List.getElem?_map, List.getElem?_range (show i < n by omega)]
    have e1 : wrap64 (m + 4 * i + 1) = m + 4 * i + 1 := w64' (by omega) (by omega)
    have e2 : wrap64 (m + 4 * i + 1 + 1) = m + 4 * i + 1 + 1 := w64' (by omega) (by omega)
    have e3 : wrap64 (m + 4 * i + 1 + 1 + 1) = m + 4 * i + 1 + 1 + 1 := w64' (by omega) (by omega)
    have e4 : wrap64 (m + 4 * i + 1 + 1 + 1 + 1) = m + 4 * i + 1 + 1 + 1 + 1 := w64' (by omega) (by omega)
    rw [e1, e2, e3, e4, e, w64' (n := (i : Int) + 1) (by omega) (by omega)]
    rw [if_pos (by rw [tmarks_length]; omega), if_pos (by omega)]
    simp only [tmark, if_true]
    have := ih k (i + 1) (by omega) (by omega)
    rw [show m + 4 * (i : Int) + 1 + 1 + 1 + 1 = m + 4 * ((i + 1 : Nat) : Int) by omega, show (i : Int) + 1 = ((i + 1 : Nat) : Int) by omega]
    exact this
theorem heldTermS_ev (n : Nat) (m : Int) (hm : 0 ≤ m) (hl : m + 4 * n ≤ 9223372036854775800) : Ev (fun k => laws_heldTermS.f k (tmarks m n) m) (m + 4 * n) := by
  refine ⟨n + 1, fun k hk => ?_⟩
  unfold laws_heldTermS.f
  have := heldTermS_l0 n m hm hl n k 0 (by omega) (by omega)
  simpa using this
theorem eqTermResult_ev (c a : Int) (l : List S39) (hl : l.length ≤ 9223372036854775807) : Ev (fun k => laws_eqTermResult.f k c a l c a l) true := by
  simp only [laws_eqTermResult.f, if_true]
  refine Ev.bind (eqTermS_ev l hl) ?_
  simp only [if_true]; exact Ev.now _
theorem markTermResult_ev (c a : Int) (l : List S39) (m : Int) (hm : 0 ≤ m) (hl : m + 4 * l.length ≤ 9223372036854775800) : Ev (fun k => laws_markTermResult.f k c a l m) (m + 4 * l.length, tmarks m l.length) := by
  simp only [laws_markTermResult.f]
  refine Ev.bind (markTermS_ev l m hm hl) ?_
  exact Ev.now _
theorem heldTermResult_ev (c a : Int) (n : Nat) (m : Int) (hm : 0 ≤ m) (hl : m + 4 * n ≤ 9223372036854775800) : Ev (fun k => laws_heldTermResult.f k c a (tmarks m n) m) (m + 4 * n) := by
  simp only [laws_heldTermResult.f]
  refine Ev.bind (heldTermS_ev n m hm hl) ?_
  simp only [show ¬ (m + 4 * (n : Int) < 0) by omega, if_false]; exact Ev.now _
theorem tindex_l0 (l : List S39) (hl : l.length ≤ 9223372036854775807) (x : S39) (d : Nat) : ∀ (k i : Nat), i + d = l.length → d < k → impl_Term_80.l0 k l (l.length : Int) i x.f0 x.f1 x.f2 x.f3 = some (tidx l x i) := by
  induction d with
  | zero =>
    intro k i hi hk
    obtain ⟨k, rfl⟩ : ∃ m, k = m + 1 := ⟨k - 1, by omega⟩
    simp only [impl_Term_80.l0]; rw [if_neg (by omega)]; unfold tidx; rw [List.drop_of_length_le (by omega)]; rfl
  | succ d ih =>
    intro k i hi hk
    obtain ⟨k, rfl⟩ : ∃ m, k = m + 1 := ⟨k - 1, by omega⟩
    simp only [impl_Term_80.l0]
    rw [if_pos (by omega), if_pos (by omega), if_pos (by omega), w64' (by omega) (by omega)]
    have e := ih k (i + 1) (by omega) (by omega)
    have e' : impl_Term_80.l0 k l (l.length : Int) ((i : Int) + 1) x.f0 x.f1 x.f2 x.f3 = some (tidx l x (i + 1)) := by simpa using e
    rw [e']
    have sw : (x.f0 == (rd_T39 l i).f0 && (x.f1 == (rd_T39 l i).f1 && (x.f2 == (rd_T39 l i).f2 && (x.f3 == (rd_T39 l i).f3)))) = eq4 x (rd_T39 l i) := rfl
    rw [sw]
    unfold tidx
    rw [drop_rdT l i (by omega), List.findIdx?_cons]
    cases h : eq4 x (rd_T39 l i)
    · simp only [Bool.false_eq_true, if_false]
      cases (l.drop (i + 1)).findIdx? fun y => eq4 x y with
      | none => rfl
      | some j => simp; omega
    · simp
theorem tindex_ev (l : List S39) (hl : l.length ≤ 9223372036854775807) (x : S39) : Ev (fun k => impl_Term_80.f k l x.f0 x.f1 x.f2 x.f3) (tidx l x 0) := by
  refine ⟨l.length + 1, fun k hk => ?_⟩
  have h := tindex_l0 l hl x l.length k 0 (by omega) (by omega)
  have h' : impl_Term_80.l0 k l (l.length : Int) 0 x.f0 x.f1 x.f2 x.f3 = some (tidx l x 0) := by simpa using h
  exact h'
theorem TF_len {l : List S39} (h : TF l = 0) : l.length ≤ 400 := by
  unfold TF at h
  by_cases hb : 400 < l.length
  · rw [if_pos hb] at h; cases h
  · omega
def PT (l : List S39) (t : S39) : Int × Int × List S39 := if tfault t.f0 t.f1 t.f2 t.f3 l = 0 then (if 0 ≤ tidx l t 0 then (0, tidx l t 0, l) else if 400 ≤ l.length then (2, 0, []) else (0, (l.length : Int), l ++ [t])) else (tfault t.f0 t.f1 t.f2 t.f3 l, 0, [])
theorem told_put (l : List S39) (t : S39) : toldP (putP l false t (tidx l t 0)) = (if 0 ≤ tidx l t 0 then (0, tidx l t 0, l) else if 400 ≤ l.length then (2, 0, []) else (0, (l.length : Int), l ++ [t])) := by
  unfold toldP putP
  by_cases h0 : 0 ≤ tidx l t 0
  · simp only [if_pos h0]; rfl
  · simp only [if_neg h0]
    by_cases h1 : 400 ≤ l.length
    · simp only [if_pos h1]; rfl
    · simp only [if_neg h1]; rfl
theorem copy_ev (l : List S39) (hl : l.length ≤ 400) : spec_l5Copy.f l = some l := by
  unfold spec_l5Copy.f
  simp only [Option.bind_some, List.length_nil, List.nil_append]
  rw [if_pos (by omega)]
theorem put_spec (l : List S39) (hl : l.length ≤ 400) (t : S39) : Ev (fun k => spec_l5Put.f k l t.f0 t.f1 t.f2 t.f3) (PT l t) := by
  unfold spec_l5Put.f PT
  refine Ev.bind (term_ev _ _ _ _ l (by omega)) ?_
  by_cases h : tfault t.f0 t.f1 t.f2 t.f3 l = 0
  · simp only [h, if_true]
    refine Ev.bind (find_ev l (by omega) t) ?_
    by_cases h0 : 0 ≤ tidx l t 0
    · simp only [h0, if_true, show tidx l t 0 ≥ 0 from h0, copy_ev l hl, Option.bind_some]; exact Ev.now _
    · simp only [h0, if_false, show ¬ tidx l t 0 ≥ 0 from h0]
      by_cases h1 : 400 ≤ l.length
      · simp only [h1, if_true, show (l.length : Int) ≥ 400 by omega]; exact Ev.now _
      · simp only [h1, if_false, show ¬ (l.length : Int) ≥ 400 by omega, copy_ev l hl, Option.bind_some, List.length_cons, List.length_nil, show l.length + (0 + 1) < 4398046511104 by omega, if_true]; exact Ev.now _
  · simp only [h, if_false]; exact Ev.now _
def PTm (l : List S39) (t : S39) : Int × Int × List S39 := if TF l = 0 then PT l t else (TF l, 0, [])
theorem putTerm_spec (l : List S39) (t : S39) : Ev (fun k => spec_PutTerm.f k l t.f0 t.f1 t.f2 t.f3) (PTm l t) := by
  unfold spec_PutTerm.f PTm
  refine Ev.bind (tf_spec l) ?_
  by_cases h : TF l = 0
  · simp only [h, if_true]; refine Ev.bind (put_spec l (TF_len h) t) ?_; exact Ev.now _
  · simp only [h, if_false]; exact Ev.now _
theorem putTerm_impl (l : List S39) (hw : l.all wf4 = true) (t : S39) : Ev (fun k => impl_PutTerm.f k l t.f0 t.f1 t.f2 t.f3) (PTm l t) := by
  unfold impl_PutTerm.f PTm
  simp only [tf_impl hw, Option.bind_some]
  by_cases h : TF l = 0
  · simp only [h, if_true, impl_Term_fault.f, Option.bind_some]
    unfold PT
    by_cases hf : tfault t.f0 t.f1 t.f2 t.f3 l = 0
    · simp only [hf, if_true]
      refine Ev.bind (tindex_ev l (by have := TF_len h; omega) t) ?_
      have e : (⟨t.f0, t.f1, t.f2, t.f3⟩ : S39) = t := rfl
      rw [e, told_put]
      exact Ev.now _
    · simp only [hf, if_false]; exact Ev.now _
  · simp only [h, if_false]; exact Ev.now _
theorem PT_length (l : List S39) (t : S39) : (PT l t).2.2.length ≤ l.length + 1 := by
  unfold PT
  split
  · split
    · simp
    · split
      · simp
      · simp
  · simp
theorem PTm_length (l : List S39) (t : S39) : (PTm l t).2.2.length ≤ l.length + 1 := by
  unfold PTm
  split
  · exact PT_length l t
  · simp
end Go.Proofs.Ytgognaaljleioaa.Pure
set_option linter.unusedVariables false
set_option linter.unusedSimpArgs false
namespace Go.Proofs.Ytgognaaljleioaa.Pure
open Go.RowKit Go.Proofs.Ytgognaaljleioaa.G Go.Proofs.YtgognaaljleioaaW.PrintWords Go.Proofs.YtgognaaljleioaaW.PrintLast Go.Proofs.YtgognaaljleioaaW.PrintMore
theorem PT_len (l : List S39) (t : S39) (hl : l.length ≤ 400) : (PT l t).2.2.length ≤ 400 := by
  unfold PT
  split
  · split
    · exact hl
    · split
      · simp
      · simp; omega
  · simp
def SL (l : List S39) : List Int → Int × Int × List S39
  | [] => PT l ⟨1, 0, 0, 0⟩
  | [a] => (0, a, l)
  | a :: b :: r => if (SL l (b :: r)).1 = 0 then PT (SL l (b :: r)).2.2 ⟨3, a, (SL l (b :: r)).2.1, 0⟩ else SL l (b :: r)
theorem SL_two (l : List S39) (a b : Int) (r : List Int) : SL l (a :: b :: r) = if (SL l (b :: r)).1 = 0 then PT (SL l (b :: r)).2.2 ⟨3, a, (SL l (b :: r)).2.1, 0⟩ else SL l (b :: r) := by rw [SL]
theorem SL_len (l : List S39) (hl : l.length ≤ 400) : ∀ xs : List Int, (SL l xs).2.2.length ≤ 400
  | [] => PT_len l _ hl
  | [a] => hl
  | a :: b :: r => by
    have ih := SL_len l hl (b :: r)
    unfold SL
    split
    · exact PT_len _ _ ih
    · exact ih
theorem list_spec (l : List S39) (hl : l.length ≤ 400) : ∀ xs : List Int, Ev (fun k => spec_l5List.f k l xs) (SL l xs)
  | [] => by
    refine ev_succ ?_
    simp only [spec_l5List.f, List.length_nil, show ((0 : Nat) : Int) = 0 from rfl, if_true]
    refine Ev.bind (put_spec l hl ⟨1, 0, 0, 0⟩) ?_
    exact Ev.now _
  | [a] => by
    refine ev_succ ?_
    simp only [spec_l5List.f, List.length_cons, List.length_nil, show ¬ (((0 + 1 : Nat) : Int) = 0) by omega, show ((0 + 1 : Nat) : Int) = 1 from rfl, if_false, if_true, show (0 : Int) < 1 by omega, show ¬ (1 : Int) = 0 by omega, copy_ev l hl, Option.bind_some]
    exact Ev.now _
  | a :: b :: r => by
    have ih := list_spec l hl (b :: r)
    refine ev_succ ?_
    have h0 : ¬ (((a :: b :: r).length : Int) = 0) := by simp; omega
    have h1 : ¬ (((a :: b :: r).length : Int) = 1) := by simp; omega
    have h2 : 1 ≤ ((a :: b :: r).length : Int) := by simp; omega
    have h3 : 0 < ((a :: b :: r).length : Int) := by simp; omega
    simp only [spec_l5List.f, h0, h1, h2, h3, if_false, if_true, List.drop_succ_cons, List.drop_zero]
    refine Ev.bind ih ?_
    rw [SL_two]
    by_cases hc : (SL l (b :: r)).1 = 0
    · simp only [hc, if_true]
      refine Ev.bind (put_spec _ (SL_len l hl (b :: r)) ⟨3, a, (SL l (b :: r)).2.1, 0⟩) ?_
      exact Ev.now _
    · simp only [hc, if_false]; exact Ev.now _
def LF (l : List S39) : List Int → Int × List S39 × Bool
  | [] => putT l false ⟨1, 0, 0, 0⟩
  | [a] => (a, l, false)
  | a :: b :: r => pairT (LF l (b :: r)) a
theorem back_rev (zs : List Int) : (backTo zs zs.length).map Prod.snd = zs.reverse := by
  apply List.ext_getElem
  · simp [backTo]
  · intro i h1 h2
    have hi : i < zs.length := by simpa [backTo] using h1
    simp [backTo, List.getElem_reverse, List.getElem?_eq_getElem (show zs.length - 1 - i < zs.length by omega)]
theorem listP_cons (l : List S39) (a b : Int) (r : List Int) : listP l false (a :: b :: r) = pairT (listP l false (b :: r)) a := by
  unfold listP
  rw [if_neg (by simp), if_neg (by simp)]
  have e1 : (a :: b :: r).take ((a :: b :: r).length - 1) = a :: (b :: r).take ((b :: r).length - 1) := by simp
  have n1 : (a :: b :: r).length - 1 = ((a :: b :: r).take ((a :: b :: r).length - 1)).length := by simp
  have n2 : (b :: r).length - 1 = ((b :: r).take ((b :: r).length - 1)).length := by simp
  have b1 := back_rev ((a :: b :: r).take ((a :: b :: r).length - 1))
  have b2 := back_rev ((b :: r).take ((b :: r).length - 1))
  rw [← n1] at b1
  rw [← n2] at b2
  rw [b1, b2, e1, List.reverse_cons, List.foldl_append]
  have e3 : (a :: b :: r)[(a :: b :: r).length - 1]?.getD 0 = (b :: r)[(b :: r).length - 1]?.getD 0 := by simp
  rw [e3]
  rfl
theorem listP_LF (l : List S39) : ∀ xs : List Int, listP l false xs = LF l xs
  | [] => rfl
  | [a] => rfl
  | a :: b :: r => by
    rw [listP_cons, listP_LF l (b :: r)]
    rfl
theorem tidx_lt (l : List S39) (x : S39) (h : 0 ≤ tidx l x 0) : tidx l x 0 < (l.length : Int) := by
  unfold tidx at h ⊢
  rw [List.drop_zero] at h ⊢
  cases e : l.findIdx? fun y => eq4 x y with
  | none => rw [e] at h; simp at h
  | some j =>
    rw [List.findIdx?_eq_some_iff_getElem] at e
    obtain ⟨hj, _⟩ := e
    simp only [Nat.zero_add]
    omega
theorem putT_eq (l : List S39) (full : Bool) (t : S39) : putT l full t = putP l full t (tidx l t 0) := rfl
theorem LF_told (l : List S39) (hl : l.length ≤ 400) : ∀ xs : List Int, xs ≠ [] → (∀ x ∈ xs, 0 ≤ x ∧ x < (l.length : Int)) →
    toldP (LF l xs) = SL l xs ∧ ((LF l xs).2.2 = false → (0 ≤ (LF l xs).1 ∧ (LF l xs).1 < ((LF l xs).2.1.length : Int)) ∧ l.length ≤ (LF l xs).2.1.length ∧ (LF l xs).2.1.length ≤ 400)
  | [], h, _ => absurd rfl h
  | [a], _, h => ⟨rfl, fun _ => ⟨h a (by simp), Nat.le_refl _, hl⟩⟩
  | a :: b :: r, _, h => by
    obtain ⟨i1, i2⟩ := LF_told l hl (b :: r) (by simp) (fun x hx => h x (List.mem_cons_of_mem _ hx))
    have ha := h a (by simp)
    have eLF : LF l (a :: b :: r) = pairT (LF l (b :: r)) a := rfl
    rw [eLF, SL_two, ← i1]
    generalize LF l (b :: r) = st at i1 i2 ⊢
    obtain ⟨p, tb, full⟩ := st
    have hp : pairT (p, tb, full) a = putP tb full ⟨3, a, p, 0⟩ (tidx tb ⟨3, a, p, 0⟩ 0) := rfl
    rw [hp]
    cases full with
    | true =>
      have e1 : toldP (p, tb, true) = (2, 0, []) := rfl
      have e2 : (putP tb true ⟨3, a, p, 0⟩ (tidx tb ⟨3, a, p, 0⟩ 0)).2.2 = true := by
        unfold putP
        split
        · rfl
        · split
          · rfl
          · rfl
      rw [e1]
      refine ⟨?_, fun hf => by rw [e2] at hf; cases hf⟩
      rw [if_neg (by decide)]
      unfold toldP
      rw [if_pos e2]
    | false =>
      obtain ⟨⟨p0, p1⟩, l1, l2⟩ := i2 rfl
      have p0' : 0 ≤ p := p0
      have p1' : p < (tb.length : Int) := p1
      have l1' : l.length ≤ tb.length := l1
      have l2' : tb.length ≤ 400 := l2
      have e1 : toldP (p, tb, false) = (0, p, tb) := rfl
      rw [e1]
      have hf : tfault 3 a p 0 tb = 0 := by
        unfold tfault
        rw [if_pos (by omega), if_neg (by omega), if_neg (by omega), if_pos rfl]
        have n1 : notIn tb a = false := (notIn_iff tb a).2 ⟨ha.1, by omega⟩
        have n2 : notIn tb p = false := (notIn_iff tb p).2 ⟨p0', p1'⟩
        simp [n1, n2]
      refine ⟨?_, ?_⟩
      · rw [if_pos rfl, told_put]
        unfold PT
        simp only [hf, if_true]
      · intro hq
        unfold putP at hq ⊢
        by_cases h0 : 0 ≤ tidx tb ⟨3, a, p, 0⟩ 0
        · simp only [if_pos h0] at hq ⊢
          exact ⟨⟨h0, tidx_lt tb _ h0⟩, l1', l2'⟩
        · simp only [if_neg h0] at hq ⊢
          by_cases h4 : 400 ≤ tb.length
          · simp only [if_pos h4] at hq; cases hq
          · simp only [if_neg h4, Bool.false_eq_true, if_false] at hq ⊢
            refine ⟨⟨by omega, by simp <;> omega⟩, by simp <;> omega, by simp <;> omega⟩
def PL (l : List S39) (xs : List Int) : Int × Int × List S39 := if TF l = 0 then (if xs.any (notIn l) = true then (3, 0, []) else SL l xs) else (TF l, 0, [])
theorem pl_impl (l : List S39) (hw : l.all wf4 = true) (xs : List Int) : impl_PutList.f l xs = some (PL l xs) := by
  unfold impl_PutList.f PL
  rw [pf_impl hw]
  unfold PF
  by_cases h : TF l = 0
  · simp only [h, if_true, Option.bind_some]
    by_cases hn : xs.any (notIn l) = true
    · simp only [hn, if_true, show ¬ (3 : Int) = 0 by omega, if_false]
    · simp only [hn, if_false, Bool.false_eq_true, if_true]
      congr 1
      rw [listP_LF]
      have hl := TF_len h
      by_cases hx : xs = []
      · subst hx
        show toldP (putT l false ⟨1, 0, 0, 0⟩) = PT l ⟨1, 0, 0, 0⟩
        rw [putT_eq, told_put]
        have hf : tfault 1 0 0 0 l = 0 := by
          unfold tfault
          rw [if_pos (by omega), if_pos (by omega), if_pos ⟨rfl, rfl⟩, if_pos (by omega)]
        unfold PT
        simp only [hf, if_true]
      · refine (LF_told l hl xs hx (fun x hx => ?_)).1
        refine (notIn_iff l x).1 ?_
        cases hq : notIn l x
        · rfl
        · exact absurd (List.any_eq_true.2 ⟨x, hx, hq⟩) hn
  · simp only [h, if_false, Option.bind_some]
theorem pl_spec_l0 (l : List S39) (hl : l.length ≤ 400) (xs : List Int) (hx : xs.length ≤ 9223372036854775807) (d : Nat) : ∀ (i : Nat), i + d = xs.length → Ev (fun k => spec_PutList.l0 k l xs i) (if (xs.drop i).any (notIn l) = true then (3, 0, []) else SL l xs) := by
  induction d with
  | zero =>
    intro i hi
    refine ev_succ ?_
    simp only [spec_PutList.l0, show ¬ (i : Int) < (xs.length : Int) by omega, if_false]
    rw [List.drop_of_length_le (by omega)]
    refine Ev.bind (list_spec l hl xs) ?_
    exact Ev.now _
  | succ d ih =>
    intro i hi
    refine ev_succ ?_
    simp only [spec_PutList.l0, show (i : Int) < (xs.length : Int) by omega, show 0 ≤ (i : Int) by omega, if_true, at_ev l (by omega), Option.bind_some]
    have hd : xs.drop i = rd xs (i : Int) :: xs.drop (i + 1) := by
      rw [List.drop_eq_getElem_cons (by omega)]
      simp [rd, List.getD, List.getElem?_eq_getElem (show i < xs.length by omega)]
    rw [hd, List.any_cons]
    cases hq : notIn l (rd xs (i : Int)) with
    | true => simp only [Bool.not_true, Bool.false_eq_true, if_false, Bool.true_or, if_true]; exact Ev.now _
    | false =>
      simp only [Bool.not_false, if_true, Bool.false_or]
      rw [w64' (by omega) (by omega)]
      have := ih (i + 1) (by omega)
      simpa using this
theorem pl_spec (l : List S39) (xs : List Int) (hx : xs.length ≤ 9223372036854775807) : Ev (fun k => spec_PutList.f k l xs) (PL l xs) := by
  unfold spec_PutList.f PL
  refine Ev.bind (tf_spec l) ?_
  by_cases h : TF l = 0
  · simp only [h, if_true]
    have := pl_spec_l0 l (TF_len h) xs hx xs.length 0 (by omega)
    simpa using this
  · simp only [h, if_false]; exact Ev.now _
theorem PL_len (l : List S39) (xs : List Int) : (PL l xs).2.2.length ≤ 400 := by
  unfold PL
  by_cases h : TF l = 0
  · rw [if_pos h]
    split
    · simp
    · exact SL_len l (TF_len h) xs
  · rw [if_neg h]; simp
end Go.Proofs.Ytgognaaljleioaa.Pure
set_option linter.unusedVariables false
set_option linter.unusedSimpArgs false
namespace Go.Proofs.Ytgognaaljleioaa.Pure
open Go.RowKit Go.Proofs.Ytgognaaljleioaa.G Go.Proofs.YtgognaaljleioaaW.PrintWords Go.Proofs.YtgognaaljleioaaW.PrintLast Go.Proofs.YtgognaaljleioaaW.PrintMore
theorem FnExactPutList : laws_FnExactPutList.Pure := by
  intro l xs hm hw hm1 _
  have hl : l.length ≤ 9223372036854775807 := by unfold maxLen at hm; exact hm
  have hl1 : xs.length ≤ 9223372036854775807 := by unfold maxLen at hm1; exact hm1
  refine Ev.rounds ?_
  unfold laws_FnExactPutList.f laws_szTermS.f
  by_cases hb1 : (xs.length : Int) > 1048576
  · simp only [hb1, if_true]; exact Ev.now _
  simp only [hb1, if_false]
  rw [w64' (n := 1048576 - (l.length : Int)) (by omega) (by omega)]
  by_cases hbig : 1048576 - (l.length : Int) < 0
  · simp only [hbig, if_true, Option.bind_some, show (-1 : Int) < 0 by omega]; exact Ev.now _
  simp only [hbig, if_false, Option.bind_some]
  have hc := toTermS_ev l (by omega)
  have hc1 := toInt64S_ev xs (by omega)
  have h1 := pl_spec (l.map toT) xs hl1
  have h2 := pl_impl (l.map toT) (wf4_map l hw) xs
  have h0 := PL_len (l.map toT) xs
  generalize PL (l.map toT) xs = r at h0 h1 h2
  refine Ev.bind hc (Ev.bind hc1 (Ev.bind h1 (Ev.bind hc (Ev.bind hc1 ?_))))
  simp only [h2, Option.bind_some]
  refine Ev.bind (eqTermResult_ev _ _ _ (by omega)) ?_
  simp only [if_true]
  refine Ev.bind hc (Ev.bind (eqTermS_ev _ (by simp; omega)) ?_)
  simp only [if_true]
  refine Ev.bind hc1 (Ev.bind (eqInt64S_ev _ (by omega)) ?_)
  simp only [if_true]
  refine Ev.bind (markTermS_ev _ 1 (by omega) (by simp; omega)) (Ev.bind (markInt64S_ev _ _ (by simp; omega) (by simp; omega)) ?_)
  simp only [List.length_map, show ¬ (1 + 4 * (l.length : Int) + (xs.length : Int) < 0) by omega, if_false]
  refine Ev.bind (eqTermResult_ev _ _ _ (by omega)) ?_
  refine ev_succ ?_
  simp only [laws_FnExactPutList.j0, Bool.not_true, Bool.false_eq_true, if_false]
  refine Ev.bind (markTermResult_ev _ _ _ 1 (by omega) (by omega)) (Ev.bind (heldTermResult_ev _ _ _ 1 (by omega) (by omega)) ?_)
  simp only [show ¬ (1 + 4 * (r.2.2.length : Int) < 0) by omega, if_false, if_true]
  refine Ev.bind hc (Ev.bind hc1 ?_)
  simp only [h2, Option.bind_some]
  refine Ev.bind (eqTermResult_ev _ _ _ (by omega)) ?_
  simp only [if_true]
  refine Ev.bind (heldTermResult_ev _ _ _ 1 (by omega) (by omega)) ?_
  simp only [show ¬ (1 + 4 * (r.2.2.length : Int) < 0) by omega, if_false, if_true]
  exact Ev.now _
end Go.Proofs.Ytgognaaljleioaa.Pure
namespace Go.Proofs.Ytgognaaljleioaa.fnExactPutList
open Go.ChangeShapes Go.WideShapes Go.ChangeAt
open Go.RowKit Go.Proofs.Ytgognaaljleioaa.G Go.Proofs.YtgognaaljleioaaW.PrintWords Go.Proofs.YtgognaaljleioaaW.PrintLast
open Go.ChangeMaps (open_string shut_string)
set_option linter.unusedVariables false
theorem own : ownKnob Try.prog.godebug = none := by kernel_rfl
theorem laidOut : laidOutB Try.prog = true := by kernel_rfl
theorem o2 : Opn.Opens Try.prog 2 (Kd.int .i64) (fun n => (Lit.int .i64 n).wf = true) := Opn.opens_int Try.underlying2 (by kernel_rfl)
theorem o35 : Opn.Opens Try.prog 35 k35 (fun (x : S35) => (fun (x : Int × Int × Int × Int) => (fun n => (Lit.int .i64 n).wf = true) x.1 ∧ (fun (x : Int × Int × Int) => (fun n => (Lit.int .i64 n).wf = true) x.1 ∧ (fun (x : Int × Int) => (fun n => (Lit.int .i64 n).wf = true) x.1 ∧ (fun n => (Lit.int .i64 n).wf = true) x.2) x.2) x.2) (x.f0, x.f1, x.f2, x.f3)) := by
  refine Opn.opens_struct (G := fun (x : Int × Int × Int × Int) => (fun n => (Lit.int .i64 n).wf = true) x.1 ∧ (fun (x : Int × Int × Int) => (fun n => (Lit.int .i64 n).wf = true) x.1 ∧ (fun (x : Int × Int) => (fun n => (Lit.int .i64 n).wf = true) x.1 ∧ (fun n => (Lit.int .i64 n).wf = true) x.2) x.2) x.2) (fun x : S35 => (x.f0, x.f1, x.f2, x.f3)) (fun y => ⟨y.1, y.2.1, y.2.2.1, y.2.2.2⟩) (fun _ => rfl) Try.underlying35 (by kernel_rfl) ?_
  apply Opn.at_cons (T := 2) (G := fun n => (Lit.int .i64 n).wf = true) (G2 := fun (x : Int × Int × Int) => (fun n => (Lit.int .i64 n).wf = true) x.1 ∧ (fun (x : Int × Int) => (fun n => (Lit.int .i64 n).wf = true) x.1 ∧ (fun n => (Lit.int .i64 n).wf = true) x.2) x.2)
  · rfl
  · rfl
  · exact o2
  apply Opn.at_cons (T := 2) (G := fun n => (Lit.int .i64 n).wf = true) (G2 := fun (x : Int × Int) => (fun n => (Lit.int .i64 n).wf = true) x.1 ∧ (fun n => (Lit.int .i64 n).wf = true) x.2)
  · rfl
  · rfl
  · exact o2
  apply Opn.at_cons (T := 2) (G := fun n => (Lit.int .i64 n).wf = true) (G2 := fun n => (Lit.int .i64 n).wf = true)
  · rfl
  · rfl
  · exact o2
  apply Opn.at_last (T := 2)
  · rfl
  · rfl
  · exact o2
set_option maxRecDepth 100000 in
theorem lifted (os : Os) (started : os.Started) (H : Type) (enc : TypeId × Value → H) :
    ReturnsInHanded {} Try.checked os 10 .any (Rows.fnExactPutListSpec.pre6 enc Try.prog Try.f10 Rows.fnExactPutListRow.domain false) (Rows.fnExactPutListSpec.post enc Try.prog Try.f10 false true false false) := by
  refine returnsInHanded_of_change_sized (C := Try.checked) own started (by kernel_rfl) Try.func10
    (ChangeSpec.witness6 (enc := enc) (C := Try.checked) false ⟨#[], #[.slice none 0 0, .slice none 0 0], []⟩ 8 (by kernel_rfl) (by kernel_rfl) (by kernel_rfl) (by kernel_rfl)) ?_
  intro W base args ds gs before hval0 hW hcnd hsz0 _
  have hval : ∀ (j : Nat) t v, Try.f10.params[j]? = some t → args[j]? = some v → Value.okWide Try.prog W .any base t v := hval0
  have hW' := hW
  obtain ⟨p, q, hA0, hV, rfl, hfz, hnd⟩ := hW
  have hA : DataW.TrodAll enc Try.prog W 0 (fun _ => true) true Try.f10.params.toList args.toList ds p := hA0
  rw [Try.params10] at hA hval
  obtain ⟨v0, vs0, d0, ds0, p0, q0, hargs, rfl, rfl, h0, r0⟩ := trodAll_cons hA
  obtain ⟨v1, vs1, d1, ds1, p1, q1, rfl, rfl, rfl, h1, r1⟩ := trodAll_cons r0
  obtain ⟨rfl, rfl, rfl⟩ := trodAll_nil r1
  obtain rfl : args = #[v0, v1] := by cases args; simp_all
  obtain ⟨rfl, rfl⟩ := trodVars_none hV
  obtain ⟨A0, len0, c0, rfl⟩ := okWide_slice Try.underlying22 (hval 0 22 v0 rfl rfl)
  have k0 := h0
  have lt0 : ∀ x ∈ p0, x.block < W.heap.size := by obtain ⟨m, hm⟩ := k0; exact DataW.trod_lt m _ _ _ hm
  obtain ⟨l0, rfl, hr0, hc0, hm0, hg0⟩ := Opn.arg_slice Try.underlying22 (by kernel_rfl) o35 h0
  obtain ⟨A1, len1, c1, rfl⟩ := okWide_slice Try.underlying45 (hval 1 45 v1 rfl rfl)
  have k1 := h1
  have lt1 : ∀ x ∈ p1, x.block < W.heap.size := by obtain ⟨m, hm⟩ := k1; exact DataW.trod_lt m _ _ _ hm
  obtain ⟨l1, rfl, hr1, hc1, hm1, hg1⟩ := Opn.arg_slice Try.underlying45 (by kernel_rfl) o2 h1
  clear hA0 hval0 hsz0
  obtain ⟨k, h⟩ := Pure.FnExactPutList l0 l1 hm0 hg0 hm1 hg1
  refine (laws_FnExactPutList.calls k A0 c0 l0 A1 c1 l1 W hr0 hc0 hr1 hc1 h).mono fun e W' ⟨he, bel0⟩ => ?_
  have bel : Below W.heap.size W W' := bel0
  subst he
  exact ⟨_, rfl, _, _, _, [], _, [], hW', trodAll_mk1 (shut_bool Try.underlying4 _), (trodAll_cons_mk (Below.trod laidOut (by kernel_rfl) (of_decide_eq_true (by kernel_rfl)) k0 bel lt0) (trodAll_cons_mk (Below.trod laidOut (by kernel_rfl) (of_decide_eq_true (by kernel_rfl)) k1 bel lt1) trodAll_mk0)), rfl, bel.frame _, fun h => by cases h⟩
theorem over : Rows.fnExactPutListRow.holds Try.pinned (OpenSpec.ofChange Rows.fnExactPutListSpec) :=
  OpenClaim.holds_of_wide 10 Try.f10 rfl rfl rfl rfl rfl rfl rfl ⟨rfl, rfl, rfl, rfl, rfl⟩ rfl rfl rfl rfl rfl (by kernel_rfl) Try.func10 (by kernel_rfl)
    (of_decide_eq_true (by kernel_rfl)) (by unfold Func.isWrapper; first | (rw [if_pos (by decide +kernel)]; kernel_rfl) | (rw [if_neg (by decide +kernel)]; exact ⟨rfl, rfl⟩))
    (fun os started H enc _ => lifted os started H enc)
end Go.Proofs.Ytgognaaljleioaa.fnExactPutList
namespace Go.Proofs.Ytgognaaljleioaa
theorem fnExactPutList_holds : Rows.FnExactPutListSaid := fnExactPutList.over
end Go.Proofs.Ytgognaaljleioaa
#print axioms Go.Proofs.Ytgognaaljleioaa.fnExactPutList_holds
